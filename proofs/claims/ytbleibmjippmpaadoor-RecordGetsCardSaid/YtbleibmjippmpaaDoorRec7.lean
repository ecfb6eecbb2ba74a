/- record.Put. -/
import Derived.Test.YtbleibmjippmpaaDoorRec6
import Derived.Test.YtbleibmjippmpaaDoorRecBack
import Derived.Deep.DeepCutAuto
namespace Go.Proofs.YtbleibmjippmpaaDoor
open Go.RowKit

theorem ErrAt.up {w w' : World} {a : Addr} {n : Nat} {E : Value} (h : ErrAt w a n E) (hb : Below w.heap.size w w') : ErrAt w' a n E := h.below hb

set_option maxHeartbeats 1000000 in
set_option maxRecDepth 100000 in
theorem put_no (r : Rc) (va vv vm vt : Value) (w : World) (h : InAt w w.heap.size va vv vm vt r) (aF : Addr) (hf : Sent w 0 aF) (hr : rightB r = false) :
    Calls Tryd.prog 31 #[.agg (recV r va vv vm vt)] w fun e w' => ∃ E, e = .returned (.tuple #[.slice none 0 0, E]) ∧ Below w.heap.size w w' ∧ ErrAt w' aF 2 E := by
  have hb0 := (Below.refl w.heap.size w).alloc (Nat.le_refl _) (.cells (recV r va vv vm vt) 52)
  have F0 := Lib.hid (hf.below hb0)
  have I0 := Lib.hid (h.below hb0)
  have B0 := Lib.hid hb0
  have R0 := Lib.hid hr
  clear hb0 hf h hr
  go_enter Tryd.func31, Tryd.ntmps31
  go_wp2_with fail
  refine (check_any r va vv vm vt _ I0.out aF F0.out).mono ?_
  rintro e w1 ⟨E, rfl, hb1, hE⟩
  have hE : ErrAt w1 aF 1 E := by
    rcases hE with ⟨h, _⟩ | ⟨_, h⟩
    · rw [R0.out] at h; cases h
    · exact h
  obtain ⟨t, v, rfl⟩ := hE.form
  have HE := Lib.hid hE
  have B1 := Lib.hid (B0.out.trans (hb1.mono (by simp)))
  clear hb1 hE
  go_wp2_with fail
  refine (wrap_some _ _ _ _).mono ?_
  rintro e w2 ⟨rfl, rfl⟩
  go_wp2_with fail
  go_ret2
  exact ⟨_, rfl, B1.out.alloc B1.out.size _, HE.out.wrap _ _⟩

/-- Blocks below g read as they did where only g has turned. -/
theorem only_cells {W0 wr : World} {g : Nat} (hG : W0.grownBy wr (some g)) (hg : g < W0.heap.size) : ∀ b off, b < g → wr.cell? ⟨b, off, none⟩ = W0.cell? ⟨b, off, none⟩ := fun b off hb =>
  World.cell?_of_block (a := ⟨b, off, none⟩) (hG.block b (by omega) (by simp; omega))
theorem WrAt.alloc {w : World} {g : Nat} {bs : List UInt8} (h : WrAt w g bs) (o : Obj) : WrAt (w.alloc o) g bs := by
  obtain ⟨A, c, h1, h2, h3, h4, h5⟩ := h.ex
  exact ⟨A, c, h1.alloc o, h2, h3, (h4.alloc (Nat.le_refl _) o).wider (by simp), h5⟩
theorem WrAt.drew {w : World} {g : Nat} {bs : List UInt8} (h : WrAt w g bs) : WrAt w.drew g bs := ⟨h.ex⟩
theorem WrAt.drewN {w : World} {g : Nat} {bs : List UInt8} (h : WrAt w g bs) (n : Nat) : WrAt (w.drewN n) g bs := ⟨h.ex⟩
theorem WrAt.lt {w : World} {g : Nat} {bs : List UInt8} (h : WrAt w g bs) : g < w.heap.size := by
  obtain ⟨A, c, h1, _⟩ := h.ex
  exact h1.lt

/-- What is known in the midst of Put: W0 the world in which the writer at g was made, behind the record's own block at R. -/
structure PutAt (w W0 : World) (R g : Nat) (va vv vm vt : Value) (r : Rc) : Prop where
  bel : Below w.heap.size w W0
  rec_ : Whole W0 R 52 (recV r va vv vm vt)
  inn : InAt W0 g va vv vm vt r
  lo : w.heap.size ≤ R
  rg : R < g
  gl : g < W0.heap.size

theorem only_drew {a w : World} {row : Option Nat} (h : a.grownBy w row) : a.grownBy w.drew row := ⟨h.os, h.tape, h.output, h.size, h.block⟩
theorem varBs_len (l : List Int) : (varBs l).length ≤ 4 * l.length := by
  induction l with
  | nil => simp [varBs]
  | cons v l ih =>
    simp only [varBs, List.flatMap_cons, List.length_append, lowB_len, List.length_cons] at ih ⊢
    omega
theorem memBs_len (l : List (Int × List Int)) : (memBs l).length ≤ 5 * l.length := by
  induction l with
  | nil => simp [memBs]
  | cons v l ih =>
    simp only [memBs, List.flatMap_cons, List.length_append, lowB_len, List.length_cons] at ih ⊢
    omega
theorem tmBs_len (l : List (List UInt8 × Int)) (h : ∀ t ∈ l, t.1.length ≤ 32) : (tmBs l).length ≤ 42 * l.length := by
  induction l with
  | nil => simp [tmBs]
  | cons v l ih =>
    have h1 := h v (by simp)
    have := ih (fun t ht => h t (by simp [ht]))
    simp only [tmBs, List.flatMap_cons, List.length_append, lowB_len, List.length_cons] at this ⊢
    omega
/-- Pairs in a new block. -/
theorem pairs_new (W : World) (X : Nat) (hX : X = W.heap.size) (t : TypeId) (ps : List (Nat × Nat)) (cs : Array Value) (hc : cs = (ps.flatMap fun p => [Value.int .i64 (p.1 : Int), Value.int .i64 (p.2 : Int)]).toArray)   : pairsAt (W.alloc (.cells cs t)) X 0 ps := by
  subst hX
  intro k hk
  have hw := Whole.new W t cs
  have key : ∀ (l : List (Nat × Nat)) (k : Nat) (h : k < l.length), (l.flatMap fun p => [Value.int .i64 (p.1 : Int), Value.int .i64 (p.2 : Int)])[k * 2]? = some (.int .i64 (l[k].1 : Int)) ∧ (l.flatMap fun p => [Value.int .i64 (p.1 : Int), Value.int .i64 (p.2 : Int)])[k * 2 + 1]? = some (.int .i64 (l[k].2 : Int)) := by
    intro l
    induction l with
    | nil => intro k h; simp at h
    | cons p l ih =>
      intro k h
      cases k with
      | zero => simp
      | succ k =>
        have := ih k (by simpa using h)
        rw [show (k + 1) * 2 = k * 2 + 1 + 1 by omega]
        simpa using this
  have h1 := key ps k hk
  refine ⟨?_, ?_⟩
  · rw [Nat.zero_add, hw.cell, hc]
    simpa using h1.1
  · rw [Nat.zero_add, hw.cell, hc]
    simpa using h1.2
theorem wr_first (w1 : World) : WrAt ((w1.alloc (.cells #[.int .u8 73, .int .u8 49] 5 (2, 3))).alloc (.cells #[.slice (some ⟨w1.heap.size, 0, none⟩) 2 2, .nilIface] 125)) (w1.heap.size + 1) [73, 49] := by
  refine ⟨some ⟨w1.heap.size, 0, none⟩, 2, ?_, by decide, by unfold maxLen; omega, ?_, fun b off e => by cases e; omega⟩
  · have := Whole.new (w1.alloc (.cells #[.int .u8 73, .int .u8 49] 5 (2, 3))) 125 #[.slice (some ⟨w1.heap.size, 0, none⟩) 2 2, .nilIface]
    rw [World.size_alloc] at this
    exact this
  · have := ((Reads.marked w1 5 #[.int .u8 73, .int .u8 49] (2, 3) 1 2 rfl).alloc (by simp) (.cells #[.slice (some ⟨w1.heap.size, 0, none⟩) 2 2, .nilIface] 125)).wider (B' := ((w1.alloc (.cells #[.int .u8 73, .int .u8 49] 5 (2, 3))).alloc (.cells #[.slice (some ⟨w1.heap.size, 0, none⟩) 2 2, .nilIface] 125)).heap.size) (by simp)
    exact this
theorem put_first {w w1 : World} {va vv vm vt : Value} {r : Rc} {o1 o2 : Obj} (hb : Below w.heap.size w w1) (hm : Whole w1 w.heap.size 52 (recV r va vv vm vt)) (hi : InAt w1 w1.heap.size va vv vm vt r) :
    PutAt w ((w1.alloc o1).alloc o2) w.heap.size (w1.heap.size + 1) va vv vm vt r := by
  have hl := hm.lt
  refine ⟨(hb.alloc hb.size _).alloc (by simp; omega) _, (hm.alloc _).alloc _, ?_, Nat.le_refl _, by omega, by simp⟩
  exact (hi.moved (fun b off h => by rw [World.cell?_alloc_lt _ _ _ (by simp; omega), World.cell?_alloc_lt _ _ _ (by simpa using h)])).wider (by omega)

set_option maxHeartbeats 4000000 in
set_option maxRecDepth 100000 in
theorem put_yes (r : Rc) (va vv vm vt : Value) (w : World) (h : InAt w w.heap.size va vv vm vt r) (aF : Addr) (hf : Sent w 0 aF) (hr : rightB r = true) :
    Calls Tryd.prog 31 #[.agg (recV r va vv vm vt)] w fun e w' => ∃ v, e = .returned (.tuple #[v, .nilIface]) ∧ ListAt w' w'.heap.size 1 byteR v (recBs r) ∧ Below w.heap.size w w' := by
  have hb0 := (Below.refl w.heap.size w).alloc (Nat.le_refl _) (.cells (recV r va vv vm vt) 52)
  have F0 := Lib.hid (hf.below hb0)
  have I0 := Lib.hid (h.below hb0)
  have B0 := Lib.hid hb0
  have R0 := Lib.hid hr
  have M0 := Lib.hid (Whole.new w 52 (recV r va vv vm vt))
  have RT := Lib.hid (rights hr)
  have kc := fun (W : World) => (show (convert 24 24 (.slice (some ⟨W.heap.size, 0, none⟩) 2 2)).run Tryd.prog (W.alloc (.cells #[.int .u8 73, .int .u8 49] 5)) = _ from
    Lib.run_convert_bytes_const (P := Tryd.prog) W 24 5 #[.int .u8 73, .int .u8 49] 2 2 Tryd.underlying24 Tryd.underlying5)
  clear hb0 hf hr
  go_enter Tryd.func31, Tryd.ntmps31
  go_wp2_with fail
  refine (check_any r va vv vm vt _ I0.out aF F0.out).mono ?_
  rintro e w1 ⟨E, rfl, hb1, hE⟩
  have hE : E = .nilIface := by
    rcases hE with ⟨_, h⟩ | ⟨h, _⟩
    · exact h
    · rw [R0.out] at h; cases h
  subst hE
  have I1 := Lib.hid (h.below (B0.out.trans (hb1.mono (by simp))))
  have M1 := Lib.hid (M0.out.below hb1 (by simp))
  have B1 := Lib.hid (B0.out.trans (hb1.mono (by simp)))
  clear hb1 hE h F0 I0 B0 M0
  go_wp2_with fail
  have WR := Lib.hid (wr_first w1)
  have PA := Lib.hid (put_first (o1 := .cells #[.int .u8 73, .int .u8 49] 5 (2, 3)) (o2 := .cells #[.slice (some ⟨w1.heap.size, 0, none⟩) 2 2, .nilIface] 125) B1.out M1.out I1.out)
  generalize (w1.alloc (.cells #[.int .u8 73, .int .u8 49] 5 (2, 3))).alloc (.cells #[.slice (some ⟨w1.heap.size, 0, none⟩) 2 2, .nilIface] 125) = W0 at *
  generalize w1.heap.size + 1 = g at *
  generalize w.heap.size = R at *
  clear I1 M1 B1 kc
  obtain ⟨ch, bo, st, ac, vs, ms, ts, ov⟩ := r
  simp only [recV] at *
  have rc1 := RT.out.c1; have rc2 := RT.out.c2; have rb1 := RT.out.b1; have rb2 := RT.out.b2; have rs1 := RT.out.s1; have rs2 := RT.out.s2
  have rv := RT.out.vars1; have rm := RT.out.mem1; have rt := RT.out.tms1
  have ra := setN_bound ac RT.out.act
  simp only at rc1 rc2 rb1 rb2 rs1 rs2 rv rm rt
  obtain ⟨ch, rfl⟩ := Int.eq_ofNat_of_zero_le (show 0 ≤ ch by omega)
  obtain ⟨bo, rfl⟩ := Int.eq_ofNat_of_zero_le rb1
  obtain ⟨st, rfl⟩ := Int.eq_ofNat_of_zero_le rs1
  have ho : ov.toNat ≤ 1 := Bool.toNat_le ov
  obtain ⟨m0, m1, m2, m3, m4, m5, m6, m7⟩ := c8 PA.out.rec_
  have hgl := PA.out.gl
  have hRg := PA.out.rg
  obtain ⟨A2, k2, e2, hl2, hm2⟩ := PA.out.inn.vars.form
  simp only at e2 hl2 hm2
  subst e2
  unfold maxLen at hm2
  go_upto_region 5 with (fail)
  go_cut [48] (fun _ W => WrAt W g (headBs ⟨ch, bo, st, ac, vs, ms, ts, ov⟩) ∧ W0.grownBy W (some g))
  case first =>
    go_region_held3 (fun w' => w'.cell? ⟨R, 0, none⟩ = some (.int .i64 ch) ∧ w'.cell? ⟨R, 1, none⟩ = some (.int .i64 bo) ∧ w'.cell? ⟨R, 2, none⟩ = some (.int .i64 st) ∧ w'.cell? ⟨R, 3, none⟩ = some va ∧ w'.cell? ⟨R, 4, none⟩ = some (.slice A2 vs.length k2) ∧ w'.cell? ⟨R, 7, none⟩ = some (.bool ov)) (first | (go_keep; done))
      (first
        | (go_at_call 76; refine (truth_any _ _).mono ?_; rintro e w' ⟨rfl, rfl⟩)
        | (go_at_call 77; refine (set_any _ ac g _ (PA.out.inn.act.moved (w' := W0.drew) (fun _ _ _ => rfl) fun _ _ _ h => h) RT.out.act).mono ?_; rintro e w' ⟨rfl, rfl⟩)
        | (go_at_call 75; refine (nums_any g [73, 49] W0.heap.size 0 6 [(ch, 4), (bo, 8), (st, 8), (ov.toNat, 1), (setN ac, 4), (vs.length, 1)] _ (WR.out.alloc _).drew (by simp) (by omega) (pairs_new W0 _ rfl _ _ _ rfl) (by simp) (by simp) ?_).mono ?_; (focus (intro p hp; simp at hp; rcases hp with rfl | rfl | rfl | rfl | rfl | rfl <;> simp <;> omega)); rintro e w2 ⟨rfl, hw2, hG2⟩; have y : ∀ off, w2.cell? ⟨R, off, none⟩ = W0.cell? ⟨R, off, none⟩ := fun off => (only_cells hG2 (by simp; omega) R off hRg).trans (World.cell?_alloc_lt W0 _ ⟨R, off, none⟩ (by simp; omega)); have y0 := (y 0).trans m0; have y1 := (y 1).trans m1; have y2 := (y 2).trans m2; have y3 := (y 3).trans m3; have y4 := (y 4).trans m4; have y7 := (y 7).trans m7; have HW2 := Lib.hid hw2; have HG2 := Lib.hid hG2; clear hw2 hG2 y))
    all_goals
      go_wp2_with fail
      go_meet
      refine ⟨by simpa [headBs] using HW2.out, ?_⟩
      exact (only_drew (only_alloc (World.grownBy.refl W0 (some g)) _)).trans HG2.out
  case rest =>
  obtain ⟨hW2, hG2⟩ := hcut
  have W2 := Lib.hid hW2
  have G2 := Lib.hid hG2
  have y4 := (only_cells hG2 hgl R 4 hRg).trans m4
  have y5 := Lib.hid ((only_cells hG2 hgl R 5 hRg).trans m5)
  clear hW2 hG2
  have hbl : (headBs ⟨ch, bo, st, ac, vs, ms, ts, ov⟩).length ≤ 28 := by simp [headBs, lowB_len]
  generalize hhd : headBs ⟨ch, bo, st, ac, vs, ms, ts, ov⟩ = hd at *
  have HD := Lib.hid hhd
  clear hhd
  have HM := Lib.hid (And.intro m5 m6)
  clear m0 m1 m2 m3 m4 m5 m6 m7
  go_wp2_with fail
  go_loopw [53] (fun i wr => ∃ k : Nat, k ≤ vs.length ∧ i = .int .i64 k ∧ WrAt wr g (hd ++ varBs (vs.take k)) ∧ W0.grownBy wr (some g)) (fun i _ => vs.length - (intOf i).toNat)
  case atStart => exact ⟨0, by omega, rfl, by simpa [varBs] using W2.out, G2.out⟩
  case round =>
    obtain ⟨k, hk, rfl, hW, hG⟩ := hrel
    have HW := Lib.hid hW
    have HG := Lib.hid hG
    by_cases hlt : k < vs.length
    · obtain ⟨A2', c2', e2', _, _, hrv⟩ := PA.out.inn.vars.one
      cases e2'
      obtain ⟨b, off, rfl, hb, hc⟩ := ints_at hrv rfl k hlt
      have hck := (only_cells hG hgl b (off + k) hb).trans (hc k hlt)
      have hv := RT.out.vars vs[k] (List.getElem_mem _)
      rw [getD_get vs k 0 hlt] at hck
      have HT := Lib.hid (flatMap_take_succ (fun v => lowB 4 (foldN v)) vs k hlt)
      have hfl := foldN_lt vs[k] hv.1 hv.2
      have hvl : (hd ++ varBs (vs.take k)).length ≤ 100000 := by
        have := varBs_len (vs.take k)
        simp only [List.length_take] at this
        rw [List.length_append]
        omega
      have hwl := hW.lt
      generalize vs[k] = x at *
      clear hc hrv hW hG
      go_wp2_with (go_at_call 78; refine (fold_any x hv.1 hv.2 _).mono ?_; rintro e w' ⟨rfl, rfl⟩)
      refine (nums_any g (hd ++ varBs (vs.take k)) wr.heap.size 0 1 [(foldN x, 4)] _ (HW.out.alloc _) (by simp) (by omega) (pairs_new wr _ rfl _ _ _ rfl) (by simp) hvl ?_).mono ?_
      · intro p hp
        simp at hp
        subst hp
        simp
        omega
      rintro e w3 ⟨rfl, hw3, hG3⟩
      have W3 : Hid (WrAt w3 g (hd ++ varBs (vs.take (k + 1)))) := Lib.hid (by
        have e : hd ++ varBs (vs.take (k + 1)) = hd ++ varBs (vs.take k) ++ [(foldN x, 4)].flatMap (fun p => lowB p.2 p.1) := by
          unfold varBs
          rw [HT.out]
          simp
        rw [e]
        exact hw3)
      have G3 := Lib.hid ((only_alloc HG.out _).trans hG3)
      clear hw3 hG3
      go_wp2_with fail
      go_roundw
      case rel => exact ⟨k + 1, by omega, by go_num, W3.out, G3.out⟩
      case measure => simp [intOf]; omega
    · obtain rfl : k = vs.length := by omega
      rw [List.take_length] at HW
      have y5 := (only_cells hG hgl R 5 hRg).trans HM.out.1
      have hwl := hW.lt
      obtain ⟨A3, k3, e3, hl3, hm3⟩ := PA.out.inn.mem.form
      simp only at e3 hl3 hm3
      subst e3
      unfold maxLen at hm3
      have hvl : (hd ++ varBs vs).length ≤ 100000 := by
        have := varBs_len vs
        rw [List.length_append]
        omega
      clear hW hG W2 G2
      go_wp2_with fail
      refine (nums_any g (hd ++ varBs vs) wr.heap.size 0 1 [(ms.length, 1)] _ (HW.out.alloc _) (by simp) (by omega) (pairs_new wr _ rfl _ _ _ rfl) (by simp) hvl ?_).mono ?_
      · intro p hp
        simp at hp
        subst hp
        simp
        omega
      rintro e w3 ⟨rfl, hw3, hG3⟩
      have W3 : Hid (WrAt w3 g (hd ++ varBs vs ++ lowB 1 ms.length)) := Lib.hid (by simpa using hw3)
      have hG4 := (only_alloc HG.out _).trans hG3
      have G3 := Lib.hid hG4
      have y5 := (only_cells hG4 hgl R 5 hRg).trans HM.out.1
      generalize hhd : hd ++ varBs vs ++ lowB 1 ms.length = hd2 at *
      have hbl2 : hd2.length ≤ 61 := by
        rw [← hhd]
        have := varBs_len vs
        simp only [List.length_append, lowB_len]
        omega
      have HD2 := Lib.hid hhd
      clear hhd hw3 hG3 hG4 HW HG
      go_wp2_with fail
      go_loopw [76] (fun i wr => ∃ k : Nat, k ≤ ms.length ∧ i = .int .i64 k ∧ WrAt wr g (hd2 ++ memBs (ms.take k)) ∧ W0.grownBy wr (some g)) (fun i _ => ms.length - (intOf i).toNat)
      case atStart => exact ⟨0, by omega, rfl, by simpa [memBs] using W3.out, G3.out⟩
      case round =>
        obtain ⟨k, hk, rfl, hW, hG⟩ := hrel
        have HW := Lib.hid hW
        have HG := Lib.hid hG
        have hwl := hW.lt
        by_cases hlt : k < ms.length
        · obtain ⟨b, off, rfl, hb, hc⟩ := mems_at PA.out.inn.mem k hlt
          obtain ⟨sv, c1, c2, hsv⟩ := hc k hlt
          have c1 := (only_cells hG hgl b (off + k * 2) hb).trans c1
          have c2 := (only_cells hG hgl b (off + k * 2 + 1) hb).trans c2
          have hbw : b < wr.heap.size := by omega
          rw [getD_get ms k _ hlt] at c1 hsv
          obtain ⟨x1, x2, x3⟩ := RT.out.mem ms[k] (List.getElem_mem _)
          have HT := Lib.hid (flatMap_take_succ (fun m : Int × List Int => lowB 1 m.1.toNat ++ lowB 4 (setN m.2)) ms k hlt)
          have hsb := setN_bound ms[k].2 x3
          obtain ⟨A4, k4, e4, _, _⟩ := hsv.form
          subst e4
          have SV := Lib.hid (hsv.moved (only_cells hG hgl) fun _ _ _ h => h)
          have X3 := Lib.hid x3
          have hvl : (hd2 ++ memBs (ms.take k)).length ≤ 100000 := by
            have := memBs_len (ms.take k)
            simp only [List.length_take] at this
            rw [List.length_append]
            omega
          generalize ms[k] = mk at *
          obtain ⟨ms1, msl⟩ := mk
          simp only at c1 x1 x2 hsb
          obtain ⟨ms1, rfl⟩ := Int.eq_ofNat_of_zero_le x1
          clear hc hsv hW hG x3
          go_wp2_with fail
          go_region_held3 (fun w' => w'.cell? ⟨wr.heap.size, 0, none⟩ = some (.int .i64 ms1) ∧ w'.cell? ⟨wr.heap.size, 1, none⟩ = some (.slice A4 msl.length k4)) (first | (go_keep; done))
            (first
              | (go_at_call 77; refine (set_any _ msl g _ (SV.out.moved (below_cellEq ((((Below.refl _ wr).alloc (Nat.le_refl _) _).drew).mono (Nat.le_of_lt hwl))) fun _ _ _ h => h) X3.out).mono ?_; rintro e w' ⟨rfl, rfl⟩)
              | (go_at_call 75; refine (nums_any g (hd2 ++ memBs (ms.take k)) (wr.heap.size + 1) 0 2 [(ms1, 1), (setN msl, 4)] _ ((HW.out.alloc _).alloc _).drew (by simp) (by omega) (pairs_new (wr.alloc (.cells #[.int .i64 ms1, .slice A4 msl.length k4] 81)) _ (by simp) _ _ _ rfl) (by simp) hvl ?_).mono ?_; (focus (intro p hp; simp at hp; rcases hp with rfl | rfl <;> simp <;> omega)); rintro e w2 ⟨rfl, hw2, hG2⟩; have y0 : w2.cell? ⟨wr.heap.size, 0, none⟩ = some (.int .i64 ms1) := (World.cell?_of_block (a := ⟨wr.heap.size, 0, none⟩) (hG2.block wr.heap.size (by simp; omega) (by simp; omega))).trans (by simp); have y1 : w2.cell? ⟨wr.heap.size, 1, none⟩ = some (.slice A4 msl.length k4) := (World.cell?_of_block (a := ⟨wr.heap.size, 1, none⟩) (hG2.block wr.heap.size (by simp; omega) (by simp; omega))).trans (by simp); have HW2 := Lib.hid hw2; have HG2 := Lib.hid hG2; clear hw2 hG2))
          have W3 : Hid (WrAt w2 g (hd2 ++ memBs (ms.take (k + 1)))) := Lib.hid (by
            have e : hd2 ++ memBs (ms.take (k + 1)) = hd2 ++ memBs (ms.take k) ++ [(ms1, 1), (setN msl, 4)].flatMap (fun p => lowB p.2 p.1) := by
              unfold memBs
              rw [HT.out]
              simp
            rw [e]
            exact HW2.out)
          have G3 := Lib.hid ((only_drew (only_alloc (only_alloc HG.out _) _)).trans HG2.out)
          clear HW2 HG2 y0 y1
          go_wp2_with fail
          go_roundw
          case rel => exact ⟨k + 1, by omega, by go_num, W3.out, G3.out⟩
          case measure => simp [intOf]; omega
        · obtain rfl : k = ms.length := by omega
          rw [List.take_length] at HW
          have y6 := (only_cells hG hgl R 6 hRg).trans HM.out.2
          obtain ⟨A5, k5, e5, hl5, hm5⟩ := PA.out.inn.tms.form
          simp only at e5 hl5 hm5
          subst e5
          unfold maxLen at hm5
          have hvl : (hd2 ++ memBs ms).length ≤ 100000 := by
            have := memBs_len ms
            rw [List.length_append]
            omega
          clear hW hG W3 G3
          go_wp2_with fail
          refine (nums_any g (hd2 ++ memBs ms) wr.heap.size 0 1 [(ts.length, 1)] _ (HW.out.alloc _) (by simp) (by omega) (pairs_new wr _ rfl _ _ _ rfl) (by simp) hvl ?_).mono ?_
          · intro p hp
            simp at hp
            subst hp
            simp
            omega
          rintro e w3 ⟨rfl, hw3, hG3⟩
          have W3 : Hid (WrAt w3 g (hd2 ++ memBs ms ++ lowB 1 ts.length)) := Lib.hid (by simpa using hw3)
          have hG4 := (only_alloc HG.out _).trans hG3
          have G3 := Lib.hid hG4
          have y6 := (only_cells hG4 hgl R 6 hRg).trans HM.out.2
          generalize hhd : hd2 ++ memBs ms ++ lowB 1 ts.length = hd3 at *
          have hbl3 : hd3.length ≤ 222 := by
            rw [← hhd]
            have := memBs_len ms
            simp only [List.length_append, lowB_len]
            omega
          have HD3 := Lib.hid hhd
          clear hhd hw3 hG3 hG4 HW HG
          go_wp2_with fail
          go_loopw [103] (fun i wr => ∃ k : Nat, k ≤ ts.length ∧ i = .int .i64 k ∧ WrAt wr g (hd3 ++ tmBs (ts.take k)) ∧ W0.grownBy wr (some g)) (fun i _ => ts.length - (intOf i).toNat)
          case atStart => exact ⟨0, by omega, rfl, by simpa [tmBs] using W3.out, G3.out⟩
          case round =>
            obtain ⟨k, hk, rfl, hW, hG⟩ := hrel
            have HW := Lib.hid hW
            have HG := Lib.hid hG
            have hwl := hW.lt
            by_cases hlt : k < ts.length
            · obtain ⟨b, off, rfl, hb, hc⟩ := tms_at PA.out.inn.tms k hlt
              obtain ⟨c1, c2, _⟩ := hc k hlt
              have c1 := (only_cells hG hgl b (off + k * 2) hb).trans c1
              have c2 := (only_cells hG hgl b (off + k * 2 + 1) hb).trans c2
              have hbw : b < wr.heap.size := by omega
              rw [getD_get ts k _ hlt] at c1 c2
              obtain ⟨x1, x2, x3⟩ := RT.out.tms ts[k] (List.getElem_mem _)
              have HT := Lib.hid (flatMap_take_succ (fun t : List UInt8 × Int => lowB 2 t.1.length ++ t.1 ++ lowB 8 t.2.toNat) ts k hlt)
              have hvl : (hd3 ++ tmBs (ts.take k)).length ≤ 90000 := by
                have := tmBs_len (ts.take k) (fun t ht => (RT.out.tms t (List.mem_of_mem_take ht)).1)
                simp only [List.length_take] at this
                rw [List.length_append]
                omega
              generalize ts[k] = tk at *
              obtain ⟨tn, ta⟩ := tk
              simp only at c1 c2 x1 x2 x3
              obtain ⟨ta, rfl⟩ := Int.eq_ofNat_of_zero_le x2
              clear hc hW hG
              go_wp2_with fail
              refine (wtext_any g (hd3 ++ tmBs (ts.take k)) tn _ (HW.out.alloc _) (by omega) (by omega)).mono ?_
              rintro e w4 ⟨rfl, hw4, hG4⟩
              have z1 : w4.cell? ⟨wr.heap.size, 1, none⟩ = some (.int .i64 ta) := (World.cell?_of_block (a := ⟨wr.heap.size, 1, none⟩) (hG4.block wr.heap.size (by simp) (by simp; omega))).trans (by simp)
              have hs4 : wr.heap.size < w4.heap.size := by have := hG4.size; simp at this; omega
              have W4 := Lib.hid hw4
              have G4 := Lib.hid ((only_alloc HG.out _).trans hG4)
              have hvl4 : (hd3 ++ tmBs (ts.take k) ++ (lowB 2 tn.length ++ tn)).length ≤ 100000 := by
                simp only [List.length_append, lowB_len] at hvl ⊢
                omega
              clear hw4 hG4
              go_wp2_with fail
              refine (nums_any g _ w4.heap.size 0 1 [(ta, 8)] _ (W4.out.alloc _) (by simp) (by omega) (pairs_new w4 _ rfl _ _ _ rfl) (by simp) hvl4 ?_).mono ?_
              · intro p hp
                simp at hp
                subst hp
                simp
                omega
              rintro e w5 ⟨rfl, hw5, hG5⟩
              have W5 : Hid (WrAt w5 g (hd3 ++ tmBs (ts.take (k + 1)))) := Lib.hid (by
                have e : hd3 ++ tmBs (ts.take (k + 1)) = hd3 ++ tmBs (ts.take k) ++ (lowB 2 tn.length ++ tn) ++ [(ta, 8)].flatMap (fun p => lowB p.2 p.1) := by
                  unfold tmBs
                  rw [HT.out]
                  simp
                rw [e]
                exact hw5)
              have G5 := Lib.hid ((only_alloc G4.out _).trans hG5)
              clear hw5 hG5 z1
              go_wp2_with fail
              go_roundw
              case rel => exact ⟨k + 1, by omega, by go_num, W5.out, G5.out⟩
              case measure => simp [intOf]; omega
            · obtain rfl : k = ts.length := by omega
              rw [List.take_length] at HW
              obtain ⟨A9, c9, q1, q2, q3, q4, _⟩ := HW.out.ex
              obtain ⟨z1, z2⟩ := q1.c2
              have KE : Hid (hd3 ++ tmBs ts = recBs ⟨ch, bo, st, ac, vs, ms, ts, ov⟩) := Lib.hid (by rw [recBs, HD.out, ← HD3.out, ← HD2.out])
              have KL : Hid (ListAt wr wr.heap.size 1 byteR (.slice A9 (hd3 ++ tmBs ts).length c9) (hd3 ++ tmBs ts)) := Lib.hid (ListAt.of_one rfl q2 q3 (by simpa [bv] using q4))
              have KB : Hid (Below w.heap.size w wr) := Lib.hid (PA.out.bel.grown HG.out PA.out.bel.size (fun k hk => by
                cases hk
                have := PA.out.lo
                have := PA.out.rg
                omega))
              clear hW hG W3 G3 q1 q2 q3 q4
              generalize (hd3 ++ tmBs ts).length = nn at *
              go_wp2_with fail
              go_quiet ((go_at_call 63; exact quiet_left (wrap_nil _ _)))
              go_wp2_with fail
              go_ret2
              refine ⟨_, rfl, ?_, below_drewN KB.out _⟩
              rw [KE.out] at KL
              exact KL.out
end Go.Proofs.YtbleibmjippmpaaDoor
