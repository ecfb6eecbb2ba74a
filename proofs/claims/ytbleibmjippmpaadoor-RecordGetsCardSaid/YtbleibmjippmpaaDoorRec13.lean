/- slices.Equal of bytes; record.Get. -/
import Derived.Test.YtbleibmjippmpaaDoorRec12
namespace Go.Proofs.YtbleibmjippmpaaDoor
open Go.RowKit

theorem bytes_differ {a b : List UInt8} {k : Nat} (ha : k < a.length) (hb : k < b.length) (h : a[k].toNat ≠ b[k].toNat) : decide (a = b) = false := by
  rw [decide_eq_false_iff_not]
  rintro rfl
  exact h rfl

set_option maxHeartbeats 1000000 in
set_option maxRecDepth 100000 in
theorem eqBytes_any (A A' : Option Addr) (n n' c c' : Nat) (bs bs' : List UInt8) (w : World) (hn : bs.length = n) (hn' : bs'.length = n') (hl : n ≤ 140737488351232) (hl' : n' ≤ 140737488351232) (hr : Reads w w.heap.size 1 A n (bv bs)) (hr' : Reads w w.heap.size 1 A' n' (bv bs')) :
    Calls Tryd.prog 82 #[.slice A n c, .slice A' n' c'] w fun e w' => e = .returned (.bool (decide (bs = bs'))) ∧ ∃ k, w' = w.drewN k := by
  have hN := Lib.hid hn
  have hN' := Lib.hid hn'
  have HR := Lib.hid hr
  have HR' := Lib.hid hr'
  by_cases hne : n = n'
  · subst hne
    clear hn hn' hr hr'
    go_enter Tryd.func82, Tryd.ntmps82
    go_wp2_with fail
    go_loopw [13] (fun i wr => ∃ k j : Nat, k ≤ n ∧ i = .int .i64 k ∧ wr = w.drewN j ∧ bs.take k = bs'.take k) (fun i _ => n - (intOf i).toNat)
    case atStart => exact ⟨0, 0, by omega, rfl, rfl, by simp⟩
    case round =>
      obtain ⟨k, j, hk, rfl, rfl, htk⟩ := hrel
      have HT := Lib.hid htk
      clear htk
      by_cases hlt : k < n
      · obtain ⟨b, off, u, rfl, _, hu, hc⟩ := HR.out.at_ hlt
        obtain ⟨b', off', u', rfl, _, hu', hc'⟩ := HR'.out.at_ hlt
        have hkb : k < bs.length := by rw [hN.out]; exact hlt
        have hkb' : k < bs'.length := by rw [hN'.out]; exact hlt
        rw [bv_get bs k hkb] at hu
        rw [bv_get bs' k hkb'] at hu'
        cases hu
        cases hu'
        have g1 : (0 : Int) ≤ (k : Int) := by omega
        have g2 : (k : Int) < (n : Int) := by omega
        have yes : Hid (bs[k].toNat = bs'[k].toNat → bs.take (k + 1) = bs'.take (k + 1)) := Lib.hid (fun h => by
          rw [List.take_succ_eq_append_getElem hkb, List.take_succ_eq_append_getElem hkb', HT.out, UInt8.toNat_inj.1 h])
        have no : Hid (bs[k].toNat ≠ bs'[k].toNat → decide (bs = bs') = false) := Lib.hid (bytes_differ hkb hkb')
        generalize bs[k].toNat = x at *
        generalize bs'[k].toNat = x' at *
        clear hkb hkb'
        by_cases hx : x = x'
        · have kn := Lib.hid (yes.out hx)
          subst hx
          go_wp2_with fail
          go_quiet (fail)
          go_wp2_with fail
          go_roundw
          case rel => exact ⟨k + 1, _, by omega, by go_num, rfl, kn.out⟩
          case measure => simp [intOf]; omega
        · have kn := Lib.hid (no.out hx)
          have e1 : ((x : Int) != (x' : Int)) = true := by rw [bne_iff_ne]; omega
          go_wp2_with fail
          go_quiet (fail)
          go_wp2_with fail
          go_ret
          rw [kn.out]
          exact ⟨rfl, _, World.drewN_drewN _ _ _⟩
      · obtain rfl : k = n := by omega
        have kn : Hid (decide (bs = bs') = true) := Lib.hid (by
          have := HT.out
          rw [List.take_of_length_le (by rw [hN.out]; exact Nat.le_refl _), List.take_of_length_le (by rw [hN'.out]; exact Nat.le_refl _)] at this
          simpa using this)
        go_wp2_with fail
        go_ret
        rw [kn.out]
        exact ⟨rfl, j, rfl⟩
  · have kn : Hid (decide (bs = bs') = false) := Lib.hid (by
      rw [decide_eq_false_iff_not]
      rintro rfl
      exact hne (hn.symm.trans hn'))
    have e1 : ((n : Int) != (n' : Int)) = true := by rw [bne_iff_ne]; omega
    clear hn hn' hr hr'
    go_enter Tryd.func82, Tryd.ntmps82
    go_wp2_with fail
    go_ret
    rw [kn.out]
    exact ⟨rfl, 0, rfl⟩

theorem recBs_few {r : Rc} (h : rightB r = true) : (recBs r).length ≤ 140737488351232 := by
  have R := rights h
  have h1 := varBs_len r.vars
  have h2 := memBs_len r.mem
  have h3 := tmBs_len r.timers (fun t ht => (R.tms t ht).1)
  have := R.vars1
  have := R.mem1
  have := R.tms1
  simp only [recBs, headBs, List.length_append, lowB_len, List.length_cons, List.length_nil]
  omega
def zeroRc : Rc := ⟨0, 0, 0, [], [], [], [], false⟩
abbrev nilSV : Value := .slice none 0 0
/-- What Get tells. -/
def GetPost (w : World) (aF : Addr) (o : Option Rc) (e : Ending) (w' : World) : Prop :=
  ∃ (va vv vm vt : Value) (r : Rc) (E : Value), e = .returned (.tuple #[.agg (recV r va vv vm vt), E]) ∧ Below w.heap.size w w' ∧ OwnIn w' w.heap.size va vv vm vt r ∧ ((o = some r ∧ E = .nilIface) ∨ (o = none ∧ r = zeroRc ∧ ErrAt w' aF 1 E ∧ ∃ pb, E = .iface 174 (.pointer (some ⟨pb, 0, none⟩)) ∧ w.heap.size ≤ pb))
theorem ownIn_zero (w : World) (base : Nat) : OwnIn w base nilSV nilSV nilSV nilSV zeroRc :=
  ⟨World.ownsRow_nil _ _ _ _, World.ownsRow_nil _ _ _ _, ⟨[], World.ownsRow_nil _ _ _ _, rows_nil _ _⟩, ⟨[], World.ownsRow_nil _ _ _ _, rows_nil _ _⟩⟩

abbrev put8 (W : World) (P : Nat) (u0 u1 u2 u3 u4 u5 u6 u7 : Value) : World :=
  (((((((W.setCell ⟨P, 0, none⟩ u0).setCell ⟨P, 1, none⟩ u1).setCell ⟨P, 2, none⟩ u2).setCell ⟨P, 3, none⟩ u3).setCell ⟨P, 4, none⟩ u4).setCell ⟨P, 5, none⟩ u5).setCell ⟨P, 6, none⟩ u6).setCell ⟨P, 7, none⟩ u7
theorem err8 {W : World} {P pb : Nat} {a : Addr} {E : Value} (hE : ErrAt W a 1 E) (hEV : E = .iface 174 (.pointer (some ⟨pb, 0, none⟩))) (h1 : P ≠ pb) (h2 : P ≠ a.block) (u0 u1 u2 u3 u4 u5 u6 u7 : Value) : ErrAt (put8 W P u0 u1 u2 u3 u4 u5 u6 u7) a 1 E :=
  (((((((hE.stored hEV h1 h2 u0).stored hEV h1 h2 u1).stored hEV h1 h2 u2).stored hEV h1 h2 u3).stored hEV h1 h2 u4).stored hEV h1 h2 u5).stored hEV h1 h2 u6).stored hEV h1 h2 u7
theorem bel8 {w W : World} {B P : Nat} (hb : Below B w W) (hP : B ≤ P) (u0 u1 u2 u3 u4 u5 u6 u7 : Value) : Below B w (put8 W P u0 u1 u2 u3 u4 u5 u6 u7) :=
  (((((((hb.setCell (p := ⟨P, 0, none⟩) hP u0).setCell (p := ⟨P, 1, none⟩) hP u1).setCell (p := ⟨P, 2, none⟩) hP u2).setCell (p := ⟨P, 3, none⟩) hP u3).setCell (p := ⟨P, 4, none⟩) hP u4).setCell (p := ⟨P, 5, none⟩) hP u5).setCell (p := ⟨P, 6, none⟩) hP u6).setCell (p := ⟨P, 7, none⟩) hP u7
theorem own8 {W : World} {base P : Nat} {va vv vm vt : Value} {r : Rc} (h : OwnIn W base va vv vm vt r) (hP : P < base) (u0 u1 u2 u3 u4 u5 u6 u7 : Value) : OwnIn (put8 W P u0 u1 u2 u3 u4 u5 u6 u7) base va vv vm vt r :=
  (((((((h.put hP).put hP).put hP).put hP).put hP).put hP).put hP).put hP

set_option maxHeartbeats 1000000 in
set_option maxRecDepth 100000 in
theorem get_short (A : Option Addr) (n c : Nat) (bs : List UInt8) (w : World) (hn : bs.length = n) (h2 : n < 2) (aF : Addr) (hS : Sent w 0 aF) :
    Calls Tryd.prog 32 #[.slice A n c] w (GetPost w aF (getR bs)) := by
  have kn : Hid (getR bs = none) := Lib.hid (by
    unfold getR parse pnum
    rw [if_neg (by omega)]
    rfl)
  have hb0 := (Below.refl w.heap.size w).alloc (Nat.le_refl _) (.cells #[.int .i64 0, .int .i64 0, .int .i64 0, .slice none 0 0, .slice none 0 0, .slice none 0 0, .slice none 0 0, .bool false] 52)
  have S0 := hS.below hb0
  have cF := S0.1
  have HS := Lib.hid S0
  have B0 := Lib.hid hb0
  have hlt : aF.block < w.heap.size := hS.2.lt
  have M0 := Lib.hid ((Whole.new w 52 #[.int .i64 0, .int .i64 0, .int .i64 0, .slice none 0 0, .slice none 0 0, .slice none 0 0, .slice none 0 0, .bool false]).alloc (.cells #[.string ⟨#[114, 101, 99, 111, 114, 100, 46, 71, 101, 116]⟩, .int .i64 (-1), .iface 251 (.pointer (some aF))] 176))
  clear hS hb0 S0 hn
  go_enter Tryd.func32, Tryd.ntmps32
  go_wp2_with (go_at_call 61; refine (new_any _ _ _ _).mono ?_; rintro e w' ⟨rfl, rfl⟩)
  obtain ⟨z0, z1, z2, z3, z4, z5, z6, z7⟩ := c8 M0.out
  refine bodyPost_ret (v := .tuple #[.agg #[.int .i64 0, .int .i64 0, .int .i64 0, .slice none 0 0, .slice none 0 0, .slice none 0 0, .slice none 0 0, .bool false], .iface 174 (.pointer (some ⟨w.heap.size + 1, 0, none⟩))]) (by simp [results, Tryd.results32, go_sem, z0, z1, z2, z3, z4, z5, z6, z7]) rfl ?_
  rw [kn.out]
  have E1 := ErrAt.new HS.out ⟨#[114, 101, 99, 111, 114, 100, 46, 71, 101, 116]⟩ (-1)
  rw [World.size_alloc] at E1
  refine ⟨nilSV, nilSV, nilSV, nilSV, zeroRc, _, rfl, ?_, ownIn_zero _ _, .inr ⟨rfl, rfl, ?_⟩⟩
  · go_grown
  · exact ⟨E1, _, rfl, by omega⟩

/-- The midst of Get: the reader at g, the record that is filled at X, the result's block P. -/
structure GAt (w wr : World) (b off n c : Nat) (bs : List UInt8) (at_ : Nat) (bad : Bool) (cs : Array Value) : Prop where
  bel : Below w.heap.size w wr
  rd : RdAt wr (w.heap.size + 1) (some ⟨b, off, none⟩) n c bs at_ bad
  rec_ : Whole wr (w.heap.size + 2) 52 cs
  zero : Whole wr w.heap.size 52 #[.int .i64 0, .int .i64 0, .int .i64 0, .slice none 0 0, .slice none 0 0, .slice none 0 0, .slice none 0 0, .bool false]
  hb : b < w.heap.size
theorem GAt.num {w wr w1 : World} {b off n c : Nat} {bs : List UInt8} {at_ at' : Nat} {bad bad' : Bool} {cs : Array Value} (h : GAt w wr b off n c bs at_ bad cs) (hr : RdAt w1 (w.heap.size + 1) (some ⟨b, off, none⟩) n c bs at' bad') (hg : wr.grownBy w1 (some (w.heap.size + 1))) : GAt w w1 b off n c bs at' bad' cs :=
  ⟨h.bel.grown hg h.bel.size (fun k hk => by cases hk; omega), hr, h.rec_.grown hg (by simp), h.zero.grown hg (by simp), h.hb⟩
theorem reads_set {W : World} {b off n : Nat} {xs : List Value} {p : Addr} {u : Value} (h : Reads W W.heap.size 1 (some ⟨b, off, none⟩) n xs) (hp : b ≠ p.block) : Reads (W.setCell p u) (W.setCell p u).heap.size 1 (some ⟨b, off, none⟩) n xs := by
  refine ⟨h.1, fun hn => ?_⟩
  obtain ⟨b', off', e, hlt, hc⟩ := h.2 hn
  cases e
  refine ⟨b, off, rfl, by simpa [World.setCell] using hlt, fun j u' hu => ?_⟩
  rw [World.cell?_setCell_other _ _ _ _ (fun e' => hp (by rw [e']))]
  exact hc j u' hu
theorem GAt.put {w wr : World} {b off n c : Nat} {bs : List UInt8} {at_ : Nat} {bad : Bool} {cs cs' : Array Value} (h : GAt w wr b off n c bs at_ bad cs) (i : Nat) (u : Value) (hc : cs.setIfInBounds i u = cs') : GAt w (wr.setCell ⟨w.heap.size + 2, i, none⟩ u) b off n c bs at_ bad cs' := by
  subst hc
  have := h.hb
  exact ⟨h.bel.setCell (by simp) u, ⟨h.rd.cells.far (by simp) u, h.rd.len, reads_set h.rd.reads (by simp; omega), h.rd.ne, h.rd.at_le, h.rd.cap, h.rd.few⟩, h.rec_.put i u, h.zero.far (by simp) u, h.hb⟩
theorem GAt.env {w wr : World} {b off n c : Nat} {bs : List UInt8} {at_ : Nat} {bad : Bool} {cs : Array Value} (h : GAt w wr b off n c bs at_ bad cs) {aF : Addr} (hS : Sent w 0 aF) (hT : TabAt w) : ∀ w', wr.grownBy w' (some (w.heap.size + 1)) → Sent w' 0 aF ∧ TabAt w' := fun w' hg => by
  have hb := h.bel.grown hg h.bel.size (fun k hk => by cases hk; omega)
  exact ⟨hS.below hb, hT.below hb⟩

/-- What is known at the end of Get. -/
structure FinMid (w W : World) (aF : Addr) (va vv vm vt : Value) (r : Rc) : Prop where
  bel : Below w.heap.size w W
  rec_ : Whole W (w.heap.size + 2) 52 (recV r va vv vm vt)
  zero : Whole W w.heap.size 52 #[.int .i64 0, .int .i64 0, .int .i64 0, .slice none 0 0, .slice none 0 0, .slice none 0 0, .slice none 0 0, .bool false]
  own : OwnIn W (w.heap.size + 2) va vv vm vt r
  sent : Sent W 0 aF
structure GMid (w W : World) (b off n c : Nat) (bs : List UInt8) (at_ : Nat) (bad : Bool) (aF : Addr) (va vv vm vt : Value) (r : Rc) : Prop where
  g : GAt w W b off n c bs at_ bad (recV r va vv vm vt)
  own : OwnIn W (w.heap.size + 2) va vv vm vt r
  sent : Sent W 0 aF
theorem GMid.fin {w W : World} {b off n c : Nat} {bs : List UInt8} {at_ : Nat} {bad : Bool} {aF : Addr} {va vv vm vt : Value} {r : Rc} (h : GMid w W b off n c bs at_ bad aF va vv vm vt r) : FinMid w W aF va vv vm vt r := ⟨h.g.bel, h.g.rec_, h.g.zero, h.own, h.sent⟩
theorem FinMid.drewN {w W : World} {aF : Addr} {va vv vm vt : Value} {r : Rc} (h : FinMid w W aF va vv vm vt r) (k : Nat) : FinMid w (W.drewN k) aF va vv vm vt r :=
  ⟨below_drewN h.bel k, h.rec_, h.zero, h.own.stay fun _ _ _ => rfl, h.sent.below (below_drewN (Below.refl _ _) k)⟩
theorem midst_below {w W W' : World} {b off n c : Nat} {bs : List UInt8} {at_ : Nat} {bad : Bool} {aF : Addr} {va vv vm vt : Value} {r : Rc} (h : GAt w W b off n c bs at_ bad (recV r va vv vm vt)) (ho : OwnIn W (w.heap.size + 2) va vv vm vt r) (hs : Sent W 0 aF) (hb : Below W.heap.size W W') : GMid w W' b off n c bs at_ bad aF va vv vm vt r :=
  ⟨⟨h.bel.trans (hb.mono h.bel.size), h.rd.below hb, h.rec_.below hb h.rec_.lt, h.zero.below hb h.zero.lt, h.hb⟩, ho.stay fun k _ hk => hb.block k hk, hs.below hb⟩
def PutMid (w W : World) (b off n c : Nat) (bs : List UInt8) (at_ : Nat) (bad : Bool) (aF : Addr) (va vv vm vt : Value) (r : Rc) (v6 v7 : Value) : Prop :=
  GMid w W b off n c bs at_ bad aF va vv vm vt r ∧ ((rightB r = false ∧ ∃ t v, v7 = .iface t v) ∨ (rightB r = true ∧ ∃ A6 c6, v6 = .slice A6 (recBs r).length c6 ∧ v7 = .nilIface ∧ Reads W W.heap.size 1 A6 (recBs r).length (bv (recBs r))))
def EndMid (w W : World) (bs : List UInt8) (aF : Addr) (va vv vm vt : Value) (r : Rc) (v55 : Value) : Prop :=
  ∃ q : Bool, v55 = .bool q ∧ FinMid w W aF va vv vm vt r ∧ ((q = false ∧ getR bs = some r) ∨ (q = true ∧ getR bs = none))
theorem err7 {W W7 : World} {aF : Addr} {s : ByteArray} (hS : Sent W 0 aF) (h : W.alloc (.cells #[.string s, .int .i64 (-1), .iface 251 (.pointer (some aF))] 176) = W7) : ErrAt W7 aF 1 (.iface 174 (.pointer (some ⟨W.heap.size, 0, none⟩))) := by
  rw [← h]
  exact ErrAt.new hS s (-1)

set_option maxHeartbeats 4000000 in
set_option maxRecDepth 100000 in
theorem get_long (b off n c : Nat) (bs : List UInt8) (w : World) (hn : bs.length = n) (hr : Reads w w.heap.size 1 (some ⟨b, off, none⟩) n (bv bs)) (hc : n ≤ c) (hfew : n ≤ 140737488351232) (hb : b < w.heap.size) (h2 : 2 ≤ n) (aF : Addr) (hS : Sent w 0 aF) (hT : TabAt w) :
    Calls Tryd.prog 32 #[.slice (some ⟨b, off, none⟩) n c] w (GetPost w aF (getR bs)) := by
  have G0 : GAt w (((w.alloc (.cells #[.int .i64 0, .int .i64 0, .int .i64 0, .slice none 0 0, .slice none 0 0, .slice none 0 0, .slice none 0 0, .bool false] 52)).alloc (.cells #[.slice (some ⟨b, off, none⟩) n c, .int .i64 2, .bool false] 137)).alloc (.cells #[.int .i64 0, .int .i64 0, .int .i64 0, .slice none 0 0, .slice none 0 0, .slice none 0 0, .slice none 0 0, .bool false] 52)) b off n c bs 2 false #[.int .i64 0, .int .i64 0, .int .i64 0, .slice none 0 0, .slice none 0 0, .slice none 0 0, .slice none 0 0, .bool false] := by
    have hbl := (((Below.refl w.heap.size w).alloc (Nat.le_refl _) (.cells #[.int .i64 0, .int .i64 0, .int .i64 0, .slice none 0 0, .slice none 0 0, .slice none 0 0, .slice none 0 0, .bool false] 52)).alloc (by simp) (.cells #[.slice (some ⟨b, off, none⟩) n c, .int .i64 2, .bool false] 137)).alloc (by simp; omega) (.cells #[.int .i64 0, .int .i64 0, .int .i64 0, .slice none 0 0, .slice none 0 0, .slice none 0 0, .slice none 0 0, .bool false] 52)
    refine ⟨hbl, ⟨?_, hn, (hr.below hbl).wider (by simp; omega), fun b' off' e => by cases e; omega, h2, hc, hfew⟩, ?_, ((Whole.new w _ _).alloc _).alloc _, hb⟩
    · have := (Whole.new (w.alloc (.cells #[.int .i64 0, .int .i64 0, .int .i64 0, .slice none 0 0, .slice none 0 0, .slice none 0 0, .slice none 0 0, .bool false] 52)) 137 #[.slice (some ⟨b, off, none⟩) n c, .int .i64 2, .bool false]).alloc (.cells #[.int .i64 0, .int .i64 0, .int .i64 0, .slice none 0 0, .slice none 0 0, .slice none 0 0, .slice none 0 0, .bool false] 52)
      rw [World.size_alloc] at this
      exact this
    · have := Whole.new ((w.alloc (.cells #[.int .i64 0, .int .i64 0, .int .i64 0, .slice none 0 0, .slice none 0 0, .slice none 0 0, .slice none 0 0, .bool false] 52)).alloc (.cells #[.slice (some ⟨b, off, none⟩) n c, .int .i64 2, .bool false] 137)) 52 #[.int .i64 0, .int .i64 0, .int .i64 0, .slice none 0 0, .slice none 0 0, .slice none 0 0, .slice none 0 0, .bool false]
      rw [World.size_alloc, World.size_alloc] at this
      exact this
  have HG := Lib.hid G0
  have HS := Lib.hid hS
  have HT := Lib.hid hT
  have HI : Hid (Inv false (parse bs) (parse bs)) := Lib.hid ⟨fun _ => rfl, fun h => (by cases h)⟩
  have hlt : aF.block < w.heap.size := hS.2.lt
  clear G0 hS hT hr hn
  go_enter Tryd.func32, Tryd.ntmps32
  go_wp2_with fail
  refine (num_any _ _ n c bs 2 4 false _ HG.out.rd (by omega) 4 rfl aF (HG.out.env HS.out HT.out _ (World.grownBy.refl _ _)).1).mono ?_
  rintro e w1 ⟨m1, at1, bad1, rfl, h1, h2, h3⟩
  have I1 := Lib.hid (show Inv bad1 (parse bs) (p3 bs m1 at1) from inv_num (k := fun x => p3 bs x.1 x.2) HI.out h3)
  have hG1 := HG.out.num h1 h2
  obtain ⟨x0, x1, x2, x3, x4, x5, x6, x7⟩ := c8 hG1.rec_
  have f0 := hG1.rec_.frozen 0
  have G1 := Lib.hid (hG1.put 0 (.int .i64 m1) rfl)
  clear h1 h2 h3 hG1 HG HI
  go_wp2_with fail
  refine (num_any _ _ n c bs at1 8 bad1 _ G1.out.rd (by omega) 8 rfl aF (G1.out.env HS.out HT.out _ (World.grownBy.refl _ _)).1).mono ?_
  rintro e w2 ⟨m2, at2, bad2, rfl, h1, h2, h3⟩
  have I2 := Lib.hid (show Inv bad2 (parse bs) (p4 bs m1 m2 at2) from inv_num (k := fun x => p4 bs m1 x.1 x.2) I1.out h3)
  have hG2 := G1.out.num h1 h2
  obtain ⟨x0, x1, x2, x3, x4, x5, x6, x7⟩ := c8 hG2.rec_
  have f1 := hG2.rec_.frozen 1
  have G2 := Lib.hid (hG2.put 1 (.int .i64 m2) rfl)
  clear h1 h2 h3 hG2 G1 I1 f0
  go_wp2_with fail
  refine (num_any _ _ n c bs at2 8 bad2 _ G2.out.rd (by omega) 8 rfl aF (G2.out.env HS.out HT.out _ (World.grownBy.refl _ _)).1).mono ?_
  rintro e w3 ⟨m3, at3, bad3, rfl, h1, h2, h3⟩
  have I3 := Lib.hid (show Inv bad3 (parse bs) (p5 bs m1 m2 m3 at3) from inv_num (k := fun x => p5 bs m1 m2 x.1 x.2) I2.out h3)
  have hG3 := G2.out.num h1 h2
  obtain ⟨x0, x1, x2, x3, x4, x5, x6, x7⟩ := c8 hG3.rec_
  have f2 := hG3.rec_.frozen 2
  have G3 := Lib.hid (hG3.put 2 (.int .i64 m3) rfl)
  clear h1 h2 h3 hG3 G2 I2 f1
  go_wp2_with fail
  refine (inst_any _ _ n c bs at3 bad3 _ G3.out.rd (fun b' off' e => by cases e; have := G3.out.bel.size; omega) aF (G3.out.env HS.out HT.out) (parse bs) m1 m2 m3 I3.out).mono ?_
  rintro e w4 ⟨va, vv, vm, vt, r, at4, bad4, rfl, h1, h2, ho, hr1, hr2, hr3, h3⟩
  obtain ⟨ch, bo, st, ac, vs, ms, ts, ov⟩ := r
  simp only at hr1 hr2 hr3
  subst hr1 hr2 hr3
  have hG4 := G3.out.num h1 h2
  have hbase : w.heap.size + 2 < (w3.setCell ⟨w.heap.size + 2, 2, none⟩ (.int .i64 m3)).heap.size := G3.out.rec_.lt
  obtain ⟨xm, hm1, _⟩ := ho.mem
  obtain ⟨xt, ht1, _⟩ := ho.tms
  obtain ⟨Aa, ka, ea, _⟩ := own_slice ho.act
  obtain ⟨Av, kv, ev, _⟩ := own_slice ho.vars
  obtain ⟨Am, km, em, _⟩ := own_slice hm1
  obtain ⟨At, kt, et, _⟩ := own_slice ht1
  simp only at ea ev em et
  subst ea ev em et
  obtain ⟨x0, x1, x2, x3, x4, x5, x6, x7⟩ := c8 hG4.rec_
  have f3 := hG4.rec_.frozen 3
  have f4 := hG4.rec_.frozen 4
  have f5 := hG4.rec_.frozen 5
  have f6 := hG4.rec_.frozen 6
  have f7 := hG4.rec_.frozen 7
  have hG5 := ((((hG4.put 3 (.slice Aa ac.length ka) rfl).put 4 (.slice Av vs.length kv) rfl).put 5 (.slice Am ms.length km) rfl).put 6 (.slice At ts.length kt) rfl).put 7 (.bool ov) rfl
  have hO5 := ((((ho.put (i := 3) (u := .slice Aa ac.length ka) hbase).put (i := 4) (u := .slice Av vs.length kv) hbase).put (i := 5) (u := .slice Am ms.length km) hbase).put (i := 6) (u := .slice At ts.length kt) hbase).put (i := 7) (u := .bool ov) hbase
  have G5 := Lib.hid (show GAt w _ b off n c bs at4 bad4 (recV ⟨m1, m2, m3, ac, vs, ms, ts, ov⟩ (.slice Aa ac.length ka) (.slice Av vs.length kv) (.slice Am ms.length km) (.slice At ts.length kt)) from hG5)
  have O5 := Lib.hid (hO5.lower (Nat.le_of_lt hbase))
  have I4 := Lib.hid h3
  have hbase2 : w.heap.size < (w3.setCell ⟨w.heap.size + 2, 2, none⟩ (.int .i64 m3)).heap.size := by omega
  have E5 := Lib.hid (G5.out.env HS.out HT.out _ (World.grownBy.refl _ _)).1
  clear h1 h2 h3 ho hm1 ht1 hG4 hG5 hO5 G3 I3 f2
  go_upto_region 9 with (fail)
  generalize ((((w4.setCell ⟨w.heap.size + 2, 3, none⟩ (.slice Aa ac.length ka)).setCell ⟨w.heap.size + 2, 4, none⟩ (.slice Av vs.length kv)).setCell ⟨w.heap.size + 2, 5, none⟩ (.slice Am ms.length km)).setCell ⟨w.heap.size + 2, 6, none⟩ (.slice At ts.length kt)).setCell ⟨w.heap.size + 2, 7, none⟩ (.bool ov) = W5 at *
  clear x0 x1 x2 x3 x4 x5 x6 x7 f3 f4 f5 f6 f7
  obtain ⟨x0, x1, x2, x3, x4, x5, x6, x7⟩ := c8 G5.out.rec_
  go_cut [6, 7] (fun v6 v7 W => PutMid w W b off n c bs at4 bad4 aF (.slice Aa ac.length ka) (.slice Av vs.length kv) (.slice Am ms.length km) (.slice At ts.length kt) ⟨m1, m2, m3, ac, vs, ms, ts, ov⟩ v6 v7)
  case first =>
    cases hR : rightB ⟨m1, m2, m3, ac, vs, ms, ts, ov⟩
    · have HR := Lib.hid hR
      clear hR
      go_wp2_with fail
      refine (put_no ⟨m1, m2, m3, ac, vs, ms, ts, ov⟩ _ _ _ _ _ O5.out.inAt aF E5.out HR.out).mono ?_
      rintro e w6 ⟨E, rfl, hb6, hE⟩
      obtain ⟨et, ev, rfl⟩ := hE.form
      have K := Lib.hid (midst_below G5.out O5.out E5.out hb6)
      clear hb6 hE
      go_wp2_with fail
      go_meet
      exact ⟨K.out, .inl ⟨HR.out, et, ev, rfl⟩⟩
    · have HR := Lib.hid hR
      clear hR
      go_wp2_with fail
      refine (put_yes ⟨m1, m2, m3, ac, vs, ms, ts, ov⟩ _ _ _ _ _ O5.out.inAt aF E5.out HR.out).mono ?_
      rintro e w6 ⟨v6, rfl, hl6, hb6⟩
      obtain ⟨A6, c6, ev6, hc6, hm6, hrd6⟩ := hl6.one
      subst ev6
      have K := Lib.hid (midst_below G5.out O5.out E5.out hb6)
      have R6 := Lib.hid (show Reads w6 w6.heap.size 1 A6 (recBs ⟨m1, m2, m3, ac, vs, ms, ts, ov⟩).length (bv (recBs ⟨m1, m2, m3, ac, vs, ms, ts, ov⟩)) from hrd6)
      clear hb6 hl6 hrd6
      go_wp2_with fail
      go_meet
      exact ⟨K.out, .inr ⟨HR.out, A6, c6, rfl, rfl, R6.out⟩⟩
  case rest =>
    have HC := Lib.hid hcut
    clear hcut G5 O5 E5 x0 x1 x2 x3 x4 x5 x6 x7
    go_upto_region 10 with (fail)
    go_cut [55] (fun v55 W => EndMid w W bs aF (.slice Aa ac.length ka) (.slice Av vs.length kv) (.slice Am ms.length km) (.slice At ts.length kt) ⟨m1, m2, m3, ac, vs, ms, ts, ov⟩ v55)
    case first =>
      obtain ⟨hM, hP⟩ := HC.out
      have HM := Lib.hid hM
      obtain ⟨rd0, rd1, rd2⟩ := hM.g.rd.cells.c3
      clear hM
      rcases hP with ⟨hR, et, ev, rfl⟩ | ⟨hR, A6, c6, rfl, rfl, hrd6⟩
      · have kn : Hid (getR bs = none) := Lib.hid (by
          unfold getR
          cases bad4 with
          | true => rw [I4.out.2 rfl]; rfl
          | false => rw [I4.out.1 rfl, Option.bind_some, if_neg (by rw [hR]; simp)])
        clear hR
        cases bad4
        all_goals
          go_wp2_with fail
          go_meet
          exact ⟨true, rfl, HM.out.fin, .inr ⟨rfl, kn.out⟩⟩
      · have HR := Lib.hid hR
        have R6 := Lib.hid hrd6
        clear hR hrd6
        have hn6 : (recBs ⟨m1, m2, m3, ac, vs, ms, ts, ov⟩).length ≤ 140737488351232 := recBs_few HR.out
        cases bad4
        · have HP := Lib.hid (I4.out.1 rfl)
          go_wp2_with fail
          refine (eqBytes_any A6 _ _ n c6 c (recBs ⟨m1, m2, m3, ac, vs, ms, ts, ov⟩) bs _ rfl HM.out.g.rd.len hn6 hfew R6.out HM.out.g.rd.reads).mono ?_
          rintro e W6 ⟨rfl, kd, hW6⟩
          have K := Lib.hid (show FinMid w W6 aF (.slice Aa ac.length ka) (.slice Av vs.length kv) (.slice Am ms.length km) (.slice At ts.length kt) ⟨m1, m2, m3, ac, vs, ms, ts, ov⟩ by
            rw [hW6]
            exact HM.out.fin.drewN kd)
          clear hW6
          cases hq : decide (recBs ⟨m1, m2, m3, ac, vs, ms, ts, ov⟩ = bs)
          · have kn : Hid (getR bs = none) := Lib.hid (by
              unfold getR
              rw [HP.out, Option.bind_some, if_neg (fun hh => by rw [decide_eq_true hh.2] at hq; cases hq)])
            clear hq
            go_wp2_with fail
            go_meet
            exact ⟨true, rfl, K.out, .inr ⟨rfl, kn.out⟩⟩
          · have kn : Hid (getR bs = some ⟨m1, m2, m3, ac, vs, ms, ts, ov⟩) := Lib.hid (by
              unfold getR
              rw [HP.out, Option.bind_some, if_pos ⟨HR.out, of_decide_eq_true hq⟩])
            clear hq
            go_wp2_with fail
            go_meet
            exact ⟨false, rfl, K.out, .inl ⟨rfl, kn.out⟩⟩
        · have kn : Hid (getR bs = none) := Lib.hid (by
            unfold getR
            rw [I4.out.2 rfl]
            rfl)
          go_wp2_with fail
          go_meet
          exact ⟨true, rfl, HM.out.fin, .inr ⟨rfl, kn.out⟩⟩
    case rest =>
      obtain ⟨q, rfl, hF, hk⟩ := hcut
      have HK := Lib.hid hk
      have KF := Lib.hid hF
      clear hk HC I4
      obtain ⟨z0, z1, z2, z3, z4, z5, z6, z7⟩ := c8 hF.zero
      have zf0 := hF.zero.frozen 0
      have zf1 := hF.zero.frozen 1
      have zf2 := hF.zero.frozen 2
      have zf3 := hF.zero.frozen 3
      have zf4 := hF.zero.frozen 4
      have zf5 := hF.zero.frozen 5
      have zf6 := hF.zero.frozen 6
      have zf7 := hF.zero.frozen 7
      have cF := hF.sent.1
      obtain ⟨x0, x1, x2, x3, x4, x5, x6, x7⟩ := c8 hF.rec_
      clear hF
      cases q
      · have kn : Hid (getR bs = some ⟨m1, m2, m3, ac, vs, ms, ts, ov⟩) := Lib.hid (by
          rcases HK.out with ⟨_, h⟩ | ⟨h, _⟩
          · exact h
          · cases h)
        go_wp2_with fail
        refine bodyPost_ret (v := .tuple #[.agg (recV ⟨m1, m2, m3, ac, vs, ms, ts, ov⟩ (.slice Aa ac.length ka) (.slice Av vs.length kv) (.slice Am ms.length km) (.slice At ts.length kt)), .nilIface]) (by simp [results, Tryd.results32, go_sem, z0, z1, z2, z3, z4, z5, z6, z7]) rfl ?_
        rw [kn.out]
        exact ⟨_, _, _, _, ⟨m1, m2, m3, ac, vs, ms, ts, ov⟩, _, rfl, bel8 KF.out.bel (Nat.le_refl _) _ _ _ _ _ _ _ _, (own8 KF.out.own (by omega) _ _ _ _ _ _ _ _).lower (by omega), .inl ⟨rfl, rfl⟩⟩
      · have kn : Hid (getR bs = none) := Lib.hid (by
          rcases HK.out with ⟨h, _⟩ | ⟨_, h⟩
          · cases h
          · exact h)
        clear x0 x1 x2 x3 x4 x5 x6 x7 z0 z1 z2 z3 z4 z5 z6 z7 zf0 zf1 zf2 zf3 zf4 zf5 zf6 zf7
        go_wp2_with fail
        refine (new_any _ _ _ _).mono ?_
        rintro e W7 ⟨rfl, hW7⟩
        have hE7 := err7 KF.out.sent hW7
        have hZ7 : Whole W7 w.heap.size 52 #[.int .i64 0, .int .i64 0, .int .i64 0, .slice none 0 0, .slice none 0 0, .slice none 0 0, .slice none 0 0, .bool false] := by rw [← hW7]; exact KF.out.zero.alloc _
        have B7 := Lib.hid (show Below w.heap.size w W7 by rw [← hW7]; exact KF.out.bel.alloc KF.out.bel.size _)
        have hPl := KF.out.zero.lt
        have E7 := Lib.hid hE7
        obtain ⟨z0, z1, z2, z3, z4, z5, z6, z7⟩ := c8 hZ7
        have zf0 := hZ7.frozen 0
        have zf1 := hZ7.frozen 1
        have zf2 := hZ7.frozen 2
        have zf3 := hZ7.frozen 3
        have zf4 := hZ7.frozen 4
        have zf5 := hZ7.frozen 5
        have zf6 := hZ7.frozen 6
        have zf7 := hZ7.frozen 7
        clear hE7 hZ7 hW7 cF
        generalize wc.heap.size = eb at *
        go_wp2_with fail
        refine bodyPost_ret (v := .tuple #[.agg #[.int .i64 0, .int .i64 0, .int .i64 0, .slice none 0 0, .slice none 0 0, .slice none 0 0, .slice none 0 0, .bool false], .iface 174 (.pointer (some ⟨eb, 0, none⟩))]) (by simp [results, Tryd.results32, go_sem, z0, z1, z2, z3, z4, z5, z6, z7]) rfl ?_
        rw [kn.out]
        exact ⟨nilSV, nilSV, nilSV, nilSV, zeroRc, _, rfl, bel8 B7.out (Nat.le_refl _) _ _ _ _ _ _ _ _, ownIn_zero _ _, .inr ⟨rfl, rfl, err8 E7.out rfl (by omega) (by omega) _ _ _ _ _ _ _ _, _, rfl, by omega⟩⟩

/-- record.Get of any bytes. -/
theorem get_any (A : Option Addr) (n c : Nat) (bs : List UInt8) (w : World) (hn : bs.length = n) (hr : Reads w w.heap.size 1 A n (bv bs)) (hc : n ≤ c) (hfew : n ≤ 140737488351232) (aF : Addr) (hS : Sent w 0 aF) (hT : TabAt w) :
    Calls Tryd.prog 32 #[.slice A n c] w (GetPost w aF (getR bs)) := by
  by_cases h2 : n < 2
  · exact get_short A n c bs w hn h2 aF hS
  · obtain ⟨b, off, e, hb, _⟩ := hr.2 (by omega)
    subst e
    exact get_long b off n c bs w hn hr hc hfew hb (by omega) aF hS hT
end Go.Proofs.YtbleibmjippmpaaDoor
