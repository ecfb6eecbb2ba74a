/- record.set, fold, truth, the writer's nums. -/
import Derived.Test.YtbleibmjippmpaaDoorRec4
import Derived.Test.YtbleibmjippmpaaDoorField
import Derived.Deep.RegionLaw
import Derived.StillTailTactics
namespace Go.Proofs.YtbleibmjippmpaaDoor
open Go.RowKit

theorem truth_any (b : Bool) (w : World) : Calls Tryd.prog 76 #[.bool b] w fun e w' => e = .returned (.int .i64 (b.toNat : Nat)) ∧ w = w' := by
  cases b
  all_goals
    go_enter Tryd.func76, Tryd.ntmps76
    go_wp2
    go_ret
    exact ⟨rfl, rfl⟩
theorem fold_any (n : Int) (h1 : -2147483647 ≤ n) (h2 : n ≤ 2147483647) (w : World) : Calls Tryd.prog 78 #[.int .i64 n] w fun e w' => e = .returned (.int .i64 (foldN n : Nat)) ∧ w = w' := by
  by_cases h : n < 0
  all_goals
    have HF := Lib.hid (show ((foldN n : Nat) : Int) = if n < 0 then -2 * n - 1 else 2 * n by unfold foldN; split <;> omega)
    go_enter Tryd.func78, Tryd.ntmps78
    go_wp2
    go_ret
    rw [HF.out]
    refine ⟨?_, rfl⟩
    first | rw [if_pos h]; rfl | rw [if_neg (by omega)]; rfl

theorem or_bit (m x : Nat) (hm : m < 2 ^ x) (hx : x ≤ 31) : bits .or .i64 (m : Int) ((2 : Int) ^ x) = ((m + 2 ^ x : Nat) : Int) := by
  have hp : (2 : Nat) ^ x ≤ 2 ^ 31 := Nat.pow_le_pow_right (by decide) hx
  rw [show (2 : Int) ^ x = ((2 ^ x : Nat) : Int) by simp]
  have h0 : ∀ y : Nat, y < 9223372036854775808 → (BitVec.ofInt 64 (y : Int)).toNat = y := fun y hy => by
    rw [BitVec.ofInt_natCast, BitVec.toNat_ofNat]
    exact Nat.mod_eq_of_lt (by omega)
  show IntKind.i64.wrap ((BitVec.ofInt 64 (m : Int) ||| BitVec.ofInt 64 ((2 ^ x : Nat) : Int)).toNat : Int) = _
  rw [BitVec.toNat_or, h0 _ (by omega), h0 _ (by omega), IntKind.wrap_i64]
  have e : m ||| 2 ^ x = m + 2 ^ x := by
    have := Nat.two_pow_add_eq_or_of_lt (i := x) (b := m) hm 1
    rw [Nat.or_comm, Nat.add_comm]
    simpa using this.symm
  rw [e]
  omega

set_option maxHeartbeats 1000000 in
theorem set_any (v : Value) (l : List Int) (B : Nat) (w : World) (h : ListAt w B 1 intR v l) (hs : allB l.length (stAt l) = true) :
    Calls Tryd.prog 77 #[v] w fun e w' => e = .returned (.int .i64 (setN l : Nat)) ∧ w = w' := by
  obtain ⟨A, c, rfl, hlc, hcm, hr⟩ := h.one
  unfold maxLen at hcm
  have HR := Lib.hid hr
  have HS := Lib.hid hs
  clear h hr hs
  go_enter Tryd.func77, Tryd.ntmps77
  go_wp2
  go_loop [3, 8] (fun n i => ∃ k m : Nat, k ≤ l.length ∧ i = .int .i64 k ∧ n = .int .i64 m ∧ m = setN (l.take k)) (fun _ i => l.length - (intOf i).toNat)
  case atStart => exact ⟨0, 0, by omega, rfl, rfl, by simp [setN]⟩
  case round =>
    obtain ⟨k, m, hk, rfl, rfl, hm⟩ := hrel
    by_cases hlt : k < l.length
    · obtain ⟨b, off, rfl, _, hc⟩ := ints_at HR.out rfl k hlt
      have hck := hc k hlt
      have hb := stAt_ge (allB_at HS.out k hlt)
      have hm2 := setN_lt l k (fun j _ hj => allB_at HS.out j hj) hlt
      have HN := Lib.hid (setN_take l k hlt)
      rw [← getD_get l k 0 hlt] at HN
      rw [← hm] at hm2
      have HM := Lib.hid hm
      obtain ⟨x, hx⟩ := Int.eq_ofNat_of_zero_le hb.1
      have hx2 : x ≤ 31 := by omega
      rw [hx] at hck hm2 HN
      simp only [Int.toNat_natCast] at hm2 HN
      have ho := or_bit m x hm2 hx2
      have hp : (2 : Int) ^ x ≤ 2147483648 := by
        have : (2 : Nat) ^ x ≤ 2 ^ 31 := Nat.pow_le_pow_right (by decide) hx2
        rw [show (2 : Int) ^ x = ((2 ^ x : Nat) : Int) by simp]
        omega
      have hp0 : (0 : Int) ≤ (2 : Int) ^ x := by
        rw [show (2 : Int) ^ x = ((2 ^ x : Nat) : Int) by simp]
        omega
      clear hc hb hm hx
      go_wp2
      go_round
      case rel => exact ⟨k + 1, m + 2 ^ x, by omega, by go_num, by first | rfl | go_num, by rw [HN.out, HM.out]⟩
      case measure => simp [intOf]; omega
    · obtain rfl : k = l.length := by omega
      have HM := Lib.hid hm
      clear hm
      go_wp2
      go_ret
      rw [HM.out, List.take_length]
      exact ⟨rfl, rfl⟩

/-- Pairs of numbers in memory: two cells each. -/
def pairsAt (w : World) (b off : Nat) (ps : List (Nat × Nat)) : Prop :=
  ∀ k (h : k < ps.length), w.cell? ⟨b, off + k * 2, none⟩ = some (.int .i64 (ps[k].1 : Nat)) ∧ w.cell? ⟨b, off + k * 2 + 1, none⟩ = some (.int .i64 (ps[k].2 : Nat))
/-- A writer at block g that holds the bytes bs, and no error. -/
structure WrAt (w : World) (g : Nat) (bs : List UInt8) : Prop where
  intro ::
  ex : ∃ A c, Whole w g 125 #[.slice A bs.length c, .nilIface] ∧ bs.length ≤ c ∧ c ≤ maxLen ∧ Reads w w.heap.size 1 A bs.length (bv bs) ∧ (∀ b off, A = some ⟨b, off, none⟩ → b ≠ g)

theorem only_drewN {a w : World} {row : Option Nat} (h : a.grownBy w row) (n : Nat) : a.grownBy (w.drewN n) row := ⟨h.os, h.tape, h.output, h.size, h.block⟩
theorem only_alloc {a w : World} {row : Option Nat} (h : a.grownBy w row) (o : Obj) : a.grownBy (w.alloc o) row :=
  ⟨h.os, h.tape, h.output, Nat.le_trans h.size (by simp), fun i hi hne => (Below.heap_alloc w o i (Nat.lt_of_lt_of_le hi h.size)).trans (h.block i hi hne)⟩
theorem only_setCell {a w : World} {g : Nat} (h : a.grownBy w (some g)) {p : Addr} (hp : p.block = g ∨ a.heap.size ≤ p.block) (u : Value) : a.grownBy (w.setCell p u) (some g) :=
  ⟨h.os, h.tape, h.output, by simpa [World.setCell] using h.size, fun i hi hne => (Below.heap_setCell w p u i (by
    rintro rfl
    rcases hp with hp | hp
    · exact hne (by rw [hp])
    · omega)).trans (h.block i hi hne)⟩
theorem only_below {a w w' : World} {row : Option Nat} (h : a.grownBy w row) (hb : Below w.heap.size w w') : a.grownBy w' row :=
  ⟨hb.os.trans h.os, hb.tape.trans h.tape, hb.output.trans h.output, Nat.le_trans h.size hb.size, fun i hi hn => (hb.block i (Nat.lt_of_lt_of_le hi h.size)).trans (h.block i hi hn)⟩

theorem own_cap {w : World} {base size n : Nat} {e : TypeId} {A : Option Addr} {c : Nat} {xs : List Value} (h : w.ownsRow base e size (.slice A n c) n xs) : n ≤ c ∧ (∀ b off sp, A = some ⟨b, off, sp⟩ → base ≤ b) := by
  rcases h.2 with ⟨h1, _⟩ | ⟨g, cap, cur, h1, h0, _, h2, _⟩
  · cases h1
    exact ⟨Nat.le_refl _, fun b off sp h => by cases h⟩
  · cases h1
    exact ⟨h2, fun b off sp h => by cases h; exact h0⟩
theorem own_max {w : World} {base size n : Nat} {e : TypeId} {A : Option Addr} {c : Nat} {xs : List Value} (h : w.ownsRow base e size (.slice A n c) n xs) : c ≤ maxLen := by
  rcases h.2 with ⟨h1, _⟩ | ⟨g, cap, cur, h1, h0, _, h2, h3, _⟩
  · cases h1
    unfold maxLen
    omega
  · cases h1
    exact h3
/-- A writer behind one number more. -/
theorem wr_next {w wr W w2 : World} {g : Nat} {n2 cp2 : Nat} {A2 : Option Addr} {v : Value} {xs : List UInt8} (hWh : Whole W g 125 #[v, .nilIface]) (ho : w2.ownsRow W.heap.size 5 1 (.slice A2 n2 cp2) n2 (bv xs)) (hn : xs.length = n2)
    (hcm : cp2 ≤ maxLen) (hb : Below W.heap.size W w2) (hG : w.grownBy wr (some g)) (hW : Below wr.heap.size wr W) :
    WrAt ((w2.setCell ⟨g, 0, none⟩ (.slice A2 n2 cp2)).setCell ⟨g, 1, none⟩ .nilIface) g xs ∧ w.grownBy ((w2.setCell ⟨g, 0, none⟩ (.slice A2 n2 cp2)).setCell ⟨g, 1, none⟩ .nilIface) (some g) := by
  subst hn
  have h1 := own_cap ho
  have hW2 := ((hWh.below hb hWh.lt).put 0 (.slice A2 xs.length cp2)).put 1 .nilIface
  refine ⟨⟨A2, cp2, ?_, h1.1, hcm, ?_, ?_⟩, only_setCell (only_setCell (only_below (only_below hG hW) hb) (.inl rfl) _) (.inl rfl) _⟩
  · simpa using hW2
  · have hr := Reads.of_own ho
    have hne : ∀ b off, A2 = some ⟨b, off, none⟩ → b ≠ g := fun b off e => by
      have := h1.2 b off _ e
      have := hWh.lt
      omega
    refine ⟨hr.1, fun hp => ?_⟩
    obtain ⟨b, off, e, hlt, hc⟩ := hr.2 hp
    refine ⟨b, off, e, by simpa [World.setCell] using hlt, fun j u hu => ?_⟩
    rw [World.cell?_setCell_other _ _ _ _ (fun e' => hne b off e (by injection e' with e1; exact e1.symm)), World.cell?_setCell_other _ _ _ _ (fun e' => hne b off e (by injection e' with e1; exact e1.symm))]
    exact hc j u hu
  · intro b off e
    have := h1.2 b off _ e
    have := hWh.lt
    omega
theorem parts_len (ps : List (Nat × Nat)) (h : ∀ p ∈ ps, p.2 ≤ 8) : (ps.flatMap fun p => lowB p.2 p.1).length ≤ 8 * ps.length := by
  induction ps with
  | nil => simp
  | cons p ps ih =>
    have h1 := h p (by simp)
    have h2 := ih (fun q hq => h q (by simp [hq]))
    simp only [List.flatMap_cons, List.length_append, lowB_len, List.length_cons]
    omega

set_option maxHeartbeats 2000000 in
set_option maxRecDepth 100000 in
theorem nums_any (g : Nat) (bs : List UInt8) (b off c : Nat) (ps : List (Nat × Nat)) (w : World) (hw : WrAt w g bs) (hb : b < w.heap.size) (hbg : b ≠ g) (hp : pairsAt w b off ps) (hlen : ps.length ≤ 8) (hbl : bs.length ≤ 100000)
    (hn : ∀ p ∈ ps, p.1 < 256 ^ p.2 ∧ p.1 < 9223372036854775808 ∧ (p.2 = 1 ∨ p.2 = 2 ∨ p.2 = 4 ∨ p.2 = 8)) :
    Calls Tryd.prog 75 #[.pointer (some ⟨g, 0, none⟩), .slice (some ⟨b, off, none⟩) ps.length c] w fun e w' => e = .returned (.tuple #[]) ∧ WrAt w' g (bs ++ ps.flatMap fun p => lowB p.2 p.1) ∧ w.grownBy w' (some g) := by
  go_enter Tryd.func75, Tryd.ntmps75
  go_wp2
  go_loopw [8] (fun i wr => ∃ k : Nat, k ≤ ps.length ∧ i = .int .i64 k ∧ WrAt wr g (bs ++ (ps.take k).flatMap fun p => lowB p.2 p.1) ∧ w.grownBy wr (some g)) (fun i _ => ps.length - (intOf i).toNat)
  case atStart => exact ⟨0, by omega, rfl, by simpa using hw, World.grownBy.refl _ _⟩
  case round =>
    obtain ⟨k, hk, rfl, hW, hG⟩ := hrel
    by_cases hlt : k < ps.length
    · obtain ⟨c1, c2⟩ := hp k hlt
      have hne : some b ≠ some g := by simpa using hbg
      have e0 : wr.heap[b]? = w.heap[b]? := hG.block b hb hne
      have c1 := (World.cell?_of_block (w := w) (w' := wr) (a := ⟨b, off + k * 2, none⟩) e0).trans c1
      have c2 := (World.cell?_of_block (w := w) (w' := wr) (a := ⟨b, off + k * 2 + 1, none⟩) e0).trans c2
      obtain ⟨A, cp, hWh, hcp, hcm, hR, hA⟩ := hW.ex
      obtain ⟨d1, d2⟩ := hWh.c2
      have dz1 := hWh.frozen 0
      have dz2 := hWh.frozen 1
      obtain ⟨h1, h2, h3⟩ := hn ps[k] (List.getElem_mem _)
      have hgl : g < wr.heap.size := hWh.lt
      have HG := Lib.hid hG
      have HR := Lib.hid hR
      have HA := Lib.hid hA
      have hsz := hG.size
      have hsl : (bs ++ (ps.take k).flatMap fun p => lowB p.2 p.1).length ≤ 100064 := by
        have := parts_len (ps.take k) (fun p hp => by have := (hn p (List.mem_of_mem_take hp)).2.2; omega)
        rw [List.length_append]
        simp only [List.length_take] at this
        omega
      generalize he : ps[k] = pk at *
      have HE := Lib.hid he
      obtain ⟨m, wd⟩ := pk
      generalize hj : bs ++ (ps.take k).flatMap (fun p => lowB p.2 p.1) = sj at *
      have HJ := Lib.hid hj
      clear hp hn he hj hG hW hR hA e0 hw
      simp only at c1 c2 h1 h2 h3
      go_wp2
      have hWh' := Lib.hid ((hWh.alloc (.cells #[.int .i64 m, .int .i64 wd] 127)).drew)
      clear hWh
      have hm64 : IntKind.u64.wrap (m : Int) = (m : Int) := IntWalk.u64_in _ (by omega)
      go_region_law (first | (go_simp; go_at_call 62; refine (fput_len A sj.length cp sj m wd _ rfl ?_ (by omega) (by omega) h3 h1 _ rfl).mono ?_; (focus (exact (HR.out.alloc (Nat.le_refl _) _).wider (by simp))); rintro e w2 ⟨v2, rfl, ho2, hb2⟩; obtain ⟨A2, cp2, rfl, hr2⟩ := own_slice ho2; have x1 := cell_below hWh'.out.c2.1 hb2; have x2 := cell_below hWh'.out.c2.2 hb2; have x3 := (hb2.frozen (p := ⟨g, 0, none⟩) (by simp; omega)).trans (hWh'.out.frozen 0); have x4 := (hb2.frozen (p := ⟨g, 1, none⟩) (by simp; omega)).trans (hWh'.out.frozen 1); have hc2 : cp2 ≤ maxLen := own_max ho2; have HO2 := Lib.hid ho2; have HB2 := Lib.hid hb2; clear ho2 hb2 hr2))
      all_goals
        have KN := Lib.hid (wr_next hWh'.out HO2.out (by simp [lowB_len]) hc2 HB2.out HG.out (((Below.refl _ wr).alloc (Nat.le_refl _) _).drew))
        go_wp2
        go_roundw
        case rel =>
          refine ⟨k + 1, by omega, by go_num, ?_, KN.out.2⟩
          rw [List.take_succ_eq_append_getElem hlt, List.flatMap_append, ← List.append_assoc, HJ.out, HE.out]
          simpa using KN.out.1
        case measure => simp [intOf]; omega
    · obtain rfl : k = ps.length := by omega
      rw [List.take_length] at hW
      have HW := Lib.hid hW
      have HG := Lib.hid hG
      clear hW hG
      go_wp2
      go_end0
      exact ⟨rfl, HW.out, HG.out⟩
end Go.Proofs.YtbleibmjippmpaaDoor
