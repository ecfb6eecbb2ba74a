/- field.TakeText, the reader's text and states. -/
import Derived.Test.YtbleibmjippmpaaDoorRec9
namespace Go.Proofs.YtbleibmjippmpaaDoor
open Go.RowKit

/-- Bytes of a slice as a text. -/
theorem text_of {P : Program} {ts e td : TypeId} (hs : P.underlying ts = some (.slice e)) (he : P.underlying e = some (.int .u8)) (hd : P.underlying td = some .string) {W : World} {b off n c at_ k : Nat} {bs : List UInt8} (hr : Reads W W.heap.size 1 (some ⟨b, off, none⟩) n (bv bs)) (hn : bs.length = n) (hk : at_ + k ≤ n) :
    (convert ts td (.slice (some ⟨b, off + at_, none⟩) k c)).run P W = .ok (.string ⟨(cut bs at_ k).toArray⟩) W := by
  by_cases h0 : k = 0
  · subst h0
    have := run_convert_bytes_arg (P := P) W ts e hs he b (off + at_) 0 c [] rfl (fun i hi => by omega) td hd
    rw [this]
    simp [strOfNums, cut]
  obtain ⟨b', off', e', _, hc⟩ := hr.2 (by omega)
  cases e'
  have hl := cut_len bs at_ k (by omega)
  have := run_convert_bytes_arg (P := P) W ts e hs he b (off + at_) k c ((cut bs at_ k).map fun x => (x.toNat : Int)) (by simp [hl]) (fun i hi => by
    rw [Nat.add_assoc, hc (at_ + i) _ (bv_get bs _ (by omega))]
    have h1 := cut_get bs at_ k i (by omega) hi
    simp [List.getD, hl, hi, h1]) td hd
  rw [this]
  congr 3
  simp [strOfNums, List.map_map, Function.comp_def]

set_option maxHeartbeats 1000000 in
set_option maxRecDepth 100000 in
theorem takeText_yes (b off n c : Nat) (bs : List UInt8) (at_ k : Nat) (w : World) (hn : bs.length = n) (hr : Reads w w.heap.size 1 (some ⟨b, off, none⟩) n (bv bs)) (hl : n ≤ 140737488351232) (hc : n ≤ c) (hk : valLE (cut bs at_ 2) = k) (hf : at_ + 2 + k ≤ n) :
    Calls Tryd.prog 149 #[.slice (some ⟨b, off, none⟩) n c, .int .i64 at_] w fun e w' => e = .returned (.tuple #[.string ⟨(cut bs (at_ + 2) k).toArray⟩, .int .i64 ((at_ + 2 + k : Nat) : Int), .nilIface]) ∧ w = w' := by
  have HN := Lib.hid hn
  have HR := Lib.hid hr
  have HK := Lib.hid hk
  have hcv := fun c' => text_of (P := Tryd.prog) (c := c') Tryd.underlying24 Tryd.underlying5 Tryd.underlying9 hr hn (show at_ + 2 + k ≤ n from hf)
  have e1 : (at_ : Int) + 2 + k = ((at_ + 2 + k : Nat) : Int) := by omega
  have E1 := Lib.hid e1
  clear e1
  by_cases hca : c = at_ + 2
  · obtain rfl : k = 0 := by omega
    have hc0 := fun c' => (run_convert_bytes_arg (P := Tryd.prog) w 24 5 Tryd.underlying24 Tryd.underlying5 b off 0 c' [] rfl (fun i hi => by omega) 9 Tryd.underlying9)
    have h00 := Lib.hid (show (⟨(cut bs (at_ + 2) 0).toArray⟩ : ByteArray) = strOfNums [] by simp [cut, strOfNums])
    subst hca
    clear hn hr hk hcv
    go_enter Tryd.func149, Tryd.ntmps149
    go_wp2_with (go_at_call 67; refine (ftake_yes _ n _ bs at_ 2 _ HN.out HR.out hl (by omega) (by omega) _ _ rfl rfl).mono ?_; rintro e w' ⟨rfl, rfl⟩; rw [HK.out])
    go_ret3
    rw [h00.out, ← E1.out]
    exact ⟨by simp, rfl⟩
  · clear hn hr hk
    go_enter Tryd.func149, Tryd.ntmps149
    go_wp2_with (go_at_call 67; refine (ftake_yes _ n c bs at_ 2 _ HN.out HR.out hl (by omega) (by omega) _ _ rfl rfl).mono ?_; rintro e w' ⟨rfl, rfl⟩; rw [HK.out])
    go_ret3
    rw [← E1.out]
    exact ⟨rfl, rfl⟩

set_option maxHeartbeats 1000000 in
set_option maxRecDepth 100000 in
theorem takeText_no (A : Option Addr) (n c : Nat) (bs : List UInt8) (at_ : Nat) (w : World) (hn : bs.length = n) (hr : Reads w w.heap.size 1 A n (bv bs)) (hl : n ≤ 140737488351232) (ha : at_ ≤ n) (hf : ¬ (at_ + 2 ≤ n ∧ at_ + 2 + valLE (cut bs at_ 2) ≤ n)) (aF : Addr) (hS : Sent w 0 aF) :
    Calls Tryd.prog 149 #[.slice A n c, .int .i64 at_] w fun e w' => ∃ t v, e = .returned (.tuple #[.string ⟨#[]⟩, .int .i64 0, .iface t v]) ∧ Below w.heap.size w w' := by
  by_cases h2 : at_ + 2 ≤ n
  · have hk : n < at_ + 2 + valLE (cut bs at_ 2) := by omega
    have hlt := valLE_lt (cut bs at_ 2)
    rw [cut_len bs at_ 2 (by omega)] at hlt
    have cF := hS.1
    have HR := Lib.hid hr
    have HN := Lib.hid hn
    generalize hx : valLE (cut bs at_ 2) = x at *
    have HX := Lib.hid hx
    clear hr hn hf hS hx
    go_enter Tryd.func149, Tryd.ntmps149
    go_wp2_with (first | (go_at_call 67; refine (ftake_yes _ n c bs at_ 2 _ HN.out HR.out hl (by omega) (by omega) _ _ rfl rfl).mono ?_; rintro e w' ⟨rfl, rfl⟩; rw [HX.out]) | (go_at_call 61; refine (new_any _ _ _ _).mono ?_; rintro e w' ⟨rfl, rfl⟩))
    go_ret3
    exact ⟨_, _, rfl, (Below.refl _ _).alloc (Nat.le_refl _) _⟩
  · have HS := Lib.hid hS
    clear hr hn hf hS
    go_enter Tryd.func149, Tryd.ntmps149
    go_wp2_with fail
    refine (ftake_no A n c at_ 2 _ hl (by omega) ha (by omega) _ _ rfl rfl aF HS.out).mono ?_
    rintro e w1 ⟨t1, v1, rfl, hb1⟩
    have HB := Lib.hid hb1
    clear hb1
    go_wp2_with fail
    refine (wrap_some _ _ _ _).mono ?_
    rintro e w2 ⟨rfl, rfl⟩
    go_wp2_with fail
    go_ret3
    exact ⟨_, _, rfl, HB.out.alloc HB.out.size _⟩

/-- What text tells. -/
def TextTold (bs : List UInt8) (at_ : Nat) (bad : Bool) (s : List UInt8) (at' : Nat) (bad' : Bool) : Prop :=
  ((ptext bs at_ = some (s, at') ∧ bad' = bad) ∨ (ptext bs at_ = none ∧ bad' = true)) ∧ s.length ≤ 9223372036854775807
def TextPost (w : World) (g : Nat) (A : Option Addr) (n c : Nat) (bs : List UInt8) (at_ : Nat) (bad : Bool) (e : Ending) (w' : World) : Prop :=
  ∃ (s : List UInt8) (at' : Nat) (bad' : Bool), e = .returned (.string ⟨s.toArray⟩) ∧ RdAt w' g A n c bs at' bad' ∧ w.grownBy w' (some g) ∧ TextTold bs at_ bad s at' bad'

set_option maxHeartbeats 1000000 in
set_option maxRecDepth 100000 in
theorem rtext_any (g : Nat) (A : Option Addr) (n c : Nat) (bs : List UInt8) (at_ : Nat) (bad : Bool) (w : World) (h : RdAt w g A n c bs at_ bad) (aF : Addr) (hS : Sent w 0 aF) :
    Calls Tryd.prog 128 #[.pointer (some ⟨g, 0, none⟩)] w (TextPost w g A n c bs at_ bad) := by
  obtain ⟨c1, c2, c3⟩ := h.cells.c3
  have f1 := h.cells.frozen 1
  have f2 := h.cells.frozen 2
  have HR := Lib.hid h
  have hle := h.at_le
  have hfew := h.few
  have hgl := h.cells.lt
  have HS := Lib.hid hS
  by_cases hf : at_ + 2 ≤ n ∧ at_ + 2 + valLE (cut bs at_ 2) ≤ n
  · obtain ⟨b, off, e, _⟩ := h.reads.2 (by omega)
    subst e
    have k1 := Lib.hid (show TextTold bs at_ bad (cut bs (at_ + 2) (valLE (cut bs at_ 2))) (at_ + 2 + valLE (cut bs at_ 2)) bad from ⟨.inl ⟨by rw [ptext, h.len, if_pos hf], rfl⟩, by rw [cut_len _ _ _ (by rw [h.len]; exact hf.2)]; omega⟩)
    have HX := Lib.hid (fun W hr => takeText_yes b off n c bs at_ _ W h.len hr hfew h.cap rfl hf.2)
    generalize cut bs (at_ + 2) (valLE (cut bs at_ 2)) = s at *
    have hle2 := hf.2
    generalize at_ + 2 + valLE (cut bs at_ 2) = a2 at *
    clear h hS hf
    have k2 := Lib.hid (only_setCell (p := ⟨g, 1, none⟩) (World.grownBy.refl w (some g)) (.inl rfl) (.int .i64 (a2 : Int)))
    have k3 := Lib.hid (HR.out.turned k2.out (at' := a2) (bad' := bad) (by simpa using HR.out.cells.put 1 (.int .i64 (a2 : Int))) hle2)
    go_enter Tryd.func128, Tryd.ntmps128
    go_wp2
    go_quiet ((go_at_call 149; exact quiet_left (HX.out _ (HR.out.reads.drewN _))))
    go_wp2
    go_ret
    exact ⟨s, a2, bad, rfl, k3.out.below (below_drewN (Below.refl _ _) _), only_drewN k2.out _, k1.out⟩
  · have k1 := Lib.hid (show TextTold bs at_ bad [] at_ true from ⟨.inr ⟨by rw [ptext, h.len, if_neg hf], rfl⟩, by simp⟩)
    have HF := Lib.hid hf
    clear h hS hf
    go_enter Tryd.func128, Tryd.ntmps128
    go_wp2
    go_region_held3 (fun w' => w'.cell? ⟨g, 0, none⟩ = some (.slice A n c) ∧ w'.cell? ⟨g, 1, none⟩ = some (.int .i64 at_)) (first | (go_keep; done))
      (first | (go_at_call 149; refine (takeText_no A n c bs at_ _ HR.out.len HR.out.reads.drew hfew hle HF.out aF (HS.out.below ((Below.refl _ w).drew))).mono ?_; rintro e w2 ⟨t2, v2, rfl, hb2⟩; have R2 := HR.out.below ((Below.refl _ w).drew.trans hb2); obtain ⟨d1, d2, d3⟩ := R2.cells.c3; have d4 := R2.cells.frozen 2; have HR2 := Lib.hid R2; have HB2 := Lib.hid hb2; clear R2 hb2))
    have k2 := Lib.hid (only_setCell (p := ⟨g, 2, none⟩) (only_below (only_drew (World.grownBy.refl w (some g))) HB2.out) (.inl rfl) (.bool true))
    have k3 := Lib.hid (HR2.out.turned (only_setCell (p := ⟨g, 2, none⟩) (World.grownBy.refl w2 (some g)) (.inl rfl) (.bool true)) (at' := at_) (bad' := true) (by simpa using HR2.out.cells.put 2 (.bool true)) hle)
    go_wp2
    go_ret
    exact ⟨[], at_, true, rfl, k3.out, k2.out, k1.out⟩

/-- What states tells: the states of the number at the place. -/
def StPost (w : World) (g : Nat) (A : Option Addr) (n c : Nat) (bs : List UInt8) (at_ : Nat) (bad : Bool) (e : Ending) (w' : World) : Prop :=
  ∃ (m at' : Nat) (bad' : Bool) (v : Value), e = .returned v ∧ RdAt w' g A n c bs at' bad' ∧ w.grownBy w' (some g) ∧ w'.ownsRow w.heap.size 3 1 v (setOf m).length (iv (setOf m)) ∧ NumTold bs at_ 4 bad m at' bad'

set_option maxHeartbeats 1000000 in
set_option maxRecDepth 100000 in
theorem rstates_any (g : Nat) (A : Option Addr) (n c : Nat) (bs : List UInt8) (at_ : Nat) (bad : Bool) (w : World) (h : RdAt w g A n c bs at_ bad) (aF : Addr) (hS : Sent w 0 aF) (hT : ∀ w', w.grownBy w' (some g) → TabAt w') :
    Calls Tryd.prog 126 #[.pointer (some ⟨g, 0, none⟩)] w (StPost w g A n c bs at_ bad) := by
  have HR := Lib.hid h
  have HS := Lib.hid hS
  have HT := Lib.hid hT
  clear h hS hT
  go_enter Tryd.func126, Tryd.ntmps126
  go_wp2_with fail
  refine (num_any g A n c bs at_ 4 bad _ HR.out (by omega) 4 rfl aF HS.out).mono ?_
  rintro e w1 ⟨m, at', bad', rfl, h1, h2, h3⟩
  have hm : m < 4294967296 := h3.2.1
  have H1 := Lib.hid h1
  have H2 := Lib.hid h2
  have H3 := Lib.hid h3
  have e1 : IntKind.u32.wrap (m : Int) = (m : Int) := IntWalk.u32_in _ (by omega)
  clear h1 h2 h3
  go_wp2_with fail
  refine (list_any m hm _ (HT.out _ H2.out)).mono ?_
  rintro e w2 ⟨v, rfl, ho, hb⟩
  have K1 := Lib.hid (show StPost w g A n c bs at_ bad (.returned v) w2 from ⟨m, at', bad', v, rfl, H1.out.below hb, only_below H2.out hb, own_lower ho H2.out.size, H3.out⟩)
  clear ho hb
  go_wp2_with fail
  go_ret
  exact K1.out
end Go.Proofs.YtbleibmjippmpaaDoor
