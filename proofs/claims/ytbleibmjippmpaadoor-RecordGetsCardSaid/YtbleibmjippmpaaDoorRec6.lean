/- field.PutText, the writer's text. -/
import Derived.Test.YtbleibmjippmpaaDoorRec5
import Derived.Lib.AppendStr
namespace Go.Proofs.YtbleibmjippmpaaDoor
open Go.RowKit

theorem strCells_bv (s : List UInt8) : Lib.strCells ⟨s.toArray⟩ = bv s := by simp [Lib.strCells, bv]

set_option maxHeartbeats 1000000 in
set_option maxRecDepth 100000 in
theorem fputText (A : Option Addr) (l c : Nat) (bs s : List UInt8) (w : World) (hbs : bs.length = l) (hr : Reads w w.heap.size 1 A l (bv bs)) (hl : l ≤ 140737488000000) (hs : s.length ≤ 65535) :
    Calls Tryd.prog 125 #[.slice A l c, .string ⟨s.toArray⟩] w fun e w' => ∃ v, e = .returned (.tuple #[v, .nilIface]) ∧ w'.ownsRow w.heap.size 5 1 v (l + 2 + s.length) (bv (bs ++ (lowB 2 s.length ++ s))) ∧ Below w.heap.size w w' := by
  obtain ⟨i0, hi0, hz0, hz1, hz2⟩ := info_parts Tryd.infoU8
  have HR := Lib.hid hr
  have HN := Lib.hid hbs
  clear hr hbs
  go_enter Tryd.func125, Tryd.ntmps125
  go_wp2_with fail
  refine (fput_len A l c bs s.length 2 _ HN.out HR.out (by omega) (by omega) (by omega) (by omega) 2 rfl).mono ?_
  rintro e w1 ⟨v1, rfl, ho1, hb1⟩
  have HO := Lib.hid ho1
  have HB := Lib.hid hb1
  have hsz : (ByteArray.mk s.toArray).size = s.length := size_list s
  have HS := Lib.hid hsz
  clear ho1 hb1 hsz
  go_wp2_with (at_builtin; refine Lib.wpList_append_own_string _ rfl (.tmp 25) (.tmp 26) _ _ rfl w.heap.size 5 i0 Tryd.underlying24 Tryd.underlying9 hi0 hz0 hz1 hz2 v1 (l + 2) _ rfl HO.out ⟨s.toArray⟩ rfl (by rw [HS.out]; unfold maxLen; omega) (by rw [HS.out]; omega) HB.out.size ?_; intro v2 w2 ho2 hg2 _)
  rw [HS.out, strCells_bv, ← bv_append, List.append_assoc] at ho2
  have hB2 := below_append0 HB.out HB.out.size hg2 HO.out
  have HO2 := Lib.hid ho2
  have HB2 := Lib.hid hB2
  clear ho2 hg2 hB2
  go_wp2_with fail
  go_ret2
  exact ⟨_, rfl, HO2.out, HB2.out⟩

set_option maxHeartbeats 2000000 in
set_option maxRecDepth 100000 in
theorem wtext_any (g : Nat) (bs s : List UInt8) (w : World) (hw : WrAt w g bs) (hbl : bs.length ≤ 100000) (hs : s.length ≤ 65535) :
    Calls Tryd.prog 79 #[.pointer (some ⟨g, 0, none⟩), .string ⟨s.toArray⟩] w fun e w' => e = .returned (.tuple #[]) ∧ WrAt w' g (bs ++ (lowB 2 s.length ++ s)) ∧ w.grownBy w' (some g) := by
  obtain ⟨A, cp, hWh, hcp, hcm, hR, hA⟩ := hw.ex
  obtain ⟨d1, d2⟩ := hWh.c2
  have hWh' := Lib.hid hWh
  have HR := Lib.hid hR
  clear hw hWh hR hA
  go_enter Tryd.func79, Tryd.ntmps79
  go_wp2_with fail
  refine (fputText A bs.length cp bs s _ rfl HR.out (by omega) hs).mono ?_
  rintro e w2 ⟨v2, rfl, ho2, hb2⟩
  obtain ⟨A2, cp2, rfl, _⟩ := own_slice ho2
  have hWb := hWh'.out.below hb2 hWh'.out.lt
  obtain ⟨x1, x2⟩ := hWb.c2
  have x3 := hWb.frozen 0
  have x4 := hWb.frozen 1
  have KN := Lib.hid (wr_next hWh'.out ho2 (by simp [lowB_len]; omega) (own_max ho2) hb2 (World.grownBy.refl w (some g)) (Below.refl _ w))
  clear hWb ho2 hb2
  go_wp2_with fail
  go_end0
  exact ⟨rfl, KN.out⟩
end Go.Proofs.YtbleibmjippmpaaDoor
