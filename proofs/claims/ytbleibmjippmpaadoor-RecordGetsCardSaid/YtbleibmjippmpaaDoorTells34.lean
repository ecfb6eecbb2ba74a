/- tells of the law's package. -/
import Derived.Test.YtbleibmjippmpaaDoorErr
namespace Go.Proofs.YtbleibmjippmpaaDoor
open Go.RowKit

theorem tells34_nil (w : World) : Calls Tryd.prog 37 #[.nilIface, .int .i64 0] w fun e w' => e = .returned (.bool true) ∧ w = w' := by
  go_enter Tryd.func37, Tryd.ntmps37
  go_wp2_with (go_at_call 66; refine (code_nil _).mono ?_; rintro e w' ⟨rfl, rfl⟩)
  go_ret
  exact ⟨rfl, rfl⟩

theorem tells34_err {w : World} {ad : Nat → Addr} (h : Sents w ad) (k : Nat) (hk : 1 ≤ k ∧ k ≤ 9) (n : Nat) (E : Value) (hE : ErrAt w (ad k) n E) (c : Int) (hc : c = k) :
    Calls Tryd.prog 37 #[E, .int .i64 c] w fun e w' => e = .returned (.bool true) ∧ w = w' := by
  subst hc
  have h0 : ((k : Int) == 0) = false := by rw [beq_eq_false_iff_ne]; omega
  obtain ⟨t, v, rfl⟩ := hE.form
  have HE := Lib.hid hE
  clear hE
  go_enter Tryd.func37, Tryd.ntmps37
  go_wp2_with (go_at_call 66; refine (code_any h k hk n _ HE.out).mono ?_; rintro e w' ⟨rfl, rfl⟩)
  go_ret
  exact ⟨rfl, rfl⟩
end Go.Proofs.YtbleibmjippmpaaDoor
