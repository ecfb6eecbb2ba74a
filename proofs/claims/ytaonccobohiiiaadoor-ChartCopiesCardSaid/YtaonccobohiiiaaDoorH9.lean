/- Contracts of what says whether charts are the same: by the walk without memory. -/
import Derived.Test.YtaonccobohiiiaaDoorH2
import Derived.Test.YtaonccobohiiiaaDoorEv
import Derived.Test.YtaonccobohiiiaaDoorSt
import Derived.Test.YtaonccobohiiiaaDoorHS
set_option linter.unusedSimpArgs false
namespace Go.Proofs.YtaonccobohiiiaaDoor
open Go.RowKit
set_option maxRecDepth 100000
set_option maxHeartbeats 8000000

abbrev fnV (g : Nat) : AV := .lit (.func (.func g) #[] #[])

theorem rSameOps_con (env : Env) (a b : List OpD) (hn : a.length ≤ 9223372036854775807) : Con Tryd.prog env 23 [opsAV a, opsAV b] (B (a == b)) := by
  refine con_of_body Tryd.func23 rfl Tryd.call23 (by rw [Tryd.ntmps23]; simp) ?_
  rw [Tryd.ntmps23, Tryd.results23]
  by_cases hl : a.length = b.length
  case neg =>
    have k0 := ibne hl
    rw [unlike_len hl]
    have F := And.intro k0 <| bneA
    repeat refine st ?_
    exact aR
  have k0 : ((a.length : Int) == (b.length : Int)) = true := by rw [hl]; simp
  have F := And.intro k0 <| bneA
  repeat refine st ?_
  refine awp_loopH (D := Nat) (fun i _ => [(0, opsAV a), (1, opsAV b), (5, I i)]) (fun _ _ => []) (fun i _ _ => i ≤ a.length ∧ a.take i = b.take i) (fun i => a.length - i) 0 ?_ ?_ ?_ ?_
  · exact ⟨Nat.zero_le _, rfl⟩
  · (simp only [go_sem, F])
  · (simp only [go_sem, F])
  rintro i ws esc ⟨hi, ht⟩
  by_cases hlt : i < a.length
  · obtain ⟨x, hx, _⟩ := some_at hlt
    obtain ⟨y, hy, _⟩ := some_at (show i < b.length by omega)
    have k1 := nlt hlt
    have k3 := nlt (show i < b.length by omega)
    have k2 := wrap_succ hlt hn
    cases e : (x == y)
    · rw [unlike_at hx hy (by simpa using e)]
      have e2 : (x.kind == y.kind && x.n == y.n) = false := by rw [← op_eq x y]; exact e
      have F := And.intro k1 <| And.intro k2 <| And.intro k3 <| And.intro hx <| And.intro hy <| And.intro opAV.eq_1 <| And.intro e2 <| bneA
      repeat refine st ?_
      exact aR
    · have e2 : (x.kind == y.kind && x.n == y.n) = true := by rw [← op_eq x y]; exact e
      have F := And.intro k1 <| And.intro k2 <| And.intro k3 <| And.intro hx <| And.intro hy <| And.intro opAV.eq_1 <| And.intro e2 <| bneA
      repeat refine st ?_
      refine ⟨i + 1, ⟨hlt, take_same ht hx hy (by simpa using e)⟩, ?_, ?_, ?_⟩
      · (simp only [go_sem, F])
      · (simp only [go_sem, F])
      · omega
  · have k1 : ¬ (i : Int) < (a.length : Int) := by omega
    rw [same_all ht (by omega) (by omega)]
    have F := k1
    repeat refine st ?_
    exact aR

end Go.Proofs.YtaonccobohiiiaaDoor
