/- From a contract without memory to a call in the world; what a record that came in tells of its timers' names. -/
import Derived.Test.YtbnanjcghhfcpaaDoorIS
namespace Go.Proofs.YtbnanjcghhfcpaaDoor
open Go.RowKit

theorem con_run {P : Program} {env : Env} {f : FuncId} {cs : List AV} {u : Value} {w : World} {vs : List Value} (h : Con P env f cs (.lit u)) (hE : EnvOk env (fun b _ => b < w.heap.size) w) (hv : RAs (fun b _ => b < w.heap.size) w vs cs) :
    Calls P f vs.toArray w fun e w' => e = .returned u ∧ Below w.heap.size w w' := by
  obtain ⟨h1, h2⟩ := hv.at_
  refine (h.calls w _ vs hE h1 h2).mono ?_
  rintro e w' ⟨v, rfl, hb, S', _, _, _, hr⟩
  have hr : RV S' w' v (.lit u) := hr
  rw [hr.lit_inv]
  exact ⟨rfl, hb⟩
theorem tms_short {w : World} {B : Nat} {va vv vm vt : Value} {r : Rc} (h : InAt w B va vv vm vt r) : ∀ t ∈ r.timers, t.1.length ≤ 9223372036854775807 := fun t ht => by
  obtain ⟨A, c, xs, _, _, _, _, hrow⟩ := h.tms
  obtain ⟨i, hi, rfl⟩ := List.getElem_of_mem ht
  exact (hrow.2 i hi).2
end Go.Proofs.YtbnanjcghhfcpaaDoor
