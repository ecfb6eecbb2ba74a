/- From a contract without memory to a call in the world; a due as a value. -/
import Derived.Test.YthepkabfiooabaaDoorTF
namespace Go.Proofs.YthepkabfiooabaaDoor
open Go.RowKit

theorem con_run' {P : Program} {env : Env} {f : FuncId} {cs : List AV} {u : Value} {w : World} {vs : List Value} (h : Con P env f cs (.lit u)) (hE : EnvOk env (fun b _ => b < w.heap.size) w) (hv : RAs (fun b _ => b < w.heap.size) w vs cs) :
    Calls P f vs.toArray w fun e w' => e = .returned u ∧ Below w.heap.size w w' := by
  obtain ⟨h1, h2⟩ := hv.at_
  refine (h.calls w _ vs hE h1 h2).mono ?_
  rintro e w' ⟨v, rfl, hb, S', _, _, _, hr⟩
  have hr : RV S' w' v (.lit u) := hr
  rw [hr.lit_inv]
  exact ⟨rfl, hb⟩
theorem due_rv {S : Nat → Nat → Prop} {w : World} (a i : Int) (s : ByteArray) : RV S w (.agg #[.int .i64 a, .int .i64 i, .string s]) (.agg (dueC ⟨a, i, s.data.toList⟩)) := by
  refine .agg [.int .i64 a, .int .i64 i, .string s] _ rfl (by simp [Value.oneCell']) fun j v c h1 h2 => ?_
  match j, h1, h2 with
  | 0, h1, h2 => cases h1; cases h2; exact .lit _
  | 1, h1, h2 => cases h1; cases h2; exact .lit _
  | 2, h1, h2 => cases h1; cases h2; exact .lit _
end Go.Proofs.YthepkabfiooabaaDoor
