/- What the tables' rows' lists of variables give. -/
import Derived.Test.YthffdneigmbgfaaGreatDoorM19
import Derived.Test.YthffdneigmbgfaaGreatDoorM12
set_option linter.unusedSimpArgs false
namespace Go.Proofs.YthffdneigmbgfaaGreatDoor
open Go.RowKit Go.ChangeShapes
theorem Tryz.tabArr : Tryz.prog.underlying 212 = some (.array 32 5) := by kernel_rfl
theorem cellsU8 : Tryz.prog.cellsOf 5 = 1 := by kernel_rfl
theorem tab_of {W : World} {g t : Nat} {cs : Array Value} {fuel : Nat} {p : List MemPlace} (hg : Tryz.prog.globalNamed "math/bits.deBruijn32tab" = some g) (ht : (Tryz.prog.globals[g]?).map (·.type) = some t) (hv : W.var? Tryz.prog "math/bits.deBruijn32tab" = some cs)
    (hd : DataW.trod (fun _ => ()) Tryz.prog W 0 (fun _ => true) false fuel t cs.toList = some (Rows.laid_math_bits_deBruijn32tab, p)) : TabAt W := by
  obtain rfl : 10 = g := Option.some.inj ((show Tryz.prog.globalNamed "math/bits.deBruijn32tab" = some 10 by kernel_rfl).symm.trans hg)
  obtain rfl : 212 = t := Option.some.inj ((show (Tryz.prog.globals[10]?).map (·.type) = some 212 by kernel_rfl).symm.trans ht)
  obtain ⟨xs, m, _, hx, _, hxl, hgx⟩ := DataW.trod_array Tryz.tabArr hd
  simp only [Prod.mk.injEq] at hx
  intro j hj
  have h1 := hgx j hj
  rw [cellsU8, Nat.mul_one] at h1
  have hjx : xs[j]? = some (xs[j]'(by omega)) := List.getElem?_eq_getElem _
  rw [hjx] at h1
  obtain ⟨nn, e1, e2, _⟩ := DataW.trod_int Tryz.underlying5 h1
  have hcell : cs[j]? = some (.int .u8 nn) := by
    have : ((cs.toList.drop j).take 1)[0]? = some (.int .u8 nn) := by rw [e1]; rfl
    rw [List.getElem?_take, if_pos (by omega), List.getElem?_drop, Nat.add_zero] at this
    simpa using this
  have hval : (Rows.laid_math_bits_deBruijn32tab : DataW Unit) = .agg (xs.map (·.1)) := hx.1
  have hlist : (xs.map (·.1))[j]? = (Lib.deBruijn32tab.map fun (k : Nat) => DataW.lit (H := Unit) (.int .u8 (k : Int)))[j]? := by
    have e : (Lib.deBruijn32tab.map fun (k : Nat) => DataW.lit (H := Unit) (.int .u8 (k : Int))) = xs.map (·.1) := by
      have : DataW.agg (Lib.deBruijn32tab.map fun (k : Nat) => DataW.lit (H := Unit) (.int .u8 (k : Int))) = DataW.agg (xs.map (·.1)) := by
        rw [← hval]
        rfl
      injection this
    rw [e]
  rw [List.getElem?_map, hjx, List.getElem?_map] at hlist
  have hdb : Lib.deBruijn32tab[j]? = some (Lib.deBruijn32tab.getD j 0) := by
    have : j < Lib.deBruijn32tab.length := by simpa [Lib.deBruijn32tab] using hj
    simp [List.getD, List.getElem?_eq_getElem this]
  rw [hdb] at hlist
  simp only [Option.map_some, Option.some.injEq, e2] at hlist
  have hn : nn = ((Lib.deBruijn32tab.getD j 0 : Nat) : Int) := by
    have := hlist
    injection this with this
    injection this
  rw [World.var?_cell hg hv j, hcell, hn]
structure TbW (w : World) (a1 a8 : Addr) : Prop where
  s1 : Sent w 2 a1
  s8 : Sent w 7 a8
  tab : TabAt w
def tbAt (a1 a8 : Addr) (g : Nat) : Option AV :=
  if g = 2 then some (sentV a1) else
  if g = 7 then some (sentV a8) else none
def tbEnv (a1 a8 : Addr) : Env := ⟨tbAt a1 a8, fun w => TbW w a1 a8, fun _ _ h hb => ⟨h.s1.below hb, h.s8.below hb, h.tab.below hb⟩⟩
theorem tbEnv_ch (a1 a8 : Addr) : ChEnv (tbEnv a1 a8) a1 a8 := ⟨rfl, rfl⟩
theorem tbEnv_tab (a1 a8 : Addr) : ∀ W, (tbEnv a1 a8).inv W → TabAt W := fun _ h => TbW.tab h
theorem tbEnv_ok {a1 a8 : Addr} {w : World} (h : TbW w a1 a8) : EnvOk (tbEnv a1 a8) (fun b _ => b < w.heap.size) w := by
  refine ⟨h, fun b o hb => hb, fun g c hg => ?_⟩
  have hg : tbAt a1 a8 g = some c := hg
  unfold tbAt at hg
  split at hg
  · rename_i e; subst e; cases hg; exact ⟨_, h.s1.1, rfl, cell_lt h.s1.1, .lit _⟩
  split at hg
  · rename_i e; subst e; cases hg; exact ⟨_, h.s8.1, rfl, cell_lt h.s8.1, .lit _⟩
  cases hg
theorem laid_tab {W : World} (h : laidMetH Tryz.prog [("math/bits.deBruijn32tab", Rows.laid_math_bits_deBruijn32tab), ("scrinium/api.ErrForm", Rows.laid_scrinium_api_ErrForm), ("scrinium/api.ErrLong", Rows.laid_scrinium_api_ErrLong)] W) : ∃ a1 a8, TbW W a1 a8 := by
  rw [MakeChecks.laidMetH_plain _ _ _ (by kernel_rfl)] at h
  obtain ⟨ps, hv, hnd, hrows⟩ := h
  obtain ⟨g0, t0, cs0, f0, p0, q0, hg0, ht0, hv0, hd0, hrest, rfl⟩ := hv
  have hT := tab_of hg0 ht0 hv0 hd0
  obtain ⟨adl, h1, h2, h3⟩ := laid_list (nm := "*errors.errorString") Tryz.underlying55 Tryz.row160 Tryz.underlying226 Tryz.underlying246 rfl rfl Tryz.underlying9 (by kernel_rfl) (by kernel_rfl)
    [("scrinium/api.ErrForm", [102, 111, 114, 109]), ("scrinium/api.ErrLong", [108, 111, 110, 103])] [2, 7] q0 hrest (by kernel_rfl) (by
      intro g hg
      simp at hg
      rcases hg with rfl | rfl <;> kernel_rfl) (fun b off hh => hrows b off (List.mem_append_right _ hh))
  match adl, h1 with
  | [a1, a2], _ => exact ⟨a1, a2, h2 0 _ _ rfl rfl, h2 1 _ _ rfl rfl, hT⟩
theorem con_runT {P : Program} {env : Env} {f : FuncId} {cs : List AV} {u : Value} {w : World} {vs : List Value} (h : Con P env f cs (.lit u)) (hE : EnvOk env (fun b _ => b < w.heap.size) w) (hv : RAs (fun b _ => b < w.heap.size) w vs cs) :
    Calls P f vs.toArray w fun e w' => e = .returned u ∧ Below w.heap.size w w' := (con_call h hE (fun _ _ _ => by simp) hv).mono (by
  rintro e w' ⟨v, rfl, hb, _, hv⟩
  exact ⟨by rw [hv.lit_inv], hb⟩)
theorem str_rv {S : Nat → Nat → Prop} {w : World} (s : ByteArray) : RV S w (.string s) (Sg s.data.toList) := by
  have : (Value.string s) = .string ⟨s.data.toList.toArray⟩ := by simp
  rw [this]
  exact .lit _
end Go.Proofs.YthffdneigmbgfaaGreatDoor
