/- Steps of a walk, each found by itself: F holds the facts at hand. -/
import Derived.Test.YtaonccobohiiiaaDoorTy
import Derived.Test.YtaonccobohiiiaaDoorVD
import Derived.Test.YtaonccobohiiiaaDoorEv
namespace Go.Proofs.YtaonccobohiiiaaDoor
open Go.RowKit
theorem bneA : (∀ a b : Int, (a != b) = !(a == b)) ∧ (∀ a b : Nat, (a != b) = !(a == b)) ∧ (∀ a b : List UInt8, (a != b) = !(a == b)) ∧ (∀ a b : Bool, (a != b) = !(a == b)) := ⟨fun _ _ => rfl, fun _ _ => rfl, fun _ _ => rfl, fun _ _ => rfl⟩
theorem st0 {p q : Prop} (k : q) (h : q → p := by
  intro k
  first
  | refine oO rfl (by simp only [go_sem]; exact ⟨rfl, rfl⟩) ?_
  | refine gR ?_
  | refine gO ?_
  | refine oZ (d_end ?_)
  | refine oZ ?_
  | refine oS ?_
  | refine gT ?_
  | refine gD Tryd.mixed ?_
  | refine oB ?_
  | refine oK ?_
  | (refine oX ?_; simp only [thenA, blockA, ↓reduceIte, Nat.reduceEqDiff, reduceCtorEq])
  | refine oY (by simp only [go_sem]; exact iR) ?_
  | refine oN (by simp only [go_sem]; exact iR) ?_
  exact k) : p := h k
theorem st {p q : Prop} (k : q) (h : q → p := by
  intro k
  first
  | refine oO rfl (by simp only [go_sem, F]; exact ⟨rfl, rfl⟩) ?_
  | refine gR ?_
  | refine gO ?_
  | refine oZ (d_end ?_)
  | refine oZ ?_
  | refine oS ?_
  | refine gT ?_
  | refine gD Tryd.mixed ?_
  | refine oB ?_
  | refine oK ?_
  | (refine oX ?_; simp only [thenA, blockA, ↓reduceIte, Nat.reduceEqDiff, reduceCtorEq])
  | refine oY (by simp only [go_sem, F]; exact iR) ?_
  | refine oN (by simp only [go_sem, F]; exact iR) ?_
  exact k) : p := h k
theorem sg0 {p q : Prop} (k : q) (h : q → p := by
  intro k
  first
  | refine oO rfl (by simp only [go_sem]; exact ⟨rfl, rfl⟩) ?_
  | refine gR ?_
  | refine gO ?_
  | refine oZ (d_end ?_)
  | refine oZ ?_
  | refine oS ?_
  | refine gT ?_
  | refine gD Tryd.mixed ?_
  | refine oB ?_
  | refine oK ?_
  | (refine oX ?_; simp only [thenA, blockA, ↓reduceIte, Nat.reduceEqDiff, reduceCtorEq])
  exact k) : p := h k
theorem sg {p q : Prop} (k : q) (h : q → p := by
  intro k
  first
  | refine oO rfl (by simp only [go_sem, F]; exact ⟨rfl, rfl⟩) ?_
  | refine gR ?_
  | refine gO ?_
  | refine oZ (d_end ?_)
  | refine oZ ?_
  | refine oS ?_
  | refine gT ?_
  | refine gD Tryd.mixed ?_
  | refine oB ?_
  | refine oK ?_
  | (refine oX ?_; simp only [thenA, blockA, ↓reduceIte, Nat.reduceEqDiff, reduceCtorEq])
  exact k) : p := h k
section
variable {P : Program} {env : Env} {nt : Nat} {Q : Exit → St → Prop} {s : St}
theorem cC0 {o : Oper} {f : FuncId} {args : List AV} {rest : List Stp} {s1 : St} {ft : Foot} {cs : List AV} {res : AV} {K : St → List Foot → Prop} (hcon : Con P env f cs res) (k : aops P env rest s1 fun s2 fts => K s2 (ft :: fts)) (hc : callOf env s.f o = some (f, args) := by exact rfl)
    (ha : Takes (fzArgs args) s cs := by simp only [go_sem]; exact iR) (h : Comes' (runL (callRd false o.dst args res) s [] []) s o.dst s1 ft := by simp only [go_sem]; exact ⟨rfl, rfl⟩) : aops P env (⟨o, .always⟩ :: rest) s K := oC hc hcon ha h k
theorem cC {o : Oper} {f : FuncId} {args : List AV} {rest : List Stp} {s1 : St} {ft : Foot} {cs : List AV} {res : AV} {K : St → List Foot → Prop} (hcon : Con P env f cs res) (k : aops P env rest s1 fun s2 fts => K s2 (ft :: fts)) (hc : callOf env s.f o = some (f, args) := by exact rfl)
    (ha : Takes (fzArgs args) s cs := by simp only [go_sem, F]; exact iR) (h : Comes' (runL (callRd false o.dst args res) s [] []) s o.dst s1 ft := by simp only [go_sem, F]; exact ⟨rfl, rfl⟩) : aops P env (⟨o, .always⟩ :: rest) s K := oC hc hcon ha h k
theorem aR0 (h : Q .ret s := by show (resRd _ _ _).run _ = some _; simp only [go_sem]) : awp P env nt .ret Q s := awp_ret h
theorem aR (h : Q .ret s := by show (resRd _ _ _).run _ = some _; simp only [go_sem, F]) : awp P env nt .ret Q s := awp_ret h
end
end Go.Proofs.YtaonccobohiiiaaDoor
