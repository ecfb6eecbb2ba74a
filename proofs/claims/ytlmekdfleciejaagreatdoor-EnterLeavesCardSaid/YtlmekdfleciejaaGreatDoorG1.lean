/- The document's words on trees and tables. -/
import Derived.Test.YtlmekdfleciejaaGreatDoorM4
import Derived.Test.YtlmekdfleciejaaGreatDoorM5
import Derived.Test.YtlmekdfleciejaaGreatDoorM7
import Derived.Test.YtlmekdfleciejaaGreatDoorM12
import Derived.Test.YtlmekdfleciejaaGreatDoorM13
import Derived.Test.YtlmekdfleciejaaGreatDoorM16
import Derived.Test.YtlmekdfleciejaaGreatDoorM30
import Derived.Test.YtlmekdfleciejaaGreatDoorM31
import Derived.Test.YtlmekdfleciejaaGreatDoorM8
import Derived.Test.YtlmekdfleciejaaGreatDoorM38
namespace Go.Proofs.YtlmekdfleciejaaGreatDoor
open Go.RowKit
section
variable {P : Program} {x : Ctx} {s : St} {a : Act} {w : World} {m : Mem} {o : Oper} {out : Out}
end
/-! Results that lean on no memory -/
end Go.Proofs.YtlmekdfleciejaaGreatDoor
namespace Go.Proofs.YtlmekdfleciejaaGreatDoor
open Go.RowKit
/-! Where code is walked: in a function's frame, or in a round of a range over a function -/
section
variable {P : Program} {ro : Option Nat}
end
section
variable {P : Program} {x : Ctx} {s s' : St} {a : Act} {w : World} {m : Mem} {o : Oper} {ops : Array Oper} {Q : Exit → Act → World → Prop} {ro : Option Nat}
end
/-! Operations change places -/
end Go.Proofs.YtlmekdfleciejaaGreatDoor
namespace Go.Proofs.YtlmekdfleciejaaGreatDoor
open Go.RowKit
section
variable {P : Program} {env : Env} {ops : Array Oper} {F : Nat → Foot}
/-! Which operations are ahead of which -/
end
/-! The region's laws -/
section
variable {P : Program} {x : Ctx} {ops : Array Oper} {Q : Exit → Act → World → Prop} {s s' : St} {a : Act} {w : World} {m : Mem}
end
end Go.Proofs.YtlmekdfleciejaaGreatDoor
namespace Go.Proofs.YtlmekdfleciejaaGreatDoor
open Go.RowKit
section
variable {P : Program} {env : Env} {nt : Nat} {Q : Exit → St → Prop} {s : St}
theorem awp_label {l : Nat} (h : Q .normal s) : awp P env nt (.label l) Q s := fun _ _ _ _ _ _ m hS => wpIn_label ⟨s, m, h, hS⟩
end
/-! Regions -/
section
variable {P : Program} {env : Env} {nt : Nat} {Q : Exit → St → Prop} {s : St} {ops : Array Oper}
/-! One operation -/
end
/-! A function -/
section
variable {P : Program} {x : Ctx} {s : St} {a : Act} {w : World} {m : Mem}
end
end Go.Proofs.YtlmekdfleciejaaGreatDoor
namespace Go.Proofs.YtlmekdfleciejaaGreatDoor
open Go.RowKit
section
variable {P : Program} {env : Env} {f : Nat → AV} {d : Option Nat} {ty : TypeId} {ps : String} {af : Array Edge} {g : Option (Nat × Bool)}
end
section
variable {P : Program} {env : Env} {s : St}
end
end Go.Proofs.YtlmekdfleciejaaGreatDoor
namespace Go.Proofs.YtlmekdfleciejaaGreatDoor
open Go.RowKit
section
variable {P : Program} {env : Env} {nt : Nat} {Q : Exit → St → Prop} {s : St}
end
section
variable {P : Program} {env : Env} {nt : Nat} {Q : Exit → St → Prop} {s : St}
end
end Go.Proofs.YtlmekdfleciejaaGreatDoor
namespace Go.Proofs.YtlmekdfleciejaaGreatDoor
open Go.RowKit
section
variable {P : Program} {env : Env} {s : St}
theorem callOf_clo {env : Env} {o : Oper} {f : Nat → AV} {t g : Nat} {aa : Array Operand} {ts : Array TypeId} {cs : List AV} (ho : o.op = .call { callee := .value (.tmp t), args := aa, argTypes := ts }) (hf : Is (f t) (.clo g cs)) : callOf env f o = some (g, aa.toList.map (gt env f) ++ cs) := by
  unfold callOf
  rw [ho]
  simp only
  rw [show f t = .clo g cs from hf]
end
section
variable {P : Program} {env : Env} {nt : Nat} {Q : Exit → St → Prop} {s : St}
end
end Go.Proofs.YtlmekdfleciejaaGreatDoor
namespace Go.Proofs.YtlmekdfleciejaaGreatDoor
open Go.RowKit
section
variable {P : Program} {env : Env} {f : FuncId} {cs cs' : List AV} {res res' : AV}
end
section
variable {P : Program} {env : Env} {nt : Nat} {s : St}
end
/-! The rules that ask what evaluation shows. -/
section
variable {P : Program} {env : Env} {nt : Nat} {Q : Exit → St → Prop} {s : St}
end
end Go.Proofs.YtlmekdfleciejaaGreatDoor
namespace Go.Proofs.YtlmekdfleciejaaGreatDoor
open Go.RowKit
abbrev U (n : Int) : AV := .lit (.int .u64 n)
end Go.Proofs.YtlmekdfleciejaaGreatDoor
namespace Go.Proofs.YtlmekdfleciejaaGreatDoor
open Go.RowKit
end Go.Proofs.YtlmekdfleciejaaGreatDoor
namespace Go.Proofs.YtlmekdfleciejaaGreatDoor
open Go.RowKit
section
variable (toR toK : Nat → Option Nat)
end
section
variable {toR toK : Nat → Option Nat} {x : Ctx} {s : St} {a : Act} {w : World} {m : Mem}
end
end Go.Proofs.YtlmekdfleciejaaGreatDoor
namespace Go.Proofs.YtlmekdfleciejaaGreatDoor
open Go.RowKit
/-! Contracts of bodies that are handed rows -/
section
variable {P : Program} {x : Ctx} {s : St} {a : Act} {w : World} {m : Mem}
end
/-! As scripts use it -/
theorem retI_of {P : Program} {rs : List ResultVar} {ids : List Nat} {grown : Nat → Bool} {vs0 : Nat → Nat} {post : (Nat → Nat) → List (Nat × Row)} {res : (Nat → Nat) → AV} {s : St} (h1 : HoldI s vs0 grown (post s.vs) ids) (h2 : resI P s rs (res s.vs)) : retI P rs ids grown vs0 post res .ret s := ⟨holdI_at h1, h2⟩
instance : Inhabited Row := ⟨⟨1, [], 0, true⟩⟩
section
variable {P : Program} {env : Env} {s : St}
end
section
variable {P : Program} {env : Env} {f : Nat → AV} {d : Option Nat} {ty : TypeId} {ps : String} {af : Array Edge} {g : Option (Nat × Bool)}
end
end Go.Proofs.YtlmekdfleciejaaGreatDoor
namespace Go.Proofs.YtlmekdfleciejaaGreatDoor
open Go.RowKit
theorem kid_is {c : ChD} {i : Int} {k : Nat} (h : k ∈ kidsL c i true) : ∃ s, c.states[k]? = some s ∧ s.parent = i ∧ memyB s = false ∧ k < c.states.length := by
  obtain ⟨h1, h2⟩ := kidsTo_lt h
  obtain ⟨s, hs, _⟩ := some_at h1
  unfold isKid at h2
  rw [hs] at h2
  simp at h2
  exact ⟨s, hs, h2.1, h2.2, h1⟩
theorem kid_of {c : ChD} {i : Int} {k : Nat} {s : StD} (hs : c.states[k]? = some s) (hp : s.parent = i) (hm : memyB s = false) : k ∈ kidsL c i true := by
  have hk : k < c.states.length := (List.getElem?_eq_some_iff.1 hs).1
  unfold kidsL kidsTo
  rw [List.mem_filter]
  refine ⟨by simpa using hk, ?_⟩
  unfold isKid
  rw [hs]
  simp [hp, hm]
end Go.Proofs.YtlmekdfleciejaaGreatDoor
namespace Go.Proofs
open Go.Shelf
def Tryz.sortI_ren : Go.Shelf.Ren := ⟨fun | 189 => 107 | 125 => 166 | 257 => 165 | 128 => 209 | 129 => 210 | 294 => 200 | 295 => 201 | 296 => 202 | 297 => 203 | 298 => 204 | 299 => 205 | 216 => 206 | 300 => 207 | 301 => 208 | 328 => 235 | 329 => 236 | 330 => 237 | 331 => 238 | 332 => 239 | 215 => 240 | 343 => 249 | n => n, fun | 28 => 35 | 3 => 3 | 46 => 159 | 0 => 0 | 51 => 126 | 53 => 233 | 4 => 4 | 183 => 227 | 182 => 226 | 131 => 80 | 5 => 5 | 9 => 9 | 218 => 248 | 222 => 252 | 228 => 257 | 229 => 54 | n => n, fun | n => n⟩
theorem Tryz.sortI : Go.Proofs.Lays.n189 Tryz.prog Tryz.sortI_ren := {
  mixed := by kernel_rfl
  f125 := Tryz.func166.trans (congrArg some (by kernel_rfl))
  f128 := Tryz.func209.trans (congrArg some (by kernel_rfl))
  f129 := Tryz.func210.trans (congrArg some (by kernel_rfl))
  f189 := Tryz.func107.trans (congrArg some (by kernel_rfl))
  f215 := Tryz.func240.trans (congrArg some (by kernel_rfl))
  f216 := Tryz.func206.trans (congrArg some (by kernel_rfl))
  f257 := Tryz.func165.trans (congrArg some (by kernel_rfl))
  f294 := Tryz.func200.trans (congrArg some (by kernel_rfl))
  f295 := Tryz.func201.trans (congrArg some (by kernel_rfl))
  f296 := Tryz.func202.trans (congrArg some (by kernel_rfl))
  f297 := Tryz.func203.trans (congrArg some (by kernel_rfl))
  f298 := Tryz.func204.trans (congrArg some (by kernel_rfl))
  f299 := Tryz.func205.trans (congrArg some (by kernel_rfl))
  f300 := Tryz.func207.trans (congrArg some (by kernel_rfl))
  f301 := Tryz.func208.trans (congrArg some (by kernel_rfl))
  f328 := Tryz.func235.trans (congrArg some (by kernel_rfl))
  f329 := Tryz.func236.trans (congrArg some (by kernel_rfl))
  f330 := Tryz.func237.trans (congrArg some (by kernel_rfl))
  f331 := Tryz.func238.trans (congrArg some (by kernel_rfl))
  f332 := Tryz.func239.trans (congrArg some (by kernel_rfl))
  f343 := Tryz.func249.trans (congrArg some (by kernel_rfl))
  t0 := Tryz.underlying0
  a0 := Tryz.isAgg0
  z0 := Tryz.sizeOf0
  v0 := Tryz.zeroValue0
  t3 := Tryz.underlying3
  a3 := Tryz.isAgg3
  z3 := Tryz.sizeOf3
  v3 := Tryz.zeroValue3
  t4 := Tryz.underlying4
  a4 := Tryz.isAgg4
  z4 := Tryz.sizeOf4
  v4 := Tryz.zeroValue4
  t5 := Tryz.underlying5
  a5 := Tryz.isAgg5
  z5 := Tryz.sizeOf5
  v5 := Tryz.zeroValue5
  t9 := Tryz.underlying9
  a9 := Tryz.isAgg9
  z9 := Tryz.sizeOf9
  v9 := Tryz.zeroValue9
  t28 := Tryz.underlying35
  a28 := Tryz.isAgg35
  z28 := Tryz.sizeOf35
  v28 := Tryz.zeroValue35
  t46 := Tryz.underlying159
  a46 := Tryz.isAgg159
  z46 := Tryz.sizeOf159
  v46 := Tryz.zeroValue159
  t51 := Tryz.underlying126
  a51 := Tryz.isAgg126
  z51 := Tryz.sizeOf126
  v51 := Tryz.zeroValue126
  t53 := Tryz.underlying233
  a53 := Tryz.isAgg233
  z53 := Tryz.sizeOf233
  v53 := Tryz.zeroValue233
  t131 := Tryz.underlying80
  a131 := Tryz.isAgg80
  z131 := Tryz.sizeOf80
  v131 := Tryz.zeroValue80
  t182 := Tryz.underlying226
  a182 := Tryz.isAgg226
  z182 := Tryz.sizeOf226
  v182 := Tryz.zeroValue226
  t183 := Tryz.underlying227
  a183 := Tryz.isAgg227
  z183 := Tryz.sizeOf227
  v183 := Tryz.zeroValue227
  t218 := Tryz.underlying248
  a218 := Tryz.isAgg248
  z218 := Tryz.sizeOf248
  v218 := Tryz.zeroValue248
  t222 := Tryz.underlying252
  a222 := Tryz.isAgg252
  z222 := Tryz.sizeOf252
  v222 := Tryz.zeroValue252
  t228 := Tryz.underlying257
  a228 := Tryz.isAgg257
  z228 := Tryz.sizeOf257
  v228 := Tryz.zeroValue257
  t229 := Tryz.underlying54
  a229 := Tryz.isAgg54
  z229 := Tryz.sizeOf54
  v229 := Tryz.zeroValue54 }
end Go.Proofs
namespace Go.Proofs.YtlmekdfleciejaaGreatDoor
open Go.RowKit
/-! The way up -/
theorem up_len {c : ChD} : ∀ (f : Nat) (i : Int), (upF c f i).length ≤ f
  | 0, i => by simp [upF]
  | f + 1, i => by
    unfold upF
    split
    · have := up_len (c := c) f (parZ c i); simp; omega
    · simp
/-! What is above a state, as bits -/
/-! The walk -/
/-! Sorting by the walk -/
end Go.Proofs.YtlmekdfleciejaaGreatDoor
set_option linter.unusedSimpArgs false
namespace Go.Proofs.YtlmekdfleciejaaGreatDoor
open Go.RowKit
set_option maxRecDepth 100000
set_option maxHeartbeats 4000000
theorem tup_con (env : Env) (c : ChD) (hc : Right c) (i : Int) : Con Tryz.prog env 128 [treeAV c, I i] (.own 3 1 ((upL c i).map fun k => [I k])) := by
  have hlen := hc.few
  refine con_of_body Tryz.func128 rfl Tryz.call128 (by rw [Tryz.ntmps128]; simp) ?_
  rw [Tryz.ntmps128, Tryz.results128]
  repeat refine st0 ?_
  refine awp_nilrow 5 5 3 1 ?_
  have hul : (upL c i).length ≤ 40 := up_len 40 i
  refine awp_loopH (D := Int × List Int) (fun d vs => [(0, treeAV c), (1, I d.1), (5, .row 5 (vs 5))]) (fun d _ => [(5, ⟨1, d.2.map fun k => [I k], 3, true⟩)]) (fun d _ esc => upL c i = d.2 ++ upL c d.1 ∧ esc 5 = false) (fun d => (d.1 + 1).toNat) (i, []) ?_ ?_ ?_ ?_
  · exact ⟨rfl, rfl⟩
  · (simp only [go_sem])
  · (simp only [go_sem])
  rintro ⟨d, l⟩ ws esc ⟨hu, e0⟩
  simp only at hu
  have f0 := tis_con env c d
  cases hz : inZ c d with
  | false =>
    rw [up_out hz, List.append_nil] at hu
    rw [hz] at f0
    have F := And.intro hu <| e0
    repeat (first | refine st ?_ | refine cC f0 ?_)
    exact aR
  | true =>
    obtain ⟨k, s, rfl, hs, ha⟩ := at_in hz
    have hp := par_nat hs
    have hlt := par_lt hc hz
    rw [hp] at hlt
    rw [up_cons hc hz, hp] at hu
    rw [hz] at f0
    have hl : l.length + 1 ≤ 40 := by
      have := congrArg List.length hu
      rw [List.length_append, List.length_cons] at this
      omega
    have g1 : ((k : Nat) : Int) < (c.states.length : Int) := by have := (inZ_iff.1 hz).2; omega
    have hf : Fits (l.length + 1) 8 := ⟨by omega, by omega⟩
    have F := And.intro treeAV.eq_1 <| And.intro g1 <| And.intro hs <| And.intro hf <| e0
    repeat (first | refine st ?_ | refine cC f0 ?_)
    refine ⟨(s.parent, l ++ [s.parent]), ⟨?_, ?_⟩, ?_, ?_, ?_⟩
    · show upL c i = (l ++ [s.parent]) ++ upL c s.parent
      rw [hu, List.append_assoc]
      rfl
    · show _ = false
      simp only [go_sem, e0]
    · have F := treeAV.eq_1
      (simp only [go_sem, F])
    · have F := treeAV.eq_1
      (simp only [go_sem, List.map_append, F])
    · show (s.parent + 1).toNat < ((k : Int) + 1).toNat
      omega
end Go.Proofs.YtlmekdfleciejaaGreatDoor
namespace Go.Proofs.YtlmekdfleciejaaGreatDoor
open Go.RowKit
def manyI (act : List Int) (kids : List Nat) : Nat := (kids.filter fun k : Nat => act.contains (k : Int)).length
theorem many_le (act : List Int) (kids : List Nat) : manyI act kids ≤ kids.length := List.length_filter_le ..
def fitB (c : ChD) (act : List Int) (i : Nat) (s : StD) : Bool :=
  !memyB s && (decide (s.parent < 0) || act.contains s.parent) &&
    (if s.kind = 1 ∧ kidsL c i true ≠ [] then manyI act (kidsL c i true) == 1 else if s.kind = 2 then manyI act (kidsL c i true) == (kidsL c i true).length else true)
def fitI (c : ChD) (act : List Int) (i : Int) : Bool := match at_ c i with
  | some s => fitB c act i.toNat s
  | none => false
def lgAt (c : ChD) (act : List Int) (n : Nat) : Bool := match act[n]? with
  | some i => (n == 0 || decide (act.getD (n - 1) 0 < i)) && fitI c act i
  | none => true
def lgChk (c : ChD) (act : List Int) : Int × Int := match firstBad (lgAt c act) act.length with
  | some n => (1, max (act.getD n 0) (-1))
  | none => if manyI act (kidsL c (-1) true) = 1 then (0, -1) else (1, -1)
def lgB (c : ChD) (act : List Int) : Bool := (lgChk c act).1 == 0
theorem lg_iff {c : ChD} {act : List Int} : lgB c act = true ↔ (∀ n, n < act.length → lgAt c act n = true) ∧ manyI act (kidsL c (-1) true) = 1 := by
  unfold lgB lgChk
  cases h : firstBad (lgAt c act) act.length with
  | some n =>
    refine ⟨fun e => by simp at e, fun e => ?_⟩
    rw [firstBad_none e.1] at h
    cases h
  | none =>
    simp only
    split
    · rename_i e
      exact ⟨fun _ => ⟨fun n hn => firstBad_all h n hn, e⟩, fun _ => rfl⟩
    · rename_i e
      exact ⟨fun e2 => by simp at e2, fun e2 => absurd e2.2 e⟩
theorem lg_code {c : ChD} {act : List Int} : (lgChk c act).1 = if lgB c act then 0 else 1 := by
  unfold lgB lgChk
  cases firstBad (lgAt c act) act.length with
  | some n => rfl
  | none => simp only; split <;> rfl
/-! What is active at first -/
/-! What begins is few -/
end Go.Proofs.YtlmekdfleciejaaGreatDoor
set_option linter.unusedSimpArgs false
namespace Go.Proofs.YtlmekdfleciejaaGreatDoor
open Go.RowKit
set_option maxRecDepth 100000
set_option maxHeartbeats 4000000
theorem sameInts_con (env : Env) (l m : List Nat) (hl : l.length ≤ 1000000) : Con Tryz.prog env 21 [.seq 1 (l.map natAV), .seq 1 (m.map natAV)] (B (decide (l = m))) := by
  by_cases h0 : l.length = m.length
  · refine con_of_body Tryz.func21 rfl Tryz.call21 (by rw [Tryz.ntmps21]; simp) ?_
    rw [Tryz.ntmps21, Tryz.results21]
    have g0 : ((l.length : Int) != (m.length : Int)) = false := by simp [h0]
    have F := g0
    repeat refine st ?_
    refine awp_loopH (D := Nat) (fun j _ => [(0, .seq 1 (l.map natAV)), (1, .seq 1 (m.map natAV)), (4, B false), (5, I j)]) (fun _ _ => []) (fun j _ _ => j ≤ l.length ∧ l.take j = m.take j) (fun j => l.length - j) 0 ?_ ?_ ?_ ?_
    · exact ⟨Nat.zero_le _, rfl⟩
    · (simp only [go_sem, F])
    · (simp only [go_sem, F])
    rintro j ws esc ⟨hj, ht⟩
    by_cases hlt : j < l.length
    · have hlt2 : j < m.length := by omega
      obtain ⟨a, ha⟩ : ∃ a, l[j]? = some a := ⟨l[j], List.getElem?_eq_getElem hlt⟩
      obtain ⟨b, hb⟩ : ∃ b, m[j]? = some b := ⟨m[j], List.getElem?_eq_getElem hlt2⟩
      have g1 := nlt hlt
      have g4 := nlt hlt2
      have g2 := wrap_succ hlt (by omega)
      by_cases e : a = b
      · have g3 : ((a : Int) != (b : Int)) = false := by simp [e]
        have F := And.intro g1 <| And.intro g2 <| And.intro g4 <| And.intro ha <| And.intro hb <| And.intro natAV.eq_1 <| g3
        repeat refine st ?_
        refine ⟨j + 1, ⟨hlt, ?_⟩, ?_, ?_, by omega⟩
        · rw [List.take_add_one, List.take_add_one, ht, ha, hb, e]
        · (simp only [go_sem, F])
        · (simp only [go_sem, F])
      · have g3 : ((a : Int) != (b : Int)) = true := by simp; omega
        have hr : decide (l = m) = false := decide_eq_false fun e2 => e (by rw [e2] at ha; exact Option.some.inj (ha.symm.trans hb))
        rw [hr]
        have F := And.intro g1 <| And.intro g2 <| And.intro g4 <| And.intro ha <| And.intro hb <| And.intro natAV.eq_1 <| g3
        repeat refine st ?_
        exact aR
    · obtain rfl : j = l.length := by omega
      have g1 : ¬ (l.length : Int) < (l.length : Int) := by omega
      have hr : decide (l = m) = true := decide_eq_true (by rwa [List.take_length, List.take_of_length_le (by omega)] at ht)
      rw [hr]
      have F := g1
      repeat refine st ?_
      exact aR
  · have g0 : ((l.length : Int) != (m.length : Int)) = true := by simp; omega
    have hr : decide (l = m) = false := decide_eq_false fun e => h0 (by rw [e])
    rw [hr]
    refine con_of_body Tryz.func21 rfl Tryz.call21 (by rw [Tryz.ntmps21]; simp) ?_
    rw [Tryz.ntmps21, Tryz.results21]
    have F := g0
    repeat refine st ?_
    exact aR
theorem rIs_con (env : Env) (c : ChD) (i : Int) : Con Tryz.prog env 49 [.agg (chAV c), I i] (B (inZ c i)) := by
  unfold inZ
  by_cases h0 : 0 ≤ i
  · by_cases h1 : i < (c.states.length : Int)
    · refine con_of_body Tryz.func49 rfl Tryz.call49 (by rw [Tryz.ntmps49]; simp) ?_
      rw [Tryz.ntmps49, Tryz.results49]
      have F := And.intro chAV.eq_1 <| And.intro h0 <| h1
      repeat refine st ?_
      exact aR
    · refine con_of_body Tryz.func49 rfl Tryz.call49 (by rw [Tryz.ntmps49]; simp) ?_
      rw [Tryz.ntmps49, Tryz.results49]
      have F := And.intro chAV.eq_1 <| And.intro h0 <| h1
      repeat refine st ?_
      exact aR
  · refine con_of_body Tryz.func49 rfl Tryz.call49 (by rw [Tryz.ntmps49]; simp) ?_
    rw [Tryz.ntmps49, Tryz.results49]
    have F := And.intro chAV.eq_1 <| h0
    repeat refine st ?_
    exact aR
theorem kids_few {c : ChD} (h : Right c) (i : Int) (real : Bool) : (kidsL c i real).length ≤ 32 := by
  have h1 := kidsTo_len c i real c.states.length
  have h2 := h.few
  have h1 : (kidsL c i real).length ≤ c.states.length := h1
  omega
theorem walk_few {c : ChD} (h : Right c) {i : Int} (hi : -1 ≤ i) : (walkL c i).length ≤ 32 := by
  have hf := h.few
  have := (walk_nodup h 40 i hi (by omega)).length_le_of_subset (l₂ := List.range c.states.length) fun m hm => List.mem_range.2 ((walk_mem h 40 i m hi (by omega)).1 hm).1
  simp at this
  omega
theorem flat_pre {α β : Type} (f : α → List β) (K : List α) (j : Nat) : ((K.take j).flatMap f).length ≤ (K.flatMap f).length := by
  have e : (K.take j).flatMap f ++ (K.drop j).flatMap f = K.flatMap f := by rw [← List.flatMap_append, List.take_append_drop]
  have := congrArg List.length e
  simp only [List.length_append] at this
  omega
theorem flat_succ {α β : Type} (f : α → List β) {K : List α} {j : Nat} {k : α} (hk : K[j]? = some k) : (K.take (j + 1)).flatMap f = (K.take j).flatMap f ++ f k := by rw [List.take_add_one, hk, List.flatMap_append]; simp
theorem rWalk_con (env : Env) (c : ChD) (h : Right c) : ∀ (n : Nat) (i : Int), -1 ≤ i → (c.states.length : Int) ≤ i + n → Con Tryz.prog env 127 [.agg (chAV c), I i] (.own 3 1 ((walkL c i).map natAV))
  | n, i, hi, hn => by
    have hlen := h.few
    have f0 := rKids_con env c i false (by omega)
    have hw := walk_eq h hi
    have hwl := walk_few h hi
    have hKl := kids_few h i false
    have hKm : ∀ k ∈ kidsL c i false, i < (k : Int) ∧ k < c.states.length := fun k hk => kid_gt h hk
    generalize kidsL c i false = K at *
    rw [hw] at hwl
    refine con_of_body Tryz.func127 rfl Tryz.call127 (by rw [Tryz.ntmps127]; simp) ?_
    rw [Tryz.ntmps127, Tryz.results127]
    have F := chAV.eq_1
    repeat (first | refine st ?_ | refine cC f0 ?_)
    refine awp_loopH (D := Nat) (fun j vs => [(2, .loc 2 (vs 2) 0 0), (5, .row 8 (vs 8)), (6, .row 11 (vs 11)), (7, I j)]) (fun j _ => [(2, ⟨5, [chAV c], 26, false⟩), (8, ⟨1, ((K.take j).flatMap fun k => k :: walkL c k).map natAV, 3, true⟩), (11, ⟨1, K.map natAV, 3, true⟩)]) (fun j _ esc => j ≤ K.length ∧ esc 8 = false) (fun j => K.length - j) 0 ?_ ?_ ?_ ?_
    · exact ⟨Nat.zero_le _, rfl⟩
    · (simp only [go_sem, F])
    · have F := chAV.eq_1
      (simp only [go_sem, F])
      try rfl
    rintro j ws esc ⟨hj, e0⟩
    by_cases hlt : j < K.length
    · obtain ⟨k, hk⟩ : ∃ k, K[j]? = some k := ⟨K[j], List.getElem?_eq_getElem hlt⟩
      have hkm := hKm k (List.mem_of_getElem? hk)
      have q1 := nlt hlt
      have q2 := wrap_succ hlt (by omega)
      match n, hn with
      | 0, hn => omega
      | n + 1, hn =>
      have f1 := rWalk_con env c h n k (by omega) (by omega)
      have hp := flat_pre (fun k => k :: walkL c k) K (j + 1)
      have hsu := flat_succ (fun k => k :: walkL c k) hk
      rw [hsu] at hp
      simp only [List.length_append, List.length_cons] at hp
      generalize hA : (K.take j).flatMap (fun k => k :: walkL c k) = A at *
      have hf1 : Fits (A.length + 1) 8 := fits_small (by omega) (by omega)
      have hf2 : Fits (A.length + 1 + (walkL c k).length) 8 := fits_small (by omega) (by omega)
      have F := And.intro chAV.eq_1 <| And.intro natAV.eq_1 <| And.intro hk <| And.intro q1 <| And.intro q2 <| And.intro hf1 <| And.intro hf2 <| e0
      repeat (first | refine st ?_ | refine cC f1 ?_)
      refine ⟨j + 1, ⟨hlt, by simp only [go_sem, e0]⟩, ?_, ?_, by omega⟩
      · (simp only [go_sem, F])
      · have F := And.intro chAV.eq_1 <| And.intro natAV.eq_1 <| hsu
        (simp only [go_sem, List.map_append, List.append_assoc, F])
    · obtain rfl : j = K.length := by omega
      have q1 : ¬ (K.length : Int) < (K.length : Int) := by omega
      have hta : K.take K.length = K := List.take_length
      rw [hw]
      have F := And.intro natAV.eq_1 <| And.intro q1 <| And.intro hta <| e0
      repeat refine st ?_
      exact aR
termination_by n => n
def inTo (l W : List Nat) (j : Nat) : List Nat := (W.take j).filter fun k : Nat => inL l (k : Int)
theorem inTo_succ {l W : List Nat} {j k : Nat} (h : W[j]? = some k) : inTo l W (j + 1) = if inL l (k : Int) then inTo l W j ++ [k] else inTo l W j := by
  unfold inTo
  rw [List.take_add_one, h, List.filter_append]
  cases hb : inL l (k : Int) <;> simp [hb]
theorem inTo_len (l W : List Nat) (j : Nat) : (inTo l W j).length ≤ W.length := by
  unfold inTo
  exact Nat.le_trans (List.length_filter_le ..) (by rw [List.length_take]; omega)
theorem inL_z (l : List Nat) (n : Int) : inL l n = (zL l).contains n := by
  rw [Bool.eq_iff_iff, inL_iff, List.contains_iff_mem]
  unfold zL
  rw [List.mem_map]
theorem take_allN {c : ChD} {l : List Nat} {j k : Nat} (h : ((zL l).take j).all (inZ c) = true) (hk : l[j]? = some k) (hz : inZ c k = true) : ((zL l).take (j + 1)).all (inZ c) = true := by
  have : (zL l)[j]? = some ((k : Nat) : Int) := by unfold zL; rw [List.getElem?_map, hk]; rfl
  exact take_all h this hz
theorem rSort_con (env : Env) (c : ChD) (h : Right c) (l : List Nat) (hl : l.length ≤ 1000000) : Con Tryz.prog env 77 [.agg (chAV c), .seq 1 (l.map natAV)] (.own 3 1 ((sortL c (zL l)).map natAV)) := by
  have hlen := h.few
  refine con_of_body_w Tryz.func77 rfl Tryz.call77 (by rw [Tryz.ntmps77]; simp) ?_
  rw [Tryz.ntmps77, Tryz.results77]
  have F := chAV.eq_1
  repeat refine st ?_
  refine awp_loopH (D := Nat) (fun j vs => [(1, .seq 1 (l.map natAV)), (2, .loc 2 (vs 2) 0 0), (5, I j)]) (fun _ _ => [(2, ⟨5, [chAV c], 26, false⟩)]) (fun j _ _ => j ≤ l.length ∧ ((zL l).take j).all (inZ c) = true) (fun j => l.length - j) 0 ?_ ?_ ?_ ?_
  · exact ⟨Nat.zero_le _, rfl⟩
  · (simp only [go_sem, F])
  · have F := chAV.eq_1
    (simp only [go_sem, F])
  rintro j ws esc ⟨hj, hall⟩
  by_cases hlt : j < l.length
  · obtain ⟨k, hk⟩ : ∃ k, l[j]? = some k := ⟨l[j], List.getElem?_eq_getElem hlt⟩
    have q1 := nlt hlt
    have q2 := wrap_succ hlt (by omega)
    have f0 := rIs_con env c k
    cases hz : inZ c k with
    | false =>
      rw [hz] at f0
      have F := And.intro chAV.eq_1 <| And.intro natAV.eq_1 <| And.intro q1 <| And.intro q2 <| hk
      repeat (first | refine st ?_ | refine cC f0 ?_)
      (refine awp_ret ?_; refine ⟨_, (by show (resRd _ _ _).run _ = some _; simp only [go_sem, F]; rfl), ?_⟩)
      rw [show sortL c (zL l) = [] from sort_bad (show (zL l)[j]? = some ((k : Nat) : Int) by unfold zL; rw [List.getElem?_map, hk]; rfl) hz]
      exact RStr.own_nil _ _ (by decide)
    | true =>
      rw [hz] at f0
      have F := And.intro chAV.eq_1 <| And.intro natAV.eq_1 <| And.intro q1 <| And.intro q2 <| hk
      repeat (first | refine st ?_ | refine cC f0 ?_)
      refine ⟨j + 1, ⟨hlt, take_allN hall hk hz⟩, ?_, ?_, by omega⟩
      · (simp only [go_sem, F])
      · (simp only [go_sem, F])
  obtain rfl : j = l.length := by omega
  have q1 : ¬ (l.length : Int) < (l.length : Int) := by omega
  have f1 := rWalk_con env c h 40 (-1) (by omega) (by omega)
  have hwl := walk_few h (show (-1 : Int) ≤ -1 by omega)
  have hall : (zL l).all (inZ c) = true := by rwa [List.take_of_length_le (by simp [zL])] at hall
  have hsort : sortL c (zL l) = inTo l (walkL c (-1)) (walkL c (-1)).length := by
    unfold sortL inTo
    rw [if_pos hall, List.take_length]
    apply List.filter_congr
    intro k _
    rw [inL_z]
  rw [hsort]
  generalize walkL c (-1) = W at *
  have F := And.intro chAV.eq_1 <| q1
  repeat (first | refine st ?_ | refine cC f1 ?_)
  refine awp_loopH (D := Nat) (fun j vs => [(1, .seq 1 (l.map natAV)), (6, .row 22 (vs 22)), (7, .row 24 (vs 24)), (8, I j)]) (fun j _ => [(22, ⟨1, (inTo l W j).map natAV, 3, true⟩), (24, ⟨1, W.map natAV, 3, true⟩)]) (fun j _ esc => j ≤ W.length ∧ esc 22 = false) (fun j => W.length - j) 0 ?_ ?_ ?_ ?_
  · exact ⟨Nat.zero_le _, rfl⟩
  · (simp only [go_sem, F])
  · (simp only [go_sem, F])
    try rfl
  try clear q1
  rintro j ws esc ⟨hj, e0⟩
  by_cases hlt : j < W.length
  · obtain ⟨k, hk⟩ : ∃ k, W[j]? = some k := ⟨W[j], List.getElem?_eq_getElem hlt⟩
    have q1 := nlt hlt
    have q2 := wrap_succ hlt (by omega)
    have f0 := rIn_con env l k (by omega)
    have hil := inTo_len l W j
    have hf : Fits ((inTo l W j).length + 1) 8 := fits_small (by omega) (by omega)
    have hn := inTo_succ (l := l) hk
    cases hb : inL l k with
    | true =>
      rw [hb] at f0
      rw [hb, if_pos rfl] at hn
      have F := And.intro natAV.eq_1 <| And.intro q1 <| And.intro q2 <| And.intro hk <| And.intro hf <| e0
      repeat (first | refine st ?_ | refine cC f0 ?_)
      refine ⟨j + 1, ⟨hlt, by simp only [go_sem, e0]⟩, ?_, ?_, by omega⟩
      · (simp only [go_sem, F])
      · have F := And.intro natAV.eq_1 <| hn
        (simp only [go_sem, List.map_append, F])
    | false =>
      rw [hb] at f0
      rw [hb, if_neg Bool.false_ne_true] at hn
      have F := And.intro natAV.eq_1 <| And.intro q1 <| And.intro q2 <| And.intro hk <| And.intro hf <| e0
      repeat (first | refine st ?_ | refine cC f0 ?_)
      refine ⟨j + 1, ⟨hlt, by simp only [go_sem, e0]⟩, ?_, ?_, by omega⟩
      · (simp only [go_sem, F])
      · have F := And.intro natAV.eq_1 <| hn
        (simp only [go_sem, List.map_append, F])
  · obtain rfl : j = W.length := by omega
    have q1 : ¬ (W.length : Int) < (W.length : Int) := by omega
    have F := And.intro q1 <| e0
    repeat refine st ?_
    (refine awp_ret ?_; refine ⟨_, (by show (resRd _ _ _).run _ = some _; simp only [go_sem, F]; rfl), ?_⟩)
    exact RStr.refl _
end Go.Proofs.YtlmekdfleciejaaGreatDoor
