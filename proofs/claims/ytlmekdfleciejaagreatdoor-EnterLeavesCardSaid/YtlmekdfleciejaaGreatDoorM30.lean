/- Pairs put in the order of their keys, one by one and by a sort: plain. No program is named here. -/
import Derived.Test.YtlmekdfleciejaaGreatDoorM29
import Derived.Test.YtlmekdfleciejaaGreatDoorM8
import Derived.Test.YtlmekdfleciejaaGreatDoorM15
import Derived.Test.YtlmekdfleciejaaGreatDoorM1
set_option linter.unusedSimpArgs false
namespace Go.Proofs.YtlmekdfleciejaaGreatDoor
open Go.RowKit
set_option maxRecDepth 100000
set_option maxHeartbeats 4000000
abbrev U32 (m : Nat) : AV := .lit (.int .u32 m)
theorem tlen_con (env : Env) (c : ChD) : Con Tryz.prog env 42 [treeAV c] (I c.states.length) := by
  refine con_of_body Tryz.func42 rfl Tryz.call42 (by rw [Tryz.ntmps42]; simp) ?_
  rw [Tryz.ntmps42, Tryz.results42]
  have F := treeAV.eq_1
  repeat refine st ?_
  exact aR
theorem tis_con (env : Env) (c : ChD) (i : Int) : Con Tryz.prog env 140 [treeAV c, I i] (B (inZ c i)) := by
  have f0 := tlen_con env c
  refine con_of_body Tryz.func140 rfl Tryz.call140 (by rw [Tryz.ntmps140]; simp) ?_
  rw [Tryz.ntmps140, Tryz.results140]
  unfold inZ
  by_cases h0 : 0 ≤ i
  · by_cases h1 : i < (c.states.length : Int)
    · have F := And.intro h0 <| h1
      repeat (first | refine st ?_ | refine cC f0 ?_)
      exact aR
    · have F := And.intro h0 <| h1
      repeat (first | refine st ?_ | refine cC f0 ?_)
      exact aR
  · have F := h0
    repeat (first | refine st ?_ | refine cC f0 ?_)
    exact aR
theorem thas_con (env : Env) (m : Nat) (hm : m < 4294967296) (k : Nat) (hk : k < 32) : Con Tryz.prog env 175 [U32 m, I k] (B (m.testBit k)) := by
  have hq : m / 2 ^ k < 4294967296 := Nat.lt_of_le_of_lt (Nat.div_le_self ..) hm
  have g0 : ((m : Int)).fdiv (2 ^ min k 32) = ((m / 2 ^ k : Nat) : Int) := by
    rw [show min k 32 = k by omega, show ((2 : Int) ^ k) = ((2 ^ k : Nat) : Int) by rw [Int.natCast_pow]; rfl]
    exact (Int.ofNat_fdiv _ _).symm
  have g1 : bitV .and .u32 ((m / 2 ^ k : Nat) : Int) 1 = ((m / 2 ^ k % 2 : Nat) : Int) := by
    have := u32_and (m / 2 ^ k) 1 hq (by decide)
    rw [Nat.and_one_is_mod] at this
    exact this
  have g2 : ((((m / 2 ^ k % 2 : Nat) : Int)) == 1) = m.testBit k := by
    rw [← bit_div]
    rcases Nat.mod_two_eq_zero_or_one (m / 2 ^ k) with h | h <;> rw [h] <;> rfl
  refine con_of_body Tryz.func175 rfl Tryz.call175 (by rw [Tryz.ntmps175]; simp) ?_
  rw [Tryz.ntmps175, Tryz.results175]
  have F := And.intro g0 <| And.intro g1 <| g2
  repeat refine st ?_
  exact aR
def pick_ (m : Nat) (l : List Nat) (j : Nat) : List Nat := (l.take j).filter fun k => m.testBit k
theorem pick_succ {m : Nat} {l : List Nat} {j k : Nat} (h : l[j]? = some k) : pick_ m l (j + 1) = if m.testBit k then pick_ m l j ++ [k] else pick_ m l j := by
  unfold pick_
  rw [List.take_add_one, h, List.filter_append]
  cases hb : m.testBit k <;> simp [hb]
theorem pick_len (m : Nat) (l : List Nat) (j : Nat) : (pick_ m l j).length ≤ l.length := by
  unfold pick_
  exact Nat.le_trans (List.length_filter_le ..) (by rw [List.length_take]; omega)
theorem tlisted_con (env : Env) (c : ChD) (hc : Right c) (m : Nat) (hm : m < 4294967296) : Con Tryz.prog env 130 [treeAV c, U32 m] (.own 3 1 (((walkL c (-1)).filter fun k => m.testBit k).map natAV)) := by
  have hlen := hc.few
  have hwl := walk_len hc
  have htop := walk_top hc
  refine con_of_body Tryz.func130 rfl Tryz.call130 (by rw [Tryz.ntmps130]; simp) ?_
  rw [Tryz.ntmps130, Tryz.results130]
  have F := treeAV.eq_1
  repeat refine st ?_
  generalize walkL c (-1) = W at *
  refine awp_nilrow 5 5 3 1 ?_
  refine awp_loopH (D := Nat) (fun j vs => [(1, U32 m), (5, .row 5 (vs 5)), (13, .seq 1 (W.map natAV)), (14, I W.length), (15, I j)]) (fun j _ => [(5, ⟨1, (pick_ m W j).map natAV, 3, true⟩)]) (fun j _ esc => j ≤ W.length ∧ esc 5 = false) (fun j => W.length - j) 0 ?_ ?_ ?_ ?_
  · exact ⟨Nat.zero_le _, rfl⟩
  · (simp only [go_sem, F])
  · (simp only [go_sem, F])
    rfl
  rintro j ws esc ⟨hj, e0⟩
  by_cases hlt : j < W.length
  · obtain ⟨k, hk⟩ : ∃ k, W[j]? = some k := ⟨W[j], List.getElem?_eq_getElem hlt⟩
    have hk32 : k < 32 := by have := (htop k).1 (List.mem_of_getElem? hk); omega
    have f0 := thas_con env m hm k hk32
    have g1 := nlt hlt
    have g2 := wrap_succ hlt (by omega)
    have hpl := pick_len m W j
    have hf : Fits ((pick_ m W j).length + 1) 8 := ⟨by omega, by omega⟩
    have hn := pick_succ (m := m) hk
    cases hb : m.testBit k with
    | true =>
      rw [hb] at f0
      rw [hb, if_pos rfl] at hn
      have F := And.intro g1 <| And.intro g2 <| And.intro hk <| And.intro natAV.eq_1 <| And.intro hf <| e0
      repeat (first | refine st ?_ | refine cC f0 ?_)
      refine ⟨j + 1, ⟨hlt, by simp only [go_sem, e0]⟩, ?_, ?_, by omega⟩
      · (simp only [go_sem, F])
      · have F := And.intro hn <| natAV.eq_1
        (simp only [go_sem, List.map_append, F])
    | false =>
      rw [hb] at f0
      rw [hb, if_neg Bool.false_ne_true] at hn
      have F := And.intro g1 <| And.intro g2 <| And.intro hk <| And.intro natAV.eq_1 <| And.intro hf <| e0
      repeat (first | refine st ?_ | refine cC f0 ?_)
      refine ⟨j + 1, ⟨hlt, by simp only [go_sem, e0]⟩, ?_, ?_, by omega⟩
      · (simp only [go_sem, F])
      · have F := And.intro hn <| natAV.eq_1
        (simp only [go_sem, List.map_append, F])
  · obtain rfl : j = W.length := by omega
    have g1 : ¬ (W.length : Int) < (W.length : Int) := by omega
    have hall : pick_ m W W.length = W.filter fun k => m.testBit k := by unfold pick_; rw [List.take_length]
    have F := And.intro g1 <| And.intro hall <| e0
    repeat refine st ?_
    exact aR
def orTo (l : List Int) (j : Nat) : Nat := (l.take j).foldl (fun m k => m ||| 2 ^ k.toNat) 0
theorem orTo_succ {l : List Int} {j : Nat} {k : Int} (h : l[j]? = some k) : orTo l (j + 1) = orTo l j ||| 2 ^ k.toNat := by
  unfold orTo
  rw [List.take_add_one, h, List.foldl_append]
  rfl
theorem fold_bit : ∀ (l : List Int) (m b : Nat), (l.foldl (fun m k => m ||| 2 ^ k.toNat) m).testBit b = (m.testBit b || l.any fun k => k.toNat == b)
  | [], m, b => by simp
  | k :: l, m, b => by
    rw [List.foldl_cons, fold_bit l, Nat.testBit_or, Nat.testBit_two_pow, List.any_cons, Bool.or_assoc]
    rfl
theorem orTo_small {c : ChD} (hc : Right c) {l : List Int} : ∀ {j : Nat}, (∀ k ∈ l.take j, inZ c k = true) → orTo l j < 4294967296 := fun {j} h => by
  have hlen := hc.few
  apply Nat.lt_pow_two_of_testBit (n := 32)
  intro b hb
  unfold orTo
  rw [fold_bit, Nat.zero_testBit, Bool.false_or, List.any_eq_false]
  intro k hk
  have := inZ_iff.1 (h k hk)
  simp
  omega
theorem orTo_sort {c : ChD} {l : List Int} (h : l.all (inZ c) = true) : ((walkL c (-1)).filter fun k => (orTo l l.length).testBit k) = sortL c l := by
  unfold sortL
  rw [if_pos h]
  apply List.filter_congr
  intro k _
  unfold orTo
  rw [fold_bit, Nat.zero_testBit, Bool.false_or, List.take_length, Bool.eq_iff_iff, List.any_eq_true, List.contains_iff_mem]
  constructor
  · rintro ⟨x, h1, h2⟩
    have := (inZ_iff.1 (List.all_eq_true.1 h x h1)).1
    have h2 : x.toNat = k := by simpa using h2
    rw [show (k : Int) = x by omega]
    exact h1
  · exact fun h1 => ⟨k, h1, by simp⟩
theorem take_all {c : ChD} {l : List Int} {j : Nat} {k : Int} (h : (l.take j).all (inZ c) = true) (hk : l[j]? = some k) (hz : inZ c k = true) : (l.take (j + 1)).all (inZ c) = true := by
  rw [List.take_add_one, hk, List.all_append, h]
  simp [hz]
theorem sort_bad {c : ChD} {l : List Int} {j : Nat} {k : Int} (hk : l[j]? = some k) (hz : inZ c k = false) : sortL c l = [] := by
  unfold sortL
  rw [if_neg]
  intro h
  have := List.all_eq_true.1 h k (List.mem_of_getElem? hk)
  rw [hz] at this
  cases this
abbrev intAV (k : Int) : List AV := [I k]
theorem tsort_con (env : Env) (c : ChD) (hc : Right c) (l : List Int) (hl : l.length ≤ 1000000) : Con Tryz.prog env 90 [treeAV c, .seq 1 (l.map intAV)] (.own 3 1 ((sortL c l).map natAV)) := by
  have hlen := hc.few
  refine con_of_body_w Tryz.func90 rfl Tryz.call90 (by rw [Tryz.ntmps90]; simp) ?_
  rw [Tryz.ntmps90, Tryz.results90]
  repeat refine st0 ?_
  refine awp_loopH (D := Nat) (fun j _ => [(0, treeAV c), (5, U32 (orTo l j)), (8, .seq 1 (l.map intAV)), (9, I l.length), (10, I j)]) (fun _ _ => []) (fun j _ _ => j ≤ l.length ∧ (l.take j).all (inZ c) = true) (fun j => l.length - j) 0 ?_ ?_ ?_ ?_
  · exact ⟨Nat.zero_le _, rfl⟩
  · (simp only [go_sem])
    rfl
  · (simp only [go_sem])
  rintro j ws esc ⟨hj, hall⟩
  by_cases hlt : j < l.length
  · obtain ⟨k, hk⟩ : ∃ k, l[j]? = some k := ⟨l[j], List.getElem?_eq_getElem hlt⟩
    have g1 := nlt hlt
    have g2 := wrap_succ hlt (by omega)
    have f0 := tis_con env c k
    cases hz : inZ c k with
    | false =>
      rw [hz] at f0
      have F := And.intro g1 <| And.intro g2 <| hk
      repeat (first | refine st ?_ | refine cC f0 ?_)
      (refine awp_ret ?_; refine ⟨_, (by show (resRd _ _ _).run _ = some _; simp only [go_sem, F]; rfl), ?_⟩)
      rw [sort_bad hk hz]
      exact RStr.own_nil _ _ (by decide)
    | true =>
      rw [hz] at f0
      have hr := inZ_iff.1 hz
      obtain ⟨p, rfl⟩ : ∃ p : Nat, k = p := ⟨k.toNat, by omega⟩
      have g3 := shl_u32 (p := p) (by omega)
      have hsm := orTo_small hc (j := j) (fun k hk => List.all_eq_true.1 hall k hk)
      have g4 := or_u32 hsm (shl_one p (by omega))
      have hn := orTo_succ hk
      rw [Int.toNat_natCast] at hn
      have F := And.intro g1 <| And.intro g2 <| And.intro g3 <| And.intro g4 <| hk
      repeat (first | refine st ?_ | refine cC f0 ?_)
      refine ⟨j + 1, ⟨hlt, take_all hall hk hz⟩, ?_, ?_, by omega⟩
      · have F := And.intro g1 <| And.intro g2 <| And.intro g3 <| And.intro g4 <| And.intro hk <| hn
        (simp only [go_sem, F])
      · (simp only [go_sem, g1, g2, g3, g4, hk, hn])
  · obtain rfl : j = l.length := by omega
    have g1 : ¬ (l.length : Int) < (l.length : Int) := by omega
    have hsm := orTo_small hc (j := l.length) (fun k hk => List.all_eq_true.1 hall k hk)
    rw [List.take_length] at hall
    have f1 := tlisted_con env c hc _ hsm
    rw [orTo_sort hall] at f1
    have F := g1
    repeat (first | refine st ?_ | refine cC f1 ?_)
    (refine awp_ret ?_; refine ⟨_, (by show (resRd _ _ _).run _ = some _; simp only [go_sem, F]; rfl), ?_⟩)
    exact RStr.refl _
end Go.Proofs.YtlmekdfleciejaaGreatDoor
set_option linter.unusedSimpArgs false
namespace Go.Proofs.YtlmekdfleciejaaGreatDoor
open Go.RowKit
set_option maxRecDepth 100000
set_option maxHeartbeats 4000000
def strAV (s : List UInt8) : List AV := [Sg s]
theorem litEs_str (l : List (List UInt8)) : litEs (l.map strC) = l.map strAV := by
  unfold litEs
  rw [List.map_map]
  rfl
def namedTo (c : ChD) (j : Nat) : List (List UInt8) := ((c.trans.take j).map (·.event)).filter fun e => !e.isEmpty
def evL (c : ChD) : List (List UInt8) := Lib.compact (sortB (namedTo c c.trans.length))
theorem named_succ {c : ChD} {j : Nat} {t : TrD} (h : c.trans[j]? = some t) : namedTo c (j + 1) = if t.event.isEmpty then namedTo c j else namedTo c j ++ [t.event] := by
  unfold namedTo
  rw [List.take_add_one, h, List.map_append, List.filter_append]
  cases hb : t.event.isEmpty <;> simp [hb]
theorem named_len (c : ChD) (j : Nat) : (namedTo c j).length ≤ j := by
  unfold namedTo
  exact Nat.le_trans (List.length_filter_le ..) (by simp; omega)
theorem events_con (env : Env) (c : ChD) (hc : c.trans.length ≤ 1000000) : Con Tryz.prog env 89 [.agg (chAV c)] (.own 9 1 ((evL c).map strAV)) := by
  refine con_of_body Tryz.func89 rfl Tryz.call89 (by rw [Tryz.ntmps89]; simp) ?_
  rw [Tryz.ntmps89, Tryz.results89]
  have F := chAV.eq_1
  repeat refine st ?_
  refine awp_nilrow 3 3 9 1 ?_
  refine awp_loopH (D := Nat) (fun j vs => [(3, .row 3 (vs 3)), (7, trsAV c.trans), (8, I c.trans.length), (9, I j)]) (fun j _ => [(3, ⟨1, (namedTo c j).map strAV, 9, true⟩)]) (fun j _ esc => j ≤ c.trans.length ∧ esc 3 = false) (fun j => c.trans.length - j) 0 ?_ ?_ ?_ ?_
  · exact ⟨Nat.zero_le _, rfl⟩
  · (simp only [go_sem, F])
  · (simp only [go_sem, F])
    rfl
  rintro j ws esc ⟨hj, e0⟩
  by_cases hlt : j < c.trans.length
  · obtain ⟨t, ht⟩ : ∃ t, c.trans[j]? = some t := ⟨c.trans[j], List.getElem?_eq_getElem hlt⟩
    have g1 := nlt hlt
    have g2 := wrap_succ hlt (by omega)
    have hn := named_succ ht
    have hl := named_len c j
    have hf : Fits ((namedTo c j).length + 1) 16 := ⟨by omega, by omega⟩
    cases hb : t.event.isEmpty with
    | true =>
      rw [hb, if_pos rfl] at hn
      have hb2 : (t.event == []) = true := by simpa using hb
      have F := And.intro trAV.eq_1 <| And.intro g1 <| And.intro g2 <| And.intro ht <| And.intro hb2 <| e0
      repeat refine st ?_
      refine ⟨j + 1, ⟨hlt, by simp only [go_sem, e0]⟩, ?_, ?_, by omega⟩
      · (simp only [go_sem, F])
      · have F := hn
        (simp only [go_sem, F])
    | false =>
      rw [hb, if_neg Bool.false_ne_true] at hn
      have hb2 : (t.event == []) = false := by simpa using hb
      have F := And.intro trAV.eq_1 <| And.intro g1 <| And.intro g2 <| And.intro ht <| And.intro hb2 <| And.intro hf <| e0
      repeat refine st ?_
      refine ⟨j + 1, ⟨hlt, by simp only [go_sem, e0]⟩, ?_, ?_, by omega⟩
      · (simp only [go_sem, F])
      · have F := And.intro hn <| strAV.eq_1
        (simp only [go_sem, List.map_append, F])
  · obtain rfl : j = c.trans.length := by omega
    have g1 : ¬ (c.trans.length : Int) < (c.trans.length : Int) := by omega
    have hl := named_len c c.trans.length
    have F := And.intro g1 <| e0
    repeat refine st ?_
    have f1 := sortS_turns (namedTo c c.trans.length) (by omega)
    have hsl : (sortB (namedTo c c.trans.length)).length ≤ 9223372036854775807 := by simp [sortB]; omega
    have f2 := compS_cuts (sortB (namedTo c c.trans.length)) hsl
    refine g_turn 3 rfl (row := ⟨1, (namedTo c c.trans.length).map strAV, 9, true⟩) f1 (Nat.succ_ne_zero 0) rfl (litEs_str _).symm (by simp only [go_sem, e0]; exact iR) (by simp only [go_sem, e0]; exact iR) (by simp only [go_sem, e0]; exact iR) (by simp only [go_sem, e0]; exact iR) ?_
    rw [litEs_str]
    repeat refine st ?_
    refine aops_cut 3 rfl (row := ⟨1, (sortB (namedTo c c.trans.length)).map strAV, 9, true⟩) f2 (Nat.succ_ne_zero 0) rfl (litEs_str _).symm (by simp only [go_sem, e0]; exact iR) (by simp only [go_sem, e0]; exact iR) (by simp only [go_sem, e0]; exact iR) (by simp only [go_sem, e0]; exact iR) iR ?_
    rw [litEs_str]
    repeat refine st ?_
    (refine awp_ret ?_; show (resRd _ _ _).run _ = some _; simp only [go_sem, F])
    rfl
end Go.Proofs.YtlmekdfleciejaaGreatDoor
namespace Go.Proofs.YtlmekdfleciejaaGreatDoor
open Go.RowKit
theorem bl_irrefl : ∀ a : List UInt8, Op.bytesLess a a = false
  | [] => rfl
  | x :: a => by simp [Op.bytesLess, bl_irrefl a]
theorem bl_trans : ∀ {a b c : List UInt8}, Op.bytesLess a b = true → Op.bytesLess b c = true → Op.bytesLess a c = true
  | _, [], _, h, _ => by simp [Op.bytesLess] at h
  | _, _ :: _, [], _, h => by simp [Op.bytesLess] at h
  | [], _ :: _, _ :: _, _, _ => rfl
  | x :: a, y :: b, z :: c, h, k => by
    simp only [Op.bytesLess, Bool.or_eq_true, decide_eq_true_eq, Bool.and_eq_true, beq_iff_eq] at h k ⊢
    rcases h with h | ⟨h, h'⟩
    · rcases k with k | ⟨k, k'⟩
      · exact .inl (UInt8.lt_trans h k)
      · exact .inl (k ▸ h)
    · rcases k with k | ⟨k, k'⟩
      · exact .inl (h ▸ k)
      · exact .inr ⟨h.trans k, bl_trans h' k'⟩
theorem bl_total : ∀ {a b : List UInt8}, Op.bytesLess a b = false → Op.bytesLess b a = false → a = b
  | [], [], _, _ => rfl
  | [], _ :: _, h, _ => by simp [Op.bytesLess] at h
  | _ :: _, [], _, h => by simp [Op.bytesLess] at h
  | x :: a, y :: b, h, k => by
    simp only [Op.bytesLess, Bool.or_eq_false_iff, decide_eq_false_iff_not, Bool.and_eq_false_iff] at h k
    have e : x = y := UInt8.le_antisymm (UInt8.not_lt.1 k.1) (UInt8.not_lt.1 h.1)
    subst e
    simp only [beq_self_eq_true, Bool.true_eq_false, false_or] at h k
    rw [bl_total h.2 k.2]
theorem bl_asymm {a b : List UInt8} (h : Op.bytesLess a b = true) : Op.bytesLess b a = false := by
  cases k : Op.bytesLess b a
  · rfl
  · have := bl_trans h k
    rw [bl_irrefl] at this
    cases this
end Go.Proofs.YtlmekdfleciejaaGreatDoor
