/- Contracts of scriniumref21.Letter, Digit, Name, of token.Name: by the walk without memory. -/
import Derived.Test.YtlmekdfleciejaaGreatDoorM5
import Derived.Test.YtlmekdfleciejaaGreatDoorM18
import Derived.Test.YtlmekdfleciejaaGreatDoorM14
import Derived.Test.YtlmekdfleciejaaGreatDoorM17
import Derived.Test.YtlmekdfleciejaaGreatDoorM11
import Derived.Test.YtlmekdfleciejaaGreatDoorM6
import Derived.Test.YtlmekdfleciejaaGreatDoorM8
set_option linter.unusedSimpArgs false
namespace Go.Proofs.YtlmekdfleciejaaGreatDoor
open Go.RowKit
set_option maxRecDepth 100000
set_option maxHeartbeats 1000000
attribute [local go_sem_proc ↓] reduceIte
attribute [local go_sem_proc] reduceCtorEq Nat.reduceBEq Nat.reduceAdd Nat.reduceSub Nat.reduceEqDiff Nat.reduceLT Nat.reduceLeDiff Nat.reduceMul Int.reduceToNat Int.reduceBEq Int.reduceBNe Int.reduceEq Int.reduceLT Int.reduceLE
attribute [local go_sem] ev_full evFull ev_clear ev_makeFunc funcRd firstRd litsOf evClear List.isEmpty_cons Array.isEmpty_iff ev_makeMap ev_lookup ev_mapUpdate ev_mapEntry ev_entryStore evMapEntry evEntryStore ev_delete evMakeMap evLookup evMapUpdate evDelete pureOf keyCmp mfind oneCells Rd.map AV.bare AV.bare.bareL AV.ofVal resRd resOne resAll HoldF HoldR Takes thenA blockA ev_move ev_assign ev_pick ev_alloc ev_box ev_build ev_buildSlice ev_load ev_store ev_binOp ev_unOp ev_convert ev_iface ev_make ev_slice ev_fieldAddr ev_field ev_indexAddr ev_index ev_extract ev_len ev_append ev_min ev_max evMin evMax gt_tmp gt_int gt_bool gt_str gt_nilS gt_nilP gt_nilI pickRd allocRd buildRd sliceRd loadRd unRd ifaceRd exRd val optRd callRd seen AV.plain AV.soft adopt fzArgs Rd.run AV.asCells newBox runL Comes' Rd.row Rd.bind Out.app apps Eff.app St.renew St.setRow St.show St.put St.init upd evStore evBinR evBin eqFs eqCell evConv evSeq evLen evIndexAddr evFieldAddr evField evIndex bound evSlice evSliceF evAppend evMake loadOf fillAV fillEs fzParts fz fzCell fzCells shows isConstOp splice wrs wes Value.oneCell' List.getD_cons_zero List.getD_cons_succ List.getD_nil List.length_cons List.length_nil List.map_cons List.map_nil List.nil_append List.cons_append List.all_cons List.all_nil List.getElem?_cons_zero List.getElem?_cons_succ List.set_cons_zero List.set_cons_succ List.take_succ_cons List.take_zero List.drop_succ_cons List.drop_zero List.take_nil List.drop_nil List.replicate_succ List.replicate_zero Bool.and_true Bool.true_and Bool.and_self and_self true_and and_true Nat.zero_add Nat.add_zero Option.some.injEq Nat.zero_lt_succ Bool.not_true Bool.not_false ne_eq not_true_eq_false not_false_eq_true Option.map_some Option.map_none List.toList_toArray head headF headR List.length_map Int.toNat_natCast Int.natCast_nonneg List.getElem?_map decide_true decide_false Bool.false_eq_true if_true if_false Bool.or_self Bool.or_true Bool.true_or Bool.false_or Bool.or_false Bool.and_false Bool.false_and List.flatten_cons List.flatten_nil List.append_nil nat0 or_self or_false false_or or_true true_or and_false false_and List.length_append List.isEmpty_nil bne_self_eq_false beq_self_eq_true fits_small strL_l bytesOf_map wants Int.cast_ofNat_Int gt_iff_lt ge_iff_le
attribute [local go_sem ←] List.map_drop List.map_take
/-! Weaker values -/
theorem Str.iface {t : TypeId} {c' c : AV} (h : Str c' c) : Str (.iface t c') (.iface t c) := fun S w v hv => by
  cases hv with
  | iface _ v _ hv => exact .iface t v c (h S w v hv)
theorem Str.ref1 {cs' cs : List AV} {off : Nat} (h : Strs cs' cs) : Str (.ref cs.length [cs'] 0 off) (.ref cs.length [cs] 0 off) := fun S w v hv => by
  cases hv with
  | ref sz es i off b o u hz hc hr =>
    have at' : ∀ (i j : Nat) (c : AV), cellAt [cs] i j = some c → ∃ c', cellAt [cs'] i j = some c' ∧ Str c' c := fun i j c hcc => by
      cases i with
      | zero =>
        have hj : cs[j]? = some c := hcc
        have hlt : j < cs'.length := by rw [h.1]; exact (List.getElem?_eq_some_iff.1 hj).1
        exact ⟨cs'[j], List.getElem?_eq_getElem hlt, h.2 j _ c (List.getElem?_eq_getElem hlt) hj⟩
      | succ i => simp [cellAt] at hcc
    refine .ref _ [cs] 0 off b o u (fun i e he => by
      cases i with
      | zero => simp at he; rw [← he]
      | succ i => simp at he) (fun i j c hcc => ?_) fun i j c hcc => ?_
    · obtain ⟨c', h1, _⟩ := at' i j c hcc
      exact hc i j c' h1
    · obtain ⟨c', h1, h2⟩ := at' i j c hcc
      exact h2 S w _ (hr i j c' h1)
abbrev sentV (a : Addr) : AV := .lit (.iface 261 (.pointer (some a)))
abbrev errV (p : Int) (e : AV) : AV := .iface 120 (.ref 3 [[.any, I p, e]] 0 0)
abbrev nilE : AV := .lit .nilIface
theorem errV_str (s p : AV) (q : Int) (hp : p = I q) (e : AV) : RStr (.iface 120 (.ref 3 [[s, p, e]] 0 0)) (errV q e) := by
  subst hp
  exact .of (.iface (.ref1 (cs := [.any, I q, e]) (.cons (.any _) (.refl _)))) (fun _ _ _ h => by cases h) (fun _ _ _ h => by cases h)
def sentAt (ad : Nat → Addr) (g : Nat) : Option AV :=
  if g = 1 then some (sentV (ad 1)) else
  if g = 2 then some (sentV (ad 2)) else
  if g = 3 then some (sentV (ad 3)) else
  if g = 4 then some (sentV (ad 4)) else
  if g = 5 then some (sentV (ad 5)) else
  if g = 6 then some (sentV (ad 6)) else
  if g = 0 then some (sentV (ad 7)) else
  if g = 7 then some (sentV (ad 8)) else
  if g = 8 then some (sentV (ad 9)) else none
structure More where
  inv : World → Prop
  up : ∀ w w', inv w → Below w.heap.size w w' → inv w'
def errEnv (ad : Nat → Addr) (mo : More) : Env := ⟨sentAt ad, fun w => Sents w ad ∧ mo.inv w, fun w w' h hb => ⟨h.1.below hb, mo.up w w' h.2 hb⟩⟩
theorem errEnv_ok {ad : Nat → Addr} {mo : More} {w : World} (h : Sents w ad) (hm : mo.inv w) : EnvOk (errEnv ad mo) (fun b _ => b < w.heap.size) w := by
  refine ⟨⟨h, hm⟩, fun b o hb => hb, fun g c hg => ?_⟩
  have one : ∀ {g : Nat} {a : Addr}, Sent w g a → ∃ u, w.cell? ⟨g, 0, none⟩ = some u ∧ u.oneCell' = true ∧ g < w.heap.size ∧ RV (fun b _ => b < w.heap.size) w u (sentV a) := fun hs => ⟨_, hs.1, rfl, cell_lt hs.1, .lit _⟩
  have hg : sentAt ad g = some c := hg
  unfold sentAt at hg
  split at hg
  · rename_i e; subst e; cases hg; exact one h.s1
  split at hg
  · rename_i e; subst e; cases hg; exact one h.s2
  split at hg
  · rename_i e; subst e; cases hg; exact one h.s3
  split at hg
  · rename_i e; subst e; cases hg; exact one h.s4
  split at hg
  · rename_i e; subst e; cases hg; exact one h.s5
  split at hg
  · rename_i e; subst e; cases hg; exact one h.s6
  split at hg
  · rename_i e; subst e; cases hg; exact one h.s7
  split at hg
  · rename_i e; subst e; cases hg; exact one h.s8
  split at hg
  · rename_i e; subst e; cases hg; exact one h.s9
  cases hg
section
variable {ad : Nat → Addr} {mo : More} {f : Nat → AV}
end
theorem gt_at {env : Env} {g : Nat} {c : AV} (h : env g = some c) (f : Nat → AV) : gt env f (.global g) = .ref 1 [[c]] 0 0 := by simp only [gt, h]
theorem new_con (env : Env) (s : List UInt8) (a : Addr) : Con Tryz.prog env 114 [Sg s, sentV a] (errV (-1) (sentV a)) := by
  refine con_of_body_w Tryz.func114 rfl Tryz.call114 (by rw [Tryz.ntmps114]; simp) ?_
  rw [Tryz.ntmps114, Tryz.results114]
  repeat (first | refine oO rfl (by simp only [go_sem]; exact ⟨rfl, rfl⟩) ?_ | refine gR ?_ | refine gO ?_ | refine oZ (d_end ?_) | refine oZ ?_ | refine oS ?_ | refine gT ?_ | refine gD Tryz.mixed ?_ | refine oB ?_ | refine oK ?_ | (refine oX ?_; simp only [thenA, blockA, ↓reduceIte, Nat.reduceEqDiff, reduceCtorEq]))
  (refine awp_ret ?_; refine ⟨_, (by show (resRd _ _ _).run _ = some _; simp only [go_sem]; rfl), ?_⟩)
  exact errV_str _ _ _ rfl _
/-! fault.Code -/
theorem con_lit {P : Program} {env : Env} {f : FuncId} {cs : List AV} {u : Value} (henter : ∀ (args : Array Value) (w : World), (callFunc f args).run P w = .ok (.enter f args) w)
    (h : ∀ (w : World) (S : Nat → Nat → Prop) (vs : List Value), EnvOk env S w → vs.length = cs.length → (∀ (i : Nat) (v : Value) (c : AV), vs[i]? = some v → cs[i]? = some c → RV S w v c) → Calls P f vs.toArray w fun e w' => e = .returned u ∧ Below w.heap.size w w') : Con P env f cs (.lit u) := by
  refine ⟨henter, fun w S vs hE hl hv => (h w S vs hE hl hv).mono ?_⟩
  rintro e w' ⟨rfl, hb⟩
  exact ⟨u, rfl, hb, S, fun _ _ h => h, fun _ _ h => .inl h, fun b o hb' => Nat.lt_of_lt_of_le (hE.low b o hb') hb.size, .lit _⟩
theorem sents_lies {w : World} {ad : Nat → Addr} (h : Sents w ad) (k : Nat) (hk : 1 ≤ k ∧ k ≤ 9) : Lies w (ad k) := by
  obtain rfl | rfl | rfl | rfl | rfl | rfl | rfl | rfl | rfl : k = 1 ∨ k = 2 ∨ k = 3 ∨ k = 4 ∨ k = 5 ∨ k = 6 ∨ k = 7 ∨ k = 8 ∨ k = 9 := by omega
  · exact h.s1.2
  · exact h.s2.2
  · exact h.s3.2
  · exact h.s4.2
  · exact h.s5.2
  · exact h.s6.2
  · exact h.s7.2
  · exact h.s8.2
  · exact h.s9.2
end Go.Proofs.YtlmekdfleciejaaGreatDoor
namespace Go.Proofs.YtlmekdfleciejaaGreatDoor
open Go.RowKit
abbrev errT : Value := .iface 207 (.agg #[.pointer (some ⟨11, 51, none⟩)])
end Go.Proofs.YtlmekdfleciejaaGreatDoor
namespace Go.Proofs.YtlmekdfleciejaaGreatDoor
open Go.RowKit
abbrev smallCs (k : Int) : Array Value := #[.string ⟨#[97]⟩, .int .i64 1, .int .i64 (-1), .int .i64 k, .slice none 0 0, .slice none 0 0, .string ⟨#[98]⟩, .int .i64 1, .int .i64 0, .int .i64 (-1), .slice none 0 0, .slice none 0 0]
def SmallAt (w : World) (g : Nat) (k : Int) : Prop := ∀ i v, (smallCs k)[i]? = some v → w.cell? ⟨g, i, none⟩ = some v
theorem SmallAt.below {w w' : World} {g : Nat} {k : Int} (h : SmallAt w g k) (hb : Below w.heap.size w w') : SmallAt w' g k := fun i v hi => cell_below (h i v hi) hb
theorem EnvOk.all {env : Env} {S : Nat → Nat → Prop} {w : World} (h : EnvOk env S w) : EnvOk env (fun b _ => b < w.heap.size) w := ⟨h.inv, fun _ _ h => h, fun g c hg => by
  obtain ⟨u, h1, h2, h3, h4⟩ := h.env g c hg
  exact ⟨u, h1, h2, h.low _ _ h3, h4.mono fun b o hb => ⟨h.low _ _ hb, .rfl⟩⟩⟩
theorem EnvOk.belowA {env : Env} {w w' : World} (h : EnvOk env (fun b _ => b < w.heap.size) w) (hb : Below w.heap.size w w') : EnvOk env (fun b _ => b < w'.heap.size) w' := ⟨env.up _ _ h.inv hb, fun _ _ h => h, fun g c hg => by
  obtain ⟨u, h1, h2, h3, h4⟩ := h.env g c hg
  exact ⟨u, cell_below h1 hb, h2, Nat.lt_of_lt_of_le h3 hb.size, h4.mono fun b o (hbo : b < _) => ⟨Nat.lt_of_lt_of_le hbo hb.size, hb.stay hbo⟩⟩⟩
theorem con_call {P : Program} {env : Env} {f : FuncId} {cs : List AV} {res : AV} {w : World} {vs : List Value} (h : Con P env f cs res) (hE : EnvOk env (fun b _ => b < w.heap.size) w) (hres : ∀ e sz es, res ≠ .own e sz es) (hv : RAs (fun b _ => b < w.heap.size) w vs cs) :
    Calls P f vs.toArray w fun e w' => ∃ v, e = .returned v ∧ Below w.heap.size w w' ∧ EnvOk env (fun b _ => b < w'.heap.size) w' ∧ RV (fun b _ => b < w'.heap.size) w' v res := by
  obtain ⟨h1, h2⟩ := hv.at_
  refine (h.calls w _ vs hE h1 h2).mono ?_
  rintro e w' ⟨v, rfl, hb, S', _, _, hlt, hr⟩
  refine ⟨v, rfl, hb, hE.belowA hb, ?_⟩
  have hr' : RV S' w' v res := by
    cases res with
    | own e sz es => exact (hres e sz es rfl).elim
    | _ => exact hr
  exact hr'.mono fun b o hbo => ⟨hlt b o hbo, .rfl⟩
end Go.Proofs.YtlmekdfleciejaaGreatDoor
set_option linter.unusedSimpArgs false
namespace Go.Proofs.YtlmekdfleciejaaGreatDoor
open Go.RowKit
set_option maxRecDepth 100000
set_option maxHeartbeats 1000000
theorem w_letter_con (env : Env) (c : UInt8) : Con Tryz.prog env 141 [.lit (.int .u8 (c.toNat : Int))] (B (letterI c.toNat)) := by
  refine con_of_body Tryz.func141 rfl Tryz.call141 (by rw [Tryz.ntmps141]; simp) ?_
  rw [Tryz.ntmps141, Tryz.results141]
  have hc := c.toNat_lt
  generalize c.toNat = n at *
  unfold letterI
  by_cases h1 : (n : Int) = 95
  · have e : decide ((n : Int) = 95 ∨ (97 ≤ (n : Int) ∧ (n : Int) ≤ 122) ∨ (65 ≤ (n : Int) ∧ (n : Int) ≤ 90)) = true := by simp; omega
    rw [e]
    have h1 : ((n : Int) == 95) = true := by simp; omega
    have F := h1
    repeat refine sg ?_
    exact aR
  · have h1' : ((n : Int) == 95) = false := by simp; omega
    by_cases h2 : (97 : Int) ≤ (n : Int)
    · by_cases h3 : (n : Int) ≤ 122
      · have e : decide ((n : Int) = 95 ∨ (97 ≤ (n : Int) ∧ (n : Int) ≤ 122) ∨ (65 ≤ (n : Int) ∧ (n : Int) ≤ 90)) = true := by simp; omega
        rw [e]
        have F := And.intro h1' <| And.intro h2 <| h3
        repeat refine sg ?_
        exact aR
      · have e : decide ((n : Int) = 95 ∨ (97 ≤ (n : Int) ∧ (n : Int) ≤ 122) ∨ (65 ≤ (n : Int) ∧ (n : Int) ≤ 90)) = false := by simp; omega
        have h4 : (65 : Int) ≤ (n : Int) := by omega
        have h5 : ¬ (n : Int) ≤ 90 := by omega
        rw [e]
        have F := And.intro h1' <| And.intro h2 <| And.intro h3 <| And.intro h4 <| h5
        repeat refine sg ?_
        exact aR
    · by_cases h4 : (65 : Int) ≤ (n : Int)
      · by_cases h5 : (n : Int) ≤ 90
        · have e : decide ((n : Int) = 95 ∨ (97 ≤ (n : Int) ∧ (n : Int) ≤ 122) ∨ (65 ≤ (n : Int) ∧ (n : Int) ≤ 90)) = true := by simp; omega
          rw [e]
          have F := And.intro h1' <| And.intro h2 <| And.intro h4 <| h5
          repeat refine sg ?_
          exact aR
        · have e : decide ((n : Int) = 95 ∨ (97 ≤ (n : Int) ∧ (n : Int) ≤ 122) ∨ (65 ≤ (n : Int) ∧ (n : Int) ≤ 90)) = false := by simp; omega
          rw [e]
          have F := And.intro h1' <| And.intro h2 <| And.intro h4 <| h5
          repeat refine sg ?_
          exact aR
      · have e : decide ((n : Int) = 95 ∨ (97 ≤ (n : Int) ∧ (n : Int) ≤ 122) ∨ (65 ≤ (n : Int) ∧ (n : Int) ≤ 90)) = false := by simp; omega
        rw [e]
        have F := And.intro h1' <| And.intro h2 <| h4
        repeat refine sg ?_
        exact aR
theorem w_digit_con (env : Env) (c : UInt8) : Con Tryz.prog env 142 [.lit (.int .u8 (c.toNat : Int))] (B (digitI c.toNat)) := by
  refine con_of_body Tryz.func142 rfl Tryz.call142 (by rw [Tryz.ntmps142]; simp) ?_
  rw [Tryz.ntmps142, Tryz.results142]
  generalize c.toNat = n at *
  unfold digitI
  by_cases h2 : (48 : Int) ≤ (n : Int)
  · by_cases h3 : (n : Int) ≤ 57
    · rw [decide_eq_true ⟨h2, h3⟩]
      have F := And.intro h2 <| h3
      repeat refine sg ?_
      exact aR
    · rw [decide_eq_false (by omega)]
      have F := And.intro h2 <| h3
      repeat refine sg ?_
      exact aR
  · rw [decide_eq_false (by omega)]
    have F := h2
    repeat refine sg ?_
    exact aR
theorem all_take_snoc {l : List UInt8} {p : UInt8 → Bool} {i : Nat} (h : (l.take i).all p = true) (hi : i < l.length) (hp : p l[i] = true) : (l.take (i + 1)).all p = true := by
  rw [List.take_succ_eq_append_getElem hi, List.all_append, h]
  simp [hp]
theorem all_no {l : List UInt8} {p : UInt8 → Bool} {i : Nat} (hi : i < l.length) (hp : p l[i] = false) : l.all p = false := by
  rw [Bool.eq_false_iff]
  intro h
  rw [List.all_eq_true] at h
  rw [h _ (List.getElem_mem hi)] at hp
  cases hp
theorem w_name_con (env : Env) (l : List UInt8) : Con Tryz.prog env 92 [Sg l] (B (nameB l)) := by
  refine con_of_body Tryz.func92 rfl Tryz.call92 (by rw [Tryz.ntmps92]; simp) ?_
  rw [Tryz.ntmps92, Tryz.results92]
  by_cases h0 : l = []
  · subst h0
    repeat refine sg0 ?_
    refine oY (by simp only [go_sem]; exact iR) ?_
    repeat refine sg0 ?_
    (refine awp_ret ?_; show (resRd _ _ _).run _ = some _; simp only [go_sem])
    rfl
  obtain ⟨c, hc⟩ : ∃ c, l[0]? = some c := ⟨l[0]'(List.length_pos_iff.2 h0), List.getElem?_eq_getElem _⟩
  have g0 : ((l.length : Int) == 0) = false := by
    have := List.length_pos_iff.2 h0
    simp; exact h0
  by_cases h1 : l.length ≤ 32
  · have g1 : ¬ 32 < (l.length : Int) := by omega
    by_cases h2 : letterI c.toNat = true
    · have hnm : nameB l = l.all fun c => innerI c.toNat := by
        cases l with
        | nil => exact (h0 rfl).elim
        | cons d r =>
          simp only [List.getElem?_cons_zero, Option.some.injEq] at hc
          subst hc
          unfold nameB
          simp only [h2, decide_eq_true h1, Bool.true_and]
      have F := And.intro g0 <| And.intro g1 <| And.intro hc <| h2
      repeat refine sg ?_
      refine cC (w_letter_con env c) ?_
      repeat refine sg ?_
      refine oN (by simp only [go_sem, F]; exact iR) ?_
      repeat refine sg ?_
      refine awp_loopH (D := Nat) (fun i _ => [(0, Sg l), (3, I i)]) (fun _ _ => []) (fun i _ _ => i ≤ l.length ∧ ((l.take i).all fun c => innerI c.toNat) = true) (fun i => l.length - i) 0 ?_ ?_ ?_ ?_
      · exact ⟨Nat.zero_le _, rfl⟩
      · (simp only [go_sem, F])
      · (simp only [go_sem, F])
      rintro i vs esc ⟨hi, ha⟩
      by_cases hlt : i < l.length
      · have g2 := nlt hlt
        have g3 := wrap_succ hlt (by omega)
        have g4 : l[i]? = some l[i] := List.getElem?_eq_getElem hlt
        have hnxt := fun hp => all_take_snoc (p := fun c => innerI c.toNat) ha hlt hp
        have hnot := fun hp => all_no (p := fun c => innerI c.toNat) hlt hp
        try simp only at hnxt
        try simp only at hnot
        generalize l[i] = x at *
        by_cases h5 : letterI x.toNat = true
        ·
          have F := And.intro g2 <| And.intro g3 <| And.intro g4 <| h5
          repeat refine sg ?_
          refine oY (by simp only [go_sem, F]; exact iR) ?_
          repeat refine sg ?_
          refine cC (w_letter_con env x) ?_
          repeat refine sg ?_
          refine oN (by simp only [go_sem, F]; exact iR) ?_
          repeat refine sg ?_
          refine ⟨i + 1, ⟨hlt, hnxt (by simp [innerI, h5])⟩, ?_, ?_, ?_⟩
          · (simp only [go_sem, F])
          · (simp only [go_sem, F])
          · omega
        have h5 : letterI x.toNat = false := by simpa using h5
        by_cases h6 : digitI x.toNat = true
        ·
          have F := And.intro g2 <| And.intro g3 <| And.intro g4 <| And.intro h5 <| h6
          repeat refine sg ?_
          refine oY (by simp only [go_sem, F]; exact iR) ?_
          repeat refine sg ?_
          refine cC (w_letter_con env x) ?_
          repeat refine sg ?_
          refine cC (w_digit_con env x) ?_
          repeat refine sg ?_
          refine oN (by simp only [go_sem, F]; exact iR) ?_
          repeat refine sg ?_
          refine ⟨i + 1, ⟨hlt, hnxt (by simp [innerI, h5, h6])⟩, ?_, ?_, ?_⟩
          · (simp only [go_sem, F])
          · (simp only [go_sem, F])
          · omega
        have h6 : digitI x.toNat = false := by simpa using h6
        by_cases h7 : (x.toNat : Int) = 46
        · have h8 : ((x.toNat : Int) != 46) = false := by rw [h7]; rfl
          have F := And.intro g2 <| And.intro g3 <| And.intro g4 <| And.intro h5 <| And.intro h6 <| h8
          repeat refine sg ?_
          refine oY (by simp only [go_sem, F]; exact iR) ?_
          repeat refine sg ?_
          refine cC (w_letter_con env x) ?_
          repeat refine sg ?_
          refine cC (w_digit_con env x) ?_
          repeat refine sg ?_
          refine oN (by simp only [go_sem, F]; exact iR) ?_
          repeat refine sg ?_
          refine ⟨i + 1, ⟨hlt, hnxt (by simp only [innerI, h5, h6, decide_eq_true h7, Bool.or_true])⟩, ?_, ?_, ?_⟩
          · (simp only [go_sem, F])
          · (simp only [go_sem, F])
          · omega
        · have h8 : ((x.toNat : Int) != 46) = true := bne_iff_ne.2 h7
          have F := And.intro g2 <| And.intro g3 <| And.intro g4 <| And.intro h5 <| And.intro h6 <| h8
          repeat refine sg ?_
          refine oY (by simp only [go_sem, F]; exact iR) ?_
          repeat refine sg ?_
          refine cC (w_letter_con env x) ?_
          repeat refine sg ?_
          refine cC (w_digit_con env x) ?_
          repeat refine sg ?_
          refine oY (by simp only [go_sem, F]; exact iR) ?_
          repeat refine sg ?_
          (refine awp_ret ?_; show (resRd _ _ _).run _ = some _; simp only [go_sem, F])
          rw [hnm, hnot (by simp only [innerI, h5, h6, decide_eq_false h7, Bool.or_false])]
      · have g2 : ¬ (i : Int) < (l.length : Int) := by omega
        have F := g2
        repeat refine sg ?_
        refine oN (by simp only [go_sem, F]; exact iR) ?_
        repeat refine sg ?_
        (refine awp_ret ?_; show (resRd _ _ _).run _ = some _; simp only [go_sem, F])
        rw [hnm, ← ha, List.take_of_length_le (by omega)]
    · have h2 : letterI c.toNat = false := by simpa using h2
      have hnm : nameB l = false := by
        cases l with
        | nil => exact (h0 rfl).elim
        | cons d r =>
          simp only [List.getElem?_cons_zero, Option.some.injEq] at hc
          subst hc
          unfold nameB
          simp only [h2, Bool.and_false, Bool.false_and]
      rw [hnm]
      have F := And.intro g0 <| And.intro g1 <| And.intro hc <| h2
      repeat refine sg ?_
      refine cC (w_letter_con env c) ?_
      repeat refine sg ?_
      refine oY (by simp only [go_sem, F]; exact iR) ?_
      repeat refine sg ?_
      exact aR
  · have g1 : 32 < (l.length : Int) := by omega
    have hnm : nameB l = false := by
      unfold nameB
      rw [decide_eq_false h1]
      rfl
    rw [hnm]
    have F := And.intro g0 <| And.intro g1 <| hc
    repeat refine sg ?_
    refine oY (by simp only [go_sem, F]; exact iR) ?_
    repeat refine sg ?_
    exact aR
end Go.Proofs.YtlmekdfleciejaaGreatDoor
