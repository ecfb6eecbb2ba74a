/- The document's events; texts held together; what a nil table tells. -/
import Derived.Test.YtlmekdfleciejaaGreatDoorM4
import Derived.Test.YtlmekdfleciejaaGreatDoorM11
import Derived.Test.YtlmekdfleciejaaGreatDoorM39
import Derived.Test.YtlmekdfleciejaaGreatDoorM8
namespace Go.Proofs.YtlmekdfleciejaaGreatDoor
open Go.RowKit
theorem Str.seq {sz : Nat} {es' es : List (List AV)} (hl : es'.length = es.length) (hs : ∀ (i : Nat) (e' e : List AV), es'[i]? = some e' → es[i]? = some e → Strs e' e) : Str (.seq sz es') (.seq sz es) := fun S w v h => by
  have cell : ∀ {i j : Nat} {c : AV}, cellAt es i j = some c → ∃ c', cellAt es' i j = some c' ∧ Str c' c := fun {i j c} hc => by
    unfold cellAt at hc ⊢
    cases he : es[i]? with
    | none => rw [he] at hc; cases hc
    | some e =>
      rw [he] at hc
      have hi := (List.getElem?_eq_some_iff.1 he).1
      have he' : es'[i]? = some es'[i] := List.getElem?_eq_getElem (by omega)
      obtain ⟨h1, h2⟩ := hs i _ e he' he
      have hj := (List.getElem?_eq_some_iff.1 (show e[j]? = some c from hc)).1
      rw [he']
      exact ⟨es'[i][j], List.getElem?_eq_getElem (by omega), h2 j _ c (List.getElem?_eq_getElem (by omega)) hc⟩
  cases h with
  | seq A n cap sz es' b o u hn hcap hA hz hc hr =>
    refine .seq A n cap sz es b o u (by omega) hcap hA (fun i e he => ?_) (fun i j c h => ?_) fun i j c h => ?_
    · have hi := (List.getElem?_eq_some_iff.1 he).1
      have he' : es'[i]? = some es'[i] := List.getElem?_eq_getElem (by omega)
      rw [← (hs i _ e he' he).1]
      exact hz i _ he'
    · obtain ⟨c', h1, _⟩ := cell h
      exact hc i j c' h1
    · obtain ⟨c', h1, h2⟩ := cell h
      exact h2 _ _ _ (hr i j c' h1)
theorem Strs.one {c' c : AV} (h : Str c' c) : Strs [c'] [c] := .cons h .nil
def Strss (es' es : List (List AV)) : Prop := es'.length = es.length ∧ ∀ (i : Nat) (e' e : List AV), es'[i]? = some e' → es[i]? = some e → Strs e' e
theorem Strss.nil : Strss [] [] := ⟨rfl, fun i c' c h _ => by simp at h⟩
theorem Strss.cons {e' e : List AV} {es' es : List (List AV)} (h : Strs e' e) (hs : Strss es' es) : Strss (e' :: es') (e :: es) := ⟨by simp [hs.1], fun i a b ha hb => by
  cases i with
  | zero =>
    simp only [List.getElem?_cons_zero, Option.some.injEq] at ha hb
    subst ha hb
    exact h
  | succ i => exact hs.2 i a b (by simpa using ha) (by simpa using hb)⟩
theorem Str.seqs {sz : Nat} {es' es : List (List AV)} (h : Strss es' es) : Str (.seq sz es') (.seq sz es) := .seq h.1 h.2
end Go.Proofs.YtlmekdfleciejaaGreatDoor
namespace Go.Proofs.YtlmekdfleciejaaGreatDoor
open Go.RowKit
theorem Turned.frozen {s : St} (r t : Nat) (row : Row) (hp : row.pure = true) (hrz : row.sz ≠ 0) (hr : s.rows r = some row) (ht : s.f t = .row r (s.vs r)) : Turned s ((s.show r).put (some t) (.seq row.sz row.es)) := fun x a w m hS => by
  obtain ⟨S', q1, q2, q3⟩ := hS.show r row hr hrz hp
  have hv := hS.slot t
  rw [ht] at hv
  have hv1 : a.tmps.getD t undef = m.ρ r := hv.row_.2 rfl row hr
  exact ⟨_, q1.tell t (.seq row.sz row.es) (by rw [hv1]; exact .val q3)⟩
theorem Turned.nil {s : St} (t sz : Nat) (ht : s.f t = .lit (.slice none 0 0)) : Turned s (s.put (some t) (.seq sz [])) := fun x a w m hS => by
  have hv := hS.slot t
  rw [ht] at hv
  have hv1 := hv.lit_
  exact ⟨_, hS.tell t (.seq sz []) (by rw [hv1]; exact .val (Str.nil sz _ _ _ (.lit _)))⟩
section
variable {P : Program} {env : Env} {nt : Nat} {s : St}
end
def noGotoA (Q : Exit → St → Prop) : Exit → St → Prop
  | .goto _, _ => False
  | e, s => Q e s
theorem stepR_scope9 {P : Program} {b : Frame} {a : Act} {k : List Item} {cs : List Frame} {w : World} {c : Code} : step P (lone (b.atR a (.code (.scope c) :: k)) cs w) = .next (lone (b.atR a (.code c :: .inScope c :: k)) cs w) :=
  step_lone_go (by simp [stepG, stepG.exec, Frame.atR])
theorem stepR_inScope9 {P : Program} {b : Frame} {a : Act} {k : List Item} {cs : List Frame} {w : World} {c : Code} : step P (lone (b.atR a (.inScope c :: k)) cs w) = .next (lone (b.atR a k) cs w) :=
  step_lone_go (by simp [stepG, stepG.exec, Frame.atR])
theorem wpIn_scope9 {F : Fence} {n : Nat} {P : Program} {Q : Exit → Act → World → Prop} {a : Act} {w : World} {c : Code} (h : c.wpIn F n P (Exit.noGoto Q) a w) : (Code.scope c).wpIn F n P Q a w := by
  intro b k cs hro hb hr
  have h0 : (lone (b.atR a (.code (.scope c) :: k)) cs w).fenced P F := fenced_calm hb hr rfl
  obtain ⟨e, a₁, w₁, hq, harr⟩ := h b (.inScope c :: k) cs hro hb hr
  cases e with
  | normal => exact ⟨.normal, a₁, w₁, hq, .head h0 stepR_scope9 (StepsIn.trans harr (.one (fenced_calm hb hr rfl) stepR_inScope9))⟩
  | exit id =>
    have hx : exitTo id (.inScope c :: k) = exitTo id k := by simp [exitTo]
    exact ⟨.exit id, a₁, w₁, hq, fun k' hk => .head h0 stepR_scope9 (harr.1 k' (by rw [hx]; exact hk)),
        fun hr' hk => let ⟨k₁, h1, h2⟩ := harr.2 hr' (by rw [hx]; exact hk); ⟨k₁, h1, .head h0 stepR_scope9 h2⟩⟩
  | goto l => exact hq.elim
  | ret => exact ⟨_, a₁, w₁, hq, .of_steps (.one h0 stepR_scope9) harr⟩
  | panic ch => exact ⟨_, a₁, w₁, hq, .of_steps (.one h0 stepR_scope9) harr⟩
  | outgrown => exact ⟨_, a₁, w₁, hq, .of_steps (.one h0 stepR_scope9) harr⟩
theorem awp_scope {P : Program} {env : Env} {nt : Nat} {Q : Exit → St → Prop} {s : St} {c : Code} (h : awp P env nt c (noGotoA Q) s) : awp P env nt (.scope c) Q s := fun ro x he hn a w m hS =>
  wpIn_scope9 (wpIn_mono (h ro x he hn a w m hS) fun e a' w' ⟨s', m', q, hs⟩ => by
    cases e with
    | goto l => exact q.elim
    | _ => exact ⟨s', m', q, hs⟩)
end Go.Proofs.YtlmekdfleciejaaGreatDoor
set_option linter.unusedSimpArgs false
namespace Go.Proofs.YtlmekdfleciejaaGreatDoor
open Go.RowKit
set_option maxRecDepth 100000
set_option maxHeartbeats 8000000
theorem named_next {c : ChD} {j : Nat} {t : TrD} (h : c.trans[j]? = some t) : evRTo c (j + 1) = if t.event.isEmpty then evRTo c j else putB (evRTo c j) t.event := by
  unfold evRTo
  rw [named_succ h]
  split
  · rfl
  · rw [List.foldl_append]; rfl
theorem rEventsOwn_con (env : Env) (c : ChD) (hl : c.trans.length ≤ 4096) : Con Tryz.prog env 99 [.agg (chAV (ownD c))] (.seq 1 ((evL c).map strAV)) := by
  have f1 := rAllOwn_con env c (by omega)
  have hlen : (ownD c).trans.length = c.trans.length := by simp [ownD]
  have hev : ∀ j, evRTo (ownD c) j = evRTo c j := fun j => by unfold evRTo; rw [own_named]
  rw [← evR_all c, ← hev, ← hlen]
  have hlen : (ownD c).trans.length ≤ 4096 := by omega
  generalize ownD c = d at *
  refine con_of_body Tryz.func99 rfl Tryz.call99 (by rw [Tryz.ntmps99]; simp) ?_
  rw [Tryz.ntmps99, Tryz.results99]
  have F := chAV.eq_1
  repeat refine st ?_
  refine awp_frozen 7 3 ⟨1, [], 9, true⟩ rfl (Nat.succ_ne_zero 0) (by simp only [go_sem]; exact iR) (by simp only [go_sem]; exact iR) (by simp only [go_sem]; exact iR) ?_
  refine awp_loopH (D := Nat) (fun j vs => [(1, .loc 1 (vs 1) 0 0), (3, .seq 1 ((evRTo d j).map strAV)), (4, I j)]) (fun _ _ => [(1, ⟨5, [chAV d], 26, false⟩)]) (fun j _ esc => j ≤ d.trans.length) (fun j => d.trans.length - j) 0 ?_ ?_ ?_ ?_
  · exact Nat.zero_le _
  · (simp only [go_sem, F])
    try rfl
  · have F := chAV.eq_1
    (simp only [go_sem, F])
    try rfl
  rintro j ws esc hj
  by_cases hlt : j < d.trans.length
  · obtain ⟨t, ht⟩ : ∃ t, d.trans[j]? = some t := ⟨d.trans[j], List.getElem?_eq_getElem hlt⟩
    have q1 := nlt hlt
    have q2 := wrap_succ hlt (by omega)
    have hn := named_next ht
    have hle := evR_len d j
    refine awp_late ?_
    by_cases he : t.event = []
    · rw [if_pos (by rw [he]; rfl)] at hn
      have F := And.intro chAV.eq_1 <| And.intro trAV.eq_1 <| And.intro ht <| And.intro q1 <| And.intro q2 <| he
      repeat refine st ?_
      refine ⟨_, Turned.refl _, j + 1, hlt, ?_, ?_, by omega⟩
      · have F := hn
        (simp only [go_sem, F])
      · have F := chAV.eq_1
        (simp only [go_sem, F])
    · have he2 : (t.event == []) = false := by simpa using he
      rw [if_neg (by simpa using he)] at hn
      have f0 := rPut_con env (evRTo d j) t.event (by omega)
      have F := And.intro chAV.eq_1 <| And.intro trAV.eq_1 <| And.intro ht <| And.intro q1 <| And.intro q2 <| he2
      repeat (first | refine st ?_ | refine cC f0 ?_)
      refine ⟨_, Turned.frozen 29 3 ⟨1, (putB (evRTo d j) t.event).map strAV, 9, true⟩ rfl (Nat.succ_ne_zero 0) (by simp only [go_sem]) (by simp only [go_sem]), j + 1, hlt, ?_, ?_, by omega⟩
      · have F := hn
        (simp only [go_sem, F])
      · have F := chAV.eq_1
        (simp only [go_sem, F])
  · obtain rfl : j = d.trans.length := by omega
    have q1 : ¬ (d.trans.length : Int) < (d.trans.length : Int) := by omega
    have F := And.intro chAV.eq_1 <| q1
    repeat refine st ?_
    unfold chAV at f1
    repeat (first | refine st ?_ | refine cC f1 ?_)
    refine awp_loopH (D := Unit) (fun _ vs => [(3, .seq 1 ((evRTo d d.trans.length).map strAV)), (5, .row 31 (vs 31)), (6, I 0)]) (fun _ _ => [(31, ⟨4, [], 154, true⟩)]) (fun _ _ _ => True) (fun _ => 0) () ?_ ?_ ?_ ?_
    · exact trivial
    · (simp only [go_sem, F])
      try rfl
    · (simp only [go_sem, F])
      try rfl
    rintro ⟨⟩ ws esc -
    have q0 : ¬ (0 : Int) < 0 := by omega
    have F := q0
    repeat refine st ?_
    exact aR
theorem own_str (c : ChD) : Strs [.agg [Sg [], I 0, nilS, nilS, .seq 5 (c.trans.map fun t => [I 0, Sg t.event, nilS, nilS, I 0])]] [.agg (chAV (ownD c))] := by
  refine .one (.agg (.cons (.refl _) (.cons (.refl _) (.cons (.nil 2) (.cons (.nil 6) (.cons (.seqs ?_) .nil))))))
  unfold ownD
  simp only [List.map_map]
  generalize c.trans = l
  induction l with
  | nil => exact .nil
  | cons t l ih => exact .cons (.cons (.refl _) (.cons (.refl _) (.cons (.nil 2) (.cons (.nil 4) (.cons (.refl _) .nil))))) ih
theorem rEvents28_con (env : Env) (c : ChD) (hl : c.trans.length ≤ 4096) : Con Tryz.prog env 40 [.agg (chAV c)] (.seq 1 ((evL c).map strAV)) := by
  have f1 := (rEventsOwn_con env c hl).args (own_str c)
  refine con_of_body Tryz.func40 rfl Tryz.call40 (by rw [Tryz.ntmps40]; simp) ?_
  rw [Tryz.ntmps40, Tryz.results40]
  have F := chAV.eq_1
  repeat refine st ?_
  refine awp_loopH (D := Nat) (fun j vs => [(1, .loc 1 (vs 1) 0 0), (3, .loc 3 (vs 3) 0 0), (4, I j)]) (fun j vs => [(1, ⟨5, [chAV c], 26, false⟩), (3, ⟨5, [[Sg [], I 0, nilS, nilS, .row 5 (vs 5)]], 26, false⟩), (5, ⟨5, (c.trans.take j).map fun t => [I 0, Sg t.event, nilS, nilS, I 0], 76, true⟩)])
    (fun j _ esc => j ≤ c.trans.length ∧ esc 3 = false ∧ esc 5 = false) (fun j => c.trans.length - j) 0 ?_ ?_ ?_ ?_
  · exact ⟨Nat.zero_le _, rfl, rfl⟩
  · (simp only [go_sem, F])
    try rfl
  · have F := chAV.eq_1
    (simp only [go_sem, F])
    try rfl
  rintro j ws esc ⟨hj, e0, e1⟩
  by_cases hlt : j < c.trans.length
  · obtain ⟨t, ht⟩ : ∃ t, c.trans[j]? = some t := ⟨c.trans[j], List.getElem?_eq_getElem hlt⟩
    have q1 := nlt hlt
    have q2 := wrap_succ hlt (by omega)
    have hf : Fits (j + 1) 80 := fits_small (by omega) (by omega)
    have htl : (c.trans.take j).length = j := by rw [List.length_take]; omega
    have hn : c.trans.take (j + 1) = c.trans.take j ++ [t] := by rw [List.take_add_one, ht]; rfl
    have F := And.intro chAV.eq_1 <| And.intro trAV.eq_1 <| And.intro ht <| And.intro q1 <| And.intro q2 <| And.intro hf <| And.intro htl <| And.intro e0 <| e1
    repeat refine st ?_
    refine ⟨j + 1, ⟨hlt, by simp only [go_sem, e0], by simp only [go_sem, e1]⟩, ?_, ?_, by omega⟩
    · (simp only [go_sem, F])
    · have F := And.intro chAV.eq_1 <| hn
      (simp only [go_sem, List.map_append, F])
  · obtain rfl : j = c.trans.length := by omega
    have q1 : ¬ (c.trans.length : Int) < (c.trans.length : Int) := by omega
    have htl : c.trans.take c.trans.length = c.trans := List.take_length
    rw [htl]
    have F := And.intro chAV.eq_1 <| And.intro q1 <| And.intro e0 <| e1
    repeat (first | refine st ?_ | refine cC f1 ?_)
    exact aR
theorem evI_first {c : ChD} {s : Str8} {j : Nat} (h : (evL c)[j]? = some s) : evI c s = (j : Int) := by
  obtain ⟨k, e1, e2⟩ := evI_in (List.mem_of_getElem? h)
  rw [e1]
  have hp := ev_pair c
  obtain ⟨hj, e3⟩ := List.getElem?_eq_some_iff.1 h
  obtain ⟨hk, e4⟩ := List.getElem?_eq_some_iff.1 e2
  have irr : ¬ SL s s := fun hx => by
    have := bl_asymm hx
    rw [hx] at this
    cases this
  rcases Nat.lt_trichotomy j k with q | q | q
  · have := List.pairwise_iff_getElem.1 hp j k hj hk q
    rw [e3, e4] at this
    exact absurd this irr
  · rw [q]
  · have := List.pairwise_iff_getElem.1 hp k j hk hj q
    rw [e3, e4] at this
    exact absurd this irr
theorem rEvent28_con (env : Env) (c : ChD) (hl : c.trans.length ≤ 4096) (s : Str8) : Con Tryz.prog env 41 [.agg (chAV c), Sg s] (I (evI c s)) := by
  have f0 := rEvents28_con env c hl
  unfold chAV at f0
  have hel := evL_len c
  refine con_of_body Tryz.func41 rfl Tryz.call41 (by rw [Tryz.ntmps41]; simp) ?_
  rw [Tryz.ntmps41, Tryz.results41]
  have F := chAV.eq_1
  repeat (first | refine st ?_ | refine cC f0 ?_)
  refine awp_loopH (D := Nat) (fun j vs => [(1, Sg s), (5, .seq 1 ((evL c).map strAV)), (6, I j)]) (fun _ _ => []) (fun j _ _ => j ≤ (evL c).length ∧ ∀ m, m < j → (evL c)[m]? ≠ some s) (fun j => (evL c).length - j) 0 ?_ ?_ ?_ ?_
  · exact ⟨Nat.zero_le _, fun m hm => absurd hm (by omega)⟩
  · (simp only [go_sem, F])
    try rfl
  · (simp only [go_sem, F])
  rintro j ws esc ⟨hj, hall⟩
  by_cases hlt : j < (evL c).length
  · obtain ⟨x, hx⟩ : ∃ x, (evL c)[j]? = some x := ⟨(evL c)[j], List.getElem?_eq_getElem hlt⟩
    have q1 := nlt hlt
    have q2 := wrap_succ hlt (by omega)
    by_cases e : x = s
    · subst e
      rw [evI_first hx]
      have F := And.intro strAV.eq_1 <| And.intro hx <| q1
      repeat refine st ?_
      exact aR
    · have e2 : (x == s) = false := by simpa using e
      have F := And.intro strAV.eq_1 <| And.intro hx <| And.intro q1 <| And.intro q2 <| e2
      repeat refine st ?_
      refine ⟨j + 1, ⟨hlt, fun m hm => by
        rcases Nat.lt_succ_iff_lt_or_eq.1 hm with h | h
        · exact hall m h
        · rw [h, hx]; simpa using e⟩, ?_, ?_, by omega⟩
      · (simp only [go_sem, F])
      · (simp only [go_sem, F])
  · obtain rfl : j = (evL c).length := by omega
    have q1 : ¬ ((evL c).length : Int) < ((evL c).length : Int) := by omega
    have ho : evI c s = -1 := evI_out fun h => by
      obtain ⟨m, hm⟩ := List.mem_iff_getElem?.1 h
      exact hall m (List.getElem?_eq_some_iff.1 hm).1 hm
    rw [ho]
    have F := q1
    repeat refine st ?_
    exact aR
theorem sameTexts_con (env : Env) (l m : List Str8) (hl : l.length ≤ 1000000) : Con Tryz.prog env 39 [.seq 1 (l.map strAV), .seq 1 (m.map strAV)] (B (decide (l = m))) := by
  by_cases h0 : l.length = m.length
  · refine con_of_body Tryz.func39 rfl Tryz.call39 (by rw [Tryz.ntmps39]; simp) ?_
    rw [Tryz.ntmps39, Tryz.results39]
    have g0 : ((l.length : Int) != (m.length : Int)) = false := by simp [h0]
    have F := g0
    repeat refine st ?_
    refine awp_loopH (D := Nat) (fun j _ => [(0, .seq 1 (l.map strAV)), (1, .seq 1 (m.map strAV)), (5, I j)]) (fun _ _ => []) (fun j _ _ => j ≤ l.length ∧ l.take j = m.take j) (fun j => l.length - j) 0 ?_ ?_ ?_ ?_
    · exact ⟨Nat.zero_le _, rfl⟩
    · (simp only [go_sem, F])
    · (simp only [go_sem, F])
    rintro j ws esc ⟨hj, ht⟩
    by_cases hlt : j < l.length
    · have hlt2 : j < m.length := by omega
      obtain ⟨a, ha⟩ : ∃ a, l[j]? = some a := ⟨l[j], List.getElem?_eq_getElem hlt⟩
      obtain ⟨b, hb⟩ : ∃ b, m[j]? = some b := ⟨m[j], List.getElem?_eq_getElem hlt2⟩
      have g1 := nlt hlt
      have g4 := nlt hlt2
      have g2 := wrap_succ hlt (by omega)
      by_cases e : a = b
      · have g3 : (a == b) = true := by simp [e]
        have F := And.intro g1 <| And.intro g2 <| And.intro g3 <| And.intro g4 <| And.intro ha <| And.intro hb <| And.intro strAV.eq_1 <| bneA
        repeat refine st ?_
        refine ⟨j + 1, ⟨hlt, ?_⟩, ?_, ?_, by omega⟩
        · rw [List.take_add_one, List.take_add_one, ht, ha, hb, e]
        · (simp only [go_sem, F])
        · (simp only [go_sem, F])
      · have g3 : (a == b) = false := by simpa using e
        have hr : decide (l = m) = false := decide_eq_false fun e2 => e (by rw [e2] at ha; exact Option.some.inj (ha.symm.trans hb))
        rw [hr]
        have F := And.intro g1 <| And.intro g2 <| And.intro g3 <| And.intro g4 <| And.intro ha <| And.intro hb <| And.intro strAV.eq_1 <| bneA
        repeat refine st ?_
        exact aR
    · obtain rfl : j = l.length := by omega
      have g1 : ¬ (l.length : Int) < (l.length : Int) := by omega
      have hr : decide (l = m) = true := decide_eq_true (by rwa [List.take_length, List.take_of_length_le (by omega)] at ht)
      rw [hr]
      have F := g1
      repeat refine st ?_
      exact aR
  · have g0 : ((l.length : Int) != (m.length : Int)) = true := by simp; omega
    have hr : decide (l = m) = false := decide_eq_false fun e => h0 (by rw [e])
    rw [hr]
    refine con_of_body Tryz.func39 rfl Tryz.call39 (by rw [Tryz.ntmps39]; simp) ?_
    rw [Tryz.ntmps39, Tryz.results39]
    have F := g0
    repeat refine st ?_
    exact aR
/-! Nil tables -/
abbrev nilTb : AV := .lit (.pointer none)
theorem nEvent_con (env : Env) (s : Str8) : Con Tryz.prog env 29 [nilTb, Sg s] (I (-1)) := by
  refine con_of_body Tryz.func29 rfl Tryz.call29 (by rw [Tryz.ntmps29]; simp) ?_
  rw [Tryz.ntmps29, Tryz.results29]
  repeat refine st0 ?_
  exact aR0
theorem nEvents_con (env : Env) : Con Tryz.prog env 30 [nilTb] nilS := by
  refine con_of_body Tryz.func30 rfl Tryz.call30 (by rw [Tryz.ntmps30]; simp) ?_
  rw [Tryz.ntmps30, Tryz.results30]
  repeat refine st0 ?_
  exact aR0
theorem nTree_con (env : Env) : Con Tryz.prog env 31 [nilTb] (.lit (.pointer none)) := by
  refine con_of_body Tryz.func31 rfl Tryz.call31 (by rw [Tryz.ntmps31]; simp) ?_
  rw [Tryz.ntmps31, Tryz.results31]
  repeat refine st0 ?_
  exact aR0
theorem nAt_con (env : Env) (i e : Int) : Con Tryz.prog env 32 [nilTb, I i, I e] nilS := by
  refine con_of_body Tryz.func32 rfl Tryz.call32 (by rw [Tryz.ntmps32]; simp) ?_
  rw [Tryz.ntmps32, Tryz.results32]
  repeat refine st0 ?_
  exact aR0
theorem nAuto_con (env : Env) (i : Int) : Con Tryz.prog env 19 [nilTb, I i] nilS := by
  refine con_of_body Tryz.func19 rfl Tryz.call19 (by rw [Tryz.ntmps19]; simp) ?_
  rw [Tryz.ntmps19, Tryz.results19]
  repeat refine st0 ?_
  exact aR0
theorem nIs_con (env : Env) (i : Int) : Con Tryz.prog env 72 [nilTb, I i] (B false) := by
  refine con_of_body Tryz.func72 rfl Tryz.call72 (by rw [Tryz.ntmps72]; simp) ?_
  rw [Tryz.ntmps72, Tryz.results72]
  repeat refine st0 ?_
  exact aR0
theorem nBegin_con (env : Env) (i : Int) : Con Tryz.prog env 18 [nilTb, I i] nilS := by
  have f0 := nIs_con env i
  refine con_of_body Tryz.func18 rfl Tryz.call18 (by rw [Tryz.ntmps18]; simp) ?_
  rw [Tryz.ntmps18, Tryz.results18]
  repeat (first | refine st0 ?_ | refine cC0 f0 ?_)
  exact aR0
theorem nReal_con (env : Env) (i : Int) : Con Tryz.prog env 33 [nilTb, I i] nilS := by
  have f0 := nIs_con env i
  refine con_of_body Tryz.func33 rfl Tryz.call33 (by rw [Tryz.ntmps33]; simp) ?_
  rw [Tryz.ntmps33, Tryz.results33]
  repeat (first | refine st0 ?_ | refine cC0 f0 ?_)
  exact aR0
theorem nMem_con (env : Env) (i : Int) : Con Tryz.prog env 34 [nilTb, I i] nilS := by
  have f0 := nIs_con env i
  refine con_of_body Tryz.func34 rfl Tryz.call34 (by rw [Tryz.ntmps34]; simp) ?_
  rw [Tryz.ntmps34, Tryz.results34]
  repeat (first | refine st0 ?_ | refine cC0 f0 ?_)
  exact aR0
theorem nReach_con (env : Env) : Con Tryz.prog env 24 [nilTb] nilS := by
  refine con_of_body Tryz.func24 rfl Tryz.call24 (by rw [Tryz.ntmps24]; simp) ?_
  rw [Tryz.ntmps24, Tryz.results24]
  repeat refine st0 ?_
  refine awp_scope ?_
  repeat refine st0 ?_
  exact aR0
theorem nDead_con (env : Env) : Con Tryz.prog env 26 [nilTb] nilS := by
  refine con_of_body Tryz.func26 rfl Tryz.call26 (by rw [Tryz.ntmps26]; simp) ?_
  rw [Tryz.ntmps26, Tryz.results26]
  repeat refine st0 ?_
  exact aR0
theorem nChart_con (env : Env) : Con Tryz.prog env 17 [nilTb] (.agg [Sg [], I 0, nilS, nilS, nilS]) := by
  refine con_of_body Tryz.func17 rfl Tryz.call17 (by rw [Tryz.ntmps17]; simp) ?_
  rw [Tryz.ntmps17, Tryz.results17]
  repeat refine st0 ?_
  exact aR0
end Go.Proofs.YtlmekdfleciejaaGreatDoor
