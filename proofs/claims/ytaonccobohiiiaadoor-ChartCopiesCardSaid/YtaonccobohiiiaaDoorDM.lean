/- The law ChartCopies, walked with memory. -/
import Derived.Test.YtaonccobohiiiaaDoorDL
import Derived.Test.YtaonccobohiiiaaDoorDW
import Derived.Test.YtaonccobohiiiaaDoorHE
namespace Go.Proofs.YtaonccobohiiiaaDoor
open Go.RowKit

/-- A chart by value, as it is written. -/
theorem ch_form {S : Nat → Nat → Prop} {w : World} {c : ChD} {v : Value} (h : RV S w v (.agg (chAV c))) : ∃ A1 k1 A2 k2 A3 k3, v = .agg #[.string ⟨c.name.toArray⟩, .int .i64 c.initial, .slice A1 c.vars.length k1, .slice A2 c.states.length k2, .slice A3 c.trans.length k3] := by
  have sl : ∀ {u : Value} {sz : Nat} {es : List (List AV)}, RV S w u (.seq sz es) → ∃ A k, u = .slice A es.length k := fun hh => by
    cases hh with
    | seq A n cap sz es b o u hn hcap hA hz hc hr => exact ⟨A, cap, by rw [hn]⟩
  cases h with
  | agg vs cs hl h1 hc =>
    match vs, hl with
    | [u0, u1, u2, u3, u4], _ =>
      have k0 := hc 0 u0 _ rfl rfl
      have k1 := hc 1 u1 _ rfl rfl
      obtain ⟨A1, c1, rfl⟩ := sl (hc 2 u2 _ rfl rfl)
      obtain ⟨A2, c2, rfl⟩ := sl (hc 3 u3 _ rfl rfl)
      obtain ⟨A3, c3, rfl⟩ := sl (hc 4 u4 _ rfl rfl)
      cases k0
      cases k1
      exact ⟨A1, c1, A2, c2, A3, c3, by simp⟩
theorem c5 {w : World} {b : Nat} {t : TypeId} {u0 u1 u2 u3 u4 : Value} (h : Whole w b t #[u0, u1, u2, u3, u4]) : w.cell? ⟨b, 0, none⟩ = some u0 ∧ w.cell? ⟨b, 1, none⟩ = some u1 ∧ w.cell? ⟨b, 2, none⟩ = some u2 ∧ w.cell? ⟨b, 3, none⟩ = some u3 ∧ w.cell? ⟨b, 4, none⟩ = some u4 :=
  ⟨h.cell 0, h.cell 1, h.cell 2, h.cell 3, h.cell 4⟩
/-- Of the world in which a copy begins. -/
def envFrom (env : Env) (n : Nat) : Env := ⟨env.at_, fun w => env.inv w ∧ n ≤ w.heap.size, fun w w' h hb => ⟨env.up w w' h.1 hb, Nat.le_trans h.2 hb.size⟩⟩
theorem EnvOk.from {env : Env} {S : Nat → Nat → Prop} {w : World} (h : EnvOk env S w) {n : Nat} (hn : n ≤ w.heap.size) : EnvOk (envFrom env n) S w := ⟨⟨h.inv, hn⟩, h.low, h.env⟩
theorem fits_op {n : Nat} (h : n * 16 ≤ reachBytes) : Fits n 16 := by
  have : reachBytes = 140737488351232 := rfl
  exact ⟨by omega, by omega⟩
theorem fewW_own {c : ChD} (h : fewW_ch c) (hl : lightCB c = true) : OwnC c ∧ SmallN c := by
  unfold lightCB at hl
  simp only [Bool.and_eq_true, decide_eq_true_eq, List.all_eq_true] at hl
  obtain ⟨⟨⟨⟨h1, h2⟩, h3⟩, h4⟩, h5⟩ := hl
  have hst : ∀ s ∈ c.states, s.inn.length ≤ 50 ∧ s.out.length ≤ 50 := fun s hs => by have := h4 s hs; simpa [lightStB] using this
  refine ⟨⟨by omega, by omega, by omega, fun s hs => by have := (hst s hs).1; omega, fun t ht => fits_op (h.2.2 t ht).2.1⟩, by omega, by omega, by omega, fun s hs => ⟨⟨by have := (hst s hs).1; omega, fun a ha => fits_op ((h.2.1 s hs).2.1 a ha).2⟩, ⟨by have := (hst s hs).2; omega, fun a ha => fits_op ((h.2.1 s hs).2.2 a ha).2⟩⟩, fun t ht => ⟨fits_op (h.2.2 t ht).2.1, by have := h5 t ht; omega, fun a ha => fits_op ((h.2.2 t ht).2.2 a ha).2⟩⟩

set_option maxHeartbeats 4000000 in
set_option maxRecDepth 100000 in
theorem lawCopies_any {a1 a8 : Addr} {W : World} (hW : ChW W a1 a8) (c : ChD) (hc : fewW_ch c) {v : Value} (hv : RV (fun b _ => b < W.heap.size) W v (.agg (chAV c))) :
    Calls Tryd.prog 3 #[v] W fun e w' => e = .returned (.bool true) ∧ Below W.heap.size W w' := by
  obtain ⟨A1, k1, A2, k2, A3, k3, rfl⟩ := ch_form hv
  generalize hn1 : c.vars.length = n1 at *
  generalize hn2 : c.states.length = n2 at *
  generalize hn3 : c.trans.length = n3 at *
  have he := chEnv_law a1 a8
  have hE := Lib.hid (chEnv_ok hW)
  have HV := Lib.hid hv
  try clear hv
  have hb1 := (Below.refl W.heap.size W).alloc (Nat.le_refl _) (.cells #[.string ⟨c.name.toArray⟩, .int .i64 c.initial, .slice A1 n1 k1, .slice A2 n2 k2, .slice A3 n3 k3] 26)
  have N1 := Lib.hid (Whole.new W 26 #[.string ⟨c.name.toArray⟩, .int .i64 c.initial, .slice A1 n1 k1, .slice A2 n2 k2, .slice A3 n3 k3])
  have B1 := Lib.hid hb1
  try clear hb1
  go_enter Tryd.func3, Tryd.ntmps3
  go_wp2_with fail
  generalize W.alloc (.cells #[.string ⟨c.name.toArray⟩, .int .i64 c.initial, .slice A1 n1 k1, .slice A2 n2 k2, .slice A3 n3 k3] 26) = w1 at *
  have E1 := Lib.hid (hE.out.belowA B1.out)
  have V1 := Lib.hid (show RV (fun b _ => b < w1.heap.size) w1 _ (.agg (chAV c)) from HV.out.mono fun b o (hb : b < _) => ⟨Nat.lt_of_lt_of_le hb B1.out.size, B1.out.stay hb⟩)
  refine (con_call (light24_con _ c) E1.out (fun _ _ _ => by simp) (vs := [_]) ⟨V1.out, trivial⟩).mono ?_
  rintro e w2 ⟨u, rfl, hb2, he2, hu⟩
  obtain rfl := hu.lit_inv
  have hs2 := hb2.size
  have B2 := Lib.hid (B1.out.trans (hb2.mono B1.out.size))
  have N2 := Lib.hid (N1.out.below hb2 N1.out.lt)
  have hW2 : W.heap.size < w2.heap.size := N2.out.lt
  have E2 := Lib.hid he2
  have V2 := Lib.hid (show RV (fun b _ => b < w2.heap.size) w2 _ (.agg (chAV c)) from V1.out.mono fun b o (hb : b < _) => ⟨Nat.lt_of_lt_of_le hb hs2, hb2.stay hb⟩)
  try clear hb2 he2 hu hs2 B1 N1 E1 V1
  cases hl : lightCB c
  · go_wp2_with fail
    refine (con_call (awake_con _ a1 a8 he) E2.out (fun _ _ _ => by simp) (vs := []) trivial).mono ?_
    rintro e w3 ⟨u, rfl, hb3, _, hu⟩
    obtain rfl := hu.lit_inv
    have B3 := Lib.hid (B2.out.trans (hb3.mono B2.out.size))
    try clear hb3
    go_wp2_with fail
    go_ret
    exact ⟨rfl, B3.out⟩
  obtain ⟨ho, hsm⟩ := fewW_own hc hl
  have z1 : n1 ≤ 4096 := hn1 ▸ ho.vars
  have z2 : n2 ≤ 4096 := hn2 ▸ ho.sts
  have z3 : n3 ≤ 4096 := hn3 ▸ ho.trs
  obtain ⟨y0, y1, y2, y3, y4⟩ := c5 N2.out
  go_wp2_with fail
  refine (own_mem _ c ho E2.out V2.out).mono ?_
  rintro e w3 ⟨vV, vS, vT, Vs, Ws, S3, rfl, hb3, hlow, hM⟩
  have hs3 := hb3.size
  have hJ := hM.junk ho
  have hMV := hM.rv hlow
  obtain ⟨A4, k4, A5, k5, A6, k6, hf⟩ := ch_form hMV
  injection hf with hf
  injection hf with hf
  simp only [List.cons.injEq, and_true, true_and] at hf
  obtain ⟨rfl, rfl, rfl⟩ := hf
  rw [hn1, hn2, hn3] at hJ hMV
  have J3 := Lib.hid hJ
  have M3 := Lib.hid hMV
  have B3 := Lib.hid (B2.out.trans (hb3.mono B2.out.size))
  have N3 := Lib.hid (N2.out.below hb3 N2.out.lt)
  have E3 := Lib.hid (E2.out.belowA hb3)
  try clear hJ hMV hM hlow hb3 y0 y1 y2 y3 y4 N2 E2 V2
  go_wp2_with fail
  have hb4 := (Below.refl w3.heap.size w3).alloc (Nat.le_refl _) (.cells #[.string ⟨c.name.toArray⟩, .int .i64 c.initial, .slice A4 n1 k4, .slice A5 n2 k5, .slice A6 n3 k6] 26)
  have P4 := Lib.hid (Whole.new w3 26 #[.string ⟨c.name.toArray⟩, .int .i64 c.initial, .slice A4 n1 k4, .slice A5 n2 k5, .slice A6 n3 k6])
  generalize w3.alloc (.cells #[.string ⟨c.name.toArray⟩, .int .i64 c.initial, .slice A4 n1 k4, .slice A5 n2 k5, .slice A6 n3 k6] 26) = w4 at *
  have hs4 := hb4.size
  have B4 := Lib.hid (B3.out.trans (hb4.mono B3.out.size))
  have N4 := Lib.hid (N3.out.below hb4 N3.out.lt)
  have E4 := Lib.hid (E3.out.belowA hb4)
  have J4 := Lib.hid (J3.out.below hb4)
  have M4 := Lib.hid (show RV (fun b _ => b < w4.heap.size) w4 _ (.agg (chAV c)) from M3.out.mono fun b o (hb : b < _) => ⟨Nat.lt_of_lt_of_le hb hs4, hb4.stay hb⟩)
  try clear hb4 B3 N3 E3 J3 M3
  refine (con_call (pCopyN_con (envFrom (chEnv a1 a8) w3.heap.size) w3.heap.size (fun _ h => h.2) c hsm) (E4.out.from hs4) (fun _ _ _ => by simp) (vs := [_]) ⟨M4.out, trivial⟩).mono ?_
  rintro e w5 ⟨x, rfl, hb5, _, hx⟩
  have hs5 := hb5.size
  obtain ⟨_, _, _, _, _, hx2⟩ := far_ch (T := fun b _ => w3.heap.size ≤ b ∧ b < w5.heap.size) (fun b o h1 h2 => ⟨h2, h1⟩) hx
  obtain ⟨A7, k7, A8, k8, A9, k9, rfl⟩ := ch_form hx2
  rw [hn1, hn2, hn3] at hx2
  simp only [hn1, hn2, hn3]
  have X5 := Lib.hid hx2
  have B5 := Lib.hid (B4.out.trans (hb5.mono B4.out.size))
  have N5 := Lib.hid (N4.out.below hb5 N4.out.lt)
  have P5 := Lib.hid (P4.out.below hb5 P4.out.lt)
  have J5 := Lib.hid (J4.out.below (hb5.mono hs4))
  try clear hb5 hx hx2 B4 N4 P4 J4 E4 M4
  go_wp2_with fail
  have hb6 := (Below.refl w5.heap.size w5).alloc (Nat.le_refl _) (.cells #[.string ⟨c.name.toArray⟩, .int .i64 c.initial, .slice A7 n1 k7, .slice A8 n2 k8, .slice A9 n3 k9] 26)
  have Q6 := Lib.hid (Whole.new w5 26 #[.string ⟨c.name.toArray⟩, .int .i64 c.initial, .slice A7 n1 k7, .slice A8 n2 k8, .slice A9 n3 k9])
  generalize w5.alloc (.cells #[.string ⟨c.name.toArray⟩, .int .i64 c.initial, .slice A7 n1 k7, .slice A8 n2 k8, .slice A9 n3 k9] 26) = w6 at *
  have hs6 := hb6.size
  have B6 := Lib.hid (B5.out.trans (hb6.mono B5.out.size))
  have N6 := Lib.hid (N5.out.below hb6 N5.out.lt)
  have P6 := Lib.hid (P5.out.below hb6 P5.out.lt)
  have J6 := Lib.hid (J5.out.below (hb6.mono (Nat.le_trans hs4 hs5)))
  have X6 := Lib.hid (show RV (fun b _ => w3.heap.size ≤ b ∧ b < w6.heap.size) w6 _ (.agg (chAV c)) from X5.out.mono fun b o hb => ⟨⟨hb.1, Nat.lt_of_lt_of_le hb.2 hs6⟩, hb6.stay hb.2⟩)
  try clear hb6 B5 N5 P5 J5 X5
  go_loopw [5] (fun v5 wl => ∃ k : Nat, k ≤ n2 ∧ v5 = .int .i64 k ∧ Kept w2.heap.size w3.heap.size w6 wl) (fun i _ => n2 - (intOf i).toNat)
  case atStart => exact ⟨0, by omega, rfl, Kept.refl _ _ _⟩
  case round =>
    obtain ⟨k, hk, rfl, hkept⟩ := hrel
    by_cases hlt : k < n2
    · obtain ⟨V, g, cap, cur, m, e1, e2, e3, e4, e5, e6, ⟨A10, k10, rfl, e7⟩, hm⟩ := J6.out.inn k (by omega)
      injection e1 with e1 q1 q2
      subst e1
      try clear q1 q2
      have hc0 := hkept.cell e4 (o := k * 6) (by omega)
      obtain ⟨u0, hc1, hc2⟩ := hc0
      have K0 := Lib.hid hkept
      obtain ⟨y0, y1, y2, y3, y4⟩ := c5 (hkept.whole P6.out (Nat.le_refl _))
      try clear hkept
      go_wp2_with fail
      have K1 := Lib.hid (K0.out.store e4 e2 e3 (fun _ => by omega) (fun h => absurd h (by decide)) (.string ⟨#[115, 112, 111, 105, 108, 116]⟩) (o := k * 6))
      try clear K0 y0 y1 y2 y3 y4 hc1 hc2
      generalize wr.setCell ⟨g, k * 6, none⟩ (.string ⟨#[115, 112, 111, 105, 108, 116]⟩) = w7 at *
      go_loopw [6] (fun v6 wl => ∃ j : Nat, j ≤ m ∧ v6 = .int .i64 j ∧ Kept w2.heap.size w3.heap.size w6 wl) (fun i _ => m - (intOf i).toNat)
      case atStart => exact ⟨0, by omega, rfl, K1.out⟩
      case round =>
        obtain ⟨j, hj, rfl, hkept⟩ := hrel
        have K2 := Lib.hid hkept
        obtain ⟨y0, y1, y2, y3, y4⟩ := c5 (hkept.whole P6.out (Nat.le_refl _))
        have y5 := hkept.slotS e4 e6
        try clear hkept
        by_cases hlj : j < m
        · obtain ⟨g2, cur2, rfl, f2, f3, f4, f5⟩ := e7 (by omega)
          obtain ⟨u1, hc1, hc2⟩ := K2.out.cell f4 (o := j * 4) (by omega)
          try clear e7
          go_wp2_with fail
          go_round
          case rel => exact ⟨j + 1, by omega, by go_num, K2.out.store f4 f2 f3 (fun h => absurd h (by decide)) (fun h => absurd h (by decide)) _⟩
          case measure => simp [intOf]; omega
        · obtain rfl : j = m := by omega
          try clear e7
          go_wp2_with fail
          go_round
          case rel => exact ⟨k + 1, by omega, by go_num, K2.out⟩
          case measure => simp [intOf]; omega
    · obtain rfl : k = n2 := by omega
      have K0 := Lib.hid hkept
      obtain ⟨y0, y1, y2, y3, y4⟩ := c5 (hkept.whole P6.out (Nat.le_refl _))
      try clear hkept
      go_wp2_with fail
      try clear y0 y1 y2 y3 y4
      go_loopw [7] (fun v7 wl => ∃ p : Nat, p ≤ n3 ∧ v7 = .int .i64 p ∧ Kept w2.heap.size w3.heap.size w6 wl) (fun i _ => n3 - (intOf i).toNat)
      case atStart => exact ⟨0, by omega, rfl, K0.out⟩
      try clear K0
      case round =>
        obtain ⟨p, hp, rfl, hkept⟩ := hrel
        by_cases hlt3 : p < n3
        · obtain ⟨V, g, cap, cur, m, e1, e2, e3, e4, e5, e6, ⟨A10, k10, rfl, e7⟩, hm⟩ := J6.out.gd p (by omega)
          injection e1 with e1 q1 q2
          subst e1
          try clear q1 q2
          have K0 := Lib.hid hkept
          obtain ⟨y0, y1, y2, y3, y4⟩ := c5 (hkept.whole P6.out (Nat.le_refl _))
          try clear hkept
          go_wp2_with fail
          try clear y0 y1 y2 y3 y4
          go_loopw [8] (fun v8 wl => ∃ j : Nat, j ≤ m ∧ v8 = .int .i64 j ∧ Kept w2.heap.size w3.heap.size w6 wl) (fun i _ => m - (intOf i).toNat)
          case atStart => exact ⟨0, by omega, rfl, K0.out⟩
          case round =>
            obtain ⟨j, hj, rfl, hkept⟩ := hrel
            have K2 := Lib.hid hkept
            obtain ⟨y0, y1, y2, y3, y4⟩ := c5 (hkept.whole P6.out (Nat.le_refl _))
            have y5 := hkept.slotT e4 e6
            try clear hkept
            by_cases hlj : j < m
            · obtain ⟨g2, cur2, rfl, f2, f3, f4, f5⟩ := e7 (by omega)
              obtain ⟨u1, hc1, hc2⟩ := K2.out.cell f4 (o := j * 2) (by omega)
              try clear e7
              go_wp2_with fail
              go_round
              case rel => exact ⟨j + 1, by omega, by go_num, K2.out.store f4 f2 f3 (fun h => absurd h (by decide)) (fun h => absurd h (by decide)) _⟩
              case measure => simp [intOf]; omega
            · obtain rfl : j = m := by omega
              obtain ⟨u1, hc1, hc2⟩ := K2.out.cell e4 (o := p * 5) (by omega)
              try clear e7
              go_wp2_with fail
              go_round
              case rel => exact ⟨p + 1, by omega, by go_num, K2.out.store e4 e2 e3 (fun h => absurd h (by decide)) (fun _ => by omega) _⟩
              case measure => simp [intOf]; omega
        · obtain rfl : p = n3 := by omega
          have K0 := Lib.hid hkept
          obtain ⟨y0, y1, y2, y3, y4⟩ := c5 (hkept.whole P6.out (Nat.le_refl _))
          try clear hkept
          go_wp2_with fail
          try clear y0 y1 y2 y3 y4
          have hvars := J6.out.vars
          rw [hn1] at hvars
          obtain ⟨A11, k11, e1, e7⟩ := hvars
          injection e1 with e1 q1 q2
          subst e1
          try clear q1 q2 J6
          go_loopw [9] (fun v9 wl => ∃ q : Nat, q ≤ n1 ∧ v9 = .int .i64 q ∧ Kept w2.heap.size w3.heap.size w6 wl) (fun i _ => n1 - (intOf i).toNat)
          case atStart => exact ⟨0, by omega, rfl, K0.out⟩
          try clear K0
          case round =>
            obtain ⟨q, hq, rfl, hkept⟩ := hrel
            have K2 := Lib.hid hkept
            obtain ⟨y0, y1, y2, y3, y4⟩ := c5 (hkept.whole P6.out (Nat.le_refl _))
            try clear hkept
            by_cases hlj : q < n1
            · obtain ⟨g2, cur2, rfl, f2, f3, f4, f5⟩ := e7 (by omega)
              obtain ⟨u1, hc1, hc2⟩ := K2.out.cell f4 (o := q * 2 + 1) (by omega)
              try clear e7
              go_wp2_with fail
              go_round
              case rel => exact ⟨q + 1, by omega, by go_num, K2.out.store f4 f2 f3 (fun h => absurd h (by decide)) (fun h => absurd h (by decide)) _⟩
              case measure => simp [intOf]; omega
            · obtain rfl : q = n1 := by omega
              try clear e7
              have B9 := Lib.hid (B6.out.trans (K2.out.bel.mono (Nat.le_of_lt hW2)))
              have N9 := Lib.hid (N6.out.below K2.out.bel hW2)
              have Q9 := Lib.hid (K2.out.whole Q6.out (Nat.le_trans hs4 hs5))
              have X9 := Lib.hid (show RV (fun b _ => b < wr.heap.size) wr (.agg #[.string ⟨c.name.toArray⟩, .int .i64 c.initial, .slice A7 q k7, .slice A8 k k8, .slice A9 p k9]) (.agg (chAV c)) from X6.out.mono fun b o hb => ⟨by rw [K2.out.size]; exact hb.2, .block (K2.out.far b hb.1)⟩)
              have V9 := Lib.hid (show RV (fun b _ => b < wr.heap.size) wr (.agg #[.string ⟨c.name.toArray⟩, .int .i64 c.initial, .slice A1 q k1, .slice A2 k k2, .slice A3 p k3]) (.agg (chAV c)) from HV.out.mono fun b o (hb : b < _) => ⟨Nat.lt_of_lt_of_le hb B9.out.size, B9.out.stay hb⟩)
              have E9 := Lib.hid (hE.out.belowA B9.out)
              try clear K2 B6 N6 P6 Q6 X6 HV hE
              obtain ⟨x0, x1, x2, x3, x4⟩ := c5 N9.out
              obtain ⟨s0, s1, s2, s3, s4⟩ := c5 Q9.out
              have hsame := rSame_con (chEnv a1 a8) c c hc.1
              rw [beq_self_eq_true] at hsame
              go_wp2_with fail
              refine (con_call hsame E9.out (fun _ _ _ => by simp) (vs := [_, _]) ⟨X9.out, V9.out, trivial⟩).mono ?_
              rintro e w10 ⟨u, rfl, hb10, he10, hu⟩
              obtain rfl := hu.lit_inv
              have E10 := Lib.hid he10
              have B10 := Lib.hid (B9.out.trans (hb10.mono B9.out.size))
              try clear hb10 he10 hu x0 x1 x2 x3 x4 s0 s1 s2 s3 s4 y0 y1 y2 y3 y4 N9 Q9 X9 V9 E9
              go_wp2_with fail
              refine (con_call (awake_con _ a1 a8 he) E10.out (fun _ _ _ => by simp) (vs := []) trivial).mono ?_
              rintro e w11 ⟨u, rfl, hb11, _, hu⟩
              obtain rfl := hu.lit_inv
              have B11 := Lib.hid (B10.out.trans (hb11.mono B10.out.size))
              try clear hb11
              go_wp2_with fail
              go_ret
              exact ⟨rfl, B11.out⟩
end Go.Proofs.YtaonccobohiiiaaDoor
