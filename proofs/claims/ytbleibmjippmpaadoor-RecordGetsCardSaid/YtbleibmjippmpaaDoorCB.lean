/- scriniumref34.Right, Put, Get, as the walk with memory uses them; how long a record's bytes are at most. -/
import Derived.Test.YtbleibmjippmpaaDoorBr
import Derived.Test.YtbleibmjippmpaaDoorCF
import Derived.Test.YtbleibmjippmpaaDoorRec4
namespace Go.Proofs.YtbleibmjippmpaaDoor
open Go.RowKit

theorem slice_one {α : Type} {w : World} {B size : Nat} {R : List Value → α → Prop} {v : Value} {l : List α} (h : ListAt w B size R v l) : v.oneCell' = true := by
  obtain ⟨A, c, rfl, _⟩ := h.form
  rfl
theorem ints_rv {w : World} {B : Nat} {v : Value} {l : List Int} (h : ListAt w B 1 intR v l) : RV (fun b _ => b < B) w v (Il l) :=
  list_rv iAV (fun _ => rfl) h fun cs a _ hr j u c hu hc => by
    have hr : cs = [.int .i64 a] := hr
    subst hr
    exact (RVs.at_ (S := fun b _ => b < B) (w := w) (vs := [.int .i64 a]) (cs := [I a]) ⟨⟨rfl, .lit _⟩, trivial⟩).2 j u c hu hc
theorem mems_rv {w : World} {B : Nat} {v : Value} {l : List (Int × List Int)} (h : ListAt w B 2 (memR w B) v l) : RV (fun b _ => b < B) w v (.seq 2 (l.map memAV)) :=
  list_rv memAV (fun _ => rfl) h fun cs a _ hr j u c hu hc => by
    obtain ⟨x, rfl, hx⟩ := hr
    exact (RVs.at_ (S := fun b _ => b < B) (w := w) (vs := [.int .i64 a.1, x]) (cs := [I a.1, Il a.2]) ⟨⟨rfl, .lit _⟩, ⟨slice_one hx, ints_rv hx⟩, trivial⟩).2 j u c hu hc
theorem tms_rv {w : World} {B : Nat} {v : Value} {l : List (List UInt8 × Int)} (h : ListAt w B 2 tmR v l) : RV (fun b _ => b < B) w v (.seq 2 (l.map tmAV)) :=
  list_rv tmAV (fun _ => rfl) h fun cs a _ hr j u c hu hc => by
    obtain ⟨rfl, _⟩ := hr
    exact (RVs.at_ (S := fun b _ => b < B) (w := w) (vs := [.string ⟨a.1.toArray⟩, .int .i64 a.2]) (cs := [Sg a.1, I a.2]) ⟨⟨rfl, .lit _⟩, ⟨rfl, .lit _⟩, trivial⟩).2 j u c hu hc
theorem rec_rv {w : World} {B : Nat} {va vv vm vt : Value} {r : Rc} (h : InAt w B va vv vm vt r) : RV (fun b _ => b < B) w (.agg (recV r va vv vm vt)) (.agg (recAV r)) :=
  RVs.agg (vs := [.int .i64 r.chart, .int .i64 r.born, .int .i64 r.steps, va, vv, vm, vt, .bool r.over]) (cs := recAV r)
    ⟨⟨rfl, .lit _⟩, ⟨rfl, .lit _⟩, ⟨rfl, .lit _⟩, ⟨slice_one h.act, ints_rv h.act⟩, ⟨slice_one h.vars, ints_rv h.vars⟩, ⟨slice_one h.mem, mems_rv h.mem⟩, ⟨slice_one h.tms, tms_rv h.tms⟩, ⟨rfl, .lit _⟩, trivial⟩
theorem bytes_rv {w : World} {B n : Nat} {A : Option Addr} {c : Nat} {bs : List UInt8} (hn : bs.length = n) (hc : n ≤ c) (hmax : n ≤ maxLen) (hr : Reads w B 1 A n (bv bs)) : RV (fun b _ => b < B) w (.slice A n c) (Bs bs) := by
  subst hn
  have hl : ListAt w B 1 byteR (.slice A bs.length c) bs := ⟨A, c, _, rfl, hc, hmax, hr, rows_one (fun b => .int .u8 (b.toNat : Int)) bs⟩
  exact list_rv bAV (fun _ => rfl) hl fun cs a _ hr j u c hu hc => by
    have hr : cs = [.int .u8 (a.toNat : Int)] := hr
    subst hr
    exact (RVs.at_ (S := fun b _ => b < B) (w := w) (vs := [.int .u8 (a.toNat : Int)]) (cs := bAV a) ⟨⟨rfl, .lit _⟩, trivial⟩).2 j u c hu hc

/-! And back. -/
theorem one_of {S : Nat → Nat → Prop} {w : World} {cs : List Value} {u : Value} (hl : cs.length = 1) (h : ∀ (j : Nat) (v : Value) (c : AV), cs[j]? = some v → [AV.lit u][j]? = some c → RV S w v c) : cs = [u] := by
  match cs, hl with
  | [v], _ => rw [(h 0 v _ rfl rfl).lit_inv]
theorem rv_ints {w : World} {B : Nat} {v : Value} {l : List Int} (hmax : l.length ≤ maxLen) (h : RV (fun b _ => b < B) w v (Il l)) : ListAt w B 1 intR v l :=
  rv_list iAV (fun _ => rfl) (by decide) hmax h fun a cs _ hl hc => one_of hl hc
theorem rv_bytes {w : World} {B : Nat} {v : Value} {l : List UInt8} (hmax : l.length ≤ maxLen) (h : RV (fun b _ => b < B) w v (Bs l)) : ∃ A c, v = .slice A l.length c ∧ l.length ≤ c ∧ Reads w B 1 A l.length (bv l) := by
  have hl : ListAt w B 1 byteR v l := rv_list bAV (fun _ => rfl) (by decide) hmax h fun a cs _ hl hc => one_of hl hc
  obtain ⟨A, c, e, h1, _, h2⟩ := hl.one
  exact ⟨A, c, e, h1, h2⟩
theorem two_of {S : Nat → Nat → Prop} {w : World} {cs : List Value} {c1 c2 : AV} (hl : cs.length = 2) (h : ∀ (j : Nat) (v : Value) (c : AV), cs[j]? = some v → [c1, c2][j]? = some c → RV S w v c) : ∃ v1 v2, cs = [v1, v2] ∧ RV S w v1 c1 ∧ RV S w v2 c2 := by
  match cs, hl with
  | [v1, v2], _ => exact ⟨v1, v2, rfl, h 0 v1 _ rfl rfl, h 1 v2 _ rfl rfl⟩
theorem rv_rec {w : World} {B : Nat} {v : Value} {r : Rc} (hl : Lite r) (ht : ∀ t ∈ r.timers, t.1.length ≤ 9223372036854775807) (h : RV (fun b _ => b < B) w v (.agg (recAV r))) : ∃ va vv vm vt, v = .agg (recV r va vv vm vt) ∧ InAt w B va vv vm vt r := by
  obtain ⟨vs, rfl, hlen, hc⟩ := h.agg_inv
  match vs, hlen with
  | [v0, v1, v2, v3, v4, v5, v6, v7], _ =>
    have g0 := (hc 0 v0 _ rfl rfl).2.lit_inv
    have g1 := (hc 1 v1 _ rfl rfl).2.lit_inv
    have g2 := (hc 2 v2 _ rfl rfl).2.lit_inv
    have g3 := (hc 3 v3 _ rfl rfl).2
    have g4 := (hc 4 v4 _ rfl rfl).2
    have g5 := (hc 5 v5 _ rfl rfl).2
    have g6 := (hc 6 v6 _ rfl rfl).2
    have g7 := (hc 7 v7 _ rfl rfl).2.lit_inv
    subst g0 g1 g2 g7
    have mx : ∀ n : Nat, n ≤ 1000000 → n ≤ maxLen := fun n hn => by unfold maxLen; omega
    refine ⟨v3, v4, v5, v6, rfl, rv_ints (mx _ hl.active) g3, rv_ints (mx _ hl.vars) g4, rv_list memAV (fun _ => rfl) (by decide) (mx _ hl.mem) g5 fun a cs ha hl' hc' => ?_, rv_list tmAV (fun _ => rfl) (by decide) (mx _ hl.timers) g6 fun a cs ha hl' hc' => ?_⟩
    · obtain ⟨x, y, rfl, hx, hy⟩ := two_of hl' hc'
      obtain rfl := hx.lit_inv
      exact ⟨y, rfl, rv_ints (mx _ (hl.states a ha)) hy⟩
    · obtain ⟨x, y, rfl, hx, hy⟩ := two_of hl' hc'
      obtain rfl := hx.lit_inv
      obtain rfl := hy.lit_inv
      exact ⟨rfl, ht a ha⟩

theorem statesB_len {l : List Int} (h : allB l.length (stAt l) = true) : l.length ≤ 32 := by
  have := w_setOf_len (setN l)
  rwa [setOf_setN l h] at this
theorem recBs_most {r : Rc} (h : rightB r = true) : (recBs r).length ≤ 558 := by
  have R := rights h
  have h1 := w_varBs_len r.vars
  have h2 := w_memBs_len r.mem
  have h3 := w_tmBs_len r.timers (fun t ht => (R.tms t ht).1)
  have := R.vars1
  have := R.mem1
  have := R.tms1
  simp only [recBs, headBs, List.length_append, lowB_len, List.length_cons, List.length_nil]
  omega

theorem cRight34 (r : Rc) (hl : Lite r) (va vv vm vt : Value) (w : World) (h : InAt w w.heap.size va vv vm vt r) :
    Calls Tryd.prog 38 #[.agg (recV r va vv vm vt)] w fun e w' => e = .returned (.bool (rightB r)) ∧ Below w.heap.size w w' := by
  refine (con_calls (vs := [.agg (recV r va vv vm vt)]) (w_rightR_con Env.none r hl) (fun e sz es hh => by cases hh) ⟨rec_rv h, trivial⟩).mono ?_
  rintro e w' ⟨v, rfl, hb, hv⟩
  exact ⟨by rw [hv.lit_inv], hb⟩
theorem cPut34 (r : Rc) (hr : rightB r = true) (va vv vm vt : Value) (w : World) (h : InAt w w.heap.size va vv vm vt r) :
    Calls Tryd.prog 40 #[.agg (recV r va vv vm vt)] w fun e w' => ∃ A c, e = .returned (.slice A (recBs r).length c) ∧ Below w.heap.size w w' ∧ Reads w' w'.heap.size 1 A (recBs r).length (bv (recBs r)) := by
  refine (con_calls (vs := [.agg (recV r va vv vm vt)]) (w_putR_con Env.none r hr) (fun e sz es hh => by cases hh) ⟨rec_rv h, trivial⟩).mono ?_
  rintro e w' ⟨v, rfl, hb, hv⟩
  obtain ⟨A, c, rfl, _, h2⟩ := rv_bytes (by have := recBs_most hr; unfold maxLen; omega) hv
  exact ⟨A, c, rfl, hb, h2⟩
theorem getR_lite {b : List UInt8} {r : Rc} (h : getR b = some r) : Lite r ∧ ∀ t ∈ r.timers, t.1.length ≤ 9223372036854775807 := by
  have R := rights (getR_some h).2.1
  refine ⟨⟨?_, ?_, ?_, ?_, fun m hm => ?_⟩, fun t ht => ?_⟩
  · have := statesB_len R.act; omega
  · have := R.vars1; omega
  · have := R.mem1; omega
  · have := R.tms1; omega
  · have := statesB_len (R.mem m hm).2.2; omega
  · have := (R.tms t ht).1; omega
theorem cGet34 (b : List UInt8) (hb : b.length ≤ 1000000) (A : Option Addr) (n c : Nat) (w : World) (hn : b.length = n) (hc : n ≤ c) (h : Reads w w.heap.size 1 A n (bv b)) :
    Calls Tryd.prog 36 #[.slice A n c] w fun e w' => Below w.heap.size w w' ∧ ((∃ r va vv vm vt, getR b = some r ∧ e = .returned (.tuple #[.agg (recV r va vv vm vt), .bool true]) ∧ InAt w' w'.heap.size va vv vm vt r) ∨
      (getR b = none ∧ e = .returned (.tuple #[.agg #[.int .i64 0, .int .i64 0, .int .i64 0, .slice none 0 0, .slice none 0 0, .slice none 0 0, .slice none 0 0, .bool false], .bool false]))) := by
  refine (con_calls (vs := [.slice A n c]) (w_getR_con Env.none b hb) (fun e sz es hh => by unfold getAV at hh; split at hh <;> cases hh) ⟨bytes_rv hn hc (by unfold maxLen; omega) h, trivial⟩).mono ?_
  rintro e w' ⟨v, rfl, hbl, hv⟩
  refine ⟨hbl, ?_⟩
  unfold getAV at hv
  cases hg : getR b with
  | some r =>
    rw [hg] at hv
    obtain ⟨vs, rfl, hlen, hcs⟩ := hv.tuple_inv
    obtain ⟨x, y, rfl, hx, hy⟩ := two_of hlen hcs
    obtain rfl := hy.lit_inv
    obtain ⟨hl, ht⟩ := getR_lite hg
    obtain ⟨va, vv, vm, vt, rfl, hi⟩ := rv_rec hl ht hx
    exact .inl ⟨r, va, vv, vm, vt, rfl, rfl, hi⟩
  | none =>
    rw [hg] at hv
    obtain ⟨vs, rfl, hlen, hcs⟩ := hv.tuple_inv
    obtain ⟨x, y, rfl, hx, hy⟩ := two_of hlen hcs
    obtain rfl := hy.lit_inv
    refine .inr ⟨rfl, ?_⟩
    obtain ⟨us, rfl, hul, huc⟩ := hx.agg_inv
    match us, hul with
    | [v0, v1, v2, v3, v4, v5, v6, v7], _ =>
      rw [(huc 0 v0 _ rfl rfl).2.lit_inv, (huc 1 v1 _ rfl rfl).2.lit_inv, (huc 2 v2 _ rfl rfl).2.lit_inv, (huc 3 v3 _ rfl rfl).2.lit_inv, (huc 4 v4 _ rfl rfl).2.lit_inv, (huc 5 v5 _ rfl rfl).2.lit_inv, (huc 6 v6 _ rfl rfl).2.lit_inv, (huc 7 v7 _ rfl rfl).2.lit_inv]
end Go.Proofs.YtbleibmjippmpaaDoor
