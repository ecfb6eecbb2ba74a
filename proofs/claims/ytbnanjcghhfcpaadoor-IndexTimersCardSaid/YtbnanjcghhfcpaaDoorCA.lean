/- Contracts of scriniumref03, by the walk without memory. Contracts of scriniumref03, by the walk without memory. Contracts of scriniumref03: Take, TakeText, PutText, by the walk without memory. Contracts of scriniumref03: TakeText, PutText; of scriniumref21: Name; by the walk without memory. Contracts of scriniumref21.Name, scriniumref01.SameBytes, by the walk without memory. Contracts of scriniumref34: between, states, num, bits; by the walk without memory. Contracts of scriniumref34: take, set, signed; by the walk without memory. Records as values of the walk without memory. -/
import Derived.Test.YtbnanjcghhfcpaaDoorCO
import Derived.Test.YtbnanjcghhfcpaaDoorCN
import Derived.Test.YtbnanjcghhfcpaaDoorField
import Derived.Test.YtbnanjcghhfcpaaDoorTake2
import Derived.Test.YtbnanjcghhfcpaaDoorText
import Derived.Test.YtbnanjcghhfcpaaDoorRefLaw
set_option linter.unusedSimpArgs false
namespace Go.Proofs.YtbnanjcghhfcpaaDoor
open Go.RowKit

set_option maxRecDepth 100000
set_option maxHeartbeats 1000000
attribute [local go_sem_proc ↓] reduceIte
attribute [local go_sem_proc] reduceCtorEq Nat.reduceAdd Nat.reduceSub Nat.reduceEqDiff Nat.reduceLT Nat.reduceLeDiff Nat.reduceMul Int.reduceToNat Int.reduceBEq Int.reduceBNe Int.reduceEq Int.reduceLT Int.reduceLE
attribute [local go_sem] resRd resOne resAll HoldF HoldR Takes thenA blockA ev_move ev_assign ev_pick ev_alloc ev_box ev_build ev_buildSlice ev_load ev_store ev_binOp ev_unOp ev_convert ev_iface ev_make ev_slice ev_fieldAddr ev_field ev_indexAddr ev_index ev_extract ev_len ev_append ev_min ev_max evMin evMax gt_tmp gt_int gt_bool gt_str gt_nilS gt_nilP gt_nilI pickRd allocRd buildRd sliceRd loadRd unRd ifaceRd exRd val optRd callRd seen AV.plain adopt fzArgs Rd.run AV.asCells newBox runL Comes' Rd.row Rd.bind Out.app apps Eff.app St.renew St.setRow St.show St.put St.init upd evStore evBin eqFs eqCell evConv evSeq evLen evIndexAddr evFieldAddr evField evIndex bound evSlice evAppend evMake loadOf fillAV fillEs fzParts fz fzCell fzCells shows isConstOp splice wrs wes Value.oneCell' List.getD_cons_zero List.getD_cons_succ List.getD_nil List.length_cons List.length_nil List.map_cons List.map_nil List.nil_append List.cons_append List.all_cons List.all_nil List.getElem?_cons_zero List.getElem?_cons_succ List.set_cons_zero List.set_cons_succ List.take_succ_cons List.take_zero List.drop_succ_cons List.drop_zero List.take_nil List.drop_nil List.replicate_succ List.replicate_zero Bool.and_true Bool.true_and Bool.and_self and_self true_and and_true Nat.zero_add Nat.add_zero Option.some.injEq Nat.zero_lt_succ Bool.not_true Bool.not_false ne_eq not_true_eq_false not_false_eq_true Option.map_some Option.map_none List.toList_toArray head headF headR List.length_map Int.toNat_natCast Int.natCast_nonneg List.getElem?_map decide_true decide_false Bool.false_eq_true if_true if_false Bool.or_self Bool.or_true Bool.true_or Bool.false_or Bool.or_false Bool.and_false Bool.false_and List.flatten_cons List.flatten_nil List.append_nil nat0 or_self or_false false_or or_true true_or and_false false_and List.length_append List.isEmpty_nil bne_self_eq_false beq_self_eq_true fits_small strL_l bytesOf_map wants Int.cast_ofNat_Int gt_iff_lt ge_iff_le
attribute [local go_sem ←] List.map_drop List.map_take
theorem quo_u (n c : Nat) (h : n < 18446744073709551616) : IntKind.u64.wrap ((n : Int).tdiv (c : Int)) = ((n / c : Nat) : Int) := by
  rw [show (n : Int).tdiv (c : Int) = ((n / c : Nat) : Int) from rfl]
  have : n / c ≤ n := Nat.div_le_self n c
  generalize n / c = m at *
  rw [IntWalk.u64_in _ (by omega)]
theorem quo256 (n : Nat) (h : n < 18446744073709551616) : IntKind.u64.wrap ((n : Int).tdiv 256) = ((n / 256 : Nat) : Int) := quo_u n 256 h
theorem pow_div (n i : Nat) : n / 256 ^ i / 256 = n / 256 ^ (i + 1) := by rw [Nat.div_div_eq_div_mul, Nat.pow_succ]
theorem div_lt (n i : Nat) (h : n < 18446744073709551616) : n / 256 ^ i < 18446744073709551616 := Nat.lt_of_le_of_lt (Nat.div_le_self _ _) h
set_option maxRecDepth 100000
set_option maxHeartbeats 1000000
theorem low_byte (n : Nat) : IntKind.u8.wrap ((n : Int).tmod 256) = ((UInt8.ofNat n).toNat : Int) := by
  rw [show (n : Int).tmod 256 = ((n % 256 : Nat) : Int) from rfl, IntWalk.u8_in _ (by omega)]
  simp
set_option maxRecDepth 100000
set_option maxHeartbeats 1000000

def sc (i : Nat) : Nat := 256 ^ i % 18446744073709551616
theorem sc_up (i : Nat) : IntKind.u64.wrap ((sc i : Int) * 256) = (sc (i + 1) : Int) := by
  rw [IntKind.wrap_u64, show ((sc i : Nat) : Int) * 256 = ((sc i * 256 : Nat) : Int) by omega]
  unfold sc
  rw [Nat.pow_succ]
  omega
theorem sc_small (i : Nat) (h : i ≤ 7) : sc i = 256 ^ i := by
  match i, h with
  | 0, _ | 1, _ | 2, _ | 3, _ | 4, _ | 5, _ | 6, _ | 7, _ => rfl
theorem pow_le8 (i : Nat) (h : i ≤ 7) : 256 ^ (i + 1) ≤ 18446744073709551616 := by
  match i, h with
  | 0, _ | 1, _ | 2, _ | 3, _ | 4, _ | 5, _ | 6, _ | 7, _ => decide
theorem take_step (l : List UInt8) (i : Nat) (h : i < l.length) (hi : i ≤ 7) : IntKind.u64.wrap ((valLE (l.take i) : Int) + IntKind.u64.wrap (IntKind.u64.wrap (l[i].toNat : Int) * (sc i : Int))) = (valLE (l.take (i + 1)) : Int) := by
  have h1 : valLE (l.take (i + 1)) < 256 ^ (i + 1) := by
    have := valLE_lt (l.take (i + 1))
    rwa [List.length_take, Nat.min_eq_left (by omega)] at this
  have h2 := pow_le8 i hi
  have h3 := valLE_take l i h
  rw [sc_small i hi]
  have hb := l[i].toNat_lt
  rw [IntWalk.u64_in (l[i].toNat : Int) (by omega), show (l[i].toNat : Int) * ((256 ^ i : Nat) : Int) = ((l[i].toNat * 256 ^ i : Nat) : Int) from (Int.natCast_mul _ _).symm]
  generalize l[i].toNat * 256 ^ i = y at *
  rw [IntWalk.u64_in (y : Int) (by omega), IntWalk.u64_in _ (by omega)]
  omega
set_option maxRecDepth 100000
set_option maxHeartbeats 1000000

theorem low_byte_i (n : Nat) : IntKind.u8.wrap (((n % 256 : Nat) : Int)) = ((UInt8.ofNat n).toNat : Int) := by
  rw [IntWalk.u8_in _ (by omega)]
  simp
theorem hi_byte (n : Nat) (h : n < 65536) : IntKind.u8.wrap (IntKind.i64.wrap ((n : Int).tdiv 256)) = ((UInt8.ofNat (n / 256)).toNat : Int) := by
  rw [show (n : Int).tdiv 256 = ((n / 256 : Nat) : Int) from rfl, wrap_in (by omega) (by omega), IntWalk.u8_in _ (by omega)]
  simp
  omega
theorem i64n (a b : Nat) (h : a + b < 9223372036854775808) : IntKind.i64.wrap ((a : Int) + (b : Int)) = ((a + b : Nat) : Int) := by rw [wrap_in (by omega) (by omega)]; rfl
theorem u64n (a : Nat) (h : a < 18446744073709551616) : IntKind.u64.wrap (a : Int) = (a : Int) := IntWalk.u64_in _ (by omega)
theorem i64m (a b : Nat) (h : b ≤ a) (h' : a < 9223372036854775808) : IntKind.i64.wrap ((a : Int) - (b : Int)) = ((a - b : Nat) : Int) := by rw [wrap_in (by omega) (by omega)]; omega
end Go.Proofs.YtbnanjcghhfcpaaDoor
