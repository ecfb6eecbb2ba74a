/- The facts of evaluation. No program is named here. -/
import Derived.Test.YtlmekdfleciejaaGreatDoorM5
import Derived.Test.YtlmekdfleciejaaGreatDoorM4
namespace Go.Proofs.YtlmekdfleciejaaGreatDoor
open Go.RowKit
structure OpD where
  kind : Int
  n : Int
  deriving DecidableEq, Inhabited
structure ActD where
  kind : Int
  n : Int
  name : List UInt8
  code : List OpD
  deriving DecidableEq, Inhabited
structure StD where
  name : List UInt8
  kind : Int
  parent : Int
  initial : Int
  inn : List ActD
  out : List ActD
  deriving DecidableEq, Inhabited
structure TrD where
  src : Int
  event : List UInt8
  guard : List OpD
  acts : List ActD
  target : Int
  deriving DecidableEq, Inhabited
structure VarD where
  name : List UInt8
  start : Int
  deriving DecidableEq, Inhabited
structure ChD where
  name : List UInt8
  initial : Int
  vars : List VarD
  states : List StD
  trans : List TrD
  deriving DecidableEq, Inhabited
def opAV (x : OpD) : List AV := [I x.kind, I x.n]
abbrev opsAV (l : List OpD) : AV := .seq 2 (l.map opAV)
def actAV (x : ActD) : List AV := [I x.kind, I x.n, Sg x.name, opsAV x.code]
abbrev actsAV (l : List ActD) : AV := .seq 4 (l.map actAV)
def stAV (x : StD) : List AV := [Sg x.name, I x.kind, I x.parent, I x.initial, actsAV x.inn, actsAV x.out]
abbrev stsAV (l : List StD) : AV := .seq 6 (l.map stAV)
def trAV (x : TrD) : List AV := [I x.src, Sg x.event, opsAV x.guard, actsAV x.acts, I x.target]
abbrev trsAV (l : List TrD) : AV := .seq 5 (l.map trAV)
def varAV (x : VarD) : List AV := [Sg x.name, I x.start]
abbrev varsAV (l : List VarD) : AV := .seq 2 (l.map varAV)
def chAV (x : ChD) : List AV := [Sg x.name, I x.initial, varsAV x.vars, stsAV x.states, trsAV x.trans]
/-! Lists that are no longer than memory is. -/
def few_op (_ : OpD) : Prop := True
def few_act (x : ActD) : Prop := x.name.length ≤ maxLen ∧ (x.code.length ≤ maxLen ∧ ∀ y ∈ x.code, few_op y)
def few_st (x : StD) : Prop := x.name.length ≤ maxLen ∧ (x.inn.length ≤ maxLen ∧ ∀ y ∈ x.inn, few_act y) ∧ (x.out.length ≤ maxLen ∧ ∀ y ∈ x.out, few_act y)
def few_tr (x : TrD) : Prop := x.event.length ≤ maxLen ∧ (x.guard.length ≤ maxLen ∧ ∀ y ∈ x.guard, few_op y) ∧ (x.acts.length ≤ maxLen ∧ ∀ y ∈ x.acts, few_act y)
def few_var (x : VarD) : Prop := x.name.length ≤ maxLen
def few_ch (x : ChD) : Prop := x.name.length ≤ maxLen ∧ (x.vars.length ≤ maxLen ∧ ∀ y ∈ x.vars, few_var y) ∧ (x.states.length ≤ maxLen ∧ ∀ y ∈ x.states, few_st y) ∧ (x.trans.length ≤ maxLen ∧ ∀ y ∈ x.trans, few_tr y)
end Go.Proofs.YtlmekdfleciejaaGreatDoor
namespace Go.Proofs.YtlmekdfleciejaaGreatDoor
open Go.RowKit
attribute [go_sem_proc ↓] reduceIte
attribute [go_sem_proc] reduceCtorEq Nat.reduceBEq Nat.reduceAdd Nat.reduceSub Nat.reduceEqDiff Nat.reduceLT Nat.reduceLeDiff Nat.reduceMul Int.reduceToNat Int.reduceBEq Int.reduceBNe Int.reduceEq Int.reduceLT Int.reduceLE
attribute [go_sem] ev_full evFull ev_clear ev_makeFunc funcRd firstRd litsOf evClear List.isEmpty_cons Array.isEmpty_iff ev_makeMap ev_lookup ev_mapUpdate ev_mapEntry ev_entryStore evMapEntry evEntryStore ev_delete evMakeMap evLookup evMapUpdate evDelete pureOf keyCmp mfind oneCells Rd.map AV.bare AV.bare.bareL AV.ofVal resRd resOne resAll HoldF HoldR Takes thenA blockA ev_move ev_assign ev_pick ev_alloc ev_box ev_build ev_buildSlice ev_load ev_store ev_binOp ev_unOp ev_convert ev_iface ev_make ev_slice ev_fieldAddr ev_field ev_indexAddr ev_index ev_extract ev_len ev_append ev_min ev_max evMin evMax gt_tmp gt_int gt_bool gt_str gt_nilS gt_nilP gt_nilI pickRd allocRd buildRd sliceRd loadRd unRd ifaceRd exRd val optRd callRd seen AV.plain AV.soft adopt fzArgs Rd.run AV.asCells newBox runL Comes' Rd.row Rd.bind Out.app apps Eff.app St.renew St.setRow St.show St.put St.init upd evStore evBinR evBin eqFs eqCell evConv evSeq evLen evIndexAddr evFieldAddr evField evIndex bound evSlice evSliceF evAppend evMake loadOf fillAV fillEs fzParts fz fzCell fzCells shows isConstOp splice wrs wes Value.oneCell' List.getD_cons_zero List.getD_cons_succ List.getD_nil List.length_cons List.length_nil List.map_cons List.map_nil List.nil_append List.cons_append List.all_cons List.all_nil List.getElem?_cons_zero List.getElem?_cons_succ List.set_cons_zero List.set_cons_succ List.take_succ_cons List.take_zero List.drop_succ_cons List.drop_zero List.take_nil List.drop_nil List.replicate_succ List.replicate_zero Bool.and_true Bool.true_and Bool.and_self and_self true_and and_true Nat.zero_add Nat.add_zero Option.some.injEq Nat.zero_lt_succ Bool.not_true Bool.not_false ne_eq not_true_eq_false not_false_eq_true Option.map_some Option.map_none List.toList_toArray head headF headR List.length_map Int.toNat_natCast Int.natCast_nonneg List.getElem?_map decide_true decide_false Bool.false_eq_true if_true if_false Bool.or_self Bool.or_true Bool.true_or Bool.false_or Bool.or_false Bool.and_false Bool.false_and List.flatten_cons List.flatten_nil List.append_nil nat0 or_self or_false false_or or_true true_or and_false false_and List.length_append List.isEmpty_nil bne_self_eq_false beq_self_eq_true fits_small strL_l bytesOf_map wants Int.cast_ofNat_Int gt_iff_lt ge_iff_le
attribute [go_sem ←] List.map_drop List.map_take
end Go.Proofs.YtlmekdfleciejaaGreatDoor
