/- Charts as plain data, and as values of the walk without memory; a chart that came in, opened. -/
import Derived.Test.YtaonccobohiiiaaDoorCO
namespace Go.Proofs.YtaonccobohiiiaaDoor
open Go.RowKit

structure OpD where
  kind : Int
  n : Int
  deriving DecidableEq, Inhabited
structure ActD where
  kind : Int
  n : Int
  name : List UInt8
  code : List OpD
  deriving DecidableEq, Inhabited
structure StD where
  name : List UInt8
  kind : Int
  parent : Int
  initial : Int
  inn : List ActD
  out : List ActD
  deriving DecidableEq, Inhabited
structure TrD where
  src : Int
  event : List UInt8
  guard : List OpD
  acts : List ActD
  target : Int
  deriving DecidableEq, Inhabited
structure VarD where
  name : List UInt8
  start : Int
  deriving DecidableEq, Inhabited
structure ChD where
  name : List UInt8
  initial : Int
  vars : List VarD
  states : List StD
  trans : List TrD
  deriving DecidableEq, Inhabited
def opAV (x : OpD) : List AV := [I x.kind, I x.n]
abbrev opsAV (l : List OpD) : AV := .seq 2 (l.map opAV)
def actAV (x : ActD) : List AV := [I x.kind, I x.n, Sg x.name, opsAV x.code]
abbrev actsAV (l : List ActD) : AV := .seq 4 (l.map actAV)
def stAV (x : StD) : List AV := [Sg x.name, I x.kind, I x.parent, I x.initial, actsAV x.inn, actsAV x.out]
abbrev stsAV (l : List StD) : AV := .seq 6 (l.map stAV)
def trAV (x : TrD) : List AV := [I x.src, Sg x.event, opsAV x.guard, actsAV x.acts, I x.target]
abbrev trsAV (l : List TrD) : AV := .seq 5 (l.map trAV)
def varAV (x : VarD) : List AV := [Sg x.name, I x.start]
abbrev varsAV (l : List VarD) : AV := .seq 2 (l.map varAV)
def chAV (x : ChD) : List AV := [Sg x.name, I x.initial, varsAV x.vars, stsAV x.states, trsAV x.trans]
abbrev chsAV (l : List ChD) : AV := .seq 5 (l.map chAV)

/-! Lists that are no longer than memory is. -/
def few_op (_ : OpD) : Prop := True
def few_act (x : ActD) : Prop := x.name.length ≤ maxLen ∧ (x.code.length ≤ maxLen ∧ ∀ y ∈ x.code, few_op y)
def few_st (x : StD) : Prop := x.name.length ≤ maxLen ∧ (x.inn.length ≤ maxLen ∧ ∀ y ∈ x.inn, few_act y) ∧ (x.out.length ≤ maxLen ∧ ∀ y ∈ x.out, few_act y)
def few_tr (x : TrD) : Prop := x.event.length ≤ maxLen ∧ (x.guard.length ≤ maxLen ∧ ∀ y ∈ x.guard, few_op y) ∧ (x.acts.length ≤ maxLen ∧ ∀ y ∈ x.acts, few_act y)
def few_var (x : VarD) : Prop := x.name.length ≤ maxLen
def few_ch (x : ChD) : Prop := x.name.length ≤ maxLen ∧ (x.vars.length ≤ maxLen ∧ ∀ y ∈ x.vars, few_var y) ∧ (x.states.length ≤ maxLen ∧ ∀ y ∈ x.states, few_st y) ∧ (x.trans.length ≤ maxLen ∧ ∀ y ∈ x.trans, few_tr y)
end Go.Proofs.YtaonccobohiiiaaDoor
