/- What Go values read as when memory is left out; the state of a call; how both stand to memory. No program is named here. How rows of a call's own come, grow, turn, and are seen by others. No program is named here. Stores into rows of a call's own, and appends to them. No program is named here. Appends to rows of a call's own. No program is named here. What each operation makes of values without memory. No program is named here. What operands read as; loads. No program is named here. Operations that turn no memory. No program is named here. -/
import Derived.Test.YtbjldjekgepopaaGreatDoorT1
set_option linter.unusedSimpArgs false
namespace Go.Proofs.YtbjldjekgepopaaGreatDoor
theorem ai {a b:Prop} (x:a) (y:b):a/\b:=⟨x,y⟩
theorem ai3 {a0 a1 a2:Prop} (x0:a0) (x1:a1) (x2:a2):a0/\a1/\a2:=⟨x0,x1,x2⟩
theorem ai4 {a0 a1 a2 a3:Prop} (x0:a0) (x1:a1) (x2:a2) (x3:a3):a0/\a1/\a2/\a3:=⟨x0,x1,x2,x3⟩
theorem ai5 {a0 a1 a2 a3 a4:Prop} (x0:a0) (x1:a1) (x2:a2) (x3:a3) (x4:a4):a0/\a1/\a2/\a3/\a4:=⟨x0,x1,x2,x3,x4⟩
theorem ai6 {a0 a1 a2 a3 a4 a5:Prop} (x0:a0) (x1:a1) (x2:a2) (x3:a3) (x4:a4) (x5:a5):a0/\a1/\a2/\a3/\a4/\a5:=⟨x0,x1,x2,x3,x4,x5⟩
theorem ai7 {a0 a1 a2 a3 a4 a5 a6:Prop} (x0:a0) (x1:a1) (x2:a2) (x3:a3) (x4:a4) (x5:a5) (x6:a6):a0/\a1/\a2/\a3/\a4/\a5/\a6:=⟨x0,x1,x2,x3,x4,x5,x6⟩
theorem ai8 {a0 a1 a2 a3 a4 a5 a6 a7:Prop} (x0:a0) (x1:a1) (x2:a2) (x3:a3) (x4:a4) (x5:a5) (x6:a6) (x7:a7):a0/\a1/\a2/\a3/\a4/\a5/\a6/\a7:=⟨x0,x1,x2,x3,x4,x5,x6,x7⟩
theorem ai9 {a0 a1 a2 a3 a4 a5 a6 a7 a8:Prop} (x0:a0) (x1:a1) (x2:a2) (x3:a3) (x4:a4) (x5:a5) (x6:a6) (x7:a7) (x8:a8):a0/\a1/\a2/\a3/\a4/\a5/\a6/\a7/\a8:=⟨x0,x1,x2,x3,x4,x5,x6,x7,x8⟩
theorem ai10 {a0 a1 a2 a3 a4 a5 a6 a7 a8 a9:Prop} (x0:a0) (x1:a1) (x2:a2) (x3:a3) (x4:a4) (x5:a5) (x6:a6) (x7:a7) (x8:a8) (x9:a9):a0/\a1/\a2/\a3/\a4/\a5/\a6/\a7/\a8/\a9:=⟨x0,x1,x2,x3,x4,x5,x6,x7,x8,x9⟩
theorem ai11 {a0 a1 a2 a3 a4 a5 a6 a7 a8 a9 a10:Prop} (x0:a0) (x1:a1) (x2:a2) (x3:a3) (x4:a4) (x5:a5) (x6:a6) (x7:a7) (x8:a8) (x9:a9) (x10:a10):a0/\a1/\a2/\a3/\a4/\a5/\a6/\a7/\a8/\a9/\a10:=⟨x0,x1,x2,x3,x4,x5,x6,x7,x8,x9,x10⟩
theorem ai12 {a0 a1 a2 a3 a4 a5 a6 a7 a8 a9 a10 a11:Prop} (x0:a0) (x1:a1) (x2:a2) (x3:a3) (x4:a4) (x5:a5) (x6:a6) (x7:a7) (x8:a8) (x9:a9) (x10:a10) (x11:a11):a0/\a1/\a2/\a3/\a4/\a5/\a6/\a7/\a8/\a9/\a10/\a11:=⟨x0,x1,x2,x3,x4,x5,x6,x7,x8,x9,x10,x11⟩
theorem gE {α:Type} {l:List α} {k:Nat} (h:k<l.length): ∃x,l[k]? =some x:=⟨l[k],KV h⟩
theorem nl (n:Nat): ¬(n:Int)< (n:Int):=by omega
open Go.RowKit
section
inductive AV where
 |any
 |lit (v:Value)
 |agg (cs:List AV)
 |tuple (vs:List AV)
 |iface (t:TypeId) (v:AV)
 |seq (sz:Nat) (es:List (List AV))
 |ref (sz:Nat) (es:List (List AV)) (i off:Nat)
 |own (e:TypeId) (sz:Nat) (es:List (List AV))
 |row (r ver:Nat)
 |loc (r ver i off:Nat)
 |mp (r ver:Nat)
 |sub (r ver lo:Nat)
 |clo (g:FuncId) (cs:List AV)
 |fmap (es:List (List AV))
 |full (sz:Nat) (es:List (List AV))
 |news (n sz:Nat) (es:List (List AV))
 deriving Inhabited
def cellAt (es:List (List AV)) (i j:Nat):Option AV:=(es[i]?).bind (·[j]?)
def Stay (w w':World) (b o:Nat):Prop:=w'.cell? ⟨b,o,none⟩=w.cell? ⟨b,o,none⟩/\ ∀ents c,w.heap[b]? =some (.map ents c)->w'.heap[b]? =some (.map ents c)
theorem Stay.rfl {w:World} {b o:Nat} :Stay w w b o:=⟨Eq.refl _,fun _ _ h=>h⟩
theorem Stay.trans {w w' w'':World} {b o:Nat} (h:Stay w w' b o) (h':Stay w' w'' b o):Stay w w'' b o:=⟨h'.1.trans h.1,fun e c k=>h'.2 e c (h.2 e c k)⟩
theorem Stay.block {w w':World} {b o:Nat} (h:w'.heap[b]? =w.heap[b]?):Stay w w' b o:=⟨World.cell?_of_block h,fun _ _ k=>h.trans k⟩
theorem Stay.cells {w w':World} {b o:Nat} {cs:Array Value} {e:TypeId} {fr:Nat×Nat} (hb:w.heap[b]? =some (.cells cs e fr)) (h:w'.cell? ⟨b,o,none⟩=w.cell? ⟨b,o,none⟩):Stay w w' b o:=⟨h,fun _ _ k=>by rw[hb]at k;cases k⟩
inductive RV (S:Nat->Nat->Prop) (w:World):Value->AV->Prop
 |any (v:Value):RV S w v .any
 |lit (v:Value):RV S w v (.lit v)
 |agg (vs:List Value) (cs:List AV) (h:vs.length=cs.length) (h1: ∀v∈vs,v.oneCell'=true) (hc: ∀(i:Nat) (v:Value) (c:AV),vs[i]? =some v->cs[i]? =some c->RV S w v c):RV S w (.agg vs.toArray) (.agg cs)
 |tuple (vs:List Value) (cs:List AV) (h:vs.length=cs.length) (hc: ∀(i:Nat) (v:Value) (c:AV),vs[i]? =some v->cs[i]? =some c->RV S w v c):RV S w (.tuple vs.toArray) (.tuple cs)
 |iface (t:TypeId) (v:Value) (c:AV) (h:RV S w v c):RV S w (.iface t v) (.iface t c)
 |seq (A:Option Addr) (n cap sz:Nat) (es:List (List AV)) (b o:Nat) (u:Nat->Nat->Value) (hn:es.length=n) (hcap:n<=cap) (hA:0<n->A=some ⟨b,o,none⟩)
  (hz: ∀(i:Nat) (e:List AV),es[i]? =some e->e.length=sz)
  (hc: ∀(i j:Nat) (c:AV),cellAt es i j=some c->S b (o+(i*sz+j))/\w.cell? ⟨b,o+(i*sz+j),none⟩=some (u i j)/\(u i j).oneCell'=true)
  (hr: ∀(i j:Nat) (c:AV),cellAt es i j=some c->RV S w (u i j) c):RV S w (.slice A n cap) (.seq sz es)
 |ref (sz:Nat) (es:List (List AV)) (i off b o:Nat) (u:Nat->Nat->Value)
  (hz: ∀(i:Nat) (e:List AV),es[i]? =some e->e.length=sz)
  (hc: ∀(i j:Nat) (c:AV),cellAt es i j=some c->S b (o+(i*sz+j))/\w.cell? ⟨b,o+(i*sz+j),none⟩=some (u i j)/\(u i j).oneCell'=true)
  (hr: ∀(i j:Nat) (c:AV),cellAt es i j=some c->RV S w (u i j) c):RV S w (.pointer (some ⟨b,o+(i*sz+off),none⟩)) (.ref sz es i off)
 |clo (g:FuncId) (vs:List Value) (cs:List AV) (h:vs.length=cs.length) (hc: ∀(i:Nat) (v:Value) (c:AV),vs[i]? =some v->cs[i]? =some c->RV S w v c):RV S w (.func (.func g) #[] vs.toArray) (.clo g cs)
 |fmap (g:Nat) (ents:Array MapEntry) (clock:Nat) (es:List (List AV)) (hS:S g 0) (hg:w.heap[g]? =some (.map ents clock)) (hn:ents.size=es.length) (hz: ∀(i:Nat) (e:List AV),es[i]? =some e->e.length=2)
  (hk: ∀(i:Nat) (en:MapEntry) (c:AV),ents[i]? =some en->cellAt es i 0=some c->RV S w en.key c)
  (hv: ∀(i:Nat) (en:MapEntry) (c:AV),ents[i]? =some en->cellAt es i 1=some c->RV S w en.val c):RV S w (.map (some g)) (.fmap es)
 |full (A:Option Addr) (n sz:Nat) (es:List (List AV)) (h:RV S w (.slice A n n) (.seq sz es)):RV S w (.slice A n n) (.full sz es)
 |news (A:Option Addr) (n k cap sz:Nat) (es:List (List AV)) (hA: ∀a,A=some a->n<=a.block) (h:RV S w (.slice A k cap) (.seq sz es)):RV S w (.slice A k cap) (.news n sz es)
theorem RV.mono {S S':Nat->Nat->Prop} {w w':World} (hS: ∀b o,S b o->S' b o/\Stay w w' b o) {v:Value} {c:AV} (h:RV S w v c):RV S' w' v c:=by
 induction h with
 |any v=>exact .any v
 |lit v=>exact .lit v
 |agg vs cs h h1 hc ih=>exact .agg vs cs h h1 ih
 |tuple vs cs h hc ih=>exact .tuple vs cs h ih
 |iface t v c h ih=>exact .iface t v c ih
 | seq A n cap sz es b o u hn hcap hA hz hc hr ih=>
   exact .seq A n cap sz es b o u hn hcap hA hz (fun i j c h=>by
    obtain⟨h1,h2,h3⟩:=hc i j c h
    exact⟨(hS _ _ h1).1,(hS _ _ h1).2.1.trans h2,h3⟩) ih
 | ref sz es i off b o u hz hc hr ih=>
   exact .ref sz es i off b o u hz (fun i j c h=>by
    obtain⟨h1,h2,h3⟩:=hc i j c h
    exact⟨(hS _ _ h1).1,(hS _ _ h1).2.1.trans h2,h3⟩) ih
 |clo g vs cs h hc ih=>exact .clo g vs cs h ih
 |fmap g ents clock es h0 hg hn hz hk hv ihk ihv=>exact .fmap g ents clock es (hS _ _ h0).1 ((hS _ _ h0).2.2 _ _ hg) hn hz ihk ihv
 |full A n sz es h ih=>exact .full A n sz es ih
 |news A n k cap sz es hA h ih=>exact .news A n k cap sz es hA ih
structure Row where
 sz:Nat
 es:List (List AV)
 e:TypeId
 pure:Bool
structure St where
 f:Nat->AV
 rows:Nat->Option Row
 vs:Nat->Nat
 esc:Nat->Bool
structure Mem where
 S:Nat->Nat->Prop
 ρ:Nat->Value
def cutV:Value->Nat->Nat->Value
 | .slice A n c,k,lo=> .slice (if c=lo then A else A.map (·.add k)) (n-lo) (c-lo)
 |v,_,_=>v
inductive RL (w:World) (m:Mem) (s:St):Value->AV->Prop
 |val {v:Value} {c:AV} (h:RV m.S w v c):RL w m s v c
 |agg (vs:List Value) (cs:List AV) (h:vs.length=cs.length) (h1: ∀v∈vs,v.oneCell'=true) (hc: ∀(i:Nat) (v:Value) (c:AV),vs[i]? =some v->cs[i]? =some c->RL w m s v c):RL w m s (.agg vs.toArray) (.agg cs)
 |tuple (vs:List Value) (cs:List AV) (h:vs.length=cs.length) (hc: ∀(i:Nat) (v:Value) (c:AV),vs[i]? =some v->cs[i]? =some c->RL w m s v c):RL w m s (.tuple vs.toArray) (.tuple cs)
 |row {v:Value} (r ver:Nat) (h1:v.oneCell'=true) (hle:ver<=s.vs r) (h:s.vs r=ver-> ∀row,s.rows r=some row->v=m.ρ r):RL w m s v (.row r ver)
 |loc {v:Value} (r ver i off:Nat) (h1:v.oneCell'=true) (hle:ver<=s.vs r) (h:s.vs r=ver-> ∀row,s.rows r=some row-> ∃g,(m.ρ r).ownBlock=some g/\v= .pointer (some ⟨g,i*row.sz+off,none⟩)):RL w m s v (.loc r ver i off)
 |mp {v:Value} (r ver:Nat) (h1:v.oneCell'=true) (hle:ver<=s.vs r) (h:s.vs r=ver-> ∀row,s.rows r=some row-> ∃g,(m.ρ r).ownBlock=some g/\v= .map (some g)):RL w m s v (.mp r ver)
 |sub {v:Value} (r ver lo:Nat) (h1:v.oneCell'=true) (hle:ver<=s.vs r) (h:s.vs r=ver-> ∀row,s.rows r=some row->v=cutV (m.ρ r) (lo*row.sz) lo):RL w m s v (.sub r ver lo)
 |clo (g:FuncId) (vs:List Value) (cs:List AV) (h:vs.length=cs.length) (hc: ∀(i:Nat) (v:Value) (c:AV),vs[i]? =some v->cs[i]? =some c->RL w m s v c):RL w m s (.func (.func g) #[] vs.toArray) (.clo g cs)
theorem RL.mono {w w':World} {m m':Mem} {s s':St} {v:Value} {c:AV} (h:RL w m s v c) (hS: ∀b o,m.S b o->m'.S b o/\Stay w w' b o) (hv: ∀r,s.vs r<=s'.vs r)
 (hk: ∀r row',s'.vs r=s.vs r->s'.rows r=some row'-> ∃row,s.rows r=some row/\row.sz=row'.sz/\m'.ρ r=m.ρ r):RL w' m' s' v c:=by
 induction h with
 |val h=>exact .val (h.mono hS)
 |agg vs cs h h1 hc ih=>exact .agg vs cs h h1 ih
 |tuple vs cs h hc ih=>exact .tuple vs cs h ih
 | row r ver h1 hle h=>
   refine .row r ver h1 (Kh hle (hv r)) fun e row' hr=> ?_;have e':s'.vs r=s.vs r:=Nr (by omega) (hv r);obtain⟨row,h1,_,h3⟩:=hk r row' e' hr;rw[h3];exact h (by omega) row h1
 | loc r ver i off h1 hle h=>
   refine .loc r ver i off h1 (Kh hle (hv r)) fun e row' hr=> ?_;have e':s'.vs r=s.vs r:=Nr (by omega) (hv r);obtain⟨row,h1,h2,h3⟩:=hk r row' e' hr;rw[h3, <-h2];exact h (by omega) row h1
 | sub r ver lo h1 hle h=>
   refine .sub r ver lo h1 (Kh hle (hv r)) fun e row' hr=> ?_;have e':s'.vs r=s.vs r:=Nr (by omega) (hv r);obtain⟨row,h1,h2,h3⟩:=hk r row' e' hr;rw[h3, <-h2];exact h (by omega) row h1
 | mp r ver h1 hle h=>
   refine .mp r ver h1 (Kh hle (hv r)) fun e row' hr=> ?_;have e':s'.vs r=s.vs r:=Nr (by omega) (hv r);obtain⟨row,h1,_,h3⟩:=hk r row' e' hr;rw[h3];exact h (by omega) row h1
 |clo g vs cs h hc ih=>exact .clo g vs cs h ih
structure CellsOk (base:Nat) (w:World) (m:Mem) (s:St) (r:Nat) (row:Row):Prop where
 pos:0<row.sz
 len: ∀(i:Nat) (e:List AV),row.es[i]? =some e->e.length=row.sz
 own: ∃xs,w.ownsRow base row.e row.sz (m.ρ r) row.es.length xs/\(∀u∈xs,u.oneCell'=true)/\ ∀(i j:Nat) (c:AV),cellAt row.es i j=some c-> ∃u,xs[i*row.sz+j]? =some u/\(if row.pure then RV m.S w u c else RL w m s u c)
 esc:s.esc r=true-> ∀g,(m.ρ r).ownBlock=some g-> ∀o,o<row.es.length*row.sz->m.S g o
 spare: ∀g,(m.ρ r).ownBlock=some g-> ∀o,row.es.length*row.sz<=o-> ¬m.S g o
 fresh:s.esc r=false-> ∀g,(m.ρ r).ownBlock=some g-> ∀o,¬m.S g o
def Dense (ents:Array MapEntry) (clock n:Nat):Prop:=ents.size=n/\clock=n/\ ∀(i:Nat) (en:MapEntry),ents[i]? =some en->en.born=i
structure MapOk (base:Nat) (w:World) (m:Mem) (s:St) (r:Nat) (row:Row):Prop where
 sz:row.sz=0
 own: ∃g ents clock,m.ρ r= .slice (some ⟨g,0,none⟩) 0 0/\base<=g/\w.heap[g]? =some (.map ents clock)/\Dense ents clock row.es.length/\
  ∀(i:Nat) (e:List AV),row.es[i]? =some e-> ∃en kc vc,ents[i]? =some en/\e=[kc,vc]/\RV m.S w en.key kc/\(if row.pure then RV m.S w en.val vc else RL w m s en.val vc)
 fresh: ∀g,(m.ρ r).ownBlock=some g-> ∀o,¬m.S g o
def gB (base:Nat) (w:World) (m:Mem) (s:St) (r:Nat) (row:Row):Prop:=CellsOk base w m s r row\/MapOk base w m s r row
theorem gB.cells {base:Nat} {w:World} {m:Mem} {s:St} {r:Nat} {row:Row} (h:gB base w m s r row) (hsz:row.sz≠0):CellsOk base w m s r row:=h.elim id fun h=>absurd h.sz hsz
theorem gB.map {base:Nat} {w:World} {m:Mem} {s:St} {r:Nat} {row:Row} (h:gB base w m s r row) (hsz:row.sz=0):MapOk base w m s r row:=h.elim (fun h=>by have:=h.pos;omega) id
theorem _root_.Go.RowKit.Below.stay {n:Nat} {w w':World} (h:Below n w w') {b o:Nat} (hb:b<n):Stay w w' b o:= .block (h.block b hb)
structure Env where
 at_:Nat->Option AV
 inv:World->Prop
 up: ∀w w',inv w->Below w.heap.size w w'->inv w'
instance:CoeFun Env fun _=>Nat->Option AV:=⟨Env.at_⟩
def Env.none:Env:=⟨fun _=>Option.none,fun _=>True,fun _ _ h _=>h⟩
structure Ctx where
 w:World
 S:Nat->Nat->Prop
 env:Env
 nt:Nat
 fw:World
 fm:Mem
 e:St
 fx:Nat->Prop
 df:List Deferred:=[]
structure Sim (x:Ctx) (s:St) (a:Act) (w:World) (m:Mem):Prop where
 bel:Below x.w.heap.size x.w w
 low: ∀b o,m.S b o->b<w.heap.size
 sup: ∀b o,x.S b o->m.S b o
 sub: ∀b o,m.S b o->x.S b o\/x.w.heap.size<=b
 env: ∀g c,x.env g=some c-> ∃u,x.w.cell? ⟨g,0,none⟩=some u/\u.oneCell'=true/\x.S g 0/\RV x.S x.w u c
 env0: ∀b o,x.S b o->b<x.w.heap.size
 einv:x.env.inv x.w
 dfs:a.defers=x.df
 siz:a.tmps.size=x.nt
 slot: ∀t,RL w m s (a.tmps.getD t undef) (s.f t)
 rows: ∀r row,s.rows r=some row->gB x.w.heap.size w m s r row
 inj: ∀r r' row row',s.rows r=some row->s.rows r'=some row'->r≠r'-> ∀g,(m.ρ r).ownBlock=some g->(m.ρ r').ownBlock≠some g
 evS: ∀b o,x.fm.S b o->m.S b o/\Stay x.fw w b o
 evV: ∀r,x.e.vs r<=s.vs r
 evK: ∀r row',s.vs r=x.e.vs r->s.rows r=some row'-> ∃row,x.e.rows r=some row/\row.sz=row'.sz/\m.ρ r=x.fm.ρ r
 fwle:x.fw.heap.size<=w.heap.size
 fix: ∀b,x.fx b->b<x.fw.heap.size/\w.heap[b]? =x.fw.heap[b]? /\ ∀o,m.S b o->x.fm.S b o
 nofx: ∀r row,s.rows r=some row-> ∀g,(m.ρ r).ownBlock=some g-> ¬x.fx g
section
variable {x:Ctx} {s s':St} {a:Act} {w w':World} {m m':Mem}
theorem Sim.toS (h:Sim x s a w m) (hS: ∀b o,m.S b o->m'.S b o/\Stay w w' b o): ∀b o,x.fm.S b o->m'.S b o/\Stay x.fw w' b o:=
 fun b o hh=>⟨(hS b o (h.evS b o hh).1).1,(h.evS b o hh).2.trans (hS b o (h.evS b o hh).1).2⟩
theorem Sim.toV (h:Sim x s a w m) (hv: ∀r,s.vs r<=s'.vs r): ∀r,x.e.vs r<=s'.vs r:=fun r=>Kh (h.evV r) (hv r)
theorem Sim.toK (h:Sim x s a w m) (hv: ∀r,s.vs r<=s'.vs r) (hk: ∀r row',s'.vs r=s.vs r->s'.rows r=some row'-> ∃row,s.rows r=some row/\row.sz=row'.sz/\m'.ρ r=m.ρ r):
 ∀r row',s'.vs r=x.e.vs r->s'.rows r=some row'-> ∃row,x.e.rows r=some row/\row.sz=row'.sz/\m'.ρ r=x.fm.ρ r:=fun r row' e hr=>by
 have h1:=h.evV r;have h2:=hv r;obtain⟨row,k1,k2,k3⟩:=hk r row' (by omega) hr;obtain⟨row0,k4,k5,k6⟩:=h.evK r row (by omega) k1;exact⟨row0,k4,k5.trans k2,k3.trans k6⟩
theorem Sim.fxlt (h:Sim x s a w m) {b:Nat} (hb:x.fx b):b<w.heap.size:=Lz (h.fix b hb).1 h.fwle
end
theorem Gl (a:Act) (d:Nat) (v:Value) (t:Nat) (hd:d<a.tmps.size):(a.put (some d) v).tmps.getD t undef=if t=d then v else a.tmps.getD t undef:=by
 simp only[Act.put,LS,Array.getElem?_setIfInBounds];by_cases h:t=d
 ·subst h;simp[hd]
 ·rw[KZ (MJ h),KZ h]
def upd {α:Type} (f:Nat->α) (d:Nat) (v:α):Nat->α:=fun t=>if t=d then v else f t
theorem upd_same {α:Type} (f:Nat->α) (d:Nat) (v:α):upd f d v d=v:=by simp[upd]
theorem upd_ne {α:Type} (f:Nat->α) (d:Nat) (v:α) {t:Nat} (h:t≠d):upd f d v t=f t:=by simp[upd,h]
def St.put (s:St) (d:Option Nat) (c:AV):St:=match d with|some d=>{ s with f:=upd s.f d c }|none=>s
theorem RL.put {w:World} {m:Mem} {s:St} {v:Value} {c:AV} (h:RL w m s v c) (d:Option Nat) (c':AV):RL w m (s.put d c') v c:=by
 refine RL.mono h (fun b o hb=>⟨hb, .rfl⟩) ?_ ?_
 ·cases d<;>exact fun _=>K8 _
 ·cases d<;>exact fun r row' _ hr=>⟨row',hr,rfl,rfl⟩
theorem CellsOk.mono {base:Nat} {w w':World} {m m':Mem} {s s':St} {r:Nat} {row:Row} (h:CellsOk base w m s r row)
 (hS: ∀b o,m.S b o->m'.S b o/\Stay w w' b o) (hv: ∀r,s.vs r<=s'.vs r)
 (hk: ∀r row',s'.vs r=s.vs r->s'.rows r=some row'-> ∃row,s.rows r=some row/\row.sz=row'.sz/\m'.ρ r=m.ρ r)
 (hρ:m'.ρ r=m.ρ r) (hb: ∀g,(m.ρ r).ownBlock=some g->w'.heap[g]? =w.heap[g]?) (he:s'.esc r=s.esc r) (hn: ∀g,(m.ρ r).ownBlock=some g-> ∀o,m'.S g o->m.S g o):CellsOk base w' m' s' r row:=by
 refine⟨h.pos,h.len,?_,?_,?_,?_⟩
 ·obtain⟨xs,h1,h2,h3⟩:=h.own;refine⟨xs,?_,h2,fun i j c hc=> ?_⟩
  ·rw[hρ];refine⟨h1.1,?_⟩;rcases h1.2 with h4|⟨g,cap,cur,e1,e2,e3,e4⟩
   ·exact .inl h4
   ·exact .inr ⟨g,cap,cur,e1,e2,(hb g (by rw[e1];rfl)).trans e3,e4⟩
  ·obtain⟨u,h4,h5⟩:=h3 i j c hc;refine⟨u,h4,?_⟩;split at h5
   ·rename_i hp;rw[K0 hp];exact h5.mono hS
   ·rename_i hp;rw[KZ hp];exact h5.mono hS hv hk
 ·rw[hρ,he];exact fun e g hg o ho=>(hS _ _ (h.esc e g hg o ho)).1
 ·rw[hρ];exact fun g hg o ho hh=>h.spare g hg o ho (hn g hg o hh)
 ·rw[hρ,he];exact fun e g hg o hh=>h.fresh e g hg o (hn g hg o hh)
theorem bQ {w:World} {base n size:Nat} {e:TypeId} {v:Value} {xs:List Value} {g:Nat} (h:w.ownsRow base e size v n xs) (hg:v.ownBlock=some g):base<=g/\g<w.heap.size:=h.lt g hg
theorem gB.blk {base:Nat} {w:World} {m:Mem} {s:St} {r:Nat} {row:Row} {g:Nat} (h:gB base w m s r row) (hg:(m.ρ r).ownBlock=some g):base<=g/\g<w.heap.size:=by
 rcases h with h|h
 ·obtain⟨xs,h1,_⟩:=h.own;exact bQ h1 hg
 ·obtain⟨g',ents,clock,e1,e2,e3,_⟩:=h.own;rw[e1]at hg;simp only[Value.ownBlock,KX]at hg;subst hg;exact⟨e2,(Kq.1 e3).1⟩
theorem gB.mono {base:Nat} {w w':World} {m m':Mem} {s s':St} {r:Nat} {row:Row} (h:gB base w m s r row)
 (hS: ∀b o,m.S b o->m'.S b o/\Stay w w' b o) (hv: ∀r,s.vs r<=s'.vs r)
 (hk: ∀r row',s'.vs r=s.vs r->s'.rows r=some row'-> ∃row,s.rows r=some row/\row.sz=row'.sz/\m'.ρ r=m.ρ r)
 (hρ:m'.ρ r=m.ρ r) (hb: ∀g,(m.ρ r).ownBlock=some g->w'.heap[g]? =w.heap[g]?) (he:s'.esc r=s.esc r) (hn: ∀g,(m.ρ r).ownBlock=some g-> ∀o,m'.S g o->m.S g o):gB base w' m' s' r row:=by
 rcases h with h|h
 ·exact .inl (h.mono hS hv hk hρ hb he hn)
 ·obtain⟨g,ents,clock,e1,e2,e3,e4,e5⟩:=h.own;refine .inr ⟨h.sz,⟨g,ents,clock,hρ.trans e1,e2,(hb g (by rw[e1];rfl)).trans e3,e4,fun i e hi=> ?_⟩,fun g hg o hh=>h.fresh g (by rw[<-hρ];exact hg) o (hn g (by rw[<-hρ];exact hg) o hh)⟩;obtain⟨en,kc,vc,k1,k2,k3,k4⟩:=e5 i e hi;refine⟨en,kc,vc,k1,k2,k3.mono hS,?_⟩;split at k4
  ·rename_i hp;rw[K0 hp];exact k4.mono hS
  ·rename_i hp;rw[KZ hp];exact k4.mono hS hv hk
theorem Sim.put {x:Ctx} {s:St} {a:Act} {w:World} {m:Mem} (h:Sim x s a w m) (d:Option Nat) (hd: ∀t,d=some t->t<x.nt) {v:Value} {c:AV} (hv:RL w m s v c):Sim x (s.put d c) (a.put d v) w m:=by
 cases d with
 |none=>exact h
 | some d=>
   have hd:=hd d rfl;refine { h with dfs:=h.dfs,siz:=by simpa[Act.put]using h.siz,slot:=fun t=> ?_,rows:=fun r row hr=> ?_ }
   ·rw[Gl a d v t (by rw[h.siz];exact hd)]
    have key:RL w m s (if t=d then v else a.tmps.getD t undef) (upd s.f d c t):=by
     by_cases e:t=d
     ·rw[K0 e,e,upd_same];exact hv
     ·rw[KZ e,upd_ne _ _ _ e];exact h.slot t
    exact RL.put key (some d) c
   ·exact(h.rows r row hr).mono (fun b o hb=>⟨hb, .rfl⟩) (fun _=>K8 _) (fun r row' _ hr=>⟨row',hr,rfl,rfl⟩) rfl (fun _ _=>rfl) rfl (fun _ _ _ hh=>hh)
theorem Sim.move {x:Ctx} {s:St} {a:Act} {w w':World} {m m':Mem} (h:Sim x s a w m) (hρ:m'.ρ=m.ρ) (hb:Below x.w.heap.size w w')
 (hS: ∀b o,m.S b o->m'.S b o/\Stay w w' b o) (hnew: ∀b o,m'.S b o->m.S b o\/(w.heap.size<=b/\b<w'.heap.size))
 (hrow: ∀r row,s.rows r=some row-> ∀g,(m.ρ r).ownBlock=some g->w'.heap[g]? =w.heap[g]?) (hfx: ∀b,x.fx b->w'.heap[b]? =w.heap[b]?):Sim x s a w' m':=by
 have hk: ∀r row',s.vs r=s.vs r->s.rows r=some row'-> ∃row,s.rows r=some row/\row.sz=row'.sz/\m'.ρ r=m.ρ r:=fun r row' _ hr=>⟨row',hr,rfl,by rw[hρ]⟩;refine⟨h.bel.trans hb,fun b o hh=> ?_,fun b o hh=>(hS _ _ (h.sup b o hh)).1,fun b o hh=> ?_,h.env,h.env0,h.einv,h.dfs,h.siz,fun t=>(h.slot t).mono hS (fun _=>K8 _) hk,fun r row hr=> ?_,fun r r' row row' hr hr' hne=> ?_,h.toS hS,h.evV,h.toK (fun _=>K8 _) hk,Kh h.fwle hb.size,fun b hf=>⟨(h.fix b hf).1,(hfx b hf).trans (h.fix b hf).2.1,fun o hh=> ?_⟩,fun r row hr=>by rw[hρ];exact h.nofx r row hr⟩
 rotate_right
 ·rcases hnew b o hh with k|⟨k,_⟩
  ·exact(h.fix b hf).2.2 o k
  ·have:=h.fxlt hf;omega
 ·rcases hnew b o hh with k|⟨_,k⟩
  ·have:=h.low b o k;have:=hb.size;omega
  ·exact k
 ·rcases hnew b o hh with k|⟨k,_⟩
  ·exact h.sub b o k
  ·have:=h.bel.size;exact .inr (by omega)
 ·have k:=h.rows r row hr;refine k.mono hS (fun _=>K8 _) hk (by rw[hρ]) (fun g hg=>hrow r row hr g hg) rfl fun g hg o hh=> ?_;rcases hnew g o hh with k' | ⟨k',_⟩
  ·exact k'
  ·have:=(k.blk hg).2;omega
 ·rw[hρ];exact h.inj r r' row row' hr hr' hne
theorem Sim.drew {x:Ctx} {s:St} {a:Act} {w:World} {m:Mem} (h:Sim x s a w m) (n:Nat):Sim x s a (w.drewN n) m:=
 h.move rfl (below_drewN (MM _ _) n) (fun _ _ hh=>⟨hh, .rfl⟩) (fun _ _ hh=> .inl hh) (fun _ _ _ _ _=>rfl) (fun _ _=>rfl)
end
section
def St.renew (s:St) (r:Nat) (row:Row) (e:Bool):St:={ s with rows:=upd s.rows r (some row),vs:=upd s.vs r (s.vs r+1),esc:=upd s.esc r e }
def St.setRow (s:St) (r:Nat) (row:Row):St:={ s with rows:=upd s.rows r (some row) }
def St.show (s:St) (r:Nat):St:={ s with esc:=upd s.esc r true }
theorem kM (s:St) (r:Nat) (row:Row) (e:Bool) (k:Nat):s.vs k<=(s.renew r row e).vs k:=by
 simp only[St.renew,upd];split
 ·rename_i h;rw[h];omega
 ·exact K8 _
theorem pD {s:St} {r:Nat} {row:Row} {e:Bool} {ρ:Nat->Value} {v:Value} (k:Nat) (row':Row) (hv:(s.renew r row e).vs k=s.vs k) (hr:(s.renew r row e).rows k=some row'):k≠r/\s.rows k=some row'/\upd ρ r v k=ρ k:=by
 have hne:k≠r:=by
  rintro rfl;simp only[St.renew,upd_same]at hv;omega
 refine⟨hne,?_,upd_ne _ _ _ hne⟩;simpa only[St.renew,upd_ne _ _ _ hne]using hr
theorem Sim.renew {x:Ctx} {s:St} {a:Act} {w w':World} {m:Mem} (h:Sim x s a w m) (r:Nat) (row:Row) (e:Bool) (v:Value) (S':Nat->Nat->Prop) (hb:Below x.w.heap.size w w')
 (hS: ∀b o,m.S b o->S' b o/\Stay w w' b o) (hnew: ∀b o,S' b o->m.S b o\/(x.w.heap.size<=b/\b<w'.heap.size))
 (hoth: ∀k row',k≠r->s.rows k=some row'-> ∀g,(m.ρ k).ownBlock=some g->w'.heap[g]? =w.heap[g]? /\v.ownBlock≠some g/\ ∀o,S' g o->m.S g o)
 (hok:gB x.w.heap.size w' ⟨S',upd m.ρ r v⟩ (s.renew r row e) r row) (hfx: ∀b,x.fx b->w'.heap[b]? =w.heap[b]? /\(∀o,S' b o->m.S b o)/\v.ownBlock≠some b):Sim x (s.renew r row e) a w' ⟨S',upd m.ρ r v⟩:=by
 have hk: ∀k row',(s.renew r row e).vs k=s.vs k->(s.renew r row e).rows k=some row'-> ∃row0,s.rows k=some row0/\row0.sz=row'.sz/\upd m.ρ r v k=m.ρ k:=fun k row' h1 h2=>by
  obtain⟨_,h3,h4⟩:=pD (ρ:=m.ρ) (v:=v) k row' h1 h2;exact⟨row',h3,rfl,h4⟩
 refine⟨h.bel.trans hb,fun b o hh=> ?_,fun b o hh=>(hS _ _ (h.sup b o hh)).1,fun b o hh=> ?_,h.env,h.env0,h.einv,h.dfs,h.siz,fun t=>(h.slot t).mono (m':=⟨S',upd m.ρ r v⟩) (s':=s.renew r row e) hS (kM s r row e) hk,fun k row' hr=> ?_,fun k k' row1 row2 h1 h2 hne g hg=> ?_,h.toS (m':=⟨S',upd m.ρ r v⟩) hS,h.toV (kM s r row e),h.toK (m':=⟨S',upd m.ρ r v⟩) (kM s r row e) hk,Kh h.fwle hb.size,fun b hf=>⟨(h.fix b hf).1,(hfx b hf).1.trans (h.fix b hf).2.1,fun o hh=>(h.fix b hf).2.2 o ((hfx b hf).2.1 o hh)⟩,fun k row' hr g hg hf=> ?_⟩
 rotate_right
 ·simp only at hg;by_cases hkr:k=r
  ·subst hkr;rw[upd_same]at hg;exact(hfx g hf).2.2 hg
  ·rw[upd_ne _ _ _ hkr]at hg;exact h.nofx k row' (by simpa only[St.renew,upd_ne _ _ _ hkr]using hr) g hg hf
 ·rcases hnew b o hh with k|⟨_,k⟩
  ·have:=h.low b o k;have:=hb.size;omega
  ·exact k
 ·rcases hnew b o hh with k|⟨k,_⟩
  ·exact h.sub b o k
  ·exact .inr k
 ·by_cases hkr:k=r
  ·subst hkr;have:row'=row:=by simpa[St.renew,upd_same]using hr.symm
   subst this;exact hok
  ·have hr':s.rows k=some row':=by simpa only[St.renew,upd_ne _ _ _ hkr]using hr
   refine(h.rows k row' hr').mono (m':=⟨S',upd m.ρ r v⟩) (s':=s.renew r row e) hS (kM s r row e) hk (upd_ne _ _ _ hkr) (fun g hg=>(hoth k row' hkr hr' g hg).1) (by simp only[St.renew,upd_ne _ _ _ hkr]) (fun g hg=>(hoth k row' hkr hr' g hg).2.2)
 ·simp only at hg |-;by_cases e1:k=r
  ·subst e1;rw[upd_same]at hg;rw[upd_ne _ _ _ (MJ hne)];have hr2:s.rows k'=some row2:=by simpa only[St.renew,upd_ne _ _ _ (MJ hne)]using h2
   intro hg2;exact(hoth k' row2 (MJ hne) hr2 g hg2).2.1 hg
  ·rw[upd_ne _ _ _ e1]at hg;have hr1:s.rows k=some row1:=by simpa only[St.renew,upd_ne _ _ _ e1]using h1
   by_cases e2:k'=r
   ·subst e2;rw[upd_same];exact(hoth k row1 e1 hr1 g hg).2.1
   ·rw[upd_ne _ _ _ e2];have hr2:s.rows k'=some row2:=by simpa only[St.renew,upd_ne _ _ _ e2]using h2
    exact h.inj k k' row1 row2 hr1 hr2 hne g hg
def flat (es:List (List AV)):List AV:=es.flatten
theorem du {es:List (List AV)} {i j:Nat} {c:AV} {sz:Nat} (hz: ∀(i:Nat) (e:List AV),es[i]? =some e->e.length=sz) (h:cellAt es i j=some c):i<es.length/\j<sz:=by
 unfold cellAt at h;cases he:es[i]? with
 |none=>rw[he]at h;cases h
 | some e=>
   rw[he]at h;have hj:j<e.length:=(KW.1 h).1;rw[hz i e he]at hj;exact⟨(KW.1 he).1,hj⟩
theorem jk {i j n sz:Nat} (hi:i<n) (hj:j<sz):i*sz+j<n*sz:=by
 have:(i+1)*sz<=n*sz:=LE _ hi;rw[Ll,Mh]at this;omega
theorem Sim.newRow {x:Ctx} {s:St} {a:Act} {w:World} {m:Mem} (h:Sim x s a w m) (r:Nat) (row:Row) (cs:List Value) (hpos:0<row.sz) (hmax:row.es.length<=maxLen)
 (hz: ∀(i:Nat) (e:List AV),row.es[i]? =some e->e.length=row.sz) (hl:cs.length=row.es.length*row.sz) (h1: ∀u∈cs,u.oneCell'=true)
 (hc: ∀(i j:Nat) (c:AV),cellAt row.es i j=some c-> ∃u,cs[i*row.sz+j]? =some u/\(if row.pure then RV m.S w u c else RL w m s u c)):
 Sim x (s.renew r row false) a (w.alloc (.cells cs.toArray row.e)) ⟨m.S,upd m.ρ r (.slice (some ⟨w.heap.size,0,none⟩) row.es.length row.es.length)⟩:=by
 have hcell: ∀b o,m.S b o->m.S b o/\Stay w (w.alloc (.cells cs.toArray row.e)) b o:=fun b o hh=>⟨hh, .block (MH _ _ _ (h.low b o hh))⟩;have hsz:=h.bel.size;refine h.renew r row false _ m.S ((MM _ _).alloc hsz _) hcell (fun b o hh=> .inl hh) (fun k row' hk hr g hg=> ?_) (.inl ⟨hpos,hz,?_,(fun e=>by simp[St.renew,upd_same]at e),(fun g hg o ho hh=> ?_),(fun _ g hg o hh=> ?_)⟩) fun b hf=>⟨MH _ _ _ (h.fxlt hf),fun _ hh=>hh,fun e=>by have:=h.fxlt hf;simp[Value.ownBlock]at e;omega⟩
 ·have:=((h.rows k row' hr).blk hg).2;refine⟨MH _ _ _ this,?_,fun o hh=>hh⟩;simp[Value.ownBlock];omega
 ·refine⟨cs,⟨hl, .inr ⟨w.heap.size,row.es.length,cs.toArray,upd_same _ _ _,hsz,Whole.new _ _ _,K8 _,hmax,by simpa using hl,by rw[LP (by simp[hl])]⟩⟩,h1,fun i j c hh=> ?_⟩;obtain⟨u,h2,h3⟩:=hc i j c hh;refine⟨u,h2,?_⟩;split at h3
  ·rename_i hp;rw[K0 hp];exact h3.mono hcell
  ·rename_i hp;rw[KZ hp];refine h3.mono hcell (kM s r row false) fun k row' h4 h5=> ?_;obtain⟨_,h6,h7⟩:=pD (ρ:=m.ρ) (v:= .slice (some ⟨w.heap.size,0,none⟩) row.es.length row.es.length) k row' h4 h5;exact⟨row',h6,rfl,h7⟩
 ·simp[upd_same,Value.ownBlock]at hg;have:=h.low g o hh;omega
 ·simp[upd_same,Value.ownBlock]at hg;have:=h.low g o hh;omega
theorem gp {w:World} {base n size:Nat} {e:TypeId} {v:Value} {xs:List Value} {g:Nat} (h:w.ownsRow base e size v n xs) (hg:v.ownBlock=some g) (j:Nat) (u:Value) (hj:xs[j]? =some u):w.cell? ⟨g,j,none⟩=some u:=by
 rcases h.2 with⟨e0,_⟩|⟨g',cap,cur,e1,_,e3,e4,_,e6,e7⟩
 ·rw[e0]at hg;cases hg
 ·rw[e1]at hg;simp[Value.ownBlock]at hg;subst hg;rw[<-e7,Kz]at hj;split at hj
  ·simp[World.cell?,e3];simpa using hj
  ·cases hj
theorem GX {w:World} {base n size:Nat} {e:TypeId} {v:Value} {xs:List Value} {g:Nat} (h:w.ownsRow base e size v n xs) (hg:v.ownBlock=some g): ∃cur fr,w.heap[g]? =some (.cells cur e fr):=by
 rcases h.2 with⟨e0,_⟩|⟨g',cap,cur,e1,_,e3,_⟩
 ·rw[e0]at hg;cases hg
 ·rw[e1]at hg;simp[Value.ownBlock]at hg;subst hg;exact⟨cur,_,e3⟩
theorem iT {f:AV->AV} {es:List (List AV)} {i j:Nat} {c:AV} (h:cellAt (es.map (·.map f)) i j=some c): ∃c0,cellAt es i j=some c0/\f c0=c:=by
 unfold cellAt at h |-;rw[K5]at h;cases he:es[i]? with
 |none=>rw[he]at h;cases h
 | some e=>
   rw[he]at h;simp only[Kg,LX,K5]at h |-;exact L1.1 h
theorem len_mapF {f:AV->AV} {es:List (List AV)} {n:Nat} (hl: ∀(i:Nat) (e:List AV),es[i]? =some e->e.length=n) (i:Nat) (e:List AV) (h:(es.map (·.map f))[i]? =some e):e.length=n:=by
 rw[K5]at h;obtain⟨e0,h1,rfl⟩:=L1.1 h;rw[Kl];exact hl i e0 h1
theorem Sim.showF (f:AV->AV) {x:Ctx} {s:St} {a:Act} {w:World} {m:Mem} (h:Sim x s a w m) (r:Nat) (row:Row) (hr:s.rows r=some row) (hsz:row.sz≠0) (hp: ∀(i j:Nat) (c:AV) (u:Value),cellAt row.es i j=some c->(if row.pure then RV m.S w u c else RL w m s u c)->RV m.S w u (f c)):
 ∃S',Sim x (s.show r) a w ⟨S',m.ρ⟩/\(∀b o,m.S b o->S' b o)/\RV S' w (m.ρ r) (.seq row.sz (row.es.map (·.map f)))/\ ∀g,(m.ρ r).ownBlock=some g-> ∀i off,RV S' w (.pointer (some ⟨g,i*row.sz+off,none⟩)) (.ref row.sz (row.es.map (·.map f)) i off):=by
 have k:=(h.rows r row hr).cells hsz;obtain⟨xs,h1,h2,h3⟩:=k.own;obtain⟨S',hS'⟩: ∃S':Nat->Nat->Prop,S'=fun b o=>m.S b o\/((m.ρ r).ownBlock=some b/\o<row.es.length*row.sz):=⟨_,rfl⟩;have hsup: ∀b o,m.S b o->S' b o/\Stay w w b o:=fun b o hh=>⟨by rw[hS'];exact .inl hh, .rfl⟩;have hk: ∀k row',(s.show r).vs k=s.vs k->(s.show r).rows k=some row'-> ∃row0,s.rows k=some row0/\row0.sz=row'.sz/\m.ρ k=m.ρ k:=fun k row' _ hh=>⟨row',hh,rfl,rfl⟩
 refine⟨S',⟨h.bel,fun b o hh=> ?_,fun b o hh=>(hsup _ _ (h.sup b o hh)).1,fun b o hh=> ?_,h.env,h.env0,h.einv,h.dfs,h.siz,fun t=>(h.slot t).mono (m':=⟨S',m.ρ⟩) (s':=s.show r) hsup (fun _=>K8 _) hk,fun k' row' hr'=> ?_,h.inj,h.toS (m':=⟨S',m.ρ⟩) hsup,h.evV,h.toK (s':=s.show r) (m':=⟨S',m.ρ⟩) (fun _=>K8 _) hk,h.fwle,fun b hf=>⟨(h.fix b hf).1,(h.fix b hf).2.1,fun o hh=>(h.fix b hf).2.2 o (by
  simp only[hS']at hh;rcases hh with hh|⟨hh,_⟩
  ·exact hh
  ·exact absurd hf (h.nofx r row hr b hh))⟩,h.nofx⟩,fun b o hh=>(hsup b o hh).1,?_⟩
 ·rw[hS']at hh;rcases hh with hh|⟨hh,_⟩
  ·exact h.low b o hh
  ·exact(bQ h1 hh).2
 ·rw[hS']at hh;rcases hh with hh|⟨hh,_⟩
  ·exact h.sub b o hh
  ·exact .inr (bQ h1 hh).1
 ·have hr':s.rows k'=some row':=hr';by_cases e:k'=r
  ·subst e;obtain rfl:row=row':=Lo (hr.symm.trans hr');refine .inl ⟨k.pos,k.len,⟨xs,h1,h2,fun i j c hc=> ?_⟩,fun _ g hg o ho=> ?_,fun g hg o ho hh=> ?_,fun e=> ?_⟩
   ·obtain⟨u,h4,h5⟩:=h3 i j c hc;refine⟨u,h4,?_⟩;split at h5
    ·rename_i hq;rw[K0 hq];exact h5.mono hsup
    ·rename_i hq;rw[KZ hq];exact h5.mono hsup (fun _=>K8 _) hk
   ·rw[hS'];exact .inr ⟨hg,ho⟩
   ·rw[hS']at hh;rcases hh with hh|⟨_,hh⟩
    ·exact k.spare g hg o ho hh
    ·omega
   ·simp[St.show,upd_same]at e
  ·refine(h.rows k' row' hr').mono (m':=⟨S',m.ρ⟩) (s':=s.show r) hsup (fun _=>K8 _) hk rfl (fun _ _=>rfl) (by simp only[St.show,upd_ne _ _ _ e]) fun g hg o hh=> ?_;rw[hS']at hh;rcases hh with hh|⟨hh,_⟩
   ·exact hh
   ·exact absurd hg (h.inj r k' row row' hr hr' (MJ e) g hh)
 ·refine⟨?_,fun g hg i off=> ?_⟩
  case refine_2=>
   have k2:=RV.ref (S:=S') (w:=w) row.sz (row.es.map (·.map f)) i off g 0 (fun i j=>xs.getD (i*row.sz+j) undef) (len_mapF k.len) (fun i j c' hc=>by
    obtain⟨c0,hc0,rfl⟩:=iT hc;obtain⟨u,h4,h5⟩:=h3 i j c0 hc0;obtain⟨hi,hj⟩:=du k.len hc0;have hu:xs.getD (i*row.sz+j) undef=u:=by simp[List.getD,h4]
    rw[hu,Lc]
    exact⟨by rw[hS'];exact .inr ⟨hg,jk hi hj⟩,gp h1 hg _ u h4,h2 u (K1 h4)⟩) fun i j c' hc=>by
    obtain⟨c0,hc0,rfl⟩:=iT hc;obtain⟨u,h4,h5⟩:=h3 i j c0 hc0;have hu:xs.getD (i*row.sz+j) undef=u:=by simp[List.getD,h4]
    rw[hu];exact(hp i j c0 u hc0 h5).mono hsup
   rw[Lc]at k2;exact k2
  obtain⟨A,c,hv,hrd⟩:=uc h1
  have hcap:row.es.length<=c:=by
   rcases h1.2 with⟨e,hn⟩|⟨g,cap,cur,e,_,_,hle,_⟩
   ·rw[hv]at e;injection e with e1 e2 e3;omega
   ·rw[hv]at e;injection e with e1 e2 e3;omega
  rw[hv]at hS' h1 |-;by_cases h0:row.es.length=0
  ·have hes:row.es=[]:=LJ h0;exact .seq A _ c row.sz (row.es.map (·.map f)) 0 0 (fun _ _=>undef) (Kl ..) hcap (fun hh=>by omega) (len_mapF k.len) (fun i j c' hc=>by rw[hes]at hc;simp[cellAt]at hc) (fun i j c' hc=>by rw[hes]at hc;simp[cellAt]at hc)
  ·obtain⟨b,off,rfl,_,hcl⟩:=hrd.2 (by omega);obtain⟨g,cap,hgv,_⟩:=h1.form (by omega);injection hgv with e1 e2 e3
   injection e1 with e1
   injection e1 with e4 e5 e6
   subst e4 e5;refine .seq _ _ c row.sz (row.es.map (·.map f)) b 0 (fun i j=>xs.getD (i*row.sz+j) undef) (Kl ..) hcap (fun _=>rfl) (len_mapF k.len) (fun i j c' hc=> ?_) fun i j c' hc=> ?_
   ·obtain⟨c0,hc0,rfl⟩:=iT hc;obtain⟨u,h4,h5⟩:=h3 i j c0 hc0;obtain⟨hi,hj⟩:=du k.len hc0;have hu:xs.getD (i*row.sz+j) undef=u:=by simp[List.getD,h4]
    rw[hu];refine⟨by rw[hS'];exact .inr ⟨rfl,by rw[Lc];exact jk hi hj⟩,by rw[<-hcl _ u h4],h2 u (K1 h4)⟩
   ·obtain⟨c0,hc0,rfl⟩:=iT hc;obtain⟨u,h4,h5⟩:=h3 i j c0 hc0;have hu:xs.getD (i*row.sz+j) undef=u:=by simp[List.getD,h4]
    rw[hu];exact(hp i j c0 u hc0 h5).mono hsup
theorem Sim.show_ {x:Ctx} {s:St} {a:Act} {w:World} {m:Mem} (h:Sim x s a w m) (r:Nat) (row:Row) (hr:s.rows r=some row) (hsz:row.sz≠0) (hp: ∀(i j:Nat) (c:AV) (u:Value),cellAt row.es i j=some c->(if row.pure then RV m.S w u c else RL w m s u c)->RV m.S w u c):
 ∃S',Sim x (s.show r) a w ⟨S',m.ρ⟩/\(∀b o,m.S b o->S' b o)/\RV S' w (m.ρ r) (.seq row.sz row.es)/\ ∀g,(m.ρ r).ownBlock=some g-> ∀i off,RV S' w (.pointer (some ⟨g,i*row.sz+off,none⟩)) (.ref row.sz row.es i off):=by
 have:=h.showF id r row hr hsz hp;rwa [show row.es.map (·.map id)=row.es by simp]at this
theorem Sim.show {x:Ctx} {s:St} {a:Act} {w:World} {m:Mem} (h:Sim x s a w m) (r:Nat) (row:Row) (hr:s.rows r=some row) (hsz:row.sz≠0) (hp:row.pure=true):
 ∃S',Sim x (s.show r) a w ⟨S',m.ρ⟩/\(∀b o,m.S b o->S' b o)/\RV S' w (m.ρ r) (.seq row.sz row.es):=by
 obtain⟨S',h1,h2,h3,_⟩:=h.show_ r row hr hsz (fun i j c u _ hh=>by rw[K0 hp]at hh;exact hh);exact⟨S',h1,h2,h3⟩
end
section
def splice {α:Type} (l:List α) (p:Nat) (vs:List α):List α:=l.take p++vs++l.drop (p+vs.length)
theorem cz {α:Type} (l:List α) (p:Nat) (vs:List α) (h:p+vs.length<=l.length):(splice l p vs).length=l.length:=by
 simp only[splice,K4,Kf,M2];omega
theorem bb {α:Type} (l:List α) (p:Nat) (vs:List α) (h:p+vs.length<=l.length) (k:Nat):(splice l p vs)[k]? =if k<p then l[k]? else if k<p+vs.length then vs[k-p]? else l[k]? :=by
 unfold splice;by_cases h1:k<p
 ·rw[K0 h1,LV,LB (by simp;omega),Kz,K0 h1]
 ·rw[KZ h1];have hp:(l.take p).length=p:=by simp;omega
  by_cases h2:k<p+vs.length
  ·rw[K0 h2,LV,Ku (by omega),hp,LB (by omega)]
  ·rw[KZ h2,Ku (by simp;omega),La]
   congr 1
   simp;omega
theorem Sim.reset {x:Ctx} {s:St} {a:Act} {w w':World} {m:Mem} (h:Sim x s a w m) (r:Nat) (row row':Row) (hr:s.rows r=some row) (hsz:row'.sz=row.sz) (hb:Below x.w.heap.size w w')
 (hS: ∀b o,m.S b o->Stay w w' b o)
 (hoth: ∀k row1,k≠r->s.rows k=some row1-> ∀g,(m.ρ k).ownBlock=some g->w'.heap[g]? =w.heap[g]?)
 (hok:gB x.w.heap.size w' m (s.setRow r row') r row') (hfx: ∀b,x.fx b->w'.heap[b]? =w.heap[b]?):Sim x (s.setRow r row') a w' m:=by
 have hS': ∀b o,m.S b o->m.S b o/\Stay w w' b o:=fun b o hh=>⟨hh,hS b o hh⟩
 have hk: ∀k row2,(s.setRow r row').vs k=s.vs k->(s.setRow r row').rows k=some row2-> ∃row0,s.rows k=some row0/\row0.sz=row2.sz/\m.ρ k=m.ρ k:=fun k row2 _ hh=>by
  by_cases e:k=r
  ·subst e;simp only[St.setRow,upd_same,KX]at hh;subst hh;exact⟨row,hr,hsz.symm,rfl⟩
  ·simp only[St.setRow,upd_ne _ _ _ e]at hh;exact⟨row2,hh,rfl,rfl⟩
 refine⟨h.bel.trans hb,fun b o hh=>Lz (h.low b o hh) hb.size,h.sup,h.sub,h.env,h.env0,h.einv,h.dfs,h.siz,fun t=>(h.slot t).mono hS' (fun _=>K8 _) hk,fun k row2 hh=> ?_,fun k k' row1 row2 h1 h2 hne=> ?_,h.toS hS',h.evV,h.toK (s':=s.setRow r row') (fun _=>K8 _) hk,Kh h.fwle hb.size,fun b hf=>⟨(h.fix b hf).1,(hfx b hf).trans (h.fix b hf).2.1,(h.fix b hf).2.2⟩,fun k row2 hh=> ?_⟩
 rotate_right
 ·obtain⟨row0,h1,_⟩:=hk k row2 rfl hh;exact h.nofx k row0 h1
 ·by_cases e:k=r
  ·subst e;simp only[St.setRow,upd_same,KX]at hh;subst hh;exact hok
  ·simp only[St.setRow,upd_ne _ _ _ e]at hh;exact(h.rows k row2 hh).mono hS' (fun _=>K8 _) hk rfl (fun g hg=>hoth k row2 e hh g hg) rfl (fun _ _ _ hh=>hh)
 ·have: ∀k row1,(s.setRow r row').rows k=some row1-> ∃row0,s.rows k=some row0:=fun k row1 hh=>by
   obtain⟨row0,h1,_⟩:=hk k row1 rfl hh;exact⟨row0,h1⟩
  obtain⟨q1,e1⟩:=this k row1 h1;obtain⟨q2,e2⟩:=this k' row2 h2;exact h.inj k k' q1 q2 e1 e2 hne
theorem Sim.store {x:Ctx} {s:St} {a:Act} {w:World} {m:Mem} (h:Sim x s a w m) (r:Nat) (row:Row) (hr:s.rows r=some row) (hsz:row.sz≠0) (he:s.esc r=false) (i off:Nat) (e:List AV) (hi:row.es[i]? =some e)
 (cs:List AV) (vs:List Value) (hl:vs.length=cs.length) (hfit:off+cs.length<=row.sz) (h1: ∀v∈vs,v.oneCell'=true)
 (hc: ∀(j:Nat) (v:Value) (c:AV),vs[j]? =some v->cs[j]? =some c->if row.pure then RV m.S w v c else RL w m s v c) (g:Nat) (hg:(m.ρ r).ownBlock=some g):
 ∃cur,w.heap[g]? =some (.cells cur row.e (0,0))/\i*row.sz+off+vs.length<=cur.size/\
  Sim x (s.setRow r { row with es:=row.es.set i (splice e off cs) }) a (w.setRow g (cur.toList.take (i*row.sz+off)++vs++cur.toList.drop (i*row.sz+off+vs.length)).toArray) m:=by
 have k:=(h.rows r row hr).cells hsz;obtain⟨xs,k1,k2,k3⟩:=k.own;have hin:i<row.es.length:=(KW.1 hi).1;have hbg:=bQ k1 hg;rcases k1.2 with⟨e0,_⟩|⟨g',cap,cur,e1,e2,e3,e4,e5,e6,e7⟩
 ·rw[e0]at hg;cases hg
 rw[e1]at hg;simp[Value.ownBlock]at hg;subst hg;have hxl:xs.length=row.es.length*row.sz:=k1.1
 have hpos:i*row.sz+off+vs.length<=row.es.length*row.sz:=by
  have:(i+1)*row.sz<=row.es.length*row.sz:=LE _ hin;rw[Ll,Mh]at this;omega
 have hcs:row.es.length*row.sz<=cur.size:=by rw[e6];exact LE _ e4
 have hcl:i*row.sz+off+vs.length<=cur.toList.length:=by simp;omega
 refine⟨cur,e3,by omega,?_⟩;have hel:e.length=row.sz:=k.len i e hi;have hnS: ∀o,¬m.S g' o:=k.fresh he g' (by rw[e1];rfl);have hb:Below x.w.heap.size w (w.setRow g' (splice cur.toList (i*row.sz+off) vs).toArray):=⟨rfl,rfl,rfl,by simp,fun q hq=>MX w g' q _ (by omega)⟩;refine h.reset r row _ hr rfl hb (fun b o hh=> .block (MX w g' b _ (fun e=>hnS o (e ▸ hh)))) (fun q row1 hne hq gq hgq=>MX w g' gq _ (fun e=>h.inj r q row row1 hr hq (MJ hne) g' (by rw[e1];rfl) (e ▸ hgq))) ?_ fun b hf=>MX w g' b _ fun e=>h.nofx r row hr g' (by rw[e1];rfl) (e ▸ hf)
 have hz': ∀(p:Nat) (e':List AV),(row.es.set i (splice e off cs))[p]? =some e'->e'.length=row.sz:=fun p e' hp=>by
  rw[Ln]at hp;by_cases ep:i=p
  ·rw[K0 ep,K0 hin]at hp;cases hp;rw[cz _ _ _ (by omega),hel]
  ·rw[KZ ep]at hp;exact k.len p e' hp
 have hρ:m.ρ r= .slice (some ⟨g',0,none⟩) row.es.length cap:=e1
 have hkeep: ∀ {v:Value} {c:AV},(if row.pure then RV m.S w v c else RL w m s v c)->(if row.pure then RV m.S (w.setRow g' (splice cur.toList (i*row.sz+off) vs).toArray) v c else RL (w.setRow g' (splice cur.toList (i*row.sz+off) vs).toArray) m (s.setRow r { row with es:=row.es.set i (splice e off cs) }) v c):=fun {v c} hh=>by
  have hS': ∀b o,m.S b o->m.S b o/\Stay w (w.setRow g' (splice cur.toList (i*row.sz+off) vs).toArray) b o:=fun b o hh=>⟨hh, .block (MX w g' b _ (fun e=>hnS o (e ▸ hh)))⟩;split at hh
  ·rename_i hp;rw[K0 hp];exact hh.mono hS'
  ·rename_i hp;rw[KZ hp];refine hh.mono hS' (fun _=>K8 _) fun q row2 _ hq=> ?_;by_cases eq:q=r
   ·subst eq;simp only[St.setRow,upd_same,KX]at hq;subst hq;exact⟨row,hr,rfl,rfl⟩
   ·simp only[St.setRow,upd_ne _ _ _ eq]at hq;exact⟨row2,hq,rfl,rfl⟩
 refine .inl ⟨k.pos,hz',⟨splice xs (i*row.sz+off) vs,⟨?_, .inr ⟨g',cap,_,?_,e2,NU w g' cur _ row.e _ e3,?_,e5,?_,?_⟩⟩,?_,?_⟩,?_,?_,?_⟩
 ·rw[cz _ _ _ (by omega),hxl];simp
 ·rw[hρ];simp
 ·simpa using e4
 ·rw[MQ];show (splice cur.toList (i*row.sz+off) vs).length=cap*row.sz;rw[cz _ _ _ hcl,L9,e6]
 ·show ((splice cur.toList (i*row.sz+off) vs).toArray.toList.take ((row.es.set i (splice e off cs)).length*row.sz))=splice xs (i*row.sz+off) vs;apply LQ;intro q;rw[MV,Nk,Kz,bb cur.toList _ _ hcl,bb xs _ _ (by omega)];have hx: ∀q,q<row.es.length*row.sz->xs[q]? =cur.toList[q]? :=fun q hq=>by rw[<-e7,Kz,K0 hq]
  split
  ·rename_i hq;split
   ·exact(hx q hq).symm
   ·split
    ·rfl
    ·exact(hx q hq).symm
  ·rename_i hq;rw[KZ (by omega),KZ (by omega),K7 (by omega)]
 ·intro u hu;simp only[splice,Kt]at hu;rcases hu with(hu|hu)|hu
  ·exact k2 u (MK hu)
  ·exact h1 u hu
  ·exact k2 u (Mi hu)
 ·intro p j c hpc;have hlt:=du hz' hpc;simp only[MV]at hlt;show ∃u,(splice xs (i*row.sz+off) vs)[p*row.sz+j]? =some u/\_;rw[bb _ _ _ (by omega)]
  have hold: ∀c',cellAt row.es p j=some c'->c'=c->(¬(p=i/\off<=j/\j<off+cs.length))-> ∃u,(if p*row.sz+j<i*row.sz+off then xs[p*row.sz+j]? else if p*row.sz+j<i*row.sz+off+vs.length then vs[p*row.sz+j-(i*row.sz+off)]? else xs[p*row.sz+j]?)=some u/\(if row.pure then RV m.S (w.setRow g' (splice cur.toList (i*row.sz+off) vs).toArray) u c else RL (w.setRow g' (splice cur.toList (i*row.sz+off) vs).toArray) m (s.setRow r { row with es:=row.es.set i (splice e off cs) }) u c):=fun c' hc' hcc hno=>by
   subst hcc;obtain⟨u,h4,h5⟩:=k3 p j c' hc';refine⟨u,?_,hkeep h5⟩;split
   ·exact h4
   ·rename_i hge;rw[KZ ?_]
    ·exact h4
    ·intro hlt2;apply hno;rcases NI p i with hp|hp|hp
     ·have:=jk (n:=i) hp hlt.2;omega
     ·subst hp;omega
     ·have:=jk (i:=i) (j:=off+vs.length-1) (n:=p) (sz:=row.sz) hp (by have:=k.pos;omega);have:(i+1)*row.sz<=p*row.sz:=LE _ hp;rw[Ll,Mh]at this;omega
  by_cases hpi:p=i
  ·subst hpi
   have hc2:(splice e off cs)[j]? =some c:=by
    unfold cellAt at hpc;rw[NV hin]at hpc;exact hpc
   rw[bb _ _ _ (by omega)]at hc2;have hee: ∀c',e[j]? =some c'->cellAt row.es p j=some c':=fun c' hh=>by unfold cellAt;rw[hi];exact hh
   by_cases j1:j<off
   ·rw[K0 j1]at hc2;exact hold c (hee c hc2) rfl (by omega)
   ·rw[KZ j1]at hc2;by_cases j2:j<off+cs.length
    ·rw[K0 j2]at hc2;have hjv:j-off<vs.length:=by omega
     refine⟨vs[j-off],?_,hkeep (hc (j-off) _ c (KV hjv) hc2)⟩;rw[KZ (by omega),K0 (by omega),show p*row.sz+j-(p*row.sz+off)=j-off by omega,KV hjv]
    ·rw[KZ j2]at hc2;exact hold c (hee c hc2) rfl (by omega)
  ·have hc2:cellAt row.es p j=some c:=by
    unfold cellAt at hpc |-;rw[NJ (MJ hpi)]at hpc;exact hpc
   exact hold c hc2 rfl (fun hh=>hpi hh.1)
 ·intro e';simp only[St.setRow]at e';rw[he]at e';cases e'
 ·intro gq hgq o ho;rw[hρ]at hgq;simp[Value.ownBlock]at hgq;subst hgq;exact hnS o
 ·intro _ gq hgq o;rw[hρ]at hgq;simp[Value.ownBlock]at hgq;subst hgq;exact hnS o
end
section
section
variable {P:Program} (w:World)
theorem eQ (base:Nat) (t ty e:TypeId) (i:TypeInfo) (z:Value) (size bytes:Nat) (ht:P.underlying t=some (.slice e)) (hi:P.info? e=some i) (hz:i.zero=some z)
 (hsize:i.size=size) (hby:i.bytes=bytes) (hzs:z.cells.size=size) (hsz:0<size)
 (v:Value) (n:Nat) (xs:List Value) (hown:w.ownsRow base e size v n xs)
 (A:Option Addr) (m c:Nat) (news:List Value) (hl:news.length=m*size) (hr:0<m-> ∃a,A=some a/\ ∀j u,news[j]? =some u->w.cell? (a.add j)=some u) (h1: ∀u∈news,u.oneCell'=true)
 (h63:n+m<=maxLen) (hbytes:(n+m)*bytes<=140737488355328) (hbase:base<=w.heap.size):
 ∃v' w',(Builtin.append_ #[t,t] ty #[v, .slice A m c]).run P w= .ok v' w'/\w'.ownsRow base e size v' (n+m) (xs++news)/\
  ((v'.ownBlock=v.ownBlock/\w.grownBy w' v.ownBlock)\/(v'.ownBlock=some w.heap.size/\w.grownBy w' none)):=by
 have same:(n+m)=n->news=[]:=fun hh=>LJ (by rw[hl,show m=0 by omega];simp);by_cases hm:m=0
 ·subst hm;have hnw:=same rfl;subst hnw;refine⟨v,w,?_,by simpa using hown, .inl ⟨rfl,World.grownBy.refl w _⟩⟩;rcases hown.2 with⟨rfl,rfl⟩|⟨g,cap,cur,rfl,_,_,hnc,_⟩
  ·cases A<;>simp[Builtin.append_,Ka ht,sizeOf,typeInfo,hi,Builtin.lenOf,Builtin.firstCells,loadCells,loadCellsFrom]
  ·cases A<;>simp[Builtin.append_,Ka ht,sizeOf,typeInfo,hi,Builtin.lenOf,Builtin.firstCells,hnc,storeCells,loadCells,loadCellsFrom]
 obtain⟨a,rfl,hnews⟩:=hr (by omega);subst hsize;subst hby;have hsmall:n+m<=9223372036854775807:=by simp only[maxLen]at h63;omega
 have hlen:(xs++news).length=(n+m)*i.size:=by rw[K4,hown.1,hl,Ll]
 have grown: ∀(old:Nat),old<n+m->
  (w.drew.alloc (.cells (xs.toArray++news.toArray++Builtin.zeroCells z.cells (grownCap w (n+m) old e-(n+m))) e)).ownsRow base e i.size
   (.slice (some ⟨w.heap.size,0,none⟩) (n+m) (grownCap w (n+m) old e)) (n+m) (xs++news)/\
  w.grownBy (w.drew.alloc (.cells (xs.toArray++news.toArray++Builtin.zeroCells z.cells (grownCap w (n+m) old e-(n+m))) e)) none:=by
  intro old ho;have hge:=PE w (n+m) old e;have hcm:grownCap w (n+m) old e<=maxLen:=O8 w (n+m) old e h63;refine⟨⟨hlen, .inr ⟨w.heap.size,_,_,rfl,hbase,heap_alloc_new w.drew _,hge,hcm,?_,?_⟩⟩,⟨rfl,rfl,rfl,by simp,fun k hk _=>MH w.drew _ k hk⟩⟩
  ·simp only[Array.size_append,MQ,O9,hzs,hown.1,hl, <-Ll]
   congr 1
   omega
  ·simp only[Array.toList_append,LV];rw[<-LV, <-hlen];exact PF
 rcases hown.2 with⟨rfl,rfl⟩|⟨g,cap,cur,rfl,hbg,hg,hnc,hcm,hcs,htake⟩
 ·have hx:xs=[]:=LJ (by simpa using hown.1);subst hx;have hr:=run_append_nil (P:=P) w t ty e i z ht hi hz a m c news hl hnews (by omega) (by omega) (by have hb:=hbytes;simp only[Lc]at hb;omega);have hgr:=grown 0 (by omega);simp only[Lc,Mc,Array.empty_append]at hgr |-;exact⟨_,_,hr,hgr.1,Or.inr ⟨rfl,hgr.2⟩⟩
 ·by_cases hroom:n+m<=cap
  ·have hfit:n*i.size+news.length<=cur.size:=by rw[hl,hcs, <-Ll];exact LE _ hroom
   have hr:=run_append_room (P:=P) w t ty e i ht hi g n cap cur hg a m c news hl hnews h1 hroom hfit;refine⟨_,_,hr,⟨hlen, .inr ⟨g,cap,_,rfl,hbg,NU w g cur _ e _ hg,hroom,hcm,?_,?_⟩⟩,Or.inl ⟨rfl,⟨rfl,rfl,rfl,by simp,fun k _ hk=>MX w g k _ (fun e=>hk (by simp[Value.ownBlock,e]))⟩⟩⟩
   ·simp only[MQ,K4,Kf,M2,L9];omega
   ·rw[htake, <-hlen];exact PF
  ·have holds: ∀j u,xs[j]? =some u->w.cell? ((⟨g,0,none⟩:Addr).add j)=some u:=hown.cells (g:=g) rfl;have hr:=run_append_grow (P:=P) w t ty e i z ht hi hz ⟨g,0,none⟩ n cap xs hown.1 holds a m c news hl hnews (by omega) (by omega) (PG (by omega) hbytes);have hgr:=grown cap (by omega);exact⟨_,_,hr,hgr.1,Or.inr ⟨rfl,hgr.2⟩⟩
end
section
variable {P:Program} (w:World)
theorem pq (base:Nat) (t ty e:TypeId) (i:TypeInfo) (z:Value) (size bytes:Nat) (ht:P.underlying t=some (.slice e)) (hi:P.info? e=some i) (hz:i.zero=some z)
 (hsize:i.size=size) (hby:i.bytes=bytes) (hzs:z.cells.size=size)
 (A0:Option Addr) (n:Nat) (xs:List Value) (hxl:xs.length=n*size) (hx:0<n-> ∃a,A0=some a/\ ∀j u,xs[j]? =some u->w.cell? (a.add j)=some u)
 (A:Option Addr) (m c:Nat) (news:List Value) (hl:news.length=m*size) (hr:0<m-> ∃a,A=some a/\ ∀j u,news[j]? =some u->w.cell? (a.add j)=some u) (hm:0<m)
 (h63:n+m<=maxLen) (hbytes:(n+m)*bytes<=140737488355328) (hbase:base<=w.heap.size):
 ∃v' w',(Builtin.append_ #[t,t] ty #[.slice A0 n n, .slice A m c]).run P w= .ok v' w'/\w'.ownsRow base e size v' (n+m) (xs++news)/\
  v'.ownBlock=some w.heap.size/\w.grownBy w' none:=by
 obtain⟨a,rfl,hnews⟩:=hr hm;subst hsize;subst hby;have hsmall:n+m<=9223372036854775807:=by simp only[maxLen]at h63;omega
 have hlen:(xs++news).length=(n+m)*i.size:=by rw[K4,hxl,hl,Ll]
 have grown: ∀(old:Nat),old<n+m->
  (w.drew.alloc (.cells (xs.toArray++news.toArray++Builtin.zeroCells z.cells (grownCap w (n+m) old e-(n+m))) e)).ownsRow base e i.size
   (.slice (some ⟨w.heap.size,0,none⟩) (n+m) (grownCap w (n+m) old e)) (n+m) (xs++news)/\
  w.grownBy (w.drew.alloc (.cells (xs.toArray++news.toArray++Builtin.zeroCells z.cells (grownCap w (n+m) old e-(n+m))) e)) none:=by
  intro old ho;have hge:=PE w (n+m) old e;have hcm:grownCap w (n+m) old e<=maxLen:=O8 w (n+m) old e h63;refine⟨⟨hlen, .inr ⟨w.heap.size,_,_,rfl,hbase,heap_alloc_new w.drew _,hge,hcm,?_,?_⟩⟩,⟨rfl,rfl,rfl,by simp,fun k hk _=>MH w.drew _ k hk⟩⟩
  ·simp only[Array.size_append,MQ,O9,hzs,hxl,hl, <-Ll]
   congr 1
   omega
  ·simp only[Array.toList_append,LV];rw[<-LV, <-hlen];exact PF
 cases A0 with
 | none=>
   have hn0:n=0:=M5 fun hne=>by obtain⟨a,e,_⟩:=hx (by omega);cases e
   subst hn0;have hx0:xs=[]:=LJ (by simpa using hxl);subst hx0;have hr:=run_append_nil (P:=P) w t ty e i z ht hi hz a m c news hl hnews (by omega) (by omega) (by have hb:=hbytes;simp only[Lc]at hb;omega);have hgr:=grown 0 (by omega);simp only[Lc,Mc,Array.empty_append]at hgr |-;exact⟨_,_,hr,hgr.1,rfl,hgr.2⟩
 | some a0=>
   have holds: ∀j u,xs[j]? =some u->w.cell? (a0.add j)=some u:=fun j u hj=>by
    by_cases hn:0<n
    ·obtain⟨a',e',h'⟩:=hx hn;cases e';exact h' j u hj
    ·have hx0:xs=[]:=LJ (by rw[hxl,show n=0 by omega,Mu]);subst hx0;simp at hj
   have hr:=run_append_grow (P:=P) w t ty e i z ht hi hz a0 n n xs hxl holds a m c news hl hnews (by omega) (by omega) (PG (by omega) hbytes);have hgr:=grown n (by omega);exact⟨_,_,hr,hgr.1,rfl,hgr.2⟩
end
theorem lV (es es2:List (List AV)) (i j:Nat):cellAt (es++es2) i j=if i<es.length then cellAt es i j else cellAt es2 (i-es.length) j:=by
 unfold cellAt;by_cases h:i<es.length
 ·rw[K0 h,LB h]
 ·rw[KZ h,Ku (by omega)]
theorem Sim.grow {x:Ctx} {s:St} {a:Act} {w w':World} {m:Mem} (h:Sim x s a w m) (r:Nat) (row:Row) (hr:s.rows r=some row) (hrz:row.sz≠0) (hp:row.pure=true) (es2:List (List AV)) (xs news:List Value) (v':Value)
 (hx:w.ownsRow x.w.heap.size row.e row.sz (m.ρ r) row.es.length xs) (hx1: ∀u∈xs,u.oneCell'=true) (hxc: ∀(i j:Nat) (c:AV),cellAt row.es i j=some c-> ∃u,xs[i*row.sz+j]? =some u/\RV m.S w u c)
 (hz2: ∀(i:Nat) (e:List AV),es2[i]? =some e->e.length=row.sz) (h1: ∀u∈news,u.oneCell'=true) (hnl:news.length=es2.length*row.sz)
 (hc2: ∀(i j:Nat) (c:AV),cellAt es2 i j=some c-> ∃u,news[i*row.sz+j]? =some u/\RV m.S w u c)
 (ho:w'.ownsRow x.w.heap.size row.e row.sz v' (row.es.length+es2.length) (xs++news))
 (hg:(v'.ownBlock=(m.ρ r).ownBlock/\w.grownBy w' (m.ρ r).ownBlock)\/(v'.ownBlock=some w.heap.size/\w.grownBy w' none)):
 ∃S',Sim x (s.renew r { row with es:=row.es++es2 } (s.esc r)) a w' ⟨S',upd m.ρ r v'⟩/\ ∀b o,m.S b o->S' b o:=by
 have k:=(h.rows r row hr).cells hrz;have hsz:w.heap.size<=w'.heap.size:=by rcases hg with⟨_,hg⟩|⟨_,hg⟩<;>exact hg.size
 have hb:Below x.w.heap.size w w':=by
  rcases hg with⟨_,hg⟩|⟨_,hg⟩
  ·exact(MM _ _).grown hg h.bel.size (fun q hq=>(bQ hx hq).1)
  ·exact(MM _ _).grown hg h.bel.size (fun q hq=>by cases hq)
 have hcell: ∀b o,m.S b o->Stay w w' b o:=fun b o hh=>by
  have hlt:=h.low b o hh;by_cases hbo:(m.ρ r).ownBlock=some b
  ·rcases hg with⟨hv,hg⟩|⟨hv,hg⟩
   ·have hlo:o<row.es.length*row.sz:=by
     rcases Mt o (row.es.length*row.sz) with q|q
     ·exact q
     ·exact absurd hh (k.spare b hbo o q)
    have hxo:o<xs.length:=by rw[hx.1];exact hlo
    have e1:=gp hx hbo o xs[o] (KV hxo);have e2:=gp ho (hv.trans hbo) o xs[o] (by rw[LB hxo];exact KV hxo);obtain⟨cur,fr,hcur⟩:=GX hx hbo;exact .cells hcur (e2.trans e1.symm)
   ·exact .block (hg.block b hlt (by simp))
  ·rcases hg with⟨hv,hg⟩|⟨hv,hg⟩
   ·exact .block (hg.block b hlt (fun e=>hbo e.symm))
   ·exact .block (hg.block b hlt (by simp))
 obtain⟨S',hS'⟩: ∃S':Nat->Nat->Prop,S'=fun b o=>m.S b o\/(s.esc r=true/\v'.ownBlock=some b/\o< (row.es.length+es2.length)*row.sz):=⟨_,rfl⟩;have hsup: ∀b o,m.S b o->S' b o/\Stay w w' b o:=fun b o hh=>⟨by rw[hS'];exact .inl hh,hcell b o hh⟩
 have hoth: ∀q row',q≠r->s.rows q=some row'-> ∀g,(m.ρ q).ownBlock=some g->w'.heap[g]? =w.heap[g]? /\v'.ownBlock≠some g/\ ∀o,S' g o->m.S g o:=fun q row' hne hq g hgq=>by
  have hlt:g<w.heap.size:=by
   exact((h.rows q row' hq).blk hgq).2
  have hng:(m.ρ r).ownBlock≠some g:=fun e=>h.inj r q row row' hr hq (MJ hne) g e hgq
  have hvg:v'.ownBlock≠some g:=by
   rcases hg with⟨hv,_⟩|⟨hv,_⟩
   ·rw[hv];exact hng
   ·rw[hv];intro e;injection e with e;omega
  refine⟨?_,hvg,fun o hh=> ?_⟩
  ·rcases hg with⟨hv,hg⟩|⟨hv,hg⟩
   ·exact hg.block g hlt (fun e=>hng e.symm)
   ·exact hg.block g hlt (by simp)
  ·rw[hS']at hh;rcases hh with hh|⟨_,hh,_⟩
   ·exact hh
   ·exact absurd hh hvg
 have hfx: ∀b,x.fx b->w'.heap[b]? =w.heap[b]? /\(∀o,S' b o->m.S b o)/\v'.ownBlock≠some b:=fun b hf=>by
  have hlt:=h.fxlt hf;have hnb:(m.ρ r).ownBlock≠some b:=fun e=>h.nofx r row hr b e hf
  have hvb:v'.ownBlock≠some b:=by
   rcases hg with⟨hv,_⟩|⟨hv,_⟩
   ·rw[hv];exact hnb
   ·rw[hv];intro e;injection e with e;omega
  refine⟨?_,fun o hh=> ?_,hvb⟩
  ·rcases hg with⟨hv,hg⟩|⟨hv,hg⟩
   ·exact hg.block b hlt (fun e=>hnb e.symm)
   ·exact hg.block b hlt (by simp)
  ·rw[hS']at hh;rcases hh with hh|⟨_,hh,_⟩
   ·exact hh
   ·exact absurd hh hvb
 have hz': ∀(i:Nat) (e:List AV),(row.es++es2)[i]? =some e->e.length=row.sz:=fun i e he=>by
  by_cases hi:i<row.es.length
  ·rw[LB hi]at he;exact k.len i e he
  ·rw[Ku (by omega)]at he;exact hz2 _ e he
 have hspare: ∀g,v'.ownBlock=some g-> ∀o,m.S g o->o<row.es.length*row.sz/\s.esc r=true:=fun g hgv o hh=>by
  rcases hg with⟨hv,_⟩|⟨hv,_⟩
  ·rw[hv]at hgv;refine⟨?_,?_⟩
   ·rcases Mt o (row.es.length*row.sz) with q|q
    ·exact q
    ·exact absurd hh (k.spare g hgv o q)
   ·cases he:s.esc r with
    |true=>rfl
    |false=>exact absurd hh (k.fresh he g hgv o)
  ·rw[hv]at hgv;injection hgv with hgv
   have:=h.low g o hh;omega
 refine⟨S',h.renew r _ (s.esc r) v' S' hb hsup (fun b o hh=> ?_) hoth (.inl ⟨k.pos,hz',⟨xs++news,?_,?_,fun i j c hc=> ?_⟩,?_,?_,?_⟩) hfx,fun b o hh=>(hsup b o hh).1⟩
 ·rw[hS']at hh;rcases hh with hh|⟨_,hh,_⟩
  ·exact .inl hh
  ·exact .inr (bQ ho hh)
 ·show w'.ownsRow x.w.heap.size row.e row.sz (upd m.ρ r v' r) (row.es++es2).length (xs++news);rw[upd_same,K4];exact ho
 ·intro u hu;rcases Kt.1 hu with hu|hu
  ·exact hx1 u hu
  ·exact h1 u hu
 ·show ∃u,(xs++news)[i*row.sz+j]? =some u/\(if row.pure then _ else _);have hlt:=du hz' hc;have hc':cellAt (row.es++es2) i j=some c:=hc;rw[lV]at hc';split at hc'
  ·rename_i hi;obtain⟨u,h4,h5⟩:=hxc i j c hc';refine⟨u,?_,?_⟩
   ·rw[LB (by rw[hx.1];exact jk hi hlt.2)];exact h4
   ·rw[K0 hp];exact h5.mono hsup
  ·rename_i hi;obtain⟨u,h4,h5⟩:=hc2 _ j c hc';refine⟨u,?_,?_⟩
   ·have e1:i*row.sz+j-row.es.length*row.sz=(i-row.es.length)*row.sz+j:=by
     rw[Nat.sub_mul];have:row.es.length*row.sz<=i*row.sz:=LE _ (by omega);omega
    have e2:row.es.length*row.sz<=i*row.sz+j:=by
     have:row.es.length*row.sz<=i*row.sz:=LE _ (by omega);omega
    rw[Ku (by rw[hx.1];exact e2),hx.1,e1];exact h4
   ·rw[K0 hp];exact h5.mono hsup
 ·intro he g hgv o ho';simp only[St.renew,upd_same]at he hgv;simp only[K4]at ho';rw[hS'];exact .inr ⟨he,hgv,ho'⟩
 ·intro g hgv o ho' hh;simp only[upd_same]at hgv;simp only[K4,Ll]at ho';rw[hS']at hh;rcases hh with hh|⟨_,_,hh⟩
  ·have:=(hspare g hgv o hh).1;omega
  ·rw[Ll]at hh;omega
 ·intro he g hgv o hh;simp only[St.renew,upd_same]at he hgv;rw[hS']at hh;rcases hh with hh|⟨hh,_⟩
  ·rw[(hspare g hgv o hh).2]at he;cases he
  ·rw[hh]at he;cases he
end
section
inductive Kd where
 |int (k:IntKind)
 |bool
 |string
 |slice (e:TypeId) (esz ebytes:Nat) (ez:List Value)
 |ptr
 |iface
 |struct (fs:List (Nat×TypeId×Nat)) (eq:Bool)
 |arr (n:Nat) (e:TypeId) (esz:Nat)
 |map (k e:TypeId) (z:Value)
 |other
structure TyD where
 kd:Kd
 size:Nat
 zero:List Value
def rY (P:Program) (t:TypeId):TypeDesc->Option Kd
 | .int k=>some (.int k)
 | .bool=>some .bool
 | .string=>some .string
 | .pointer _=>some .ptr
 | .interface _=>some .iface
 | .slice e=>match P.info? e with
   | some ie=>match ie.zero with
     |some z=>some (.slice e ie.size ie.bytes z.cells.toList)
     |none=>none
   |none=>none
 | .struct fs=>match fs.toList.mapM (fun f=>(P.info? f.type).map fun i=>(f.offset,f.type,i.size)) with
   |some l=>some (.struct l (!P.eqGuardType P.depth t&& !P.stoodInHeld t&&fs.toList.all (fun f=>f.name≠ "_")))
   |none=>none
 | .array n e=>match P.info? e with
   |some ie=>some (.arr n e ie.size)
   |none=>none
 | .map k e=>match P.info? e with
   | some ie=>match ie.zero with
     |some z=>some (.map k e z)
     |none=>none
   |none=>none
 |_=>some .other
def tyD (P:Program) (t:TypeId):Option TyD:=
 match P.info? t,P.underlying t with
 | some i,some d=>match i.zero,rY P t d with
   |some z,some k=>some ⟨k,i.size,z.cells.toList⟩
   |_,_=>none
 |_,_=>none
inductive Rd (α:Type) where
 |ret (a:α)
 |fail
 |look (r:Nat) (k:Option Row->Nat->Rd α)
 |esc (r:Nat) (k:Bool->Rd α)
def Rd.bind {α β:Type} :Rd α->(α->Rd β)->Rd β
 | .ret a,k=>k a
 | .fail,_=> .fail
 | .look r j,k=> .look r fun o v=>(j o v).bind k
 | .esc r j,k=> .esc r fun b=>(j b).bind k
def Rd.run {α:Type} :Rd α->St->Option α
 | .ret a,_=>some a
 | .fail,_=>none
 | .look r k,s=>(k (s.rows r) (s.vs r)).run s
 | .esc r k,s=>(k (s.esc r)).run s
theorem Rd.run_bind {α β:Type} (m:Rd α) (k:α->Rd β) (s:St):(m.bind k).run s=(m.run s).bind fun a=>(k a).run s:=by
 induction m with
 |ret a=>rfl
 |fail=>rfl
 |look r j ih=>exact ih _ _
 |esc r j ih=>exact ih _
def Rd.row {α:Type} (r ver:Nat) (k:Row->Rd α):Rd α:= .look r fun o v=>match o with
 |some row=>if v=ver/\row.sz≠0 then k row else .fail
 |none=> .fail
def AV.bare:AV->Bool
 | .row .. | .loc .. | .mp .. | .sub .. =>false
 | .agg cs=>bareL cs
 | .tuple cs=>bareL cs
 | .clo _ cs=>bareL cs
 |_=>true
where bareL:List AV->Bool
 |[]=>true
 |c::cs=>c.bare&&bareL cs
theorem nZ: ∀ {cs:List AV},AV.bare.bareL cs=true-> ∀(i:Nat) (c:AV),cs[i]? =some c->c.bare=true
 |[],_,i,c,hc=>by simp at hc
 | d::cs,h,i,c,hc=>by
   simp only[AV.bare.bareL,KY]at h;cases i with
   |zero=>simp at hc;subst hc;exact h.1
   |succ i=>exact nZ h.2 i c (by simpa using hc)
theorem RL.bare {w:World} {m:Mem} {s:St} {v:Value} {c:AV} (h:RL w m s v c) (hc:c.bare=true):RV m.S w v c:=by
 induction h with
 |val h=>exact h
 |agg vs cs h h1 hcc ih=>exact .agg vs cs h h1 fun i v c hv hci=>ih i v c hv hci (nZ (by simpa only[AV.bare]using hc) i c hci)
 |tuple vs cs h hcc ih=>exact .tuple vs cs h fun i v c hv hci=>ih i v c hv hci (nZ (by simpa only[AV.bare]using hc) i c hci)
 |row=>simp[AV.bare]at hc
 |loc=>simp[AV.bare]at hc
 |mp=>simp[AV.bare]at hc
 |sub=>simp[AV.bare]at hc
 |clo g vs cs h hcc ih=>exact .clo g vs cs h fun i v c hv hci=>ih i v c hv hci (nZ (by simpa only[AV.bare]using hc) i c hci)
def Rd.map {α:Type} (r ver:Nat) (k:Row->Rd α):Rd α:= .look r fun o v=>match o with
 |some row=>if v=ver/\row.sz=0 then k row else .fail
 |none=> .fail
inductive Eff where
 |renew (r:Nat) (row:Row)
 |grow (r:Nat) (row:Row)
 |set (r:Nat) (row:Row)
 |show (r:Nat)
def Eff.app:Eff->St->St
 | .renew r row,s=>s.renew r row false
 | .grow r row,s=>s.renew r row (s.esc r)
 | .set r row,s=>s.setRow r row
 | .show r,s=>s.show r
structure Out where
 val:AV
 effs:List Eff
def apps:List Eff->St->St
 |[],s=>s
 |e::es,s=>apps es (e.app s)
def Out.app (o:Out) (d:Option Nat) (s:St):St:=(apps o.effs s).put d o.val
def AV.ofVal:Value->AV
 | .agg cs=>if cs.toList.all (·.oneCell') then .agg (cs.toList.map .lit) else .any
 |v=> .lit v
def gt (env:Env) (f:Nat->AV):Operand->AV
 | .tmp t=>f t
 | .const v=> .ofVal v
 | .global g=>match env g with
   |some c=> .ref 1 [[c]] 0 0
   |none=> .lit (.pointer (some ⟨g,0,none⟩))
 | .func g=> .lit (.func (.func g) #[] #[])
def AV.asCells:AV->Option (List AV)
 | .agg cs=>some cs
 | .any | .tuple _ | .own .. =>none
 | .lit v=>if v.oneCell' then some [.lit v] else none
 |c=>some [c]
def AV.plain:AV->Bool
 | .row .. | .loc .. | .mp .. | .agg _ | .own .. | .tuple _ | .clo .. | .sub .. =>false
 |_=>true
def AV.soft (c:AV):AV:=if c.plain then c else .any
def cF:AV->Rd (AV×List Nat)
 | .row r ver=>Rd.row r ver fun row=>if row.pure then .ret (.seq row.sz row.es,[r]) else .fail
 | .loc r ver i off=>Rd.row r ver fun row=>if row.pure||row.es.all (·.all AV.plain) then .ret (.ref row.sz row.es i off,[r]) else .ret (.ref row.sz (row.es.map (·.map AV.soft)) i off,[r])
 | .sub r ver lo=>Rd.row r ver fun row=>if row.pure=true/\lo<=row.es.length then .ret (.seq row.sz (row.es.drop lo),[r]) else .fail
 | .own .. | .agg _ | .tuple _ | .mp .. | .clo .. => .fail
 |c=> .ret (c,[])
def dq:List AV->Rd (List AV×List Nat)
 |[]=> .ret ([],[])
 |c::cs=>(cF c).bind fun x=>(dq cs).bind fun y=> .ret (x.1::y.1,x.2++y.2)
def fz:AV->Rd (AV×List Nat)
 | .agg cs=>(dq cs).bind fun x=> .ret (.agg x.1,x.2)
 | .clo g cs=>(dq cs).bind fun x=> .ret (.clo g x.1,x.2)
 |c=>cF c
def shows (l:List Nat):List Eff:=l.map .show
def ky (d:Option Nat) (t:TypeId) (cs:List AV):Rd Out:=match d with
 |some d=>if 0<cs.length then .look d fun _ v=> .ret ⟨.loc d (v+1) 0 0,[.renew d ⟨cs.length,[cs],t,false⟩]⟩ else .fail
 |none=> .fail
def eE (P:Program) (t:TypeId) (e:Option (List AV)) (off:Nat):Rd Out:=
 match tyD P t,e with
 |some ⟨.struct ..,n,_⟩,some cs|some ⟨.arr ..,n,_⟩,some cs=>if off+n<=cs.length then .ret ⟨.agg ((cs.drop off).take n),[]⟩ else .fail
 | some _,some cs=>match cs[off]? with
   |some c=> .ret ⟨c,[]⟩
   |none=> .fail
 |_,_=> .fail
def oE (P:Program) (t:TypeId) (a x:AV):Rd Out:=
 match a,tyD P t with
 | .loc r ver i off,some d=>Rd.row r ver fun row=> .esc r fun b=>if b then .fail else
  match row.es[i]? with
  |some e=>if row.pure then(fz x).bind fun y=>match y.1.asCells with
   |some cs=>if cs.length=d.size/\off+cs.length<=row.sz/\y.2.all (· != r) then .ret ⟨.any,shows y.2++[.set r { row with es:=row.es.set i (splice e off cs) }]⟩ else .fail
   |none=> .fail
    else match x.asCells with
     |some cs=>if cs.length=d.size/\off+cs.length<=row.sz then .ret ⟨.any,[.set r { row with es:=row.es.set i (splice e off cs) }]⟩ else .fail
     |none=> .fail
  |none=> .fail
 |_,_=> .fail
def lN (fs:List (Nat×TypeId×Nat)):List AV->List (Nat×AV)->Option (List AV)
 |cs,[]=>some cs
 | cs,(i,x)::rest=>match fs[i]?,x.asCells with
   |some (off,_,n),some ys=>if ys.length=n/\off+ys.length<=cs.length then lN fs (splice cs off ys) rest else none
   |_,_=>none
def iZ (sz:Nat):List (List AV)->List (Nat×AV)->Option (List (List AV))
 |es,[]=>some es
 | es,(i,x)::rest=>match x.asCells with
   |some ys=>if ys.length=sz/\i<es.length then iZ sz (es.set i ys) rest else none
   |none=>none
def dp:List (Nat×AV)->Rd (List (Nat×AV)×List Nat)
 |[]=> .ret ([],[])
 |(i,x)::rest=>(fz x).bind fun y=>(dp rest).bind fun z=> .ret ((i,y.1)::z.1,y.2++z.2)
def bG (s:ByteArray):List UInt8:=s.data.toList
def cG (P:Program) (t:TypeId):AV->AV->Option Bool
 | .lit (.int k a), .lit (.int k' b)=>match tyD P t with
   |some ⟨.int _,_,_⟩=>if k=k' then some (a==b) else none
   |_=>none
 | .lit (.string a), .lit (.string b)=>match tyD P t with
   |some ⟨.string,_,_⟩=>some (bG a==bG b)
   |_=>none
 | .lit (.bool a), .lit (.bool b)=>match tyD P t with
   |some ⟨.bool,_,_⟩=>some (a==b)
   |_=>none
 |_,_=>none
def qN (P:Program) (xs ys:List AV):List (Nat×TypeId×Nat)->Option Bool
 |[]=>some true
 |(o,t,_)::fs=>match xs[o]?,ys[o]? with
   | some a,some b=>match cG P t a b,qN P xs ys fs with
     |some p,some q=>some (p&&q)
     |_,_=>none
   |_,_=>none
def jK:Nat->List (Nat×TypeId×Nat)->Bool
 |_,[]=>true
 |i,f::fs=>f.1==i&&jK (i+1) fs
def br (P:Program) (k:TypeId) (a b:AV):Option Bool:=match tyD P k with
 | some ⟨.struct fs true,n,_⟩=>match a,b with
   | .agg xs, .agg ys=>if (jK 0 fs&&fs.length==n&&xs.length==n&&ys.length==n)=true then qN P xs ys fs else none
   |_,_=>none
 |_=>cG P k a b
def mfind (P:Program) (k:TypeId) (x:AV):List (List AV)->Nat->Option (Option Nat)
 |[],_=>some none
 | [kc,_]::es,i=>match br P k x kc with
   |some true=>some (some i)
   |some false=>mfind P k x es (i+1)
   |none=>none
 |_::_,_=>none
def sH (op:BinOp) (k:IntKind) (a b:Int):Int:=match op with
 | .and=>k.wrap (BitVec.ofInt k.bits a&&& BitVec.ofInt k.bits b).toNat
 | .or=>k.wrap (BitVec.ofInt k.bits a||| BitVec.ofInt k.bits b).toNat
 | .xor=>k.wrap (BitVec.ofInt k.bits a ^^^ BitVec.ofInt k.bits b).toNat
 | .andNot=>k.wrap (BitVec.ofInt k.bits a&&& ~~~(BitVec.ofInt k.bits b)).toNat
 |_=>a
def Fs (P:Program) (op:BinOp) (t:TypeId) (ca cb:Bool):AV->AV->Option AV
 | .lit (.int k a), .lit (.int k' b)=>
   match op with
   | .add=>if k=k' then some (.lit (.int k (k.wrap (a+b)))) else none
   | .sub=>if k=k' then some (.lit (.int k (k.wrap (a-b)))) else none
   | .mul=>if k=k' then some (.lit (.int k (k.wrap (a*b)))) else none
   | .quo=>if k=k'/\b≠0 then some (.lit (.int k (k.wrap (a.tdiv b)))) else none
   | .rem=>if k=k'/\b≠0 then some (.lit (.int k (a.tmod b))) else none
   | .eql=>if k=k' then some (.lit (.bool (a==b))) else none
   | .neq=>if k=k' then some (.lit (.bool (a != b))) else none
   | .lss=>if k=k' then some (.lit (.bool (a<b))) else none
   | .leq=>if k=k' then some (.lit (.bool (a<=b))) else none
   | .gtr=>if k=k' then some (.lit (.bool (a>b))) else none
   | .geq=>if k=k' then some (.lit (.bool (a>=b))) else none
   | .and=>if k=k' then some (.lit (.int k (sH .and k a b))) else none
   | .or=>if k=k' then some (.lit (.int k (sH .or k a b))) else none
   | .xor=>if k=k' then some (.lit (.int k (sH .xor k a b))) else none
   | .andNot=>if k=k' then some (.lit (.int k (sH .andNot k a b))) else none
   | .shl=>if 0<=b then some (.lit (.int k (k.wrap (a*2^min b.toNat k.bits)))) else none
   | .shr=>if 0<=b then some (.lit (.int k (a.fdiv (2^min b.toNat k.bits)))) else none
 | .lit (.string a), .lit (.string b)=>
   match op with
   | .add=>if (bG a).length+(bG b).length<=9223372036854775807 then some (.lit (.string ⟨(bG a++bG b).toArray⟩)) else none
   | .eql=>some (.lit (.bool (bG a==bG b)))
   | .neq=>some (.lit (.bool (!(bG a==bG b))))
   | .lss=>some (.lit (.bool (Op.bytesLess (bG a) (bG b))))
   | .leq=>some (.lit (.bool (Op.bytesLess (bG a) (bG b)||bG a==bG b)))
   | .gtr=>some (.lit (.bool (!(Op.bytesLess (bG a) (bG b)||bG a==bG b))))
   | .geq=>some (.lit (.bool (!Op.bytesLess (bG a) (bG b))))
   |_=>none
 | .lit (.bool a), .lit (.bool b)=>
   match op,tyD P t with
   | .eql,some ⟨.bool,_,_⟩=>some (.lit (.bool (a==b)))
   | .neq,some ⟨.bool,_,_⟩=>some (.lit (.bool (!(a==b))))
   |_,_=>none
 | .lit .nilIface, .lit .nilIface=>
   match op,tyD P t,ca||cb with
   | .eql,some ⟨.iface,_,_⟩,true=>some (.lit (.bool true))
   | .neq,some ⟨.iface,_,_⟩,true=>some (.lit (.bool false))
   |_,_,_=>none
 | .iface _ _, .lit .nilIface | .lit .nilIface, .iface _ _=>
   match op,tyD P t with
   | .eql,some ⟨.iface,_,_⟩=>some (.lit (.bool false))
   | .neq,some ⟨.iface,_,_⟩=>some (.lit (.bool true))
   |_,_=>none
 | .lit (.pointer none), .lit (.pointer none)=>
   match op,tyD P t with
   | .eql,some ⟨.ptr,_,_⟩=>some (.lit (.bool true))
   | .neq,some ⟨.ptr,_,_⟩=>some (.lit (.bool false))
   |_,_=>none
 | .ref .., .lit (.pointer none) | .lit (.pointer none), .ref .. =>
   match op,tyD P t with
   | .eql,some ⟨.ptr,_,_⟩=>some (.lit (.bool false))
   | .neq,some ⟨.ptr,_,_⟩=>some (.lit (.bool true))
   |_,_=>none
 | .agg xs, .agg ys=>
   match op,tyD P t with
   | .eql,some ⟨.struct fs true,_,_⟩=>(qN P xs ys fs).map fun b=> .lit (.bool b)
   | .neq,some ⟨.struct fs true,_,_⟩=>(qN P xs ys fs).map fun b=> .lit (.bool (!b))
   |_,_=>none
 |_,_=>none
def iq (x:AV):Rd (Nat×List (List AV)):=match x with
 | .seq sz es=> .ret (sz,es)
 | .lit (.slice _ 0 _)=> .ret (0,[])
 | .row r ver=>Rd.row r ver fun row=> .ret (row.sz,row.es)
 |_=> .fail
def bAV (b:UInt8):List AV:=[.lit (.int .u8 (b.toNat:Int))]
def byteOf:List AV->Option UInt8
 |[.lit (.int .u8 n)]=>if 0<=n/\n<256 then some (UInt8.ofNat n.toNat) else none
 |_=>none
def bytesOf:List (List AV)->Option (List UInt8)
 |[]=>some []
 | e::es=>match byteOf e,bytesOf es with
   |some b,some l=>some (b::l)
   |_,_=>none
theorem bytesOf_map: ∀l:List UInt8,bytesOf (l.map bAV)=some l
 |[]=>rfl
 | b::l=>by
   have hb:byteOf (bAV b)=some b:=by
    have:=b.toNat_lt;simp only[bAV,byteOf];rw[K0 ⟨by omega,by omega⟩];simp
   simp only[LI,bytesOf,hb,bytesOf_map l]
def tz (P:Program) (src dst:TypeId) (x:AV):Rd Out:=
 match x,tyD P src,tyD P dst with
 | .lit (.int _ n),some _,some ⟨.int k,_,_⟩=> .ret ⟨.lit (.int k (k.wrap n)),[]⟩
 | .lit (.string s),some _,some ⟨.string,_,_⟩=> .ret ⟨.lit (.string s),[]⟩
 | .lit (.string s),some ⟨.string,_,_⟩,some ⟨.slice e _ _ _,_,_⟩=>match tyD P e with
   |some ⟨.int .u8,_,_⟩=> .ret ⟨.seq 1 ((bG s).map bAV),[]⟩
   |_=> .fail
 | x,some ⟨.slice e _ _ _,_,_⟩,some ⟨.string,_,_⟩=>match tyD P e with
   | some ⟨.int .u8,_,_⟩=>(fz x).bind fun y=>(iq y.1).bind fun q=>if q.1=1\/q.2=[] then match bytesOf q.2 with
     |some l=> .ret ⟨.lit (.string ⟨l.toArray⟩),shows y.2⟩
     |none=> .fail else .fail
   |_=> .fail
 |_,_,_=> .fail
def xl (P:Program) (t:TypeId) (x:AV):Rd Out:=
 match x,tyD P t with
 | .lit (.string s),some ⟨.string,_,_⟩=> .ret ⟨.lit (.int .i64 (bG s).length),[]⟩
 | .mp r ver,some ⟨.map ..,_,_⟩=>Rd.map r ver fun row=> .ret ⟨.lit (.int .i64 row.es.length),[]⟩
 |x,some ⟨.slice ..,_,_⟩=>(iq x).bind fun q=> .ret ⟨.lit (.int .i64 q.2.length),[]⟩
 |_,_=> .fail
def xa (z:Value):Bool:=match z with
 | .slice .. =>false
 |_=>true
def jE (P:Program) (d:Option Nat) (t:TypeId):Rd Out:=match tyD P t,d with
 |some ⟨.map _ _ z,_,_⟩,some d=> .look d fun _ v=> .ret ⟨.mp d (v+1),[.renew d ⟨0,[],t,xa z⟩]⟩
 |_,_=> .fail
def kR (P:Program) (t:TypeId) (x k:AV) (ok:Bool):Rd Out:=match x,tyD P t with
 | .mp r ver,some ⟨.map kt _ z,_,_⟩=>Rd.map r ver fun row=>if (br P kt k k).isSome/\(row.pure|| !ok)=true then
  match mfind P kt k row.es 0 with
  | some (some i)=>match row.es[i]? with
    |some [_,vc]=> .ret ⟨if ok then .tuple [vc, .lit (.bool true)] else vc,[]⟩
    |_=> .fail
  |some none=> .ret ⟨if ok then .tuple [.ofVal z, .lit (.bool false)] else .ofVal z,[]⟩
  |none=> .fail
   else .fail
 | .fmap es,some ⟨.map kt _ z,_,_⟩=>if (br P kt k k).isSome then
  match mfind P kt k es 0 with
  | some (some i)=>match es[i]? with
    |some [_,vc]=> .ret ⟨if ok then .tuple [vc, .lit (.bool true)] else vc,[]⟩
    |_=> .fail
  |some none=> .ret ⟨if ok then .tuple [.ofVal z, .lit (.bool false)] else .ofVal z,[]⟩
  |none=> .fail
   else .fail
 |_,_=> .fail
def fI (P:Program) (t:TypeId) (x k v:AV):Rd Out:=match x,tyD P t with
 | .mp r ver,some ⟨.map kt _ _,_,_⟩=>Rd.map r ver fun row=>if (br P kt k k).isSome/\k.bare=true/\(!row.pure||v.bare)=true then
  match mfind P kt k row.es 0 with
  |some (some i)=> .ret ⟨.any,[.set r { row with es:=row.es.set i [k,v] }]⟩
  |some none=> .ret ⟨.any,[.set r { row with es:=row.es++[[k,v]] }]⟩
  |none=> .fail
   else .fail
 |_,_=> .fail
def ga (P:Program) (t:TypeId) (x k:AV):Rd Out:=match x,tyD P t with
 | .mp r ver,some ⟨.map kt _ z,_,_⟩=>Rd.map r ver fun row=>if (br P kt k k).isSome/\k.bare=true then
  match mfind P kt k row.es 0 with
  | some (some i)=>match row.es[i]? with
    |some [_,vc]=> .ret ⟨.tuple [vc, .lit (.int .i64 i)],[.set r { row with es:=row.es.set i [k,vc] }]⟩
    |_=> .fail
  |some none=> .ret ⟨.tuple [.ofVal z, .lit (.int .i64 row.es.length)],[.set r { row with es:=row.es++[[k, .ofVal z]] }]⟩
  |none=> .fail
   else .fail
 |_,_=> .fail
def eA (x n v:AV):Rd Out:=match x,n with
 | .mp r ver, .lit (.int _ n)=>Rd.map r ver fun row=>if 0<=n/\(!row.pure||v.bare)=true then
  match row.es[n.toNat]? with
  |some [kc,_]=> .ret ⟨.any,[.set r { row with es:=row.es.set n.toNat [kc,v] }]⟩
  |_=> .fail
   else .fail
 |_,_=> .fail
def jM (P:Program) (t:TypeId) (x k:AV):Rd Out:=match x,tyD P t with
 | .mp r ver,some ⟨.map kt _ _,_,_⟩=>Rd.map r ver fun row=>if (br P kt k k).isSome then
  match mfind P kt k row.es 0 with
  |some none=> .ret ⟨.any,[]⟩
  |some (some _)=> .fail
  |none=> .fail
   else .fail
 |_,_=> .fail
def fJ (P:Program) (t:TypeId) (x i:AV):Rd Out:=
 match x,i,tyD P t with
 | .seq sz es, .lit (.int _ i),some ⟨.slice _ esz _ _,_,_⟩=>if 0<=i/\i<es.length/\esz=sz then .ret ⟨.ref sz es i.toNat 0,[]⟩ else .fail
 | .row r ver, .lit (.int _ i),some ⟨.slice _ esz _ _,_,_⟩=>Rd.row r ver fun row=>if 0<=i/\i<row.es.length/\esz=row.sz then .ret ⟨.loc r ver i.toNat 0,[]⟩ else .fail
 |_,_,_=> .fail
def fN (P:Program) (t:TypeId) (x:AV) (i:Nat):Rd Out:=
 match x,tyD P t with
 | .ref sz es j off,some ⟨.struct fs _,_,_⟩=>match fs[i]? with
   |some (o,_,n)=>if n=0 then .fail else .ret ⟨.ref sz es j (off+o),[]⟩
   |none=> .fail
 | .loc r ver j off,some ⟨.struct fs _,_,_⟩=>match fs[i]? with
   |some (o,_,n)=>if n=0 then .fail else Rd.row r ver fun _=> .ret ⟨.loc r ver j (off+o),[]⟩
   |none=> .fail
 |_,_=> .fail
def oH (P:Program) (t:TypeId) (x:AV) (i:Nat):Option AV:=
 match x,tyD P t with
 | .agg cs,some ⟨.struct fs _,_,_⟩=>match fs[i]? with
   | some (o,ft,n)=>match tyD P ft with
     |some ⟨.struct ..,_,_⟩|some ⟨.arr ..,_,_⟩=>if o+n<=cs.length then some (.agg ((cs.drop o).take n)) else none
     |some _=>cs[o]?
     |none=>none
   |none=>none
 |_,_=>none
def oG (P:Program) (t:TypeId) (x i:AV):Option AV:=
 match x,i,tyD P t with
 | .lit (.string s), .lit (.int _ i),some ⟨.string,_,_⟩=>if 0<=i then match (bG s)[i.toNat]? with
   |some b=>some (.lit (.int .u8 b.toNat))
   |none=>none else none
 |_,_,_=>none
def bound (l:Nat) (d:Nat):Option AV->Option Nat
 |none=>some d
 |some (.lit (.int _ i))=>if 0<=i/\i<=l then some i.toNat else none
 |some _=>none
def gz (esz:Nat) (x:AV) (lo hi:Option AV):Rd Out:=(fz x).bind fun y=>match y.1 with
 | .seq sz es=>if esz=sz then match bound es.length es.length hi with
   | some h=>match bound h 0 lo with
     |some l=> .ret ⟨.seq sz ((es.drop l).take (h-l)),shows y.2⟩
     |none=> .fail
   |none=> .fail else .fail
 |_=> .fail
def oF (P:Program) (t:TypeId) (x:AV) (lo hi:Option AV):Rd Out:=
 match x,tyD P t with
 | .lit (.string s),some ⟨.string,_,_⟩=>match bound (bG s).length (bG s).length hi with
   | some h=>match bound h 0 lo with
     |some l=> .ret ⟨.lit (.string ⟨(((bG s).drop l).take (h-l)).toArray⟩),[]⟩
     |none=> .fail
   |none=> .fail
 | x,some ⟨.slice _ esz _ _,_,_⟩=>match x,lo,hi with
   | .row r ver,none,some (.lit (.int _ i))=> .esc r fun b=>if b then gz esz x lo hi else Rd.row r ver fun row=>
    if esz=row.sz/\row.pure=true/\0<=i/\i<=row.es.length then .ret ⟨.row r (ver+1),[.grow r { row with es:=row.es.take i.toNat }]⟩ else .fail
   | .row r ver,some (.lit (.int _ i)),none=> .esc r fun b=>if b then gz esz x lo hi else Rd.row r ver fun row=>
    if esz=row.sz/\row.pure=true/\0<=i/\i<=row.es.length then .ret ⟨.sub r ver i.toNat,[]⟩ else .fail
   |_,_,_=>gz esz x lo hi
 |_,_=> .fail
def tx (P:Program) (t:TypeId) (x:AV) (lo hi:Option AV) (mx:AV):Rd Out:=
 match tyD P t,lo,hi,mx with
 | some ⟨.slice _ esz _ _,_,_⟩,none,some (.lit (.int _ i)), .lit (.int _ k)=>(fz x).bind fun y=>match y.1 with
   | .seq sz es=>if esz=sz/\i=es.length/\k=es.length then .ret ⟨.full sz es,shows y.2⟩ else if esz=sz/\i=k/\0<=i/\i<=es.length then .ret ⟨.full sz (es.take i.toNat),shows y.2⟩ else .fail
   |_=> .fail
 |_,_,_,_=> .fail
def Fits (n eb:Nat):Prop:=n*eb<=140737488355328/\n<=9223372036854775807
instance (n eb:Nat):Decidable (Fits n eb):=inferInstanceAs (Decidable (_/\_))
theorem aG {n eb:Nat} (h1:n<=4096) (h2:eb<=4096):Fits n eb:=by
 have:n*eb<=4096*4096:=Nat.mul_le_mul h1 h2;exact⟨by omega,by omega⟩
def jN (P:Program) (d:Option Nat) (t:TypeId) (x y:AV):Rd Out:=
 match tyD P t with
 | some ⟨.slice e esz eb ez,_,_⟩=>if ez.length≠esz\/esz=0 then .fail else
   (fz y).bind fun z=>(iq z.1).bind fun q=>if q.1≠esz/\q.2≠[] then .fail else
    match x with
    | .lit (.slice none 0 0)=>match d with
      |some d=>if Fits q.2.length eb then .look d fun _ v=> .ret ⟨.row d (v+1),shows z.2++[.renew d ⟨esz,q.2,e,true⟩]⟩ else .fail
      |none=> .fail
    | .row r ver=>Rd.row r ver fun row=>if row.pure/\row.sz=esz/\row.e=e/\Fits (row.es.length+q.2.length) eb then
     .ret ⟨.row r (ver+1),shows z.2++[.grow r { row with es:=row.es++q.2 }]⟩ else .fail
    | .full sz es=>match d with
      |some d=>if sz=esz/\0<q.2.length/\Fits (es.length+q.2.length) eb then .look d fun _ v=> .ret ⟨.row d (v+1),shows z.2++[.renew d ⟨esz,es++q.2,e,true⟩]⟩ else .fail
      |none=> .fail
    |_=> .fail
 |_=> .fail
def lR (P:Program) (t:TypeId) (x:AV):Rd Out:=
 match x,tyD P t with
 | .sub r ver lo,some ⟨.slice _ esz _ ez,_,_⟩=> .esc r fun b=>if b then .fail else Rd.row r ver fun row=>
  if (esz=row.sz/\ez.length=esz/\ez.all (·.oneCell')=true)/\row.pure=true/\lo<=row.es.length then .ret ⟨.any,[.set r { row with es:=row.es.take lo++List.replicate (row.es.length-lo) (ez.map .lit) }]⟩ else .fail
 |_,_=> .fail
def tv (P:Program) (d:Option Nat) (t:TypeId) (l c:AV):Rd Out:=
 match tyD P t,l,c,d with
 | some ⟨.slice e esz eb ez,_,_⟩, .lit (.int _ n), .lit (.int _ n'),some d=>
   if ez.length≠esz\/esz=0\/n≠n'\/n<0\/16777216<n\/281474976710656< (eb:Int)*n\/ ¬ez.all (·.oneCell') then .fail else
    .look d fun _ v=> .ret ⟨.row d (v+1),[.renew d ⟨esz,List.replicate n.toNat (ez.map .lit),e,true⟩]⟩
 |_,_,_,_=> .fail
def Js (k:IntKind) (n:Int):Int:=k.wrap ((BitVec.ofInt k.bits (if k.signed then -1 else k.max) ^^^ BitVec.ofInt k.bits n).toNat:Nat)
def bz:Operand->Bool
 | .const _=>true
 |_=>false
def gV {α:Type} :Option α->(α->Rd Out)->Rd Out
 |some a,k=>k a
 |none,_=> .fail
def val (c:AV):Rd Out:= .ret ⟨c,[]⟩
def qD:List AV->Option (List Value)
 |[]=>some []
 | .lit v::l=>(qD l).map (v:: ·)
 |_=>none
def lM (g:FuncId) (cap:Bool) (fs:List AV):Rd Out:=match cap,qD fs with
 |true,some vs=>val (.lit (.func (.func g) vs.toArray #[]))
 |_,_=> .fail
def uA (P:Program) (op:BinOp) (t:TypeId) (ca cb:Bool) (a b:AV):Rd Out:=match a,b with
 | .loc r ver _ _, .lit (.pointer none)=>Rd.row r ver fun _=>match op,tyD P t with
   | .eql,some ⟨.ptr,_,_⟩=>val (.lit (.bool false))
   | .neq,some ⟨.ptr,_,_⟩=>val (.lit (.bool true))
   |_,_=> .fail
 | .lit (.slice A _ _), .lit (.slice none _ _)=>match op,tyD P t with
   | .eql,some ⟨.slice _ _ _ _,_,_⟩=>val (.lit (.bool A.isNone))
   | .neq,some ⟨.slice _ _ _ _,_,_⟩=>val (.lit (.bool (!A.isNone)))
   |_,_=> .fail
 | .seq _ (_::_), .lit (.slice none _ _)=>match op,tyD P t with
   | .eql,some ⟨.slice _ _ _ _,_,_⟩=>val (.lit (.bool false))
   | .neq,some ⟨.slice _ _ _ _,_,_⟩=>val (.lit (.bool true))
   |_,_=> .fail
 |a,b=>gV (Fs P op t ca cb a b) val
def Bp (x y:AV):Rd Out:=match x,y with
 | .lit (.int k a), .lit (.int k' b)=>if k=k' then val (.lit (.int k (if b<a then b else a))) else .fail
 |_,_=> .fail
def Bq (x y:AV):Rd Out:=match x,y with
 | .lit (.int k a), .lit (.int k' b)=>if k=k' then val (.lit (.int k (if a<b then b else a))) else .fail
 |_,_=> .fail
def aT (P:Program) (env:Env) (f:Nat->AV) (o:Oper):Rd Out:=
 match o.op with
 | .move x=>val (gt env f x)
 | .assign x=>val (gt env f x)
 | .pick c a b=>match gt env f c with
   | .lit (.bool true)=>val (gt env f a)
   | .lit (.bool false)=>val (gt env f b)
   |_=> .fail
 | .alloc t=>match tyD P t with
   |some d=>if d.zero.length=d.size/\d.zero.all (·.oneCell') then ky o.dst t (d.zero.map .lit) else .fail
   |none=> .fail
 | .box t x=>gV (gt env f x).asCells (ky o.dst t)
 | .build t parts=>match tyD P t with
   |some ⟨.struct fs _,n,z⟩=>if z.length=n/\z.all (·.oneCell') then gV (lN fs (z.map .lit) (parts.toList.map fun p=>(p.1,gt env f p.2))) fun cs=>val (.agg cs) else .fail
   |_=> .fail
 | .buildSlice t n parts=>match tyD P t,o.dst with
   |some ⟨.slice e esz _ ez,_,_⟩,some d=>if ez.length=esz/\0<esz/\ez.all (·.oneCell')/\n*esz<=16777216 then
    (dp (parts.toList.map fun p=>(p.1,gt env f p.2))).bind fun q=>gV (iZ esz (List.replicate n (ez.map .lit)) q.1) fun es=>
     .look d fun _ v=> .ret ⟨.row d (v+1),shows q.2++[.renew d ⟨esz,es,e,true⟩]⟩ else .fail
   |_,_=> .fail
 | .load t a=>match gt env f a with
   | .ref _ es i off=>eE P t es[i]? off
   | .loc r ver i off=>Rd.row r ver fun row=>eE P t row.es[i]? off
   |_=> .fail
 | .store t a x=>oE P t (gt env f a) (gt env f x)
 | .nilCheck x=>match gt env f x with
   | .ref sz es i off=>val (.ref sz es i off)
   | .loc r ver i off=>Rd.row r ver fun _=>val (.loc r ver i off)
   |_=> .fail
 | .binOp op t x y _=>uA P op t (bz x) (bz y) (gt env f x) (gt env f y)
 | .unOp op _ x=>match op,gt env f x with
   | .not, .lit (.bool b)=>val (.lit (.bool (!b)))
   | .neg, .lit (.int k n)=>val (.lit (.int k (k.wrap (0-n))))
   | .xor, .lit (.int k n)=>val (.lit (.int k (Js k n)))
   |_,_=> .fail
 | .convert src dst x=>tz P src dst (gt env f x)
 | .makeInterface t x=>match tyD P t with
   |some ⟨.iface,_,_⟩=> .fail
   |some _=>(fz (gt env f x)).bind fun y=> .ret ⟨.iface t y.1,shows y.2⟩
   |none=> .fail
 | .makeSlice t l c=>tv P o.dst t (gt env f l) (gt env f c)
 | .makeFunc (.func g) first captured=>if first.isEmpty/\ !captured.isEmpty then val (.clo g (captured.toList.map (gt env f))) else if first.isEmpty then val (.lit (.func (.func g) #[] #[])) else lM g captured.isEmpty (first.toList.map (gt env f))
 | .makeMap t none=>jE P o.dst t
 | .lookup t x k ok=>kR P t (gt env f x) (gt env f k) ok
 | .mapUpdate t x k v=>fI P t (gt env f x) (gt env f k) (gt env f v)
 | .mapEntry t x k=>ga P t (gt env f x) (gt env f k)
 | .entryStore _ x n v=>eA (gt env f x) (gt env f n) (gt env f v)
 | .slice t x lo hi none=>oF P t (gt env f x) (lo.map (gt env f)) (hi.map (gt env f))
 | .slice t x lo hi (some mx)=>tx P t (gt env f x) (lo.map (gt env f)) (hi.map (gt env f)) (gt env f mx)
 | .fieldAddr t x i=>fN P t (gt env f x) i
 | .field t x i=>gV (oH P t (gt env f x) i) val
 | .indexAddr t x i=>fJ P t (gt env f x) (gt env f i)
 | .index t x i=>gV (oG P t (gt env f x) (gt env f i)) val
 | .extract x i=>match gt env f x with
   | .tuple cs=>gV cs[i]? val
   |_=> .fail
 | .call { callee:= .builtin b,args,argTypes } =>match b,args.toList,argTypes.toList with
   | .len,[x],[t]=>xl P t (gt env f x)
   | .append,[x,y],[t,t']=>if t=t' then jN P o.dst t (gt env f x) (gt env f y) else .fail
   | .min,[x,y],_=>Bp (gt env f x) (gt env f y)
   | .max,[x,y],_=>Bq (gt env f x) (gt env f y)
   | .clear,[x],[t]=>lR P t (gt env f x)
   | .delete,[x,k],[t,_]=>jM P t (gt env f x) (gt env f k)
   |_,_,_=> .fail
 |_=> .fail
end
section
def dU (P:Program) (x:Ctx) (s:St) (a:Act) (w:World) (o:Oper) (out:Out):Prop:=
 ∃nx w' m' v,(execOp a.eval o).run P w= .ok nx w'/\(nx= .value v\/nx= .skip/\v=undef)/\Sim x (apps out.effs s) a w' m'/\RL w' m' (apps out.effs s) v out.val
section
variable {w:World} {m:Mem} {s:St} {v:Value}
theorem RL.lit_ {u:Value} (h:RL w m s v (.lit u)):v=u:=by
 cases h with|val h=>cases h;rfl
theorem RL.seq_ {sz:Nat} {es:List (List AV)} (h:RL w m s v (.seq sz es)):RV m.S w v (.seq sz es):=by
 cases h with|val h=>exact h
theorem RL.ref_ {sz:Nat} {es:List (List AV)} {i off:Nat} (h:RL w m s v (.ref sz es i off)):RV m.S w v (.ref sz es i off):=by
 cases h with|val h=>exact h
theorem RL.iface_ {t:TypeId} {c:AV} (h:RL w m s v (.iface t c)): ∃u,v= .iface t u/\RV m.S w u c:=by
 cases h with|val h=>cases h with|iface t u c h=>exact⟨u,rfl,h⟩
theorem RL.tuple_ {cs:List AV} (h:RL w m s v (.tuple cs)): ∃vs:List Value,v= .tuple vs.toArray/\vs.length=cs.length/\ ∀(i:Nat) (v:Value) (c:AV),vs[i]? =some v->cs[i]? =some c->RL w m s v c:=by
 cases h with
 |val h=>cases h with|tuple vs cs h hc=>exact⟨vs,rfl,h,fun i v c hv hcc=> .val (hc i v c hv hcc)⟩
 |tuple vs cs h hc=>exact⟨vs,rfl,h,hc⟩
theorem RL.agg_ {cs:List AV} (h:RL w m s v (.agg cs)): ∃vs:List Value,v= .agg vs.toArray/\vs.length=cs.length/\(∀v∈vs,v.oneCell'=true)/\ ∀(i:Nat) (v:Value) (c:AV),vs[i]? =some v->cs[i]? =some c->RL w m s v c:=by
 cases h with
 |val h=>cases h with|agg vs cs h h1 hc=>exact⟨vs,rfl,h,h1,fun i v c hv hcc=> .val (hc i v c hv hcc)⟩
 |agg vs cs h h1 hc=>exact⟨vs,rfl,h,h1,hc⟩
theorem RL.sub_ {r ver lo:Nat} (h:RL w m s v (.sub r ver lo)):ver<=s.vs r/\(s.vs r=ver-> ∀row,s.rows r=some row->v=cutV (m.ρ r) (lo*row.sz) lo):=by
 cases h with
 |val h=>cases h
 |sub r ver lo h1 hle h=>exact⟨hle,h⟩
theorem RL.clo_ {g:FuncId} {cs:List AV} (h:RL w m s v (.clo g cs)): ∃vs:List Value,v= .func (.func g) #[] vs.toArray/\vs.length=cs.length/\ ∀(i:Nat) (v:Value) (c:AV),vs[i]? =some v->cs[i]? =some c->RL w m s v c:=by
 cases h with
 |val h=>cases h with|clo g vs cs h hc=>exact⟨vs,rfl,h,fun i v c hv hcc=> .val (hc i v c hv hcc)⟩
 |clo g vs cs h hc=>exact⟨vs,rfl,h,hc⟩
theorem RL.fmap_ {es:List (List AV)} (h:RL w m s v (.fmap es)):RV m.S w v (.fmap es):=by
 cases h with|val h=>exact h
theorem RL.full_ {sz:Nat} {es:List (List AV)} (h:RL w m s v (.full sz es)):RV m.S w v (.full sz es):=by
 cases h with|val h=>exact h
theorem RL.news_ {n sz:Nat} {es:List (List AV)} (h:RL w m s v (.news n sz es)):RV m.S w v (.news n sz es):=by
 cases h with|val h=>exact h
theorem RL.row_ {r ver:Nat} (h:RL w m s v (.row r ver)):ver<=s.vs r/\(s.vs r=ver-> ∀row,s.rows r=some row->v=m.ρ r):=by
 cases h with
 |val h=>cases h
 |row r ver h1 hle h=>exact⟨hle,h⟩
theorem RL.loc_ {r ver i off:Nat} (h:RL w m s v (.loc r ver i off)):ver<=s.vs r/\(s.vs r=ver-> ∀row,s.rows r=some row-> ∃g,(m.ρ r).ownBlock=some g/\v= .pointer (some ⟨g,i*row.sz+off,none⟩)):=by
 cases h with
 |val h=>cases h
 |loc r ver i off h1 hle h=>exact⟨hle,h⟩
end
theorem Sim.old {x:Ctx} {s:St} {a:Act} {w:World} {m:Mem} (h:Sim x s a w m) {v:Value} {c:AV} (hv:RV x.S x.w v c):RV m.S w v c:=
 hv.mono fun b o hb=>⟨h.sup b o hb,h.bel.stay (h.env0 b o hb)⟩
theorem sF (c:AV) (i j:Nat) (c':AV) (h:cellAt [[c]] i j=some c'):i=0/\j=0/\c'=c:=by
 unfold cellAt at h;cases i with
 | zero=>
   cases j with
   |zero=>exact⟨rfl,rfl,by simpa using h.symm⟩
   |succ j=>simp at h
 |succ i=>simp at h
theorem ah {x:Ctx} {s:St} {a:Act} {w:World} {m:Mem} (h:Sim x s a w m) (o:Operand):RL w m s (a.eval o) (gt x.env s.f o):=by
 cases o with
 |tmp t=>exact h.slot t
 | const v=>
   show RL w m s v (AV.ofVal v);cases v with
   | agg cs=>
     obtain⟨l⟩:=cs;show RL w m s (.agg l.toArray) (if l.toArray.toList.all (·.oneCell') then .agg (l.toArray.toList.map .lit) else .any);split
     ·rename_i ha;refine .val (.agg l _ (by simp) (fun v hv=>(K2.1 ha) v (by simpa using hv)) fun i v c hv hc=> ?_);rw[Nk,K5,hv]at hc;simp only[Kg,KX]at hc;subst hc;exact .lit v
     ·exact .val (.any _)
   |_=>exact .val (.lit _)
 | global g=>
   show RL w m s (.pointer (some ⟨g,0,none⟩)) (match x.env g with|some c=> .ref 1 [[c]] 0 0|none=> .lit (.pointer (some ⟨g,0,none⟩)));cases he:x.env g with
   |none=>exact .val (.lit _)
   | some c=>
     obtain⟨u,h1,h2,h3,h4⟩:=h.env g c he
     have:=RV.ref (S:=m.S) (w:=w) 1 [[c]] 0 0 g 0 (fun _ _=>u) (fun i e hi=>by
      cases i with
      |zero=>simp at hi;subst hi;rfl
      | succ i=>simp at hi) (fun i j c' hc=>by
        obtain⟨rfl,rfl,rfl⟩:=sF c i j c' hc;exact⟨h.sup _ _ h3,(h.bel.cell (p:=⟨g,0,none⟩) (h.env0 g 0 h3)).trans h1,h2⟩) (fun i j c' hc=>by
        obtain⟨rfl,rfl,rfl⟩:=sF c i j c' hc
        exact h.old h4)
     exact .val this
 |func f=>exact .val (.lit _)
/-! Types -/
theorem fV {P:Program} {t:TypeId} {d:TyD} (h:tyD P t=some d): ∃i td z,P.info? t=some i/\P.underlying t=some td/\i.zero=some z/\rY P t td=some d.kd/\i.size=d.size/\z.cells.toList=d.zero:=by
 unfold tyD at h;split at h
 ·rename_i i td hi hu;split at h
  ·rename_i z k hz hk;cases h;exact⟨i,td,z,hi,hu,hz,hk,rfl,rfl⟩
  ·cases h
 ·cases h
def Kd.isRow:Kd->Bool
 | .struct .. | .arr .. =>true
 |_=>false
theorem sl {P:Program} {t:TypeId} {td:TypeDesc} {k:Kd} (h:rY P t td=some k):td.isRow=k.isRow:=by
 cases td<;>simp only[rY]at h<;>(repeat' split at h)<;>cases h<;>rfl
theorem pn {P:Program} {t:TypeId} {td:TypeDesc} (w:World) (b o:Nat) (v:Value) (hu:P.underlying t=some td) (hr:td.isRow=false) (hc:w.cell? ⟨b,o,none⟩=some v):
 (Instr.loadAt t (.pointer (some ⟨b,o,none⟩))).run P w= .ok v w:=by
 have hagg:(isAgg t).run P w= .ok false w:=by
  unfold isAgg;rw[Ks,Ka hu w];cases td<;>simp_all[TypeDesc.isRow]
 simp only[Instr.loadAt,Instr.sureAddr,loadVar,Ks,LO,Kc,hagg,LA,Lf,run_load,hc]
theorem vO {P:Program} {a:Act} {w:World} {o:Oper} {t:TypeId} {y:Operand} (ho:o.op= .load t y) {v:Value} (h:(Instr.loadAt t (a.eval y)).run P w= .ok v w):(execOp a.eval o).run P w= .ok (.value v) w:=by
 unfold execOp;simp only[ho,Ks,h,Kc,LO]
theorem kY {P:Program} {t:TypeId} {w:World} {m:Mem} {s:St} {cs:List AV} {off b p:Nat} {out:Out} (u:Nat->Value) (hc: ∀(j:Nat) (c:AV),cs[j]? =some c->w.cell? ⟨b,p+j,none⟩=some (u j)/\(u j).oneCell'=true/\RL w m s (u j) c)
 (h:(eE P t (some cs) off).run s=some out): ∃v,(Instr.loadAt t (.pointer (some ⟨b,p+off,none⟩))).run P w= .ok v w/\RL w m s v out.val/\out.effs=[]:=by
 unfold eE at h;cases hd:tyD P t with
 |none=>rw[hd]at h;simp[Rd.run]at h
 | some d=>
   obtain⟨i,td,z,hi,hu,hz,hk,hs,_⟩:=fV hd;have hrow:=sl hk;obtain⟨k,n,zs⟩:=d;rw[hd]at h;simp only at hs hk hrow
   have row: ∀(hkr:k.isRow=true) (hh:(if off+n<=cs.length then Rd.ret (⟨.agg ((cs.drop off).take n),[]⟩:Out) else .fail).run s=some out),∃v,(Instr.loadAt t (.pointer (some ⟨b,p+off,none⟩))).run P w= .ok v w/\RL w m s v out.val/\out.effs=[]:=by
    intro hkr hh;split at hh
    ·rename_i hle;simp only[Rd.run,KX]at hh;subst hh;have hj: ∀j,j<n-> ∃c,cs[off+j]? =some c:=fun j hj=>⟨cs[off+j],KV (by omega)⟩;have hl:((List.range n).map fun j=>u (off+j)).length=n:=by simp
     refine⟨_,run_loadAt_mid w b (p+off) t ((List.range n).map fun j=>u (off+j)) td (fun j v hv=> ?_) hu (by rw[hrow,hkr]) (by rw[hi];simp[hs]), .agg _ _ (by simp;omega) (fun v hv=> ?_) fun j v c hv hcc=> ?_,rfl⟩
     ·have hjn:j<n:=by
       rcases Mt j n with q|q
       ·exact q
       ·rw[K7 (by simpa using q)]at hv;cases hv
      rw[K5,Lx hjn]at hv;simp only[Kg,KX]at hv;subst hv;obtain⟨c,hc'⟩:=hj j hjn;rw[N1];exact(hc _ c hc').1
     ·simp only[K9,Kr]at hv;obtain⟨j,hjn,rfl⟩:=hv;obtain⟨c,hc'⟩:=hj j hjn;exact(hc _ c hc').2.1
     ·have hjn:j<n:=by
       rcases Mt j n with q|q
       ·exact q
       ·rw[K7 (by simpa using q)]at hv;cases hv
      rw[K5,Lx hjn]at hv;simp only[Kg,KX]at hv;subst hv;rw[Kz,K0 hjn,La]at hcc;exact(hc _ c hcc).2.2
    ·simp[Rd.run]at hh
   have one: ∀(hkr:k.isRow=false) (hh:(match cs[off]? with|some c=>Rd.ret (⟨c,[]⟩:Out)|none=> .fail).run s=some out),∃v,(Instr.loadAt t (.pointer (some ⟨b,p+off,none⟩))).run P w= .ok v w/\RL w m s v out.val/\out.effs=[]:=by
    intro hkr hh;cases hco:cs[off]? with
    |none=>rw[hco]at hh;simp[Rd.run]at hh
    | some c=>
      rw[hco]at hh;simp only[Rd.run,KX]at hh;subst hh;obtain⟨h1,h2,h3⟩:=hc off c hco;exact⟨u off,pn w b (p+off) _ hu (by rw[hrow,hkr]) h1,h3,rfl⟩
   cases k<;>first|exact row rfl h|exact one rfl h
theorem Am {P:Program} {x:Ctx} {s:St} {a:Act} {w:World} {m:Mem} {o:Oper} {t:TypeId} {y:Operand} {out:Out} (ho:o.op= .load t y) (hS:Sim x s a w m) (h:(aT P x.env s.f o).run s=some out):dU P x s a w o out:=by
 have hy:=ah hS y;unfold aT at h;simp only[ho]at h;generalize gt x.env s.f y=c at*;cases c with
 | ref sz es i off=>
   have hr:=hy.ref_;simp only at h;cases he:es[i]? with
   | none=>
     rw[he]at h;unfold eE at h;cases hd:tyD P t with
     |none=>rw[hd]at h;simp[Rd.run]at h
     |some d=>rw[hd]at h;obtain⟨k,n,z⟩:=d;cases k<;>simp[Rd.run]at h
   | some cs=>
     rw[he]at h;generalize hv:a.eval y=vy at*;cases hr with
     | ref sz es i off b p u hz hc hrv=>
       obtain⟨v,h1,h2,h3⟩:=kY (P:=P) (t:=t) (w:=w) (m:=m) (s:=s) (b:=b) (p:=p+i*sz) (fun j=>u i j) (fun j c hj=>by
        have hca:cellAt es i j=some c:=by unfold cellAt;rw[he];exact hj
        obtain⟨q1,q2,q3⟩:=hc i j c hca
        exact⟨by rw[N1];exact q2,q3, .val (hrv i j c hca)⟩) h
       rw[N1]at h1;refine⟨_,w,m,v,vO ho (by rw[hv];exact h1), .inl rfl,?_⟩;rw[h3];exact⟨hS,h2⟩
 | loc r ver i off=>
   obtain⟨_,hr⟩:=hy.loc_;simp only[Rd.row,Rd.run]at h;cases hrow:s.rows r with
   |none=>rw[hrow]at h;simp[Rd.run]at h
   | some row=>
     rw[hrow]at h;simp only at h;split at h
     ·rename_i hver;obtain⟨hver,hrz⟩:=hver;obtain⟨g,hg,hv⟩:=hr hver row hrow;have k:=(hS.rows r row hrow).cells hrz;obtain⟨xs,k1,k2,k3⟩:=k.own;cases he:row.es[i]? with
      | none=>
        rw[he]at h;unfold eE at h;cases hd:tyD P t with
        |none=>rw[hd]at h;simp[Rd.run]at h
        |some d=>rw[hd]at h;obtain⟨k,n,z⟩:=d;cases k<;>simp[Rd.run]at h
      | some cs=>
        rw[he]at h
        obtain⟨v,h1,h2,h3⟩:=kY (P:=P) (t:=t) (w:=w) (m:=m) (s:=s) (b:=g) (p:=i*row.sz) (fun j=>xs.getD (i*row.sz+j) undef) (fun j c hj=>by
         have hca:cellAt row.es i j=some c:=by unfold cellAt;rw[he];exact hj
         obtain⟨u,q1,q2⟩:=k3 i j c hca;have hu:xs.getD (i*row.sz+j) undef=u:=by simp[List.getD,q1]
         rw[hu];refine⟨gp k1 hg _ u q1,k2 u (K1 q1),?_⟩;split at q2
         ·exact .val q2
         ·exact q2) h
        refine⟨_,w,m,v,vO ho (by rw[hv];exact h1), .inl rfl,?_⟩;rw[h3];exact⟨hS,h2⟩
     ·simp[Rd.run]at h
 |_=>simp[Rd.run]at h
end
section
theorem dU.same {P:Program} {x:Ctx} {s:St} {a:Act} {w:World} {m:Mem} {o:Oper} {out:Out} (hS:Sim x s a w m) {v:Value} (h:(execOp a.eval o).run P w= .ok (.value v) w) (he:out.effs=[]) (hv:RL w m s v out.val):dU P x s a w o out:=by
 refine⟨_,w,m,v,h, .inl rfl,?_⟩;rw[he];exact⟨hS,hv⟩
theorem ax {c:AV} {s:St} {out:Out} (h:(val c).run s=some out):out=⟨c,[]⟩:=by
 simpa[val,Rd.run]using h.symm
theorem fB {α:Type} {q:Option α} {k:α->Rd Out} {s:St} {out:Out} (h:(gV q k).run s=some out): ∃y,q=some y/\(k y).run s=some out:=by
 cases q with
 |none=>simp[gV,Rd.run]at h
 |some y=>exact⟨y,rfl,h⟩
section
variable {P:Program} {x:Ctx} {s:St} {a:Act} {w:World} {m:Mem} {o:Oper} {out:Out}
theorem Al {y:Operand} (ho:o.op= .move y) (hS:Sim x s a w m) (h:(aT P x.env s.f o).run s=some out):dU P x s a w o out:=by
 unfold aT at h;simp only[ho]at h;obtain rfl:=ax h;exact .same hS (v:=a.eval y) (by simp[execOp,ho]) rfl (ah hS y)
theorem vv {y:Operand} (ho:o.op= .assign y) (hS:Sim x s a w m) (h:(aT P x.env s.f o).run s=some out):dU P x s a w o out:=by
 unfold aT at h;simp only[ho]at h;obtain rfl:=ax h;exact .same hS (v:=a.eval y) (by simp[execOp,ho]) rfl (ah hS y)
theorem Ak {c y z:Operand} (ho:o.op= .pick c y z) (hS:Sim x s a w m) (h:(aT P x.env s.f o).run s=some out):dU P x s a w o out:=by
 have hc:=ah hS c;unfold aT at h;simp only[ho]at h;split at h
 ·rename_i e;rw[e]at hc;have hc:=hc.lit_;obtain rfl:=ax h;exact .same hS (v:=a.eval y) (by simp[execOp,ho,hc,asBool]) rfl (ah hS y)
 ·rename_i e;rw[e]at hc;have hc:=hc.lit_;obtain rfl:=ax h;exact .same hS (v:=a.eval z) (by simp[execOp,ho,hc,asBool]) rfl (ah hS z)
 ·simp[Rd.run]at h
theorem Aj {op:UnOp} {t:TypeId} {y:Operand} (ho:o.op= .unOp op t y) (hS:Sim x s a w m) (h:(aT P x.env s.f o).run s=some out):dU P x s a w o out:=by
 have hy:=ah hS y;unfold aT at h;simp only[ho]at h;split at h
 ·rename_i e;rw[e]at hy;have hy:=hy.lit_;obtain rfl:=ax h;exact .same hS (v:=_) (by simp[execOp,ho,hy,Op.unary]) rfl (.val (.lit _))
 ·rename_i e;rw[e]at hy;have hy:=hy.lit_;obtain rfl:=ax h;exact .same hS (v:=_) (by simp[execOp,ho,hy,Op.unary,Op.intArith]) rfl (.val (.lit _))
 ·rename_i e;rw[e]at hy;have hy:=hy.lit_;obtain rfl:=ax h;exact .same hS (v:=_) (by simp[execOp,ho,hy,Op.unary,Op.intBits,Js]) rfl (.val (.lit _))
 ·simp[Rd.run]at h
theorem tV {y:Operand} {i:Nat} (ho:o.op= .extract y i) (hS:Sim x s a w m) (h:(aT P x.env s.f o).run s=some out):dU P x s a w o out:=by
 have hy:=ah hS y;unfold aT at h;simp only[ho]at h;split at h
 ·rename_i cs e;rw[e]at hy;obtain⟨vs,hv,hl,hc⟩:=hy.tuple_;obtain⟨c,hci,h⟩:=fB h;obtain rfl:=ax h;have hi:i<vs.length:=by rw[hl];exact(KW.1 hci).1
  exact .same hS (v:=vs[i]) (by simp[execOp,ho,hv,Instr.extract,hi]) rfl (hc i _ c (KV hi) hci)
 ·simp[Rd.run]at h
theorem qT {y:Operand} (ho:o.op= .nilCheck y) (hS:Sim x s a w m) (h:(aT P x.env s.f o).run s=some out):dU P x s a w o out:=by
 have hy:=ah hS y;unfold aT at h;simp only[ho]at h;split at h
 ·rename_i sz es i off e;rw[e]at hy;obtain rfl:=ax h;have hr:=hy.ref_;generalize hv:a.eval y=vy at*;cases hr with
  |ref sz es i off b p u hz hc hrv=>exact .same hS (v:= .pointer (some ⟨b,p+(i*sz+off),none⟩)) (by simp[execOp,ho,hv]) rfl hy
 ·rename_i r ver i off e;rw[e]at hy;simp only[Rd.row,Rd.run]at h;cases hrow:s.rows r with
  |none=>rw[hrow]at h;simp[Rd.run]at h
  | some row=>
    rw[hrow]at h;simp only at h;split at h
    ·rename_i hver;obtain⟨hver,hrz⟩:=hver;obtain rfl:=ax h;obtain⟨g,_,hv⟩:=hy.loc_.2 hver row hrow;rw[hv]at hy;exact .same hS (v:= .pointer (some ⟨g,i*row.sz+off,none⟩)) (by simp[execOp,ho,hv]) rfl hy
    ·simp[Rd.run]at h
 ·simp[Rd.run]at h
end
/-! Types, told apart -/
section
variable {P:Program} {t:TypeId} {n:Nat} {z:List Value}
theorem wU {k:Kd} (h:tyD P t=some ⟨k,n,z⟩): ∃td,P.underlying t=some td/\rY P t td=some k/\(P.info? t).map (·.size)=some n:=by
 obtain⟨i,td,z,hi,hu,_,hk,hs,_⟩:=fV h;exact⟨td,hu,hk,by rw[hi];simp[hs]⟩
theorem mi {k:IntKind} (h:tyD P t=some ⟨.int k,n,z⟩):P.underlying t=some (.int k):=by
 obtain⟨td,hu,hk,_⟩:=wU h;cases td<;>simp only[rY]at hk<;>(repeat' split at hk)<;>first|(cases hk;exact hu)|cases hk
theorem ku (h:tyD P t=some ⟨.bool,n,z⟩):P.underlying t=some .bool:=by
 obtain⟨td,hu,hk,_⟩:=wU h;cases td<;>simp only[rY]at hk<;>(repeat' split at hk)<;>first|(cases hk;exact hu)|cases hk
theorem ce (h:tyD P t=some ⟨.string,n,z⟩):P.underlying t=some .string:=by
 obtain⟨td,hu,hk,_⟩:=wU h;cases td<;>simp only[rY]at hk<;>(repeat' split at hk)<;>first|(cases hk;exact hu)|cases hk
theorem kq (h:tyD P t=some ⟨.ptr,n,z⟩): ∃e,P.underlying t=some (.pointer e):=by
 obtain⟨td,hu,hk,_⟩:=wU h;cases td<;>simp only[rY]at hk<;>(repeat' split at hk)<;>first|(cases hk;exact⟨_,hu⟩)|cases hk
theorem jI (h:tyD P t=some ⟨.iface,n,z⟩): ∃ms,P.underlying t=some (.interface ms):=by
 obtain⟨td,hu,hk,_⟩:=wU h;cases td<;>simp only[rY]at hk<;>(repeat' split at hk)<;>first|(cases hk;exact⟨_,hu⟩)|cases hk
theorem ay {e:TypeId} {esz eb:Nat} {ez:List Value} (h:tyD P t=some ⟨.slice e esz eb ez,n,z⟩):P.underlying t=some (.slice e)/\ ∃ie ze,P.info? e=some ie/\ie.zero=some ze/\ie.size=esz/\ie.bytes=eb/\ze.cells.toList=ez:=by
 obtain⟨td,hu,hk,_⟩:=wU h;cases td<;>simp only[rY]at hk<;>(repeat' split at hk)<;>first|(cases hk;exact⟨hu,_,_,by assumption,by assumption,rfl,rfl,rfl⟩)|cases hk
theorem qC {k e:TypeId} {zv:Value} (h:tyD P t=some ⟨.map k e zv,n,z⟩):P.underlying t=some (.map k e)/\ ∃ie,P.info? e=some ie/\ie.zero=some zv:=by
 obtain⟨td,hu,hk,_⟩:=wU h;cases td<;>simp only[rY]at hk<;>(repeat' split at hk)<;>first|(cases hk;exact⟨hu,_,by assumption,by assumption⟩)|cases hk
theorem de {fs:List (Nat×TypeId×Nat)} {eq:Bool} (h:tyD P t=some ⟨.struct fs eq,n,z⟩): ∃f,P.underlying t=some (.struct f)/\f.toList.mapM (fun f=>(P.info? f.type).map fun i=>(f.offset,f.type,i.size))=some fs/\eq=(!P.eqGuardType P.depth t&& !P.stoodInHeld t&&f.toList.all (fun f=>f.name≠ "_")):=by
 obtain⟨td,hu,hk,_⟩:=wU h;cases td<;>simp only[rY]at hk<;>(repeat' split at hk)<;>first|(cases hk;exact⟨_,hu,by assumption,rfl⟩)|cases hk
end
theorem mapM_at {α β:Type} (f:α->Option β): ∀(l:List α) (r:List β),l.mapM f=some r-> ∀(i:Nat) (y:β),r[i]? =some y-> ∃x,l[i]? =some x/\f x=some y
 | [],r,h,i,y,hy=>by
   simp only[List.mapM_nil,NZ,KX]at h;subst h;simp at hy
 | x::l,r,h,i,y,hy=>by
   simp only[N8,Nl,NZ]at h;cases hx:f x with
   |none=>simp[hx]at h
   | some q=>
     cases hr:l.mapM f with
     |none=>simp[hx,hr]at h
     | some r'=>
       simp[hx,hr]at h;subst h;cases i with
       |zero=>simp at hy;subst hy;exact⟨x,rfl,hx⟩
       |succ i=>obtain⟨x',h1,h2⟩:=mapM_at f l r' hr i y (by simpa using hy);exact⟨x',by simpa using h1,h2⟩
theorem mK {P:Program} {t:TypeId} {fs:Array Field} {f:Field} {i n:Nat} {ie:TypeInfo} (w:World) (b p:Nat) (hu:P.underlying t=some (.struct fs)) (hf:fs[i]? =some f) (hi:P.info? f.type=some ie) (hn:ie.size=n) (h0:n≠0):
 (Instr.fieldAt t (.pointer (some ⟨b,p,none⟩)) i).run P w= .ok (.pointer (some ⟨b,p+f.offset,none⟩)) w:=by
 have hs:(sizeOf f.type).run P w= .ok n w:=by simp[sizeOf,typeInfo,hi,hn]
 simp[Instr.fieldAt,Ka hu,hf,Instr.sureAddr,fieldPlace,hs,h0,Addr.add_mid]
section
variable {P:Program} {x:Ctx} {s:St} {a:Act} {w:World} {m:Mem} {o:Oper} {out:Out}
theorem pm {t:TypeId} {y:Operand} {i:Nat} (ho:o.op= .fieldAddr t y i) (hS:Sim x s a w m) (h:(aT P x.env s.f o).run s=some out):dU P x s a w o out:=by
 have hy:=ah hS y;unfold aT at h;simp only[ho]at h;unfold fN at h
 have key: ∀(fs:List (Nat×TypeId×Nat)) (eq:Bool) (n:Nat) (z:List Value) (p:Nat) (ft:TypeId) (q b p0:Nat),tyD P t=some ⟨.struct fs eq,n,z⟩->fs[i]? =some (p,ft,q)->q≠0->a.eval y= .pointer (some ⟨b,p0,none⟩)->(execOp a.eval o).run P w= .ok (.value (.pointer (some ⟨b,p0+p,none⟩))) w:=by
  intro fs eq n z p ft q b p0 hd hfi hq hv;obtain⟨f,hu,hm,_⟩:=de hd;obtain⟨fd,h1,h2⟩:=mapM_at _ _ _ hm i _ hfi;cases hie:P.info? fd.type with
  |none=>rw[hie]at h2;cases h2
  | some ie=>
    rw[hie]at h2;simp only[Kg,KX,NP]at h2;have hrun:=mK (P:=P) w b p0 hu (by simpa using h1) hie h2.2.2 hq;unfold execOp;simp only[ho,hv,Ks,hrun,Kc,LO,h2.1]
 split at h
 ·rename_i sz es j off fs eq n z e hd;rw[e]at hy;split at h
  ·rename_i p ft q hfi;split at h
   ·simp[Rd.run]at h
   ·rename_i hq;simp only[Rd.run,KX]at h;subst h;have hr:=hy.ref_;generalize hv:a.eval y=vy at*;cases hr with
    | ref sz es j off b p0 u hz hcc hrv=>
      refine .same hS (v:= .pointer (some ⟨b,p0+(j*sz+(off+p)),none⟩)) ?_ rfl (.val (.ref sz es j (off+p) b p0 u hz hcc hrv));rw[show p0+(j*sz+(off+p))=p0+(j*sz+off)+p by omega];exact key fs eq n z p ft q b _ hd hfi hq rfl
  ·simp[Rd.run]at h
 ·rename_i r ver j off fs eq n z e hd;rw[e]at hy;split at h
  ·rename_i p ft q hfi;split at h
   ·simp[Rd.run]at h
   ·rename_i hq;simp only[Rd.row,Rd.run]at h;cases hrow:s.rows r with
    |none=>rw[hrow]at h;simp[Rd.run]at h
    | some row=>
      rw[hrow]at h;simp only at h;split at h
      ·rename_i hver;obtain⟨hver,hrz⟩:=hver;simp only[Rd.run,KX]at h;subst h;obtain⟨hle,hy⟩:=hy.loc_;obtain⟨g,hg,hv⟩:=hy hver row hrow;refine .same hS (v:= .pointer (some ⟨g,j*row.sz+(off+p),none⟩)) ?_ rfl (.loc r ver j (off+p) rfl hle fun _ row' hr'=>⟨g,hg,by rw[hrow]at hr';cases hr';rfl⟩);rw[show j*row.sz+(off+p)=j*row.sz+off+p by omega];exact key fs eq n z p ft q g _ hd hfi hq hv
      ·simp[Rd.run]at h
  ·simp[Rd.run]at h
 ·simp[Rd.run]at h
theorem yD {t:TypeId} {y:Operand} {i:Nat} (ho:o.op= .field t y i) (hS:Sim x s a w m) (h:(aT P x.env s.f o).run s=some out):dU P x s a w o out:=by
 have hy:=ah hS y;unfold aT at h;simp only[ho]at h;obtain⟨c,hc,h⟩:=fB h;obtain rfl:=ax h;unfold oH at hc;split at hc
 ·rename_i cs fs eq n z e hd;rw[e]at hy;obtain⟨vs,hv,hl,h1,hcs⟩:=hy.agg_;obtain⟨f,hu,hm,_⟩:=de hd;split at hc
  ·rename_i p ft q hfi;obtain⟨fd,e1,e2⟩:=mapM_at _ _ _ hm i _ hfi;have e1':f[i]? =some fd:=by simpa using e1
   cases hie:P.info? fd.type with
   |none=>rw[hie]at e2;cases e2
   | some ie=>
     rw[hie]at e2;simp only[Kg,KX,NP]at e2;obtain⟨rfl,rfl,rfl⟩:=e2
     have agg: ∀(td:TypeDesc),P.underlying fd.type=some td->td.isRow=true->(if fd.offset+ie.size<=cs.length then some (AV.agg ((cs.drop fd.offset).take ie.size)) else none)=some c->dU P x s a w o ⟨c,[]⟩:=fun td htd hrow hh=>by
      split at hh
      ·rename_i hle;cases hh
       have hagg:(isAgg fd.type).run P w= .ok true w:=by
        unfold isAgg;rw[Ks,Ka htd w];cases td<;>simp_all[TypeDesc.isRow]
       refine .same hS (v:= .agg ((vs.drop fd.offset).take ie.size).toArray) ?_ rfl (.agg _ _ (by simp;omega) (fun v hv=>h1 v (Mi (MK hv))) fun j v c hv hc=> ?_)
       ·simp[execOp,ho,hv,Instr.field,Ka hu,e1',asAgg,part,hagg,sizeOf,typeInfo,hie]
       ·rw[Kz]at hv hc;split at hv
        ·rename_i hj;rw[K0 hj,La]at hc;rw[La]at hv;exact hcs _ v c hv hc
        ·cases hv
      ·cases hh
     split at hc
     ·rename_i hd2;obtain⟨f2,hu2,_⟩:=de hd2;exact agg _ hu2 rfl hc
     ·rename_i hd2;obtain⟨td,hu2,hk2,_⟩:=wU hd2;exact agg td hu2 (by rw[sl hk2];rfl) hc
     ·rename_i d2 hno1 hno2 hd2;obtain⟨k2,n2,z2⟩:=d2;obtain⟨td,hu2,hk2,_⟩:=wU hd2
      have hrow:td.isRow=false:=by
       rw[sl hk2];cases k2 with
       |struct=>exact absurd rfl (hno1 _ _ _ _)
       |arr=>exact absurd rfl (hno2 _ _ _ _ _)
       |_=>rfl
      have hagg:(isAgg fd.type).run P w= .ok false w:=by
       unfold isAgg;rw[Ks,Ka hu2 w];cases td<;>simp_all[TypeDesc.isRow]
      have hj:fd.offset<vs.length:=by rw[hl];exact(KW.1 hc).1
      refine .same hS (v:=vs[fd.offset]) ?_ rfl (hcs fd.offset _ c (KV hj) hc);simp[execOp,ho,hv,Instr.field,Ka hu,e1',asAgg,part,hagg,hj]
     ·cases hc
  ·cases hc
 ·cases hc
end
end

end Go.Proofs.YtbjldjekgepopaaGreatDoor