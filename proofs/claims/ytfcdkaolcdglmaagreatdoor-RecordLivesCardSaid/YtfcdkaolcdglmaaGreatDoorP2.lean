/- What Go values read as when memory is left out; the state of a call; how both stand to memory. No program is named here. How rows of a call's own come, grow, turn, and are seen by others. No program is named here. Stores into rows of a call's own, and appends to them. No program is named here. Appends to rows of a call's own. No program is named here. What each operation makes of values without memory. No program is named here. What operands read as; loads. No program is named here. Operations that turn no memory. No program is named here. -/
import Derived.Test.YtfcdkaolcdglmaaGreatDoorP1
set_option linter.unusedSimpArgs false
set_option linter.defProp false
namespace Go.Proofs.YtfcdkaolcdglmaaGreatDoor
def ai{a b:Prop}(x:a)(y:b):a/\b:=⟨x,y⟩
def jw{a b c:Prop}(d:a)(e:b)(f:c):a/\b/\c:=⟨d,e,f⟩
def mX{a b c d:Prop}(e:a)(f:b)(g:c)(h:d):a/\b/\c/\d:=⟨e,f,g,h⟩
def ld{a b c d e:Prop}(f:a)(g:b)(h:c)(i:d)(j:e):a/\b/\c/\d/\e:=⟨f,g,h,i,j⟩
def pf{a b c d e f:Prop}(g:a)(h:b)(i:c)(j:d)(k:e)(l:f):a/\b/\c/\d/\e/\f:=⟨g,h,i,j,k,l⟩
def vb{a b c d e f g:Prop}(h:a)(i:b)(j:c)(k:d)(l:e)(m:f)(n:g):a/\b/\c/\d/\e/\f/\g:=⟨h,i,j,k,l,m,n⟩
def L7{a b c d e f g h:Prop}(i:a)(j:b)(k:c)(l:d)(m:e)(n:f)(o:g)(p:h):a/\b/\c/\d/\e/\f/\g/\h:=⟨i,j,k,l,m,n,o,p⟩
def y'{a b c d e f g h i:Prop}(j:a)(k:b)(l:c)(m:d)(n:e)(o:f)(p:g)(q:h)(x8:i):a/\b/\c/\d/\e/\f/\g/\h/\i:=⟨j,k,l,m,n,o,p,q,x8⟩
def zs{a b c d e f g h i j:Prop}(k:a)(l:b)(m:c)(n:d)(o:e)(p:f)(q:g)(r:h)(x8:i)(x9:j):a/\b/\c/\d/\e/\f/\g/\h/\i/\j:=⟨k,l,m,n,o,p,q,r,x8,x9⟩
def u4{c d e f g h i j k l a:Prop}(m:c)(n:d)(o:e)(p:f)(q:g)(r:h)(s:i)(t:j)(x8:k)(x9:l)(b:a):c/\d/\e/\f/\g/\h/\i/\j/\k/\l/\a:=⟨m,n,o,p,q,r,s,t,x8,x9,b⟩
def fb{e f g h i j k l m n a b:Prop}(o:e)(p:f)(q:g)(r:h)(s:i)(t:j)(u:k)(v:l)(x8:m)(x9:n)(c:a)(d:b):e/\f/\g/\h/\i/\j/\k/\l/\m/\n/\a/\b:=⟨o,p,q,r,s,t,u,v,x8,x9,c,d⟩
def gE{a:Type}{l:List a}{k:Nat}(h:k<l.length): ∃x,l[k]? =some x:=⟨l[k],OE h⟩
def nl(n:Nat): ¬(n:Int)< (n:Int):=by omega
open Go.RowKit
section
inductive AV where
 |any
 |lit (v:Value)
 |agg (cs:List AV)
 |tuple (vs:List AV)
 |iface (t:TypeId) (v:AV)
 |seq (sz:Nat) (es:List (List AV))
 |ref (sz:Nat) (es:List (List AV)) (i off:Nat)
 |own (e:TypeId) (sz:Nat) (es:List (List AV))
 |row (r ver:Nat)
 |loc (r ver i off:Nat)
 |mp (r ver:Nat)
 |sub (r ver lo:Nat)
 |clo (g:FuncId) (cs:List AV)
 |fmap (es:List (List AV))
 |full (sz:Nat) (es:List (List AV))
 |news (n sz:Nat) (es:List (List AV))
 deriving Inhabited
def bt(es:List (List AV))(i j:Nat):Option AV:=(es[i]?).bind (·[j]?)
def k0(w w':World)(b o:Nat):Prop:=w'.cell? ⟨b,o,none⟩=w.cell? ⟨b,o,none⟩/\ ∀a c,w.heap[b]? =some (.map a c)->w'.heap[b]? =some (.map a c)
def k0.rfl{w:World}{b o:Nat} :k0 w w b o:=⟨Eq.refl _,fun _ _ h=>h⟩
def k0.trans{w w' a:World}{b o:Nat}(h:k0 w w' b o)(d:k0 w' a b o):k0 w a b o:=⟨d.1.trans h.1,fun e c k=>d.2 e c (h.2 e c k)⟩
def k0.block{w w':World}{b o:Nat}(h:w'.heap[b]? =w.heap[b]?):k0 w w' b o:=⟨QW h,fun _ _ k=>h.trans k⟩
def k0.cells{w w':World}{b o:Nat}{cs:Array Value}{e:TypeId}{a:Nat×Nat}(c:w.heap[b]? =some (.cells cs e a))(h:w'.cell? ⟨b,o,none⟩=w.cell? ⟨b,o,none⟩):k0 w w' b o:=⟨h,fun _ _ k=>by rw[c]at k;cases k⟩
inductive RV(S:Nat->Nat->Prop)(w:World):Value->AV->Prop
 |any (v:Value):RV S w v .any
 |lit (v:Value):RV S w v (.lit v)
 |agg (vs:List Value) (cs:List AV) (h:vs.length=cs.length) (h1: ∀v∈vs,v.oneCell'=true) (hc: ∀(i:Nat)(v:Value)(c:AV),vs[i]? =some v->cs[i]? =some c->RV S w v c):RV S w (.agg vs.toArray) (.agg cs)
 |tuple (vs:List Value) (cs:List AV) (h:vs.length=cs.length) (hc: ∀(i:Nat)(v:Value)(c:AV),vs[i]? =some v->cs[i]? =some c->RV S w v c):RV S w (.tuple vs.toArray) (.tuple cs)
 |iface (t:TypeId) (v:Value) (c:AV) (h:RV S w v c):RV S w (.iface t v) (.iface t c)
 |seq (A:Option Addr) (n cap sz:Nat) (es:List (List AV)) (b o:Nat) (u:Nat->Nat->Value) (hn:es.length=n) (hcap:n<=cap) (hA:0<n->A=some ⟨b,o,none⟩)
  (hz: ∀(i:Nat)(e:List AV),es[i]? =some e->e.length=sz)
  (hc: ∀(i j:Nat)(c:AV),bt es i j=some c->S b (o+(i*sz+j))/\w.cell? ⟨b,o+(i*sz+j),none⟩=some (u i j)/\(u i j).oneCell'=true)
  (hr: ∀(i j:Nat)(c:AV),bt es i j=some c->RV S w (u i j) c):RV S w (.slice A n cap) (.seq sz es)
 |ref (sz:Nat) (es:List (List AV)) (i off b o:Nat) (u:Nat->Nat->Value)
  (hz: ∀(i:Nat)(e:List AV),es[i]? =some e->e.length=sz)
  (hc: ∀(i j:Nat)(c:AV),bt es i j=some c->S b (o+(i*sz+j))/\w.cell? ⟨b,o+(i*sz+j),none⟩=some (u i j)/\(u i j).oneCell'=true)
  (hr: ∀(i j:Nat)(c:AV),bt es i j=some c->RV S w (u i j) c):RV S w (.pointer (some ⟨b,o+(i*sz+off),none⟩)) (.ref sz es i off)
 |clo (g:FuncId) (vs:List Value) (cs:List AV) (h:vs.length=cs.length) (hc: ∀(i:Nat)(v:Value)(c:AV),vs[i]? =some v->cs[i]? =some c->RV S w v c):RV S w (.func (.func g) #[] vs.toArray) (.clo g cs)
 |fmap (g:Nat) (ents:Array MapEntry) (clock:Nat) (es:List (List AV)) (hS:S g 0) (hg:w.heap[g]? =some (.map ents clock)) (hn:ents.size=es.length) (hz: ∀(i:Nat)(e:List AV),es[i]? =some e->e.length=2)
  (hk: ∀(i:Nat)(en:MapEntry)(c:AV),ents[i]? =some en->bt es i 0=some c->RV S w en.key c)
  (hv: ∀(i:Nat)(en:MapEntry)(c:AV),ents[i]? =some en->bt es i 1=some c->RV S w en.val c):RV S w (.map (some g)) (.fmap es)
 |full (A:Option Addr) (n sz:Nat) (es:List (List AV)) (h:RV S w (.slice A n n) (.seq sz es)):RV S w (.slice A n n) (.full sz es)
 |news (A:Option Addr) (n k cap sz:Nat) (es:List (List AV)) (hA: ∀a,A=some a->n<=a.block) (h:RV S w (.slice A k cap) (.seq sz es)):RV S w (.slice A k cap) (.news n sz es)
def RV.mono{S S':Nat->Nat->Prop}{w w':World}(p: ∀b o,S b o->S' b o/\k0 w w' b o){v:Value}{c:AV}(h:RV S w v c):RV S' w' v c:=by
 induction h with
 |any v=>exact .any v
 |lit v=>exact .lit v
 |agg z r h l q a=>exact .agg z r h l a
 |tuple z r h q a=>exact .tuple z r h a
 |iface t v c h a=>exact .iface t v c a
 | seq A n e m d b o u E x D y q K a=>
   exact .seq A n e m d b o u E x D y (fun i j c h=>by
    obtain⟨l,B,C⟩:=q i j c h
    exact⟨(p _ _ l).1,(p _ _ l).2.1.trans B,C⟩) a
 | ref m d i off b o u y q K a=>
   exact .ref m d i off b o u y (fun i j c h=>by
    obtain⟨l,B,C⟩:=q i j c h
    exact⟨(p _ _ l).1,(p _ _ l).2.1.trans B,C⟩) a
 |clo g z r h q a=>exact .clo g z r h a
 |fmap g s f d I J E y L M G H=>exact .fmap g s f d (p _ _ I).1 ((p _ _ I).2.2 _ _ J) E y G H
 |full A n m d h a=>exact .full A n m d a
 |news A n k e m d D h a=>exact .news A n k e m d D a
structure Row where
 sz:Nat
 es:List (List AV)
 e:TypeId
 pure:Bool
structure St where
 f:Nat->AV
 rows:Nat->Option Row
 vs:Nat->Nat
 esc:Nat->Bool
structure k9 where
 S:Nat->Nat->Prop
 ρ:Nat->Value
def UO:Value->Nat->Nat->Value
 | .slice A n c,k,a=> .slice (if c=a then A else A.map (·.add k)) (n-a) (c-a)
 |v,_,_=>v
inductive RL(w:World)(m:k9)(s:St):Value->AV->Prop
 |val {v:Value} {c:AV} (h:RV m.S w v c):RL w m s v c
 |agg (vs:List Value) (cs:List AV) (h:vs.length=cs.length) (h1: ∀v∈vs,v.oneCell'=true) (hc: ∀(i:Nat)(v:Value)(c:AV),vs[i]? =some v->cs[i]? =some c->RL w m s v c):RL w m s (.agg vs.toArray) (.agg cs)
 |tuple (vs:List Value) (cs:List AV) (h:vs.length=cs.length) (hc: ∀(i:Nat)(v:Value)(c:AV),vs[i]? =some v->cs[i]? =some c->RL w m s v c):RL w m s (.tuple vs.toArray) (.tuple cs)
 |row {v:Value} (r ver:Nat) (h1:v.oneCell'=true) (hle:ver<=s.vs r) (h:s.vs r=ver-> ∀row,s.rows r=some row->v=m.ρ r):RL w m s v (.row r ver)
 |loc {v:Value} (r ver i off:Nat) (h1:v.oneCell'=true) (hle:ver<=s.vs r) (h:s.vs r=ver-> ∀row,s.rows r=some row-> ∃g,(m.ρ r).ownBlock=some g/\v= .pointer (some ⟨g,i*row.sz+off,none⟩)):RL w m s v (.loc r ver i off)
 |mp {v:Value} (r ver:Nat) (h1:v.oneCell'=true) (hle:ver<=s.vs r) (h:s.vs r=ver-> ∀row,s.rows r=some row-> ∃g,(m.ρ r).ownBlock=some g/\v= .map (some g)):RL w m s v (.mp r ver)
 |sub {v:Value} (r ver lo:Nat) (h1:v.oneCell'=true) (hle:ver<=s.vs r) (h:s.vs r=ver-> ∀row,s.rows r=some row->v=UO (m.ρ r) (lo*row.sz) lo):RL w m s v (.sub r ver lo)
 |clo (g:FuncId) (vs:List Value) (cs:List AV) (h:vs.length=cs.length) (hc: ∀(i:Nat)(v:Value)(c:AV),vs[i]? =some v->cs[i]? =some c->RL w m s v c):RL w m s (.func (.func g) #[] vs.toArray) (.clo g cs)
def RL.mono{w w':World}{m m':k9}{s s':St}{v:Value}{c:AV}(h:RL w m s v c)(z: ∀b o,m.S b o->m'.S b o/\k0 w w' b o)(j: ∀r,s.vs r<=s'.vs r)
 (u: ∀r row',s'.vs r=s.vs r->s'.rows r=some row'-> ∃row,s.rows r=some row/\row.sz=row'.sz/\m'.ρ r=m.ρ r):RL w' m' s' v c:=by
 induction h with
 |val h=>exact .val (h.mono z)
 |agg t p h a y q=>exact .agg t p h a q
 |tuple t p h y q=>exact .tuple t p h q
 | row r f a d h=>
   refine .row r f a (O3 d (j r)) fun e row' n=> ?_;have k:s'.vs r=s.vs r:=SG (by omega) (j r);obtain⟨row,a,_,l⟩:=u r row' k n;rw[l];exact h (by omega) row a
 | loc r f i off a d h=>
   refine .loc r f i off a (O3 d (j r)) fun e row' n=> ?_;have k:s'.vs r=s.vs r:=SG (by omega) (j r);obtain⟨row,a,x,l⟩:=u r row' k n;rw[l, <-x];exact h (by omega) row a
 | sub r f A a d h=>
   refine .sub r f A a (O3 d (j r)) fun e row' n=> ?_;have k:s'.vs r=s.vs r:=SG (by omega) (j r);obtain⟨row,a,x,l⟩:=u r row' k n;rw[l, <-x];exact h (by omega) row a
 | mp r f a d h=>
   refine .mp r f a (O3 d (j r)) fun e row' n=> ?_;have k:s'.vs r=s.vs r:=SG (by omega) (j r);obtain⟨row,a,_,l⟩:=u r row' k n;rw[l];exact h (by omega) row a
 |clo g t p h y q=>exact .clo g t p h q
structure DB(base:Nat)(w:World)(m:k9)(s:St)(r:Nat)(row:Row):Prop where
 pos:0<row.sz
 len: ∀(i:Nat)(e:List AV),row.es[i]? =some e->e.length=row.sz
 own: ∃xs,w.ownsRow base row.e row.sz (m.ρ r) row.es.length xs/\(∀u∈xs,u.oneCell'=true)/\ ∀(i j:Nat)(c:AV),bt row.es i j=some c-> ∃u,xs[i*row.sz+j]? =some u/\(if row.pure then RV m.S w u c else RL w m s u c)
 esc:s.esc r=true-> ∀g,(m.ρ r).ownBlock=some g-> ∀o,o<row.es.length*row.sz->m.S g o
 spare: ∀g,(m.ρ r).ownBlock=some g-> ∀o,row.es.length*row.sz<=o-> ¬m.S g o
 fresh:s.esc r=false-> ∀g,(m.ρ r).ownBlock=some g-> ∀o,¬m.S g o
def Nd(a:Array MapEntry)(b n:Nat):Prop:=a.size=n/\b=n/\ ∀(i:Nat)(c:MapEntry),a[i]? =some c->c.born=i
structure VW(base:Nat)(w:World)(m:k9)(s:St)(r:Nat)(row:Row):Prop where
 sz:row.sz=0
 own: ∃g ents clock,m.ρ r= .slice (some ⟨g,0,none⟩) 0 0/\base<=g/\w.heap[g]? =some (.map ents clock)/\Nd ents clock row.es.length/\
  ∀(i:Nat)(e:List AV),row.es[i]? =some e-> ∃en kc vc,ents[i]? =some en/\e=[kc,vc]/\RV m.S w en.key kc/\(if row.pure then RV m.S w en.val vc else RL w m s en.val vc)
 fresh: ∀g,(m.ρ r).ownBlock=some g-> ∀o,¬m.S g o
def gX(base:Nat)(w:World)(m:k9)(s:St)(r:Nat)(row:Row):Prop:=DB base w m s r row\/VW base w m s r row
def gX.cells{base:Nat}{w:World}{m:k9}{s:St}{r:Nat}{row:Row}(h:gX base w m s r row)(a:row.sz≠0):DB base w m s r row:=h.elim id fun h=>absurd h.sz a
def gX.map{base:Nat}{w:World}{m:k9}{s:St}{r:Nat}{row:Row}(h:gX base w m s r row)(a:row.sz=0):VW base w m s r row:=h.elim (fun h=>by have:=h.pos;omega) id
def _root_.Go.RowKit.Below.stay{n:Nat}{w w':World}(h:Below n w w'){b o:Nat}(a:b<n):k0 w w' b o:= .block (h.block b a)
structure b7 where
 at_:Nat->Option AV
 inv:World->Prop
 up: ∀w w',inv w->Below w.heap.size w w'->inv w'
instance:CoeFun b7 fun _=>Nat->Option AV:=⟨b7.at_⟩
def b7.none:b7:=⟨fun _=>Option.none,fun _=>True,fun _ _ h _=>h⟩
structure rk where
 w:World
 S:Nat->Nat->Prop
 env:b7
 nt:Nat
 fw:World
 fm:k9
 e:St
 fx:Nat->Prop
 df:List Deferred:=[]
structure dk(x:rk)(s:St)(a:Act)(w:World)(m:k9):Prop where
 bel:Below x.w.heap.size x.w w
 low: ∀b o,m.S b o->b<w.heap.size
 ZR: ∀b o,x.S b o->m.S b o
 sub: ∀b o,m.S b o->x.S b o\/x.w.heap.size<=b
 env: ∀g c,x.env g=some c-> ∃u,x.w.cell? ⟨g,0,none⟩=some u/\u.oneCell'=true/\x.S g 0/\RV x.S x.w u c
 ZV: ∀b o,x.S b o->b<x.w.heap.size
 ZU:x.env.inv x.w
 ZT:a.defers=x.df
 ZP:a.tmps.size=x.nt
 slot: ∀t,RL w m s (a.tmps.getD t undef) (s.f t)
 rows: ∀r row,s.rows r=some row->gX x.w.heap.size w m s r row
 inj: ∀r r' row row',s.rows r=some row->s.rows r'=some row'->r≠r'-> ∀g,(m.ρ r).ownBlock=some g->(m.ρ r').ownBlock≠some g
 ZG: ∀b o,x.fm.S b o->m.S b o/\k0 x.fw w b o
 ZK: ∀r,x.e.vs r<=s.vs r
 evK: ∀r row',s.vs r=x.e.vs r->s.rows r=some row'-> ∃row,x.e.rows r=some row/\row.sz=row'.sz/\m.ρ r=x.fm.ρ r
 ZX:x.fw.heap.size<=w.heap.size
 fix: ∀b,x.fx b->b<x.fw.heap.size/\w.heap[b]? =x.fw.heap[b]? /\ ∀o,m.S b o->x.fm.S b o
 Z3: ∀r row,s.rows r=some row-> ∀g,(m.ρ r).ownBlock=some g-> ¬x.fx g
section
variable {x:rk} {s s':St} {a:Act} {w w':World} {m m':k9}
theorem dk.toS(h:dk x s a w m)(d: ∀b o,m.S b o->m'.S b o/\k0 w w' b o): ∀b o,x.fm.S b o->m'.S b o/\k0 x.fw w' b o:=
 fun b o c=>⟨(d b o (h.ZG b o c).1).1,(h.ZG b o c).2.trans (d b o (h.ZG b o c).1).2⟩
theorem dk.toV(h:dk x s a w m)(b: ∀r,s.vs r<=s'.vs r): ∀r,x.e.vs r<=s'.vs r:=fun r=>O3 (h.ZK r) (b r)
theorem dk.toK(h:dk x s a w m)(f: ∀r,s.vs r<=s'.vs r)(c: ∀r row',s'.vs r=s.vs r->s'.rows r=some row'-> ∃row,s.rows r=some row/\row.sz=row'.sz/\m'.ρ r=m.ρ r):
 ∀r row',s'.vs r=x.e.vs r->s'.rows r=some row'-> ∃row,x.e.rows r=some row/\row.sz=row'.sz/\m'.ρ r=x.fm.ρ r:=fun r row' e d=>by
 have o:=h.ZK r;have p:=f r;obtain⟨row,g,i,j⟩:=c r row' (by omega) d;obtain⟨b,k,l,n⟩:=h.evK r row (by omega) g;exact⟨b,k,l.trans i,j.trans n⟩
theorem dk.fxlt(h:dk x s a w m){b:Nat}(c:x.fx b):b<w.heap.size:=PX (h.fix b c).1 h.ZX
end
def Jj(a:Act)(d:Nat)(v:Value)(t:Nat)(b:d<a.tmps.size):(a.put (some d) v).tmps.getD t undef=if t=d then v else a.tmps.getD t undef:=by
 simp only[Act.put,PO,Array.getElem?_setIfInBounds];by_cases h:t=d
 ·subst h;simp[b]
 rw[OK (Py h),OK h]
def na{a:Type}(f:Nat->a)(d:Nat)(v:a):Nat->a:=fun t=>if t=d then v else f t
def aE{a:Type}(f:Nat->a)(d:Nat)(v:a):na f d v d=v:=by simp[na]
def ct{a:Type}(f:Nat->a)(d:Nat)(v:a){t:Nat}(h:t≠d):na f d v t=f t:=by simp[na,h]
def St.put(s:St)(d:Option Nat)(c:AV):St:=match d with|some d=>{ s with f:=na s.f d c }|none=>s
def RL.put{w:World}{m:k9}{s:St}{v:Value}{c:AV}(h:RL w m s v c)(d:Option Nat)(e:AV):RL w m (s.put d e) v c:=by
 refine RL.mono h (fun b o f=>⟨f, .rfl⟩) ?_ ?_
 ·cases d<;>exact fun _=>OO _
 cases d<;>exact fun r a _ g=>⟨a,g,rfl,rfl⟩
def DB.mono{base:Nat}{w w':World}{m m':k9}{s s':St}{r:Nat}{row:Row}(h:DB base w m s r row)
 (p: ∀b o,m.S b o->m'.S b o/\k0 w w' b o)(K: ∀r,s.vs r<=s'.vs r)
 (J: ∀r row',s'.vs r=s.vs r->s'.rows r=some row'-> ∃row,s.rows r=some row/\row.sz=row'.sz/\m'.ρ r=m.ρ r)
 (a:m'.ρ r=m.ρ r)(H: ∀g,(m.ρ r).ownBlock=some g->w'.heap[g]? =w.heap[g]?)(z:s'.esc r=s.esc r)(A: ∀g,(m.ρ r).ownBlock=some g-> ∀o,m'.S g o->m.S g o):DB base w' m' s' r row:=by
 refine⟨h.pos,h.len,?_,?_,?_,?_⟩
 ·obtain⟨L,y,E,G⟩:=h.own;refine⟨L,?_,E,fun i j c I=> ?_⟩
  ·rw[a];refine⟨y.1,?_⟩;rcases y.2 with l|⟨g,f,k,x,B,C,D⟩
   ·exact .inl l
   exact .inr ⟨g,f,k,x,B,(H g (by rw[x];rfl)).trans C,D⟩
  obtain⟨u,l,n⟩:=G i j c I;refine⟨u,l,?_⟩;split at n
  ·rename_i v;rw[OL v];exact n.mono p
  rename_i v;rw[OK v];exact n.mono p K J
 ·rw[a,z];exact fun e g d o t=>(p _ _ (h.esc e g d o t)).1
 ·rw[a];exact fun g d o t q=>h.spare g d o t (A g d o q)
 rw[a,z];exact fun e g d o q=>h.fresh e g d o (A g d o q)
def bZ{w:World}{base n size:Nat}{e:TypeId}{v:Value}{xs:List Value}{g:Nat}(h:w.ownsRow base e size v n xs)(a:v.ownBlock=some g):base<=g/\g<w.heap.size:=h.lt g a
def gX.blk{base:Nat}{w:World}{m:k9}{s:St}{r:Nat}{row:Row}{g:Nat}(h:gX base w m s r row)(a:(m.ρ r).ownBlock=some g):base<=g/\g<w.heap.size:=by
 rcases h with h|h
 ·obtain⟨k,i,_⟩:=h.own;exact bZ i a
 obtain⟨j,c,b,d,e,f,_⟩:=h.own;rw[d]at a;simp only[Value.ownBlock,OH]at a;subst a;exact⟨e,(Od.1 f).1⟩
def gX.mono{base:Nat}{w w':World}{m m':k9}{s s':St}{r:Nat}{row:Row}(h:gX base w m s r row)
 (f: ∀b o,m.S b o->m'.S b o/\k0 w w' b o)(u: ∀r,s.vs r<=s'.vs r)
 (q: ∀r row',s'.vs r=s.vs r->s'.rows r=some row'-> ∃row,s.rows r=some row/\row.sz=row'.sz/\m'.ρ r=m.ρ r)
 (a:m'.ρ r=m.ρ r)(n: ∀g,(m.ρ r).ownBlock=some g->w'.heap[g]? =w.heap[g]?)(B:s'.esc r=s.esc r)(t: ∀g,(m.ρ r).ownBlock=some g-> ∀o,m'.S g o->m.S g o):gX base w' m' s' r row:=by
 rcases h with h|h
 ·exact .inl (h.mono f u q a n B t)
 obtain⟨g,d,c,l,v,x,y,z⟩:=h.own;refine .inr ⟨h.sz,⟨g,d,c,a.trans l,v,(n g (by rw[l];rfl)).trans x,y,fun i e D=> ?_⟩,fun g p o C=>h.fresh g (by rw[<-a];exact p) o (t g (by rw[<-a];exact p) o C)⟩;obtain⟨A,I,J,E,G,H,k⟩:=z i e D;refine⟨A,I,J,E,G,H.mono f,?_⟩;split at k
 ·rename_i j;rw[OL j];exact k.mono f
 rename_i j;rw[OK j];exact k.mono f u q
def dk.put{x:rk}{s:St}{a:Act}{w:World}{m:k9}(h:dk x s a w m)(d:Option Nat)(g: ∀t,d=some t->t<x.nt){v:Value}{c:AV}(n:RL w m s v c):dk x (s.put d c) (a.put d v) w m:=by
 cases d with
 |none=>exact h
 | some d=>
   have g:=g d rfl;refine { h with ZT:=h.ZT,ZP:=by simpa[Act.put]using h.ZP,slot:=fun t=> ?_,rows:=fun r row i=> ?_ }
   ·rw[Jj a d v t (by rw[h.ZP];exact g)]
    have j:RL w m s (if t=d then v else a.tmps.getD t undef) (na s.f d c t):=by
     by_cases e:t=d
     ·rw[OL e,e,aE];exact n
     rw[OK e,ct _ _ _ e];exact h.slot t
    exact RL.put j (some d) c
   exact(h.rows r row i).mono (fun b o k=>⟨k, .rfl⟩) (fun _=>OO _) (fun r f _ i=>⟨f,i,rfl,rfl⟩) rfl (fun _ _=>rfl) rfl (fun _ _ _ l=>l)
def dk.move{x:rk}{s:St}{a:Act}{w w':World}{m m':k9}(h:dk x s a w m)(f:m'.ρ=m.ρ)(p:Below x.w.heap.size w w')
 (n: ∀b o,m.S b o->m'.S b o/\k0 w w' b o)(d: ∀b o,m'.S b o->m.S b o\/(w.heap.size<=b/\b<w'.heap.size))
 (l: ∀r row,s.rows r=some row-> ∀g,(m.ρ r).ownBlock=some g->w'.heap[g]? =w.heap[g]?)(q: ∀b,x.fx b->w'.heap[b]? =w.heap[b]?):dk x s a w' m':=by
 have v: ∀r c,s.vs r=s.vs r->s.rows r=some c-> ∃row,s.rows r=some row/\row.sz=c.sz/\m'.ρ r=m.ρ r:=fun r c _ i=>⟨c,i,rfl,by rw[f]⟩;refine⟨h.bel.trans p,fun b o e=> ?_,fun b o e=>(n _ _ (h.ZR b o e)).1,fun b o e=> ?_,h.env,h.ZV,h.ZU,h.ZT,h.ZP,fun t=>(h.slot t).mono n (fun _=>OO _) v,fun r row i=> ?_,fun r B row c i z y=> ?_,h.toS n,h.ZK,h.toK (fun _=>OO _) v,O3 h.ZX p.size,fun b j=>⟨(h.fix b j).1,(q b j).trans (h.fix b j).2.1,fun o e=> ?_⟩,fun r row i=>by rw[f];exact h.Z3 r row i⟩
 rotate_right
 ·rcases d b o e with k|⟨k,_⟩
  ·exact(h.fix b j).2.2 o k
  have:=h.fxlt j;omega
 ·rcases d b o e with k|⟨_,k⟩
  ·have:=h.low b o k;have:=p.size;omega
  exact k
 ·rcases d b o e with k|⟨k,_⟩
  ·exact h.sub b o k
  have:=h.bel.size;exact .inr (by omega)
 ·have k:=h.rows r row i;refine k.mono n (fun _=>OO _) v (by rw[f]) (fun g u=>l r row i g u) rfl fun g u o e=> ?_;rcases d g o e with A | ⟨A,_⟩
  ·exact A
  have:=(k.blk u).2;omega
 rw[f];exact h.inj r B row c i z y
def dk.drew{x:rk}{s:St}{a:Act}{w:World}{m:k9}(h:dk x s a w m)(n:Nat):dk x s a (w.drewN n) m:=
 h.move rfl (below_drewN (Oy _ _) n) (fun _ _ b=>⟨b, .rfl⟩) (fun _ _ b=> .inl b) (fun _ _ _ _ _=>rfl) (fun _ _=>rfl)
end
section
def St.renew(s:St)(r:Nat)(row:Row)(e:Bool):St:={ s with rows:=na s.rows r (some row),vs:=na s.vs r (s.vs r+1),esc:=na s.esc r e }
def St.setRow(s:St)(r:Nat)(row:Row):St:={ s with rows:=na s.rows r (some row) }
def St.show(s:St)(r:Nat):St:={ s with esc:=na s.esc r true }
def lM(s:St)(r:Nat)(row:Row)(e:Bool)(k:Nat):s.vs k<=(s.renew r row e).vs k:=by
 simp only[St.renew,na];split
 ·rename_i h;rw[h];omega
 exact OO _
def qS{s:St}{r:Nat}{row:Row}{e:Bool}{ρ:Nat->Value}{v:Value}(k:Nat)(row':Row)(c:(s.renew r row e).vs k=s.vs k)(b:(s.renew r row e).rows k=some row'):k≠r/\s.rows k=some row'/\na ρ r v k=ρ k:=by
 have a:k≠r:=by
  rintro rfl;simp only[St.renew,aE]at c;omega
 refine⟨a,?_,ct _ _ _ a⟩;simpa only[St.renew,ct _ _ _ a]using b
def dk.renew{x:rk}{s:St}{a:Act}{w w':World}{m:k9}(h:dk x s a w m)(r:Nat)(row:Row)(e:Bool)(v:Value)(S':Nat->Nat->Prop)(K:Below x.w.heap.size w w')
 (G: ∀b o,m.S b o->S' b o/\k0 w w' b o)(p: ∀b o,S' b o->m.S b o\/(x.w.heap.size<=b/\b<w'.heap.size))
 (f: ∀k row',k≠r->s.rows k=some row'-> ∀g,(m.ρ k).ownBlock=some g->w'.heap[g]? =w.heap[g]? /\v.ownBlock≠some g/\ ∀o,S' g o->m.S g o)
 (N:gX x.w.heap.size w' ⟨S',na m.ρ r v⟩ (s.renew r row e) r row)(u: ∀b,x.fx b->w'.heap[b]? =w.heap[b]? /\(∀o,S' b o->m.S b o)/\v.ownBlock≠some b):dk x (s.renew r row e) a w' ⟨S',na m.ρ r v⟩:=by
 have M: ∀k row',(s.renew r row e).vs k=s.vs k->(s.renew r row e).rows k=some row'-> ∃q,s.rows k=some q/\q.sz=row'.sz/\na m.ρ r v k=m.ρ k:=fun k row' J E=>by
  obtain⟨_,O,P⟩:=qS (ρ:=m.ρ) (v:=v) k row' J E;exact⟨row',O,rfl,P⟩
 refine⟨h.bel.trans K,fun b o y=> ?_,fun b o y=>(G _ _ (h.ZR b o y)).1,fun b o y=> ?_,h.env,h.ZV,h.ZU,h.ZT,h.ZP,fun t=>(h.slot t).mono (m':=⟨S',na m.ρ r v⟩) (s':=s.renew r row e) G (lM s r row e) M,fun k row' H=> ?_,fun k C j i J E l g d=> ?_,h.toS (m':=⟨S',na m.ρ r v⟩) G,h.toV (lM s r row e),h.toK (m':=⟨S',na m.ρ r v⟩) (lM s r row e) M,O3 h.ZX K.size,fun b n=>⟨(h.fix b n).1,(u b n).1.trans (h.fix b n).2.1,fun o y=>(h.fix b n).2.2 o ((u b n).2.1 o y)⟩,fun k row' H g d n=> ?_⟩
 rotate_right
 ·simp only at d;by_cases c:k=r
  ·subst c;rw[aE]at d;exact(u g n).2.2 d
  rw[ct _ _ _ c]at d;exact h.Z3 k row' (by simpa only[St.renew,ct _ _ _ c]using H) g d n
 ·rcases p b o y with k|⟨_,k⟩
  ·have:=h.low b o k;have:=K.size;omega
  exact k
 ·rcases p b o y with k|⟨k,_⟩
  ·exact h.sub b o k
  exact .inr k
 ·by_cases c:k=r
  ·subst c;have:row'=row:=by simpa[St.renew,aE]using H.symm
   subst this;exact N
  have z:s.rows k=some row':=by simpa only[St.renew,ct _ _ _ c]using H
  refine(h.rows k row' z).mono (m':=⟨S',na m.ρ r v⟩) (s':=s.renew r row e) G (lM s r row e) M (ct _ _ _ c) (fun g d=>(f k row' c z g d).1) (by simp only[St.renew,ct _ _ _ c]) (fun g d=>(f k row' c z g d).2.2)
 simp only at d |-;by_cases D:k=r
 ·subst D;rw[aE]at d;rw[ct _ _ _ (Py l)];have A:s.rows C=some i:=by simpa only[St.renew,ct _ _ _ (Py l)]using E
  intro L;exact(f C i (Py l) A g L).2.1 d
 rw[ct _ _ _ D]at d;have B:s.rows k=some j:=by simpa only[St.renew,ct _ _ _ D]using J
 by_cases I:C=r
 ·subst I;rw[aE];exact(f k j D B g d).2.1
 rw[ct _ _ _ I];have A:s.rows C=some i:=by simpa only[St.renew,ct _ _ _ I]using E
 exact h.inj k C j i B A l g d
def WA(es:List (List AV)):List AV:=es.flatten
def eL{es:List (List AV)}{i j:Nat}{c:AV}{sz:Nat}(d: ∀(i:Nat)(e:List AV),es[i]? =some e->e.length=sz)(h:bt es i j=some c):i<es.length/\j<sz:=by
 unfold bt at h;cases a:es[i]? with
 |none=>rw[a]at h;cases h
 | some e=>
   rw[a]at h;have b:j<e.length:=(OG.1 h).1;rw[d i e a]at b;exact⟨(OG.1 a).1,b⟩
def kg{i j n sz:Nat}(hi:i<n)(a:j<sz):i*sz+j<n*sz:=by
 have:(i+1)*sz<=n*sz:=Oz _ hi;rw[P7,Q7]at this;omega
def dk.newRow{x:rk}{s:St}{a:Act}{w:World}{m:k9}(h:dk x s a w m)(r:Nat)(row:Row)(cs:List Value)(q:0<row.sz)(p:row.es.length<=maxLen)
 (L: ∀(i:Nat)(e:List AV),row.es[i]? =some e->e.length=row.sz)(z:cs.length=row.es.length*row.sz)(C: ∀u∈cs,u.oneCell'=true)
 (J: ∀(i j:Nat)(c:AV),bt row.es i j=some c-> ∃u,cs[i*row.sz+j]? =some u/\(if row.pure then RV m.S w u c else RL w m s u c)):
 dk x (s.renew r row false) a (w.alloc (.cells cs.toArray row.e)) ⟨m.S,na m.ρ r (.slice (some ⟨w.heap.size,0,none⟩) row.es.length row.es.length)⟩:=by
 have d: ∀b o,m.S b o->m.S b o/\k0 w (w.alloc (.cells cs.toArray row.e)) b o:=fun b o f=>⟨f, .block (Pj _ _ _ (h.low b o f))⟩;have t:=h.bel.size;refine h.renew r row false _ m.S ((Oy _ _).alloc t _) d (fun b o f=> .inl f) (fun k l M K g n=> ?_) (.inl ⟨q,L,?_,(fun e=>by simp[St.renew,aE]at e),(fun g n o N f=> ?_),(fun _ g n o f=> ?_)⟩) fun b B=>⟨Pj _ _ _ (h.fxlt B),fun _ f=>f,fun e=>by have:=h.fxlt B;simp[Value.ownBlock]at e;omega⟩
 ·have:=((h.rows k l K).blk n).2;refine⟨Pj _ _ _ this,?_,fun o f=>f⟩;simp[Value.ownBlock];omega
 ·refine⟨cs,⟨z, .inr ⟨w.heap.size,row.es.length,cs.toArray,aE _ _ _,t,cU.new _ _ _,OO _,p,by simpa using z,by rw[PI (by simp[z])]⟩⟩,C,fun i j c f=> ?_⟩;obtain⟨u,D,y⟩:=J i j c f;refine⟨u,D,?_⟩;split at y
  ·rename_i A;rw[OL A];exact y.mono d
  rename_i A;rw[OK A];refine y.mono d (lM s r row false) fun k l E G=> ?_;obtain⟨_,H,I⟩:=qS (ρ:=m.ρ) (v:= .slice (some ⟨w.heap.size,0,none⟩) row.es.length row.es.length) k l E G;exact⟨l,H,rfl,I⟩
 ·simp[aE,Value.ownBlock]at n;have:=h.low g o f;omega
 simp[aE,Value.ownBlock]at n;have:=h.low g o f;omega
def iU{w:World}{base n size:Nat}{e:TypeId}{v:Value}{xs:List Value}{g:Nat}(h:w.ownsRow base e size v n xs)(a:v.ownBlock=some g)(j:Nat)(u:Value)(b:xs[j]? =some u):w.cell? ⟨g,j,none⟩=some u:=by
 rcases h.2 with⟨f,_⟩|⟨p,c,d,i,_,k,m,_,o,l⟩
 ·rw[f]at a;cases a
 rw[i]at a;simp[Value.ownBlock]at a;subst a;rw[<-l,Om]at b;split at b
 ·simp[World.cell?,k];simpa using b
 cases b
def JN{w:World}{base n size:Nat}{e:TypeId}{v:Value}{xs:List Value}{g:Nat}(h:w.ownsRow base e size v n xs)(b:v.ownBlock=some g): ∃a j,w.heap[g]? =some (.cells a e j):=by
 rcases h.2 with⟨d,_⟩|⟨k,c,a,f,_,i,_⟩
 ·rw[d]at b;cases b
 rw[f]at b;simp[Value.ownBlock]at b;subst b;exact⟨a,_,i⟩
def iw{f:AV->AV}{es:List (List AV)}{i j:Nat}{c:AV}(h:bt (es.map (·.map f)) i j=some c): ∃a,bt es i j=some a/\f a=c:=by
 unfold bt at h |-;rw[OS]at h;cases b:es[i]? with
 |none=>rw[b]at h;cases h
 | some e=>
   rw[b]at h;simp only[O0,Oo,OS]at h |-;exact P6.1 h
def Ux{f:AV->AV}{es:List (List AV)}{n:Nat}(c: ∀(i:Nat)(e:List AV),es[i]? =some e->e.length=n)(i:Nat)(e:List AV)(h:(es.map (·.map f))[i]? =some e):e.length=n:=by
 rw[OS]at h;obtain⟨a,b,rfl⟩:=P6.1 h;rw[O4];exact c i a b
def dk.showF(f:AV->AV){x:rk}{s:St}{a:Act}{w:World}{m:k9}(h:dk x s a w m)(r:Nat)(row:Row)(Q:s.rows r=some row)(hsz:row.sz≠0)(hp: ∀(i j:Nat)(c:AV)(u:Value),bt row.es i j=some c->(if row.pure then RV m.S w u c else RL w m s u c)->RV m.S w u (f c)):
 ∃S',dk x (s.show r) a w ⟨S',m.ρ⟩/\(∀b o,m.S b o->S' b o)/\RV S' w (m.ρ r) (.seq row.sz (row.es.map (·.map f)))/\ ∀g,(m.ρ r).ownBlock=some g-> ∀i off,RV S' w (.pointer (some ⟨g,i*row.sz+off,none⟩)) (.ref row.sz (row.es.map (·.map f)) i off):=by
 have k:=(h.rows r row Q).cells hsz;obtain⟨J,D,U,M⟩:=k.own;obtain⟨S',q⟩: ∃S':Nat->Nat->Prop,S'=fun b o=>m.S b o\/((m.ρ r).ownBlock=some b/\o<row.es.length*row.sz):=⟨_,rfl⟩;have l: ∀b o,m.S b o->S' b o/\k0 w w b o:=fun b o d=>⟨by rw[q];exact .inl d, .rfl⟩;have P: ∀k n,(s.show r).vs k=s.vs k->(s.show r).rows k=some n-> ∃H,s.rows k=some H/\H.sz=n.sz/\m.ρ k=m.ρ k:=fun k n _ d=>⟨n,d,rfl,rfl⟩
 refine⟨S',⟨h.bel,fun b o d=> ?_,fun b o d=>(l _ _ (h.ZR b o d)).1,fun b o d=> ?_,h.env,h.ZV,h.ZU,h.ZT,h.ZP,fun t=>(h.slot t).mono (m':=⟨S',m.ρ⟩) (s':=s.show r) l (fun _=>OO _) P,fun R n z=> ?_,h.inj,h.toS (m':=⟨S',m.ρ⟩) l,h.ZK,h.toK (s':=s.show r) (m':=⟨S',m.ρ⟩) (fun _=>OO _) P,h.ZX,fun b O=>⟨(h.fix b O).1,(h.fix b O).2.1,fun o d=>(h.fix b O).2.2 o (by
  simp only[q]at d;rcases d with d|⟨d,_⟩
  ·exact d
  exact absurd O (h.Z3 r row Q b d))⟩,h.Z3⟩,fun b o d=>(l b o d).1,?_⟩
 ·rw[q]at d;rcases d with d|⟨d,_⟩
  ·exact h.low b o d
  exact(bZ D d).2
 ·rw[q]at d;rcases d with d|⟨d,_⟩
  ·exact h.sub b o d
  exact .inr (bZ D d).1
 ·have z:s.rows R=some n:=z;by_cases e:R=r
  ·subst e;obtain rfl:row=n:=Pq (Q.symm.trans z);refine .inl ⟨k.pos,k.len,⟨J,D,U,fun i j c v=> ?_⟩,fun _ g G o Z=> ?_,fun g G o Z d=> ?_,fun e=> ?_⟩
   ·obtain⟨u,y,C⟩:=M i j c v;refine⟨u,y,?_⟩;split at C
    ·rename_i hq;rw[OL hq];exact C.mono l
    rename_i hq;rw[OK hq];exact C.mono l (fun _=>OO _) P
   ·rw[q];exact .inr ⟨G,Z⟩
   ·rw[q]at d;rcases d with d|⟨_,d⟩
    ·exact k.spare g G o Z d
    omega
   simp[St.show,aE]at e
  refine(h.rows R n z).mono (m':=⟨S',m.ρ⟩) (s':=s.show r) l (fun _=>OO _) P rfl (fun _ _=>rfl) (by simp only[St.show,ct _ _ _ e]) fun g G o d=> ?_;rw[q]at d;rcases d with d|⟨d,_⟩
  ·exact d
  exact absurd G (h.inj r R row n Q z (Py e) g d)
 refine⟨?_,fun g G i off=> ?_⟩
 case refine_2=>
  have k2:=RV.ref (S:=S') (w:=w) row.sz (row.es.map (·.map f)) i off g 0 (fun i j=>J.getD (i*row.sz+j) undef) (Ux k.len) (fun i j K v=>by
   obtain⟨B,p,rfl⟩:=iw v;obtain⟨u,y,C⟩:=M i j B p;obtain⟨X,Y⟩:=eL k.len p;have I:J.getD (i*row.sz+j) undef=u:=by simp[List.getD,y]
   rw[I,PR]
   exact⟨by rw[q];exact .inr ⟨G,kg X Y⟩,iU D G _ u y,U u (OM y)⟩) fun i j K v=>by
   obtain⟨B,p,rfl⟩:=iw v;obtain⟨u,y,C⟩:=M i j B p;have I:J.getD (i*row.sz+j) undef=u:=by simp[List.getD,y]
   rw[I];exact(hp i j B u p C).mono l
  rw[PR]at k2;exact k2
 obtain⟨A,c,hv,hrd⟩:=aj D
 have E:row.es.length<=c:=by
  rcases D.2 with⟨e,hn⟩|⟨g,T,cur,e,_,_,hle,_⟩
  ·rw[hv]at e;injection e with L e2 e3;omega
  rw[hv]at e;injection e with L e2 e3;omega
 rw[hv]at q D |-;by_cases h0:row.es.length=0
 ·have N:row.es=[]:=Ox h0;exact .seq A _ c row.sz (row.es.map (·.map f)) 0 0 (fun _ _=>undef) (O4 ..) E (fun d=>by omega) (Ux k.len) (fun i j K v=>by rw[N]at v;simp[bt]at v) (fun i j K v=>by rw[N]at v;simp[bt]at v)
 obtain⟨b,off,rfl,_,V⟩:=hrd.2 (by omega);obtain⟨g,T,W,_⟩:=D.form (by omega);injection W with L e2 e3
 injection L with L
 injection L with e4 e5 e6
 subst e4 e5;refine .seq _ _ c row.sz (row.es.map (·.map f)) b 0 (fun i j=>J.getD (i*row.sz+j) undef) (O4 ..) E (fun _=>rfl) (Ux k.len) (fun i j K v=> ?_) fun i j K v=> ?_
 ·obtain⟨B,p,rfl⟩:=iw v;obtain⟨u,y,C⟩:=M i j B p;obtain⟨X,Y⟩:=eL k.len p;have I:J.getD (i*row.sz+j) undef=u:=by simp[List.getD,y]
  rw[I];refine⟨by rw[q];exact .inr ⟨rfl,by rw[PR];exact kg X Y⟩,by rw[<-V _ u y],U u (OM y)⟩
 obtain⟨B,p,rfl⟩:=iw v;obtain⟨u,y,C⟩:=M i j B p;have I:J.getD (i*row.sz+j) undef=u:=by simp[List.getD,y]
 rw[I];exact(hp i j B u p C).mono l
def dk.show_{x:rk}{s:St}{a:Act}{w:World}{m:k9}(h:dk x s a w m)(r:Nat)(row:Row)(f:s.rows r=some row)(d:row.sz≠0)(e: ∀(i j:Nat)(c:AV)(u:Value),bt row.es i j=some c->(if row.pure then RV m.S w u c else RL w m s u c)->RV m.S w u c):
 ∃S',dk x (s.show r) a w ⟨S',m.ρ⟩/\(∀b o,m.S b o->S' b o)/\RV S' w (m.ρ r) (.seq row.sz row.es)/\ ∀g,(m.ρ r).ownBlock=some g-> ∀i off,RV S' w (.pointer (some ⟨g,i*row.sz+off,none⟩)) (.ref row.sz row.es i off):=by
 have:=h.showF id r row f d e;rwa [show row.es.map (·.map id)=row.es by simp]at this
def dk.show{x:rk}{s:St}{a:Act}{w:World}{m:k9}(h:dk x s a w m)(r:Nat)(row:Row)(n:s.rows r=some row)(d:row.sz≠0)(l:row.pure=true):
 ∃S',dk x (s.show r) a w ⟨S',m.ρ⟩/\(∀b o,m.S b o->S' b o)/\RV S' w (m.ρ r) (.seq row.sz row.es):=by
 obtain⟨S',f,g,k,_⟩:=h.show_ r row n d (fun i j c u _ e=>by rw[OL l]at e;exact e);exact⟨S',f,g,k⟩
end
section
def ef{a:Type}(l:List a)(p:Nat)(vs:List a):List a:=l.take p++vs++l.drop (p+vs.length)
def dP{a:Type}(l:List a)(p:Nat)(vs:List a)(h:p+vs.length<=l.length):(ef l p vs).length=l.length:=by
 simp only[ef,ON,OZ,QF];omega
def bj{c:Type}(l:List c)(p:Nat)(vs:List c)(h:p+vs.length<=l.length)(k:Nat):(ef l p vs)[k]? =if k<p then l[k]? else if k<p+vs.length then vs[k-p]? else l[k]? :=by
 unfold ef;by_cases a:k<p
 ·rw[OL a,O1,Oq (by simp;omega),Om,OL a]
 rw[OK a];have d:(l.take p).length=p:=by simp;omega
 by_cases b:k<p+vs.length
 ·rw[OL b,O1,Og (by omega),d,Oq (by omega)]
 rw[OK b,Og (by simp;omega),PY]
 congr 1
 simp;omega
def dk.reset{x:rk}{s:St}{a:Act}{w w':World}{m:k9}(h:dk x s a w m)(r:Nat)(row row':Row)(I:s.rows r=some row)(A:row'.sz=row.sz)(u:Below x.w.heap.size w w')
 (G: ∀b o,m.S b o->k0 w w' b o)
 (p: ∀k f,k≠r->s.rows k=some f-> ∀g,(m.ρ k).ownBlock=some g->w'.heap[g]? =w.heap[g]?)
 (z:gX x.w.heap.size w' m (s.setRow r row') r row')(v: ∀b,x.fx b->w'.heap[b]? =w.heap[b]?):dk x (s.setRow r row') a w' m:=by
 have j: ∀b o,m.S b o->m.S b o/\k0 w w' b o:=fun b o i=>⟨i,G b o i⟩
 have n: ∀k c,(s.setRow r row').vs k=s.vs k->(s.setRow r row').rows k=some c-> ∃d,s.rows k=some d/\d.sz=c.sz/\m.ρ k=m.ρ k:=fun k c _ i=>by
  by_cases e:k=r
  ·subst e;simp only[St.setRow,aE,OH]at i;subst i;exact⟨row,I,A.symm,rfl⟩
  simp only[St.setRow,ct _ _ _ e]at i;exact⟨c,i,rfl,rfl⟩
 refine⟨h.bel.trans u,fun b o i=>PX (h.low b o i) u.size,h.ZR,h.sub,h.env,h.ZV,h.ZU,h.ZT,h.ZP,fun t=>(h.slot t).mono j (fun _=>OO _) n,fun k c i=> ?_,fun k B f c l E y=> ?_,h.toS j,h.ZK,h.toK (s':=s.setRow r row') (fun _=>OO _) n,O3 h.ZX u.size,fun b q=>⟨(h.fix b q).1,(v b q).trans (h.fix b q).2.1,(h.fix b q).2.2⟩,fun k c i=> ?_⟩
 rotate_right
 ·obtain⟨d,l,_⟩:=n k c rfl i;exact h.Z3 k d l
 ·by_cases e:k=r
  ·subst e;simp only[St.setRow,aE,OH]at i;subst i;exact z
  simp only[St.setRow,ct _ _ _ e]at i;exact(h.rows k c i).mono j (fun _=>OO _) n rfl (fun g H=>p k c e i g H) rfl (fun _ _ _ i=>i)
 have: ∀k f,(s.setRow r row').rows k=some f-> ∃d,s.rows k=some d:=fun k f i=>by
  obtain⟨d,l,_⟩:=n k f rfl i;exact⟨d,l⟩
 obtain⟨J,C⟩:=this k f l;obtain⟨K,D⟩:=this B c E;exact h.inj k B J K C D y
def dk.store{x:rk}{s:St}{a:Act}{w:World}{m:k9}(h:dk x s a w m)(r:Nat)(row:Row)(S:s.rows r=some row)(hsz:row.sz≠0)(he:s.esc r=false)(i off:Nat)(e:List AV)(hi:row.es[i]? =some e)
 (cs:List AV)(vs:List Value)(hl:vs.length=cs.length)(hfit:off+cs.length<=row.sz)(h1: ∀v∈vs,v.oneCell'=true)
 (hc: ∀(j:Nat)(v:Value)(c:AV),vs[j]? =some v->cs[j]? =some c->if row.pure then RV m.S w v c else RL w m s v c)(g:Nat)(L:(m.ρ r).ownBlock=some g):
 ∃d,w.heap[g]? =some (.cells d row.e (0,0))/\i*row.sz+off+vs.length<=d.size/\
  dk x (s.setRow r { row with es:=row.es.set i (ef e off cs) }) a (w.setRow g (d.toList.take (i*row.sz+off)++vs++d.toList.drop (i*row.sz+off+vs.length)).toArray) m:=by
 have k:=(h.rows r row S).cells hsz;obtain⟨G,k1,k2,k3⟩:=k.own;have I:i<row.es.length:=(OG.1 hi).1;have hbg:=bZ k1 L;rcases k1.2 with⟨e0,_⟩|⟨t,H,d,M,e2,e3,e4,e5,e6,e7⟩
 ·rw[e0]at L;cases L
 rw[M]at L;simp[Value.ownBlock]at L;subst L;have hxl:G.length=row.es.length*row.sz:=k1.1
 have hpos:i*row.sz+off+vs.length<=row.es.length*row.sz:=by
  have:(i+1)*row.sz<=row.es.length*row.sz:=Oz _ I;rw[P7,Q7]at this;omega
 have hcs:row.es.length*row.sz<=d.size:=by rw[e6];exact Oz _ e4
 have O:i*row.sz+off+vs.length<=d.toList.length:=by simp;omega
 refine⟨d,e3,by omega,?_⟩;have Z:e.length=row.sz:=k.len i e hi;have C: ∀o,¬m.S t o:=k.fresh he t (by rw[M];rfl);have hb:Below x.w.heap.size w (w.setRow t (ef d.toList (i*row.sz+off) vs).toArray):=⟨rfl,rfl,rfl,by simp,fun q z=>QS w t q _ (by omega)⟩;refine h.reset r row _ S rfl hb (fun b o A=> .block (QS w t b _ (fun e=>C o (e ▸ A)))) (fun q U hne z W l=>QS w t W _ (fun e=>h.inj r q row U S z (Py hne) t (by rw[M];rfl) (e ▸ l))) ?_ fun b hf=>QS w t b _ fun e=>h.Z3 r row S t (by rw[M];rfl) (e ▸ hf)
 have T: ∀(p:Nat)(E:List AV),(row.es.set i (ef e off cs))[p]? =some E->E.length=row.sz:=fun p E hp=>by
  rw[Pg]at hp;by_cases ep:i=p
  ·rw[OL ep,OL I]at hp;cases hp;rw[dP _ _ _ (by omega),Z]
  rw[OK ep]at hp;exact k.len p E hp
 have K:m.ρ r= .slice (some ⟨t,0,none⟩) row.es.length H:=M
 have B: ∀ {v:Value}{c:AV},(if row.pure then RV m.S w v c else RL w m s v c)->(if row.pure then RV m.S (w.setRow t (ef d.toList (i*row.sz+off) vs).toArray) v c else RL (w.setRow t (ef d.toList (i*row.sz+off) vs).toArray) m (s.setRow r { row with es:=row.es.set i (ef e off cs) }) v c):=fun {v c} A=>by
  have N: ∀b o,m.S b o->m.S b o/\k0 w (w.setRow t (ef d.toList (i*row.sz+off) vs).toArray) b o:=fun b o A=>⟨A, .block (QS w t b _ (fun e=>C o (e ▸ A)))⟩;split at A
  ·rename_i hp;rw[OL hp];exact A.mono N
  rename_i hp;rw[OK hp];refine A.mono N (fun _=>OO _) fun q V _ z=> ?_;by_cases eq:q=r
  ·subst eq;simp only[St.setRow,aE,OH]at z;subst z;exact⟨row,S,rfl,rfl⟩
  simp only[St.setRow,ct _ _ _ eq]at z;exact⟨V,z,rfl,rfl⟩
 refine .inl ⟨k.pos,T,⟨ef G (i*row.sz+off) vs,⟨?_, .inr ⟨t,H,_,?_,e2,Re w t d _ row.e _ e3,?_,e5,?_,?_⟩⟩,?_,?_⟩,?_,?_,?_⟩
 ·rw[dP _ _ _ (by omega),hxl];simp
 ·rw[K];simp
 ·simpa using e4
 ·rw[QI];show (ef d.toList (i*row.sz+off) vs).length=H*row.sz;rw[dP _ _ _ O,P2,e6]
 ·show ((ef d.toList (i*row.sz+off) vs).toArray.toList.take ((row.es.set i (ef e off cs)).length*row.sz))=ef G (i*row.sz+off) vs;apply PM;intro q;rw[QO,Rz,Om,bj d.toList _ _ O,bj G _ _ (by omega)];have hx: ∀q,q<row.es.length*row.sz->G[q]? =d.toList[q]? :=fun q z=>by rw[<-e7,Om,OL z]
  split
  ·rename_i z;split
   ·exact(hx q z).symm
   split
   ·rfl
   exact(hx q z).symm
  rename_i z;rw[OK (by omega),OK (by omega),OT (by omega)]
 ·intro u hu;simp only[ef,Of]at hu;rcases hu with(hu|hu)|hu
  ·exact k2 u (Ph hu)
  ·exact h1 u hu
  exact k2 u (Qf hu)
 ·intro p j c y;have R:=eL T y;simp only[QO]at R;show ∃u,(ef G (i*row.sz+off) vs)[p*row.sz+j]? =some u/\_;rw[bj _ _ _ (by omega)]
  have hold: ∀D,bt row.es p j=some D->D=c->(¬(p=i/\off<=j/\j<off+cs.length))-> ∃u,(if p*row.sz+j<i*row.sz+off then G[p*row.sz+j]? else if p*row.sz+j<i*row.sz+off+vs.length then vs[p*row.sz+j-(i*row.sz+off)]? else G[p*row.sz+j]?)=some u/\(if row.pure then RV m.S (w.setRow t (ef d.toList (i*row.sz+off) vs).toArray) u c else RL (w.setRow t (ef d.toList (i*row.sz+off) vs).toArray) m (s.setRow r { row with es:=row.es.set i (ef e off cs) }) u c):=fun D X Y hno=>by
   subst Y;obtain⟨u,h4,h5⟩:=k3 p j D X;refine⟨u,?_,B h5⟩;split
   ·exact h4
   rename_i hge;rw[OK ?_]
   ·exact h4
   intro hlt2;apply hno;rcases RF p i with hp|hp|hp
   ·have:=kg (n:=i) hp R.2;omega
   ·subst hp;omega
   have:=kg (i:=i) (j:=off+vs.length-1) (n:=p) (sz:=row.sz) hp (by have:=k.pos;omega);have:(i+1)*row.sz<=p*row.sz:=Oz _ hp;rw[P7,Q7]at this;omega
  by_cases J:p=i
  ·subst J
   have f:(ef e off cs)[j]? =some c:=by
    unfold bt at y;rw[Rf I]at y;exact y
   rw[bj _ _ _ (by omega)]at f;have P: ∀D,e[j]? =some D->bt row.es p j=some D:=fun D A=>by unfold bt;rw[hi];exact A
   by_cases j1:j<off
   ·rw[OL j1]at f;exact hold c (P c f) rfl (by omega)
   rw[OK j1]at f;by_cases j2:j<off+cs.length
   ·rw[OL j2]at f;have Q:j-off<vs.length:=by omega
    refine⟨vs[j-off],?_,B (hc (j-off) _ c (OE Q) f)⟩;rw[OK (by omega),OL (by omega),show p*row.sz+j-(p*row.sz+off)=j-off by omega,OE Q]
   rw[OK j2]at f;exact hold c (P c f) rfl (by omega)
  have f:bt row.es p j=some c:=by
   unfold bt at y |-;rw[RG (Py J)]at y;exact y
  exact hold c f rfl (fun A=>J A.1)
 ·intro E;simp only[St.setRow]at E;rw[he]at E;cases E
 ·intro W l o ho;rw[K]at l;simp[Value.ownBlock]at l;subst l;exact C o
 intro _ W l o;rw[K]at l;simp[Value.ownBlock]at l;subst l;exact C o
end
section
section
variable {P:Program} (w:World)
theorem fG(base:Nat)(t O e:TypeId)(i:TypeInfo)(z:Value)(size s:Nat)(L:P.underlying t=some (.slice e))(hi:P.info? e=some i)(Z:i.zero=some z)
 (G:i.size=size)(S:i.bytes=s)(X:z.cells.size=size)(hsz:0<size)
 (v:Value)(n:Nat)(xs:List Value)(d:w.ownsRow base e size v n xs)
 (A:Option Addr)(m c:Nat)(b:List Value)(D:b.length=m*size)(E:0<m-> ∃a,A=some a/\ ∀j u,b[j]? =some u->w.cell? (a.add j)=some u)(h1: ∀u∈b,u.oneCell'=true)
 (I:n+m<=maxLen)(o:(n+m)*s<=140737488355328)(B:base<=w.heap.size):
 ∃Q w',(Builtin.append_ #[t,t] O #[v, .slice A m c]).run P w= .ok Q w'/\w'.ownsRow base e size Q (n+m) (xs++b)/\
  ((Q.ownBlock=v.ownBlock/\w.grownBy w' v.ownBlock)\/(Q.ownBlock=some w.heap.size/\w.grownBy w' none)):=by
 have M:(n+m)=n->b=[]:=fun hh=>Ox (by rw[D,show m=0 by omega];simp);by_cases hm:m=0
 ·subst hm;have W:=M rfl;subst W;refine⟨v,w,?_,by simpa using d, .inl ⟨rfl,PL w _⟩⟩;rcases d.2 with⟨rfl,rfl⟩|⟨g,q,y,rfl,_,_,K,_⟩
  ·cases A<;>simp[Builtin.append_,OV L,sizeOf,typeInfo,hi,Builtin.lenOf,Builtin.firstCells,loadCells,loadCellsFrom]
  cases A<;>simp[Builtin.append_,OV L,sizeOf,typeInfo,hi,Builtin.lenOf,Builtin.firstCells,K,storeCells,loadCells,loadCellsFrom]
 obtain⟨a,rfl,h⟩:=E (by omega);subst G;subst S;have N:n+m<=9223372036854775807:=by simp only[maxLen]at I;omega
 have p:(xs++b).length=(n+m)*i.size:=by rw[ON,d.1,D,P7]
 have x: ∀(f:Nat),f<n+m->
  (w.drew.alloc (.cells (xs.toArray++b.toArray++Builtin.zeroCells z.cells (grownCap w (n+m) f e-(n+m))) e)).ownsRow base e i.size
   (.slice (some ⟨w.heap.size,0,none⟩) (n+m) (grownCap w (n+m) f e)) (n+m) (xs++b)/\
  w.grownBy (w.drew.alloc (.cells (xs.toArray++b.toArray++Builtin.zeroCells z.cells (grownCap w (n+m) f e-(n+m))) e)) none:=by
  intro f ho;have U:=T7 w (n+m) f e;have C:grownCap w (n+m) f e<=maxLen:=Sw w (n+m) f e I;refine⟨⟨p, .inr ⟨w.heap.size,_,_,rfl,B,heap_alloc_new w.drew _,U,C,?_,?_⟩⟩,⟨rfl,rfl,rfl,by simp,fun k V _=>Pj w.drew _ k V⟩⟩
  ·simp only[Array.size_append,QI,Sx,X,d.1,D, <-P7]
   congr 1
   omega
  simp only[Array.toList_append,O1];rw[<-O1, <-p];exact T8
 rcases d.2 with⟨rfl,rfl⟩|⟨g,q,y,rfl,R,Y,K,C,T,H⟩
 ·have hx:xs=[]:=Ox (by simpa using d.1);subst hx;have E:=run_append_nil (P:=P) w t O e i z L hi Z a m c b D h (by omega) (by omega) (by have hb:=o;simp only[PR]at hb;omega);have r:=x 0 (by omega);simp only[PR,QE,Array.empty_append]at r |-;exact⟨_,_,E,r.1,Or.inr ⟨rfl,r.2⟩⟩
 by_cases l:n+m<=q
 ·have J:n*i.size+b.length<=y.size:=by rw[D,T, <-P7];exact Oz _ l
  have E:=run_append_room (P:=P) w t O e i L hi g n q y Y a m c b D h h1 l J;refine⟨_,_,E,⟨p, .inr ⟨g,q,_,rfl,R,Re w g y _ e _ Y,l,C,?_,?_⟩⟩,Or.inl ⟨rfl,⟨rfl,rfl,rfl,by simp,fun k _ V=>QS w g k _ (fun e=>V (by simp[Value.ownBlock,e]))⟩⟩⟩
  ·simp only[QI,ON,OZ,QF,P2];omega
  rw[H, <-p];exact T8
 have holds: ∀j u,xs[j]? =some u->w.cell? ((⟨g,0,none⟩:Addr).add j)=some u:=d.cells (g:=g) rfl;have E:=run_append_grow (P:=P) w t O e i z L hi Z ⟨g,0,none⟩ n q xs d.1 holds a m c b D h (by omega) (by omega) (T9 (by omega) o);have r:=x q (by omega);exact⟨_,_,E,r.1,Or.inr ⟨rfl,r.2⟩⟩
end
section
variable {P:Program} (w:World)
theorem rD(base:Nat)(t K e:TypeId)(i:TypeInfo)(z:Value)(size h:Nat)(O:P.underlying t=some (.slice e))(hi:P.info? e=some i)(R:i.zero=some z)
 (s:i.size=size)(E:i.bytes=h)(J:z.cells.size=size)
 (D:Option Addr)(n:Nat)(xs:List Value)(p:xs.length=n*size)(Q:0<n-> ∃a,D=some a/\ ∀j u,xs[j]? =some u->w.cell? (a.add j)=some u)
 (A:Option Addr)(m c:Nat)(b:List Value)(B:b.length=m*size)(y:0<m-> ∃a,A=some a/\ ∀j u,b[j]? =some u->w.cell? (a.add j)=some u)(W:0<m)
 (x:n+m<=maxLen)(f:(n+m)*h<=140737488355328)(r:base<=w.heap.size):
 ∃L w',(Builtin.append_ #[t,t] K #[.slice D n n, .slice A m c]).run P w= .ok L w'/\w'.ownsRow base e size L (n+m) (xs++b)/\
  L.ownBlock=some w.heap.size/\w.grownBy w' none:=by
 obtain⟨a,rfl,o⟩:=y W;subst s;subst E;have C:n+m<=9223372036854775807:=by simp only[maxLen]at x;omega
 have q:(xs++b).length=(n+m)*i.size:=by rw[ON,p,B,P7]
 have l: ∀(d:Nat),d<n+m->
  (w.drew.alloc (.cells (xs.toArray++b.toArray++Builtin.zeroCells z.cells (grownCap w (n+m) d e-(n+m))) e)).ownsRow base e i.size
   (.slice (some ⟨w.heap.size,0,none⟩) (n+m) (grownCap w (n+m) d e)) (n+m) (xs++b)/\
  w.grownBy (w.drew.alloc (.cells (xs.toArray++b.toArray++Builtin.zeroCells z.cells (grownCap w (n+m) d e-(n+m))) e)) none:=by
  intro d ho;have H:=T7 w (n+m) d e;have G:grownCap w (n+m) d e<=maxLen:=Sw w (n+m) d e x;refine⟨⟨q, .inr ⟨w.heap.size,_,_,rfl,r,heap_alloc_new w.drew _,H,G,?_,?_⟩⟩,⟨rfl,rfl,rfl,by simp,fun k V _=>Pj w.drew _ k V⟩⟩
  ·simp only[Array.size_append,QI,Sx,J,p,B, <-P7]
   congr 1
   omega
  simp only[Array.toList_append,O1];rw[<-O1, <-q];exact T8
 cases D with
 | none=>
   have I:n=0:=RD fun Y=>by obtain⟨a,e,_⟩:=Q (by omega);cases e
   subst I;have v:xs=[]:=Ox (by simpa using p);subst v;have y:=run_append_nil (P:=P) w t K e i z O hi R a m c b B o (by omega) (by omega) (by have U:=f;simp only[PR]at U;omega);have g:=l 0 (by omega);simp only[PR,QE,Array.empty_append]at g |-;exact⟨_,_,y,g.1,rfl,g.2⟩
 | some M=>
   have holds: ∀j u,xs[j]? =some u->w.cell? (M.add j)=some u:=fun j u N=>by
    by_cases X:0<n
    ·obtain⟨Z,S,T⟩:=Q X;cases S;exact T j u N
    have v:xs=[]:=Ox (by rw[p,show n=0 by omega,Qp]);subst v;simp at N
   have y:=run_append_grow (P:=P) w t K e i z O hi R M n n xs p holds a m c b B o (by omega) (by omega) (T9 (by omega) f);have g:=l n (by omega);exact⟨_,_,y,g.1,rfl,g.2⟩
end
def mU(es Us:List (List AV))(i j:Nat):bt (es++Us) i j=if i<es.length then bt es i j else bt Us (i-es.length) j:=by
 unfold bt;by_cases h:i<es.length
 ·rw[OL h,Oq h]
 rw[OK h,Og (by omega)]
def dk.grow{x:rk}{s:St}{a:Act}{w w':World}{m:k9}(h:dk x s a w m)(r:Nat)(row:Row)(hr:s.rows r=some row)(hrz:row.sz≠0)(hp:row.pure=true)(Us:List (List AV))(xs p:List Value)(C:Value)
 (I:w.ownsRow x.w.heap.size row.e row.sz (m.ρ r) row.es.length xs)(hx1: ∀u∈xs,u.oneCell'=true)(hxc: ∀(i j:Nat)(c:AV),bt row.es i j=some c-> ∃u,xs[i*row.sz+j]? =some u/\RV m.S w u c)
 (hz2: ∀(i:Nat)(e:List AV),Us[i]? =some e->e.length=row.sz)(h1: ∀u∈p,u.oneCell'=true)(hnl:p.length=Us.length*row.sz)
 (Y: ∀(i j:Nat)(c:AV),bt Us i j=some c-> ∃u,p[i*row.sz+j]? =some u/\RV m.S w u c)
 (ho:w'.ownsRow x.w.heap.size row.e row.sz C (row.es.length+Us.length) (xs++p))
 (f:(C.ownBlock=(m.ρ r).ownBlock/\w.grownBy w' (m.ρ r).ownBlock)\/(C.ownBlock=some w.heap.size/\w.grownBy w' none)):
 ∃S',dk x (s.renew r { row with es:=row.es++Us } (s.esc r)) a w' ⟨S',na m.ρ r C⟩/\ ∀b o,m.S b o->S' b o:=by
 have k:=(h.rows r row hr).cells hrz;have hsz:w.heap.size<=w'.heap.size:=by rcases f with⟨_,f⟩|⟨_,f⟩<;>exact f.size
 have hb:Below x.w.heap.size w w':=by
  rcases f with⟨_,f⟩|⟨_,f⟩
  ·exact(Oy _ _).grown f h.bel.size (fun q K=>(bZ I K).1)
  exact(Oy _ _).grown f h.bel.size (fun q K=>by cases K)
 have H: ∀b o,m.S b o->k0 w w' b o:=fun b o d=>by
  have n:=h.low b o d;by_cases D:(m.ρ r).ownBlock=some b
  ·rcases f with⟨t,f⟩|⟨t,f⟩
   ·have hlo:o<row.es.length*row.sz:=by
     rcases QN o (row.es.length*row.sz) with q|q
     ·exact q
     exact absurd d (k.spare b D o q)
    have J:o<xs.length:=by rw[I.1];exact hlo
    have U:=iU I D o xs[o] (OE J);have V:=iU ho (t.trans D) o xs[o] (by rw[Oq J];exact OE J);obtain⟨cur,fr,L⟩:=JN I D;exact .cells L (V.trans U.symm)
   exact .block (f.block b n (by simp))
  rcases f with⟨t,f⟩|⟨t,f⟩
  ·exact .block (f.block b n (fun e=>D e.symm))
  exact .block (f.block b n (by simp))
 obtain⟨S',v⟩: ∃S':Nat->Nat->Prop,S'=fun b o=>m.S b o\/(s.esc r=true/\C.ownBlock=some b/\o< (row.es.length+Us.length)*row.sz):=⟨_,rfl⟩;have A: ∀b o,m.S b o->S' b o/\k0 w w' b o:=fun b o d=>⟨by rw[v];exact .inl d,H b o d⟩
 have P: ∀q B,q≠r->s.rows q=some B-> ∀g,(m.ρ q).ownBlock=some g->w'.heap[g]? =w.heap[g]? /\C.ownBlock≠some g/\ ∀o,S' g o->m.S g o:=fun q B hne K g M=>by
  have n:g<w.heap.size:=by
   exact((h.rows q B K).blk M).2
  have O:(m.ρ r).ownBlock≠some g:=fun e=>h.inj r q row B hr K (Py hne) g e M
  have R:C.ownBlock≠some g:=by
   rcases f with⟨t,_⟩|⟨t,_⟩
   ·rw[t];exact O
   rw[t];intro e;injection e with e;omega
  refine⟨?_,R,fun o d=> ?_⟩
  ·rcases f with⟨t,f⟩|⟨t,f⟩
   ·exact f.block g n (fun e=>O e.symm)
   exact f.block g n (by simp)
  rw[v]at d;rcases d with d|⟨_,d,_⟩
  ·exact d
  exact absurd d R
 have Z: ∀b,x.fx b->w'.heap[b]? =w.heap[b]? /\(∀o,S' b o->m.S b o)/\C.ownBlock≠some b:=fun b hf=>by
  have n:=h.fxlt hf;have N:(m.ρ r).ownBlock≠some b:=fun e=>h.Z3 r row hr b e hf
  have Q:C.ownBlock≠some b:=by
   rcases f with⟨t,_⟩|⟨t,_⟩
   ·rw[t];exact N
   rw[t];intro e;injection e with e;omega
  refine⟨?_,fun o d=> ?_,Q⟩
  ·rcases f with⟨t,f⟩|⟨t,f⟩
   ·exact f.block b n (fun e=>N e.symm)
   exact f.block b n (by simp)
  rw[v]at d;rcases d with d|⟨_,d,_⟩
  ·exact d
  exact absurd d Q
 have S: ∀(i:Nat)(e:List AV),(row.es++Us)[i]? =some e->e.length=row.sz:=fun i e y=>by
  by_cases T:i<row.es.length
  ·rw[Oq T]at y;exact k.len i e y
  rw[Og (by omega)]at y;exact hz2 _ e y
 have z: ∀g,C.ownBlock=some g-> ∀o,m.S g o->o<row.es.length*row.sz/\s.esc r=true:=fun g l o d=>by
  rcases f with⟨t,_⟩|⟨t,_⟩
  ·rw[t]at l;refine⟨?_,?_⟩
   ·rcases QN o (row.es.length*row.sz) with q|q
    ·exact q
    exact absurd d (k.spare g l o q)
   ·cases y:s.esc r with
    |true=>rfl
    |false=>exact absurd d (k.fresh y g l o)
  rw[t]at l;injection l with l
  have:=h.low g o d;omega
 refine⟨S',h.renew r _ (s.esc r) C S' hb A (fun b o d=> ?_) P (.inl ⟨k.pos,S,⟨xs++p,?_,?_,fun i j c hc=> ?_⟩,?_,?_,?_⟩) Z,fun b o d=>(A b o d).1⟩
 ·rw[v]at d;rcases d with d|⟨_,d,_⟩
  ·exact .inl d
  exact .inr (bZ ho d)
 ·show w'.ownsRow x.w.heap.size row.e row.sz (na m.ρ r C r) (row.es++Us).length (xs++p);rw[aE,ON];exact ho
 ·intro u hu;rcases Of.1 hu with hu|hu
  ·exact hx1 u hu
  exact h1 u hu
 ·show ∃u,(xs++p)[i*row.sz+j]? =some u/\(if row.pure then _ else _);have n:=eL S hc;have E:bt (row.es++Us) i j=some c:=hc;rw[mU]at E;split at E
  ·rename_i T;obtain⟨u,W,X⟩:=hxc i j c E;refine⟨u,?_,?_⟩
   ·rw[Oq (by rw[I.1];exact kg T n.2)];exact W
   rw[OL hp];exact X.mono A
  rename_i T;obtain⟨u,W,X⟩:=Y _ j c E;refine⟨u,?_,?_⟩
  ·have U:i*row.sz+j-row.es.length*row.sz=(i-row.es.length)*row.sz+j:=by
    rw[Nat.sub_mul];have:row.es.length*row.sz<=i*row.sz:=Oz _ (by omega);omega
   have V:row.es.length*row.sz<=i*row.sz+j:=by
    have:row.es.length*row.sz<=i*row.sz:=Oz _ (by omega);omega
   rw[Og (by rw[I.1];exact V),I.1,U];exact W
  rw[OL hp];exact X.mono A
 ·intro y g l o G;simp only[St.renew,aE]at y l;simp only[ON]at G;rw[v];exact .inr ⟨y,l,G⟩
 ·intro g l o G d;simp only[aE]at l;simp only[ON,P7]at G;rw[v]at d;rcases d with d|⟨_,_,d⟩
  ·have:=(z g l o d).1;omega
  rw[P7]at d;omega
 intro y g l o d;simp only[St.renew,aE]at y l;rw[v]at d;rcases d with d|⟨d,_⟩
 ·rw[(z g l o d).2]at y;cases y
 rw[d]at y;cases y
end
section
inductive Kd where
 |int (k:IntKind)
 |bool
 |string
 |slice (e:TypeId) (esz ebytes:Nat) (ez:List Value)
 |ptr
 |iface
 |struct (fs:List (Nat×TypeId×Nat)) (eq:Bool)
 |arr (n:Nat) (e:TypeId) (esz:Nat)
 |map (k e:TypeId) (z:Value)
 |other
structure Wv where
 kd:Kd
 size:Nat
 zero:List Value
def su(P:Program)(t:TypeId):TypeDesc->Option Kd
 | .int k=>some (.int k)
 | .bool=>some .bool
 | .string=>some .string
 | .pointer _=>some .ptr
 | .interface _=>some .iface
 | .slice e=>match P.info? e with
   | some a=>match a.zero with
     |some z=>some (.slice e a.size a.bytes z.cells.toList)
     |none=>none
   |none=>none
 | .struct b=>match b.toList.mapM (fun f=>(P.info? f.type).map fun i=>(f.offset,f.type,i.size)) with
   |some l=>some (.struct l (!P.eqGuardType P.depth t&& !P.stoodInHeld t&&b.toList.all (fun f=>f.name≠ "_")))
   |none=>none
 | .array n e=>match P.info? e with
   |some a=>some (.arr n e a.size)
   |none=>none
 | .map k e=>match P.info? e with
   | some a=>match a.zero with
     |some z=>some (.map k e z)
     |none=>none
   |none=>none
 |_=>some .other
def eg(P:Program)(t:TypeId):Option Wv:=
 match P.info? t,P.underlying t with
 | some i,some d=>match i.zero,su P t d with
   |some z,some k=>some ⟨k,i.size,z.cells.toList⟩
   |_,_=>none
 |_,_=>none
inductive Rd(α:Type) where
 |ret (a:α)
 |fail
 |look (r:Nat) (k:Option Row->Nat->Rd α)
 |esc (r:Nat) (k:Bool->Rd α)
def Rd.bind{c d:Type} :Rd c->(c->Rd d)->Rd d
 | .ret a,k=>k a
 | .fail,_=> .fail
 | .look r j,k=> .look r fun o v=>(j o v).bind k
 | .esc r j,k=> .esc r fun b=>(j b).bind k
def Rd.run{b:Type} :Rd b->St->Option b
 | .ret a,_=>some a
 | .fail,_=>none
 | .look r k,s=>(k (s.rows r) (s.vs r)).run s
 | .esc r k,s=>(k (s.esc r)).run s
def Rd.run_bind{c d:Type}(m:Rd c)(k:c->Rd d)(s:St):(m.bind k).run s=(m.run s).bind fun a=>(k a).run s:=by
 induction m with
 |ret a=>rfl
 |fail=>rfl
 |look r j b=>exact b _ _
 |esc r j b=>exact b _
def Rd.row{b:Type}(r a:Nat)(k:Row->Rd b):Rd b:= .look r fun o v=>match o with
 |some row=>if v=a/\row.sz≠0 then k row else .fail
 |none=> .fail
def AV.bare:AV->Bool
 | .row .. | .loc .. | .mp .. | .sub .. =>false
 | .agg cs=>bareL cs
 | .tuple cs=>bareL cs
 | .clo _ cs=>bareL cs
 |_=>true
where bareL:List AV->Bool
 |[]=>true
 |c::cs=>c.bare&&bareL cs
def pD: ∀ {cs:List AV},AV.bare.bareL cs=true-> ∀(i:Nat)(c:AV),cs[i]? =some c->c.bare=true
 |[],_,i,c,a=>by simp at a
 | d::cs,h,i,c,a=>by
   simp only[AV.bare.bareL,OJ]at h;cases i with
   |zero=>simp at a;subst a;exact h.1
   |succ i=>exact pD h.2 i c (by simpa using a)
def RL.bare{w:World}{m:k9}{s:St}{v:Value}{c:AV}(h:RL w m s v c)(b:c.bare=true):RV m.S w v c:=by
 induction h with
 |val h=>exact h
 |agg k d h l e j=>exact .agg k d h l fun i v c f a=>j i v c f a (pD (by simpa only[AV.bare]using b) i c a)
 |tuple k d h e j=>exact .tuple k d h fun i v c f a=>j i v c f a (pD (by simpa only[AV.bare]using b) i c a)
 |row=>simp[AV.bare]at b
 |loc=>simp[AV.bare]at b
 |mp=>simp[AV.bare]at b
 |sub=>simp[AV.bare]at b
 |clo g k d h e j=>exact .clo g k d h fun i v c f a=>j i v c f a (pD (by simpa only[AV.bare]using b) i c a)
def Rd.map{b:Type}(r a:Nat)(k:Row->Rd b):Rd b:= .look r fun o v=>match o with
 |some row=>if v=a/\row.sz=0 then k row else .fail
 |none=> .fail
inductive CT where
 |renew (r:Nat) (row:Row)
 |grow (r:Nat) (row:Row)
 |set (r:Nat) (row:Row)
 |show (r:Nat)
def CT.app:CT->St->St
 | .renew r row,s=>s.renew r row false
 | .grow r row,s=>s.renew r row (s.esc r)
 | .set r row,s=>s.setRow r row
 | .show r,s=>s.show r
structure Out where
 val:AV
 Z2:List CT
def dd:List CT->St->St
 |[],s=>s
 |e::a,s=>dd a (e.app s)
def Out.app(o:Out)(d:Option Nat)(s:St):St:=(dd o.Z2 s).put d o.val
def AV.ofVal:Value->AV
 | .agg a=>if a.toList.all (·.oneCell') then .agg (a.toList.map .lit) else .any
 |v=> .lit v
def gt(env:b7)(f:Nat->AV):Operand->AV
 | .tmp t=>f t
 | .const v=> .ofVal v
 | .global g=>match env g with
   |some c=> .ref 1 [[c]] 0 0
   |none=> .lit (.pointer (some ⟨g,0,none⟩))
 | .func g=> .lit (.func (.func g) #[] #[])
def AV.asCells:AV->Option (List AV)
 | .agg a=>some a
 | .any | .tuple _ | .own .. =>none
 | .lit v=>if v.oneCell' then some [.lit v] else none
 |c=>some [c]
def AV.plain:AV->Bool
 | .row .. | .loc .. | .mp .. | .agg _ | .own .. | .tuple _ | .clo .. | .sub .. =>false
 |_=>true
def AV.soft(c:AV):AV:=if c.plain then c else .any
def cS:AV->Rd (AV×List Nat)
 | .row r a=>Rd.row r a fun row=>if row.pure then .ret (.seq row.sz row.es,[r]) else .fail
 | .loc r a i off=>Rd.row r a fun row=>if row.pure||row.es.all (·.all AV.plain) then .ret (.ref row.sz row.es i off,[r]) else .ret (.ref row.sz (row.es.map (·.map AV.soft)) i off,[r])
 | .sub r a b=>Rd.row r a fun row=>if row.pure=true/\b<=row.es.length then .ret (.seq row.sz (row.es.drop b),[r]) else .fail
 | .own .. | .agg _ | .tuple _ | .mp .. | .clo .. => .fail
 |c=> .ret (c,[])
def eJ:List AV->Rd (List AV×List Nat)
 |[]=> .ret ([],[])
 |c::a=>(cS c).bind fun x=>(eJ a).bind fun y=> .ret (x.1::y.1,x.2++y.2)
def fz:AV->Rd (AV×List Nat)
 | .agg a=>(eJ a).bind fun x=> .ret (.agg x.1,x.2)
 | .clo g a=>(eJ a).bind fun x=> .ret (.clo g x.1,x.2)
 |c=>cS c
def g4(l:List Nat):List CT:=l.map .show
def mA(d:Option Nat)(t:TypeId)(cs:List AV):Rd Out:=match d with
 |some d=>if 0<cs.length then .look d fun _ v=> .ret ⟨.loc d (v+1) 0 0,[.renew d ⟨cs.length,[cs],t,false⟩]⟩ else .fail
 |none=> .fail
def eV(P:Program)(t:TypeId)(e:Option (List AV))(off:Nat):Rd Out:=
 match eg P t,e with
 |some ⟨.struct ..,n,_⟩,some a|some ⟨.arr ..,n,_⟩,some a=>if off+n<=a.length then .ret ⟨.agg ((a.drop off).take n),[]⟩ else .fail
 | some _,some a=>match a[off]? with
   |some c=> .ret ⟨c,[]⟩
   |none=> .fail
 |_,_=> .fail
def pQ(P:Program)(t:TypeId)(a x:AV):Rd Out:=
 match a,eg P t with
 | .loc r f i off,some d=>Rd.row r f fun row=> .esc r fun b=>if b then .fail else
  match row.es[i]? with
  |some e=>if row.pure then(fz x).bind fun y=>match y.1.asCells with
   |some c=>if c.length=d.size/\off+c.length<=row.sz/\y.2.all (· != r) then .ret ⟨.any,g4 y.2++[.set r { row with es:=row.es.set i (ef e off c) }]⟩ else .fail
   |none=> .fail
    else match x.asCells with
     |some c=>if c.length=d.size/\off+c.length<=row.sz then .ret ⟨.any,[.set r { row with es:=row.es.set i (ef e off c) }]⟩ else .fail
     |none=> .fail
  |none=> .fail
 |_,_=> .fail
def mM(d:List (Nat×TypeId×Nat)):List AV->List (Nat×AV)->Option (List AV)
 |b,[]=>some b
 | b,(i,x)::a=>match d[i]?,x.asCells with
   |some (off,_,n),some c=>if c.length=n/\off+c.length<=b.length then mM d (ef b off c) a else none
   |_,_=>none
def jD(sz:Nat):List (List AV)->List (Nat×AV)->Option (List (List AV))
 |es,[]=>some es
 | es,(i,x)::a=>match x.asCells with
   |some b=>if b.length=sz/\i<es.length then jD sz (es.set i b) a else none
   |none=>none
def eI:List (Nat×AV)->Rd (List (Nat×AV)×List Nat)
 |[]=> .ret ([],[])
 |(i,x)::a=>(fz x).bind fun y=>(eI a).bind fun z=> .ret ((i,y.1)::z.1,y.2++z.2)
def bL(s:ByteArray):List UInt8:=s.data.toList
def cT(P:Program)(t:TypeId):AV->AV->Option Bool
 | .lit (.int k a), .lit (.int c b)=>match eg P t with
   |some ⟨.int _,_,_⟩=>if k=c then some (a==b) else none
   |_=>none
 | .lit (.string a), .lit (.string b)=>match eg P t with
   |some ⟨.string,_,_⟩=>some (bL a==bL b)
   |_=>none
 | .lit (.bool a), .lit (.bool b)=>match eg P t with
   |some ⟨.bool,_,_⟩=>some (a==b)
   |_=>none
 |_,_=>none
def rX(P:Program)(xs c:List AV):List (Nat×TypeId×Nat)->Option Bool
 |[]=>some true
 |(o,t,_)::d=>match xs[o]?,c[o]? with
   | some a,some b=>match cT P t a b,rX P xs c d with
     |some p,some q=>some (p&&q)
     |_,_=>none
   |_,_=>none
def ji:Nat->List (Nat×TypeId×Nat)->Bool
 |_,[]=>true
 |i,f::a=>f.1==i&&ji (i+1) a
def cH(P:Program)(k:TypeId)(a b:AV):Option Bool:=match eg P k with
 | some ⟨.struct c true,n,_⟩=>match a,b with
   | .agg d, .agg e=>if (ji 0 c&&c.length==n&&d.length==n&&e.length==n)=true then rX P d e c else none
   |_,_=>none
 |_=>cT P k a b
def tR(P:Program)(k:TypeId)(x:AV):List (List AV)->Nat->Option (Option Nat)
 |[],_=>some none
 | [b,_]::a,i=>match cH P k x b with
   |some true=>some (some i)
   |some false=>tR P k x a (i+1)
   |none=>none
 |_::_,_=>none
def tc(c:BinOp)(k:IntKind)(a b:Int):Int:=match c with
 | .and=>k.wrap (BitVec.ofInt k.bits a&&& BitVec.ofInt k.bits b).toNat
 | .or=>k.wrap (BitVec.ofInt k.bits a||| BitVec.ofInt k.bits b).toNat
 | .xor=>k.wrap (BitVec.ofInt k.bits a ^^^ BitVec.ofInt k.bits b).toNat
 | .andNot=>k.wrap (BitVec.ofInt k.bits a&&& ~~~(BitVec.ofInt k.bits b)).toNat
 |_=>a
def Ia(P:Program)(d:BinOp)(t:TypeId)(h i:Bool):AV->AV->Option AV
 | .lit (.int k a), .lit (.int c b)=>
   match d with
   | .add=>if k=c then some (.lit (.int k (k.wrap (a+b)))) else none
   | .sub=>if k=c then some (.lit (.int k (k.wrap (a-b)))) else none
   | .mul=>if k=c then some (.lit (.int k (k.wrap (a*b)))) else none
   | .quo=>if k=c/\b≠0 then some (.lit (.int k (k.wrap (a.tdiv b)))) else none
   | .rem=>if k=c/\b≠0 then some (.lit (.int k (a.tmod b))) else none
   | .eql=>if k=c then some (.lit (.bool (a==b))) else none
   | .neq=>if k=c then some (.lit (.bool (a != b))) else none
   | .lss=>if k=c then some (.lit (.bool (a<b))) else none
   | .leq=>if k=c then some (.lit (.bool (a<=b))) else none
   | .gtr=>if k=c then some (.lit (.bool (a>b))) else none
   | .geq=>if k=c then some (.lit (.bool (a>=b))) else none
   | .and=>if k=c then some (.lit (.int k (tc .and k a b))) else none
   | .or=>if k=c then some (.lit (.int k (tc .or k a b))) else none
   | .xor=>if k=c then some (.lit (.int k (tc .xor k a b))) else none
   | .andNot=>if k=c then some (.lit (.int k (tc .andNot k a b))) else none
   | .shl=>if 0<=b then some (.lit (.int k (k.wrap (a*2^min b.toNat k.bits)))) else none
   | .shr=>if 0<=b then some (.lit (.int k (a.fdiv (2^min b.toNat k.bits)))) else none
 | .lit (.string a), .lit (.string b)=>
   match d with
   | .add=>if (bL a).length+(bL b).length<=9223372036854775807 then some (.lit (.string ⟨(bL a++bL b).toArray⟩)) else none
   | .eql=>some (.lit (.bool (bL a==bL b)))
   | .neq=>some (.lit (.bool (!(bL a==bL b))))
   | .lss=>some (.lit (.bool (Op.bytesLess (bL a) (bL b))))
   | .leq=>some (.lit (.bool (Op.bytesLess (bL a) (bL b)||bL a==bL b)))
   | .gtr=>some (.lit (.bool (!(Op.bytesLess (bL a) (bL b)||bL a==bL b))))
   | .geq=>some (.lit (.bool (!Op.bytesLess (bL a) (bL b))))
   |_=>none
 | .lit (.bool a), .lit (.bool b)=>
   match d,eg P t with
   | .eql,some ⟨.bool,_,_⟩=>some (.lit (.bool (a==b)))
   | .neq,some ⟨.bool,_,_⟩=>some (.lit (.bool (!(a==b))))
   |_,_=>none
 | .lit .nilIface, .lit .nilIface=>
   match d,eg P t,h||i with
   | .eql,some ⟨.iface,_,_⟩,true=>some (.lit (.bool true))
   | .neq,some ⟨.iface,_,_⟩,true=>some (.lit (.bool false))
   |_,_,_=>none
 | .iface _ _, .lit .nilIface | .lit .nilIface, .iface _ _=>
   match d,eg P t with
   | .eql,some ⟨.iface,_,_⟩=>some (.lit (.bool false))
   | .neq,some ⟨.iface,_,_⟩=>some (.lit (.bool true))
   |_,_=>none
 | .lit (.pointer none), .lit (.pointer none)=>
   match d,eg P t with
   | .eql,some ⟨.ptr,_,_⟩=>some (.lit (.bool true))
   | .neq,some ⟨.ptr,_,_⟩=>some (.lit (.bool false))
   |_,_=>none
 | .ref .., .lit (.pointer none) | .lit (.pointer none), .ref .. =>
   match d,eg P t with
   | .eql,some ⟨.ptr,_,_⟩=>some (.lit (.bool false))
   | .neq,some ⟨.ptr,_,_⟩=>some (.lit (.bool true))
   |_,_=>none
 | .agg f, .agg g=>
   match d,eg P t with
   | .eql,some ⟨.struct e true,_,_⟩=>(rX P f g e).map fun b=> .lit (.bool b)
   | .neq,some ⟨.struct e true,_,_⟩=>(rX P f g e).map fun b=> .lit (.bool (!b))
   |_,_=>none
 |_,_=>none
def jS(x:AV):Rd (Nat×List (List AV)):=match x with
 | .seq c b=> .ret (c,b)
 | .lit (.slice _ 0 _)=> .ret (0,[])
 | .row r a=>Rd.row r a fun row=> .ret (row.sz,row.es)
 |_=> .fail
def Vy(b:UInt8):List AV:=[.lit (.int .u8 (b.toNat:Int))]
def byteOf:List AV->Option UInt8
 |[.lit (.int .u8 n)]=>if 0<=n/\n<256 then some (UInt8.ofNat n.toNat) else none
 |_=>none
def DE:List (List AV)->Option (List UInt8)
 |[]=>some []
 | e::a=>match byteOf e,DE a with
   |some b,some l=>some (b::l)
   |_,_=>none
def N': ∀l:List UInt8,DE (l.map Vy)=some l
 |[]=>rfl
 | b::l=>by
   have a:byteOf (Vy b)=some b:=by
    have:=b.toNat_lt;simp only[Vy,byteOf];rw[OL ⟨by omega,by omega⟩];simp
   simp only[PE,DE,a,N' l]
def vH(P:Program)(b a:TypeId)(x:AV):Rd Out:=
 match x,eg P b,eg P a with
 | .lit (.int _ n),some _,some ⟨.int k,_,_⟩=> .ret ⟨.lit (.int k (k.wrap n)),[]⟩
 | .lit (.string s),some _,some ⟨.string,_,_⟩=> .ret ⟨.lit (.string s),[]⟩
 | .lit (.string s),some ⟨.string,_,_⟩,some ⟨.slice e _ _ _,_,_⟩=>match eg P e with
   |some ⟨.int .u8,_,_⟩=> .ret ⟨.seq 1 ((bL s).map Vy),[]⟩
   |_=> .fail
 | x,some ⟨.slice e _ _ _,_,_⟩,some ⟨.string,_,_⟩=>match eg P e with
   | some ⟨.int .u8,_,_⟩=>(fz x).bind fun y=>(jS y.1).bind fun q=>if q.1=1\/q.2=[] then match DE q.2 with
     |some l=> .ret ⟨.lit (.string ⟨l.toArray⟩),g4 y.2⟩
     |none=> .fail else .fail
   |_=> .fail
 |_,_,_=> .fail
def zM(P:Program)(t:TypeId)(x:AV):Rd Out:=
 match x,eg P t with
 | .lit (.string s),some ⟨.string,_,_⟩=> .ret ⟨.lit (.int .i64 (bL s).length),[]⟩
 | .mp r a,some ⟨.map ..,_,_⟩=>Rd.map r a fun row=> .ret ⟨.lit (.int .i64 row.es.length),[]⟩
 |x,some ⟨.slice ..,_,_⟩=>(jS x).bind fun q=> .ret ⟨.lit (.int .i64 q.2.length),[]⟩
 |_,_=> .fail
def yx(z:Value):Bool:=match z with
 | .slice .. =>false
 |_=>true
def ja(P:Program)(d:Option Nat)(t:TypeId):Rd Out:=match eg P t,d with
 |some ⟨.map _ _ z,_,_⟩,some d=> .look d fun _ v=> .ret ⟨.mp d (v+1),[.renew d ⟨0,[],t,yx z⟩]⟩
 |_,_=> .fail
def lS(P:Program)(t:TypeId)(x k:AV)(b:Bool):Rd Out:=match x,eg P t with
 | .mp r d,some ⟨.map a _ z,_,_⟩=>Rd.map r d fun row=>if (cH P a k k).isSome/\(row.pure|| !b)=true then
  match tR P a k row.es 0 with
  | some (some i)=>match row.es[i]? with
    |some [_,c]=> .ret ⟨if b then .tuple [c, .lit (.bool true)] else c,[]⟩
    |_=> .fail
  |some none=> .ret ⟨if b then .tuple [.ofVal z, .lit (.bool false)] else .ofVal z,[]⟩
  |none=> .fail
   else .fail
 | .fmap e,some ⟨.map a _ z,_,_⟩=>if (cH P a k k).isSome then
  match tR P a k e 0 with
  | some (some i)=>match e[i]? with
    |some [_,c]=> .ret ⟨if b then .tuple [c, .lit (.bool true)] else c,[]⟩
    |_=> .fail
  |some none=> .ret ⟨if b then .tuple [.ofVal z, .lit (.bool false)] else .ofVal z,[]⟩
  |none=> .fail
   else .fail
 |_,_=> .fail
def fq(P:Program)(t:TypeId)(x k v:AV):Rd Out:=match x,eg P t with
 | .mp r a,some ⟨.map b _ _,_,_⟩=>Rd.map r a fun row=>if (cH P b k k).isSome/\k.bare=true/\(!row.pure||v.bare)=true then
  match tR P b k row.es 0 with
  |some (some i)=> .ret ⟨.any,[.set r { row with es:=row.es.set i [k,v] }]⟩
  |some none=> .ret ⟨.any,[.set r { row with es:=row.es++[[k,v]] }]⟩
  |none=> .fail
   else .fail
 |_,_=> .fail
def iJ(P:Program)(t:TypeId)(x k:AV):Rd Out:=match x,eg P t with
 | .mp r a,some ⟨.map b _ z,_,_⟩=>Rd.map r a fun row=>if (cH P b k k).isSome/\k.bare=true then
  match tR P b k row.es 0 with
  | some (some i)=>match row.es[i]? with
    |some [_,c]=> .ret ⟨.tuple [c, .lit (.int .i64 i)],[.set r { row with es:=row.es.set i [k,c] }]⟩
    |_=> .fail
  |some none=> .ret ⟨.tuple [.ofVal z, .lit (.int .i64 row.es.length)],[.set r { row with es:=row.es++[[k, .ofVal z]] }]⟩
  |none=> .fail
   else .fail
 |_,_=> .fail
def eS(x n v:AV):Rd Out:=match x,n with
 | .mp r a, .lit (.int _ n)=>Rd.map r a fun row=>if 0<=n/\(!row.pure||v.bare)=true then
  match row.es[n.toNat]? with
  |some [b,_]=> .ret ⟨.any,[.set r { row with es:=row.es.set n.toNat [b,v] }]⟩
  |_=> .fail
   else .fail
 |_,_=> .fail
def jm(P:Program)(t:TypeId)(x k:AV):Rd Out:=match x,eg P t with
 | .mp r a,some ⟨.map b _ _,_,_⟩=>Rd.map r a fun row=>if (cH P b k k).isSome then
  match tR P b k row.es 0 with
  |some none=> .ret ⟨.any,[]⟩
  |some (some _)=> .fail
  |none=> .fail
   else .fail
 |_,_=> .fail
def fv(P:Program)(t:TypeId)(x i:AV):Rd Out:=
 match x,i,eg P t with
 | .seq d c, .lit (.int _ i),some ⟨.slice _ a _ _,_,_⟩=>if 0<=i/\i<c.length/\a=d then .ret ⟨.ref d c i.toNat 0,[]⟩ else .fail
 | .row r b, .lit (.int _ i),some ⟨.slice _ a _ _,_,_⟩=>Rd.row r b fun row=>if 0<=i/\i<row.es.length/\a=row.sz then .ret ⟨.loc r b i.toNat 0,[]⟩ else .fail
 |_,_,_=> .fail
def gA(P:Program)(t:TypeId)(x:AV)(i:Nat):Rd Out:=
 match x,eg P t with
 | .ref d c j off,some ⟨.struct b _,_,_⟩=>match b[i]? with
   |some (o,_,n)=>if n=0 then .fail else .ret ⟨.ref d c j (off+o),[]⟩
   |none=> .fail
 | .loc r a j off,some ⟨.struct b _,_,_⟩=>match b[i]? with
   |some (o,_,n)=>if n=0 then .fail else Rd.row r a fun _=> .ret ⟨.loc r a j (off+o),[]⟩
   |none=> .fail
 |_,_=> .fail
def pT(P:Program)(t:TypeId)(x:AV)(i:Nat):Option AV:=
 match x,eg P t with
 | .agg a,some ⟨.struct b _,_,_⟩=>match b[i]? with
   | some (o,c,n)=>match eg P c with
     |some ⟨.struct ..,_,_⟩|some ⟨.arr ..,_,_⟩=>if o+n<=a.length then some (.agg ((a.drop o).take n)) else none
     |some _=>a[o]?
     |none=>none
   |none=>none
 |_,_=>none
def pS(P:Program)(t:TypeId)(x i:AV):Option AV:=
 match x,i,eg P t with
 | .lit (.string s), .lit (.int _ i),some ⟨.string,_,_⟩=>if 0<=i then match (bL s)[i.toNat]? with
   |some b=>some (.lit (.int .u8 b.toNat))
   |none=>none else none
 |_,_,_=>none
def An(l:Nat)(d:Nat):Option AV->Option Nat
 |none=>some d
 |some (.lit (.int _ i))=>if 0<=i/\i<=l then some i.toNat else none
 |some _=>none
def iW(b:Nat)(x:AV)(lo hi:Option AV):Rd Out:=(fz x).bind fun y=>match y.1 with
 | .seq c a=>if b=c then match An a.length a.length hi with
   | some h=>match An h 0 lo with
     |some l=> .ret ⟨.seq c ((a.drop l).take (h-l)),g4 y.2⟩
     |none=> .fail
   |none=> .fail else .fail
 |_=> .fail
def pR(P:Program)(t:TypeId)(x:AV)(lo hi:Option AV):Rd Out:=
 match x,eg P t with
 | .lit (.string s),some ⟨.string,_,_⟩=>match An (bL s).length (bL s).length hi with
   | some h=>match An h 0 lo with
     |some l=> .ret ⟨.lit (.string ⟨(((bL s).drop l).take (h-l)).toArray⟩),[]⟩
     |none=> .fail
   |none=> .fail
 | x,some ⟨.slice _ a _ _,_,_⟩=>match x,lo,hi with
   | .row r c,none,some (.lit (.int _ i))=> .esc r fun b=>if b then iW a x lo hi else Rd.row r c fun row=>
    if a=row.sz/\row.pure=true/\0<=i/\i<=row.es.length then .ret ⟨.row r (c+1),[.grow r { row with es:=row.es.take i.toNat }]⟩ else .fail
   | .row r c,some (.lit (.int _ i)),none=> .esc r fun b=>if b then iW a x lo hi else Rd.row r c fun row=>
    if a=row.sz/\row.pure=true/\0<=i/\i<=row.es.length then .ret ⟨.sub r c i.toNat,[]⟩ else .fail
   |_,_,_=>iW a x lo hi
 |_,_=> .fail
def vG(P:Program)(t:TypeId)(x:AV)(lo hi:Option AV)(mx:AV):Rd Out:=
 match eg P t,lo,hi,mx with
 | some ⟨.slice _ b _ _,_,_⟩,none,some (.lit (.int _ i)), .lit (.int _ k)=>(fz x).bind fun y=>match y.1 with
   | .seq c a=>if b=c/\i=a.length/\k=a.length then .ret ⟨.full c a,g4 y.2⟩ else if b=c/\i=k/\0<=i/\i<=a.length then .ret ⟨.full c (a.take i.toNat),g4 y.2⟩ else .fail
   |_=> .fail
 |_,_,_,_=> .fail
def ek(n a:Nat):Prop:=n*a<=140737488355328/\n<=9223372036854775807
instance (n a:Nat):Decidable (ek n a):=inferInstanceAs (Decidable (_/\_))
def aG{n a:Nat}(b:n<=4096)(c:a<=4096):ek n a:=by
 have:n*a<=4096*4096:=Nat.mul_le_mul b c;exact⟨by omega,by omega⟩
def jo(P:Program)(d:Option Nat)(t:TypeId)(x y:AV):Rd Out:=
 match eg P t with
 | some ⟨.slice e a c g,_,_⟩=>if g.length≠a\/a=0 then .fail else
   (fz y).bind fun z=>(jS z.1).bind fun q=>if q.1≠a/\q.2≠[] then .fail else
    match x with
    | .lit (.slice none 0 0)=>match d with
      |some d=>if ek q.2.length c then .look d fun _ v=> .ret ⟨.row d (v+1),g4 z.2++[.renew d ⟨a,q.2,e,true⟩]⟩ else .fail
      |none=> .fail
    | .row r b=>Rd.row r b fun row=>if row.pure/\row.sz=a/\row.e=e/\ek (row.es.length+q.2.length) c then
     .ret ⟨.row r (b+1),g4 z.2++[.grow r { row with es:=row.es++q.2 }]⟩ else .fail
    | .full h f=>match d with
      |some d=>if h=a/\0<q.2.length/\ek (f.length+q.2.length) c then .look d fun _ v=> .ret ⟨.row d (v+1),g4 z.2++[.renew d ⟨a,f++q.2,e,true⟩]⟩ else .fail
      |none=> .fail
    |_=> .fail
 |_=> .fail
def mP(P:Program)(t:TypeId)(x:AV):Rd Out:=
 match x,eg P t with
 | .sub r e d,some ⟨.slice _ a _ c,_,_⟩=> .esc r fun b=>if b then .fail else Rd.row r e fun row=>
  if (a=row.sz/\c.length=a/\c.all (·.oneCell')=true)/\row.pure=true/\d<=row.es.length then .ret ⟨.any,[.set r { row with es:=row.es.take d++List.replicate (row.es.length-d) (c.map .lit) }]⟩ else .fail
 |_,_=> .fail
def vE(P:Program)(d:Option Nat)(t:TypeId)(l c:AV):Rd Out:=
 match eg P t,l,c,d with
 | some ⟨.slice e a f b,_,_⟩, .lit (.int _ n), .lit (.int _ g),some d=>
   if b.length≠a\/a=0\/n≠g\/n<0\/16777216<n\/281474976710656< (f:Int)*n\/ ¬b.all (·.oneCell') then .fail else
    .look d fun _ v=> .ret ⟨.row d (v+1),[.renew d ⟨a,List.replicate n.toNat (b.map .lit),e,true⟩]⟩
 |_,_,_,_=> .fail
def N8(k:IntKind)(n:Int):Int:=k.wrap ((BitVec.ofInt k.bits (if k.signed then -1 else k.max) ^^^ BitVec.ofInt k.bits n).toNat:Nat)
def cO:Operand->Bool
 | .const _=>true
 |_=>false
def iH{b:Type} :Option b->(b->Rd Out)->Rd Out
 |some a,k=>k a
 |none,_=> .fail
def val(c:AV):Rd Out:= .ret ⟨c,[]⟩
def rP:List AV->Option (List Value)
 |[]=>some []
 | .lit v::l=>(rP l).map (v:: ·)
 |_=>none
def mL(g:FuncId)(cap:Bool)(a:List AV):Rd Out:=match cap,rP a with
 |true,some b=>val (.lit (.func (.func g) b.toArray #[]))
 |_,_=> .fail
def vI(P:Program)(c:BinOp)(t:TypeId)(e f:Bool)(a b:AV):Rd Out:=match a,b with
 | .loc r d _ _, .lit (.pointer none)=>Rd.row r d fun _=>match c,eg P t with
   | .eql,some ⟨.ptr,_,_⟩=>val (.lit (.bool false))
   | .neq,some ⟨.ptr,_,_⟩=>val (.lit (.bool true))
   |_,_=> .fail
 | .lit (.slice A _ _), .lit (.slice none _ _)=>match c,eg P t with
   | .eql,some ⟨.slice _ _ _ _,_,_⟩=>val (.lit (.bool A.isNone))
   | .neq,some ⟨.slice _ _ _ _,_,_⟩=>val (.lit (.bool (!A.isNone)))
   |_,_=> .fail
 | .seq _ (_::_), .lit (.slice none _ _)=>match c,eg P t with
   | .eql,some ⟨.slice _ _ _ _,_,_⟩=>val (.lit (.bool false))
   | .neq,some ⟨.slice _ _ _ _,_,_⟩=>val (.lit (.bool true))
   |_,_=> .fail
 |a,b=>iH (Ia P c t e f a b) val
def Dd(x y:AV):Rd Out:=match x,y with
 | .lit (.int k a), .lit (.int c b)=>if k=c then val (.lit (.int k (if b<a then b else a))) else .fail
 |_,_=> .fail
def De(x y:AV):Rd Out:=match x,y with
 | .lit (.int k a), .lit (.int c b)=>if k=c then val (.lit (.int k (if a<b then b else a))) else .fail
 |_,_=> .fail
def aY(P:Program)(env:b7)(f:Nat->AV)(o:Oper):Rd Out:=
 match o.op with
 | .move x=>val (gt env f x)
 | .assign x=>val (gt env f x)
 | .pick c a b=>match gt env f c with
   | .lit (.bool true)=>val (gt env f a)
   | .lit (.bool false)=>val (gt env f b)
   |_=> .fail
 | .alloc t=>match eg P t with
   |some d=>if d.zero.length=d.size/\d.zero.all (·.oneCell') then mA o.dst t (d.zero.map .lit) else .fail
   |none=> .fail
 | .box t x=>iH (gt env f x).asCells (mA o.dst t)
 | .build t parts=>match eg P t with
   |some ⟨.struct E _,n,z⟩=>if z.length=n/\z.all (·.oneCell') then iH (mM E (z.map .lit) (parts.toList.map fun p=>(p.1,gt env f p.2))) fun u=>val (.agg u) else .fail
   |_=> .fail
 | .buildSlice t n parts=>match eg P t,o.dst with
   |some ⟨.slice e j _ A,_,_⟩,some d=>if A.length=j/\0<j/\A.all (·.oneCell')/\n*j<=16777216 then
    (eI (parts.toList.map fun p=>(p.1,gt env f p.2))).bind fun q=>iH (jD j (List.replicate n (A.map .lit)) q.1) fun s=>
     .look d fun _ v=> .ret ⟨.row d (v+1),g4 q.2++[.renew d ⟨j,s,e,true⟩]⟩ else .fail
   |_,_=> .fail
 | .load t a=>match gt env f a with
   | .ref _ s i off=>eV P t s[i]? off
   | .loc r m i off=>Rd.row r m fun row=>eV P t row.es[i]? off
   |_=> .fail
 | .store t a x=>pQ P t (gt env f a) (gt env f x)
 | .nilCheck x=>match gt env f x with
   | .ref I s i off=>val (.ref I s i off)
   | .loc r m i off=>Rd.row r m fun _=>val (.loc r m i off)
   |_=> .fail
 | .binOp D t x y _=>vI P D t (cO x) (cO y) (gt env f x) (gt env f y)
 | .unOp D _ x=>match D,gt env f x with
   | .not, .lit (.bool b)=>val (.lit (.bool (!b)))
   | .neg, .lit (.int k n)=>val (.lit (.int k (k.wrap (0-n))))
   | .xor, .lit (.int k n)=>val (.lit (.int k (N8 k n)))
   |_,_=> .fail
 | .convert src w x=>vH P src w (gt env f x)
 | .makeInterface t x=>match eg P t with
   |some ⟨.iface,_,_⟩=> .fail
   |some _=>(fz (gt env f x)).bind fun y=> .ret ⟨.iface t y.1,g4 y.2⟩
   |none=> .fail
 | .makeSlice t l c=>vE P o.dst t (gt env f l) (gt env f c)
 | .makeFunc (.func g) first h=>if first.isEmpty/\ !h.isEmpty then val (.clo g (h.toList.map (gt env f))) else if first.isEmpty then val (.lit (.func (.func g) #[] #[])) else mL g h.isEmpty (first.toList.map (gt env f))
 | .makeMap t none=>ja P o.dst t
 | .lookup t x k H=>lS P t (gt env f x) (gt env f k) H
 | .mapUpdate t x k v=>fq P t (gt env f x) (gt env f k) (gt env f v)
 | .mapEntry t x k=>iJ P t (gt env f x) (gt env f k)
 | .entryStore _ x n v=>eS (gt env f x) (gt env f n) (gt env f v)
 | .slice t x C B none=>pR P t (gt env f x) (C.map (gt env f)) (B.map (gt env f))
 | .slice t x C B (some G)=>vG P t (gt env f x) (C.map (gt env f)) (B.map (gt env f)) (gt env f G)
 | .fieldAddr t x i=>gA P t (gt env f x) i
 | .field t x i=>iH (pT P t (gt env f x) i) val
 | .indexAddr t x i=>fv P t (gt env f x) (gt env f i)
 | .index t x i=>iH (pS P t (gt env f x) (gt env f i)) val
 | .extract x i=>match gt env f x with
   | .tuple u=>iH u[i]? val
   |_=> .fail
 | .call { callee:= .builtin b,args,argTypes } =>match b,args.toList,argTypes.toList with
   | .len,[x],[t]=>zM P t (gt env f x)
   | .append,[x,y],[t,J]=>if t=J then jo P o.dst t (gt env f x) (gt env f y) else .fail
   | .min,[x,y],_=>Dd (gt env f x) (gt env f y)
   | .max,[x,y],_=>De (gt env f x) (gt env f y)
   | .clear,[x],[t]=>mP P t (gt env f x)
   | .delete,[x,k],[t,_]=>jm P t (gt env f x) (gt env f k)
   |_,_,_=> .fail
 |_=> .fail
end
section
def dh(P:Program)(x:rk)(s:St)(a:Act)(w:World)(o:Oper)(b:Out):Prop:=
 ∃c d e v,(execOp a.eval o).run P w= .ok c d/\(c= .value v\/c= .skip/\v=undef)/\dk x (dd b.Z2 s) a d e/\RL d e (dd b.Z2 s) v b.val
section
variable {w:World} {m:k9} {s:St} {v:Value}
theorem RL.lit_{u:Value}(h:RL w m s v (.lit u)):v=u:=by
 cases h with|val h=>cases h;rfl
theorem RL.seq_{sz:Nat}{es:List (List AV)}(h:RL w m s v (.seq sz es)):RV m.S w v (.seq sz es):=by
 cases h with|val h=>exact h
theorem RL.ref_{sz:Nat}{es:List (List AV)}{i off:Nat}(h:RL w m s v (.ref sz es i off)):RV m.S w v (.ref sz es i off):=by
 cases h with|val h=>exact h
theorem RL.iface_{t:TypeId}{c:AV}(h:RL w m s v (.iface t c)): ∃u,v= .iface t u/\RV m.S w u c:=by
 cases h with|val h=>cases h with|iface t u c h=>exact⟨u,rfl,h⟩
theorem RL.tuple_{cs:List AV}(h:RL w m s v (.tuple cs)): ∃vs:List Value,v= .tuple vs.toArray/\vs.length=cs.length/\ ∀(i:Nat)(v:Value)(c:AV),vs[i]? =some v->cs[i]? =some c->RL w m s v c:=by
 cases h with
 |val h=>cases h with|tuple vs cs h a=>exact⟨vs,rfl,h,fun i v c d b=> .val (a i v c d b)⟩
 |tuple vs cs h a=>exact⟨vs,rfl,h,a⟩
theorem RL.agg_{cs:List AV}(h:RL w m s v (.agg cs)): ∃vs:List Value,v= .agg vs.toArray/\vs.length=cs.length/\(∀v∈vs,v.oneCell'=true)/\ ∀(i:Nat)(v:Value)(c:AV),vs[i]? =some v->cs[i]? =some c->RL w m s v c:=by
 cases h with
 |val h=>cases h with|agg vs cs h a b=>exact⟨vs,rfl,h,a,fun i v c e d=> .val (b i v c e d)⟩
 |agg vs cs h a b=>exact⟨vs,rfl,h,a,b⟩
theorem RL.sub_{r a lo:Nat}(h:RL w m s v (.sub r a lo)):a<=s.vs r/\(s.vs r=a-> ∀row,s.rows r=some row->v=UO (m.ρ r) (lo*row.sz) lo):=by
 cases h with
 |val h=>cases h
 |sub r a lo c b h=>exact⟨b,h⟩
theorem RL.clo_{g:FuncId}{cs:List AV}(h:RL w m s v (.clo g cs)): ∃vs:List Value,v= .func (.func g) #[] vs.toArray/\vs.length=cs.length/\ ∀(i:Nat)(v:Value)(c:AV),vs[i]? =some v->cs[i]? =some c->RL w m s v c:=by
 cases h with
 |val h=>cases h with|clo g vs cs h a=>exact⟨vs,rfl,h,fun i v c d b=> .val (a i v c d b)⟩
 |clo g vs cs h a=>exact⟨vs,rfl,h,a⟩
theorem RL.fmap_{es:List (List AV)}(h:RL w m s v (.fmap es)):RV m.S w v (.fmap es):=by
 cases h with|val h=>exact h
theorem RL.full_{sz:Nat}{es:List (List AV)}(h:RL w m s v (.full sz es)):RV m.S w v (.full sz es):=by
 cases h with|val h=>exact h
theorem RL.news_{n sz:Nat}{es:List (List AV)}(h:RL w m s v (.news n sz es)):RV m.S w v (.news n sz es):=by
 cases h with|val h=>exact h
theorem RL.row_{r a:Nat}(h:RL w m s v (.row r a)):a<=s.vs r/\(s.vs r=a-> ∀row,s.rows r=some row->v=m.ρ r):=by
 cases h with
 |val h=>cases h
 |row r a c b h=>exact⟨b,h⟩
theorem RL.loc_{r a i off:Nat}(h:RL w m s v (.loc r a i off)):a<=s.vs r/\(s.vs r=a-> ∀row,s.rows r=some row-> ∃g,(m.ρ r).ownBlock=some g/\v= .pointer (some ⟨g,i*row.sz+off,none⟩)):=by
 cases h with
 |val h=>cases h
 |loc r a i off c b h=>exact⟨b,h⟩
end
def dk.old{x:rk}{s:St}{a:Act}{w:World}{m:k9}(h:dk x s a w m){v:Value}{c:AV}(e:RV x.S x.w v c):RV m.S w v c:=
 e.mono fun b o d=>⟨h.ZR b o d,h.bel.stay (h.ZV b o d)⟩
def t7(c:AV)(i j:Nat)(a:AV)(h:bt [[c]] i j=some a):i=0/\j=0/\a=c:=by
 unfold bt at h;cases i with
 | zero=>
   cases j with
   |zero=>exact⟨rfl,rfl,by simpa using h.symm⟩
   |succ j=>simp at h
 |succ i=>simp at h
def ao{x:rk}{s:St}{a:Act}{w:World}{m:k9}(h:dk x s a w m)(o:Operand):RL w m s (a.eval o) (gt x.env s.f o):=by
 cases o with
 |tmp t=>exact h.slot t
 | const v=>
   show RL w m s v (AV.ofVal v);cases v with
   | agg r=>
     obtain⟨l⟩:=r;show RL w m s (.agg l.toArray) (if l.toArray.toList.all (·.oneCell') then .agg (l.toArray.toList.map .lit) else .any);split
     ·rename_i B;refine .val (.agg l _ (by simp) (fun v n=>(OP.1 B) v (by simpa using n)) fun i v c n b=> ?_);rw[Rz,OS,n]at b;simp only[O0,OH]at b;subst b;exact .lit v
     exact .val (.any _)
   |_=>exact .val (.lit _)
 | global g=>
   show RL w m s (.pointer (some ⟨g,0,none⟩)) (match x.env g with|some c=> .ref 1 [[c]] 0 0|none=> .lit (.pointer (some ⟨g,0,none⟩)));cases C:x.env g with
   |none=>exact .val (.lit _)
   | some c=>
     obtain⟨u,y,z,q,A⟩:=h.env g c C
     have:=RV.ref (S:=m.S) (w:=w) 1 [[c]] 0 0 g 0 (fun _ _=>u) (fun i e k=>by
      cases i with
      |zero=>simp at k;subst k;rfl
      | succ i=>simp at k) (fun i j d b=>by
        obtain⟨rfl,rfl,rfl⟩:=t7 c i j d b;exact⟨h.ZR _ _ q,(h.bel.cell (p:=⟨g,0,none⟩) (h.ZV g 0 q)).trans y,z⟩) (fun i j d b=>by
        obtain⟨rfl,rfl,rfl⟩:=t7 c i j d b
        exact h.old A)
     exact .val this
 |func f=>exact .val (.lit _)
/-! Types -/
def gF{P:Program}{t:TypeId}{d:Wv}(h:eg P t=some d): ∃i a z,P.info? t=some i/\P.underlying t=some a/\i.zero=some z/\su P t a=some d.kd/\i.size=d.size/\z.cells.toList=d.zero:=by
 unfold eg at h;split at h
 ·rename_i i a b e;split at h
  ·rename_i z k f c;cases h;exact⟨i,a,z,b,e,f,c,rfl,rfl⟩
  cases h
 cases h
def Kd.isRow:Kd->Bool
 | .struct .. | .arr .. =>true
 |_=>false
def uQ{P:Program}{t:TypeId}{a:TypeDesc}{k:Kd}(h:su P t a=some k):a.isRow=k.isRow:=by
 cases a<;>simp only[su]at h<;>(repeat' split at h)<;>cases h<;>rfl
def rC{P:Program}{t:TypeId}{c:TypeDesc}(w:World)(b o:Nat)(v:Value)(e:P.underlying t=some c)(f:c.isRow=false)(d:w.cell? ⟨b,o,none⟩=some v):
 (Instr.loadAt t (.pointer (some ⟨b,o,none⟩))).run P w= .ok v w:=by
 have a:(isAgg t).run P w= .ok false w:=by
  unfold isAgg;rw[Oc,OV e w];cases c<;>simp_all[TypeDesc.isRow]
 simp only[Instr.loadAt,Instr.sureAddr,loadVar,Oc,PF,OX,a,On,P8,run_load,d]
def wn{P:Program}{a:Act}{w:World}{o:Oper}{t:TypeId}{y:Operand}(b:o.op= .load t y){v:Value}(h:(Instr.loadAt t (a.eval y)).run P w= .ok v w):(execOp a.eval o).run P w= .ok (.value v) w:=by
 unfold execOp;simp only[b,Oc,h,OX,PF]
def l6{P:Program}{t:TypeId}{w:World}{m:k9}{s:St}{cs:List AV}{off b p:Nat}{a:Out}(u:Nat->Value)(A: ∀(j:Nat)(c:AV),cs[j]? =some c->w.cell? ⟨b,p+j,none⟩=some (u j)/\(u j).oneCell'=true/\RL w m s (u j) c)
 (h:(eV P t (some cs) off).run s=some a): ∃v,(Instr.loadAt t (.pointer (some ⟨b,p+off,none⟩))).run P w= .ok v w/\RL w m s v a.val/\a.Z2=[]:=by
 unfold eV at h;cases B:eg P t with
 |none=>rw[B]at h;simp[Rd.run]at h
 | some d=>
   obtain⟨i,L,z,J,G,O,D,E,_⟩:=gF B;have o:=uQ D;obtain⟨k,n,Q⟩:=d;rw[B]at h;simp only at E D o
   have row: ∀(l:k.isRow=true)(g:(if off+n<=cs.length then Rd.ret (⟨.agg ((cs.drop off).take n),[]⟩:Out) else .fail).run s=some a),∃v,(Instr.loadAt t (.pointer (some ⟨b,p+off,none⟩))).run P w= .ok v w/\RL w m s v a.val/\a.Z2=[]:=by
    intro l g;split at g
    ·rename_i K;simp only[Rd.run,OH]at g;subst g;have C: ∀j,j<n-> ∃c,cs[off+j]? =some c:=fun j C=>⟨cs[off+j],OE (by omega)⟩;have N:((List.range n).map fun j=>u (off+j)).length=n:=by simp
     refine⟨_,run_loadAt_mid w b (p+off) t ((List.range n).map fun j=>u (off+j)) L (fun j v f=> ?_) G (by rw[o,l]) (by rw[J];simp[E]), .agg _ _ (by simp;omega) (fun v f=> ?_) fun j v c f y=> ?_,rfl⟩
     ·have e:j<n:=by
       rcases QN j n with q|q
       ·exact q
       rw[OT (by simpa using q)]at f;cases f
      rw[OS,Pn e]at f;simp only[O0,OH]at f;subst f;obtain⟨c,r⟩:=C j e;rw[QY];exact(A _ c r).1
     ·simp only[OW,Oh]at f;obtain⟨j,e,rfl⟩:=f;obtain⟨c,r⟩:=C j e;exact(A _ c r).2.1
     have e:j<n:=by
      rcases QN j n with q|q
      ·exact q
      rw[OT (by simpa using q)]at f;cases f
     rw[OS,Pn e]at f;simp only[O0,OH]at f;subst f;rw[Om,OL e,PY]at y;exact(A _ c y).2.2
    simp[Rd.run]at g
   have one: ∀(l:k.isRow=false)(g:(match cs[off]? with|some c=>Rd.ret (⟨c,[]⟩:Out)|none=> .fail).run s=some a),∃v,(Instr.loadAt t (.pointer (some ⟨b,p+off,none⟩))).run P w= .ok v w/\RL w m s v a.val/\a.Z2=[]:=by
    intro l g;cases x:cs[off]? with
    |none=>rw[x]at g;simp[Rd.run]at g
    | some c=>
      rw[x]at g;simp only[Rd.run,OH]at g;subst g;obtain⟨H,M,I⟩:=A off c x;exact⟨u off,rC w b (p+off) _ G (by rw[o,l]) H,I,rfl⟩
   cases k<;>first|exact row rfl h|exact one rfl h
def C7{P:Program}{x:rk}{s:St}{a:Act}{w:World}{m:k9}{o:Oper}{t:TypeId}{y:Operand}{B:Out}(L:o.op= .load t y)(E:dk x s a w m)(h:(aY P x.env s.f o).run s=some B):dh P x s a w o B:=by
 have R:=ao E y;unfold aY at h;simp only[L]at h;generalize gt x.env s.f y=c at*;cases c with
 | ref S H i off=>
   have M:=R.ref_;simp only at h;cases q:H[i]? with
   | none=>
     rw[q]at h;unfold eV at h;cases A:eg P t with
     |none=>rw[A]at h;simp[Rd.run]at h
     |some d=>rw[A]at h;obtain⟨k,n,z⟩:=d;cases k<;>simp[Rd.run]at h
   | some U=>
     rw[q]at h;generalize Q:a.eval y=vy at*;cases M with
     | ref S H i off b p u hz V N=>
       obtain⟨v,D,I,J⟩:=l6 (P:=P) (t:=t) (w:=w) (m:=m) (s:=s) (b:=b) (p:=p+i*S) (fun j=>u i j) (fun j c K=>by
        have l:bt H i j=some c:=by unfold bt;rw[q];exact K
        obtain⟨G,C,q3⟩:=V i j c l
        exact⟨by rw[QY];exact C,q3, .val (N i j c l)⟩) h
       rw[QY]at D;refine⟨_,w,m,v,wn L (by rw[Q];exact D), .inl rfl,?_⟩;rw[J];exact⟨E,I⟩
 | loc r ver i off=>
   obtain⟨_,M⟩:=R.loc_;simp only[Rd.row,Rd.run]at h;cases e:s.rows r with
   |none=>rw[e]at h;simp[Rd.run]at h
   | some row=>
     rw[e]at h;simp only at h;split at h
     ·rename_i f;obtain⟨f,O⟩:=f;obtain⟨g,W,Q⟩:=M f row e;have k:=(E.rows r row e).cells O;obtain⟨T,Y,Z,k3⟩:=k.own;cases q:row.es[i]? with
      | none=>
        rw[q]at h;unfold eV at h;cases A:eg P t with
        |none=>rw[A]at h;simp[Rd.run]at h
        |some d=>rw[A]at h;obtain⟨k,n,z⟩:=d;cases k<;>simp[Rd.run]at h
      | some U=>
        rw[q]at h
        obtain⟨v,D,I,J⟩:=l6 (P:=P) (t:=t) (w:=w) (m:=m) (s:=s) (b:=g) (p:=i*row.sz) (fun j=>T.getD (i*row.sz+j) undef) (fun j c K=>by
         have l:bt row.es i j=some c:=by unfold bt;rw[q];exact K
         obtain⟨u,G,C⟩:=k3 i j c l;have X:T.getD (i*row.sz+j) undef=u:=by simp[List.getD,G]
         rw[X];refine⟨iU Y W _ u G,Z u (OM G),?_⟩;split at C
         ·exact .val C
         exact C) h
        refine⟨_,w,m,v,wn L (by rw[Q];exact D), .inl rfl,?_⟩;rw[J];exact⟨E,I⟩
     simp[Rd.run]at h
 |_=>simp[Rd.run]at h
end
section
def dh.same{P:Program}{x:rk}{s:St}{a:Act}{w:World}{m:k9}{o:Oper}{b:Out}(c:dk x s a w m){v:Value}(h:(execOp a.eval o).run P w= .ok (.value v) w)(d:b.Z2=[])(e:RL w m s v b.val):dh P x s a w o b:=by
 refine⟨_,w,m,v,h, .inl rfl,?_⟩;rw[d];exact⟨c,e⟩
def bE{c:AV}{s:St}{a:Out}(h:(val c).run s=some a):a=⟨c,[]⟩:=by
 simpa[val,Rd.run]using h.symm
def fg{b:Type}{q:Option b}{k:b->Rd Out}{s:St}{a:Out}(h:(iH q k).run s=some a): ∃y,q=some y/\(k y).run s=some a:=by
 cases q with
 |none=>simp[iH,Rd.run]at h
 |some y=>exact⟨y,rfl,h⟩
section
variable {P:Program} {x:rk} {s:St} {a:Act} {w:World} {m:k9} {o:Oper} {out:Out}
theorem C6{y:Operand}(c:o.op= .move y)(b:dk x s a w m)(h:(aY P x.env s.f o).run s=some out):dh P x s a w o out:=by
 unfold aY at h;simp only[c]at h;obtain rfl:=bE h;exact .same b (v:=a.eval y) (by simp[execOp,c]) rfl (ao b y)
theorem xY{y:Operand}(c:o.op= .assign y)(b:dk x s a w m)(h:(aY P x.env s.f o).run s=some out):dh P x s a w o out:=by
 unfold aY at h;simp only[c]at h;obtain rfl:=bE h;exact .same b (v:=a.eval y) (by simp[execOp,c]) rfl (ao b y)
theorem C5{c y z:Operand}(f:o.op= .pick c y z)(d:dk x s a w m)(h:(aY P x.env s.f o).run s=some out):dh P x s a w o out:=by
 have b:=ao d c;unfold aY at h;simp only[f]at h;split at h
 ·rename_i e;rw[e]at b;have b:=b.lit_;obtain rfl:=bE h;exact .same d (v:=a.eval y) (by simp[execOp,f,b,asBool]) rfl (ao d y)
 ·rename_i e;rw[e]at b;have b:=b.lit_;obtain rfl:=bE h;exact .same d (v:=a.eval z) (by simp[execOp,f,b,asBool]) rfl (ao d z)
 simp[Rd.run]at h
theorem C4{f:UnOp}{t:TypeId}{y:Operand}(d:o.op= .unOp f t y)(c:dk x s a w m)(h:(aY P x.env s.f o).run s=some out):dh P x s a w o out:=by
 have b:=ao c y;unfold aY at h;simp only[d]at h;split at h
 ·rename_i e;rw[e]at b;have b:=b.lit_;obtain rfl:=bE h;exact .same c (v:=_) (by simp[execOp,d,b,Op.unary]) rfl (.val (.lit _))
 ·rename_i e;rw[e]at b;have b:=b.lit_;obtain rfl:=bE h;exact .same c (v:=_) (by simp[execOp,d,b,Op.unary,Op.intArith]) rfl (.val (.lit _))
 ·rename_i e;rw[e]at b;have b:=b.lit_;obtain rfl:=bE h;exact .same c (v:=_) (by simp[execOp,d,b,Op.unary,Op.intBits,N8]) rfl (.val (.lit _))
 simp[Rd.run]at h
theorem ut{y:Operand}{i:Nat}(g:o.op= .extract y i)(d:dk x s a w m)(h:(aY P x.env s.f o).run s=some out):dh P x s a w o out:=by
 have j:=ao d y;unfold aY at h;simp only[g]at h;split at h
 ·rename_i q e;rw[e]at j;obtain⟨k,p,n,l⟩:=j.tuple_;obtain⟨c,b,h⟩:=fg h;obtain rfl:=bE h;have f:i<k.length:=by rw[n];exact(OG.1 b).1
  exact .same d (v:=k[i]) (by simp[execOp,g,p,Instr.extract,f]) rfl (l i _ c (OE f) b)
 simp[Rd.run]at h
theorem r9{y:Operand}(l:o.op= .nilCheck y)(k:dk x s a w m)(h:(aY P x.env s.f o).run s=some out):dh P x s a w o out:=by
 have f:=ao k y;unfold aY at h;simp only[l]at h;split at h
 ·rename_i n q i off e;rw[e]at f;obtain rfl:=bE h;have t:=f.ref_;generalize j:a.eval y=E at*;cases t with
  |ref n q i off b p u D C z=>exact .same k (v:= .pointer (some ⟨b,p+(i*n+off),none⟩)) (by simp[execOp,l,j]) rfl f
 ·rename_i r B i off e;rw[e]at f;simp only[Rd.row,Rd.run]at h;cases c:s.rows r with
  |none=>rw[c]at h;simp[Rd.run]at h
  | some row=>
    rw[c]at h;simp only at h;split at h
    ·rename_i d;obtain⟨d,A⟩:=d;obtain rfl:=bE h;obtain⟨g,_,j⟩:=f.loc_.2 d row c;rw[j]at f;exact .same k (v:= .pointer (some ⟨g,i*row.sz+off,none⟩)) (by simp[execOp,l,j]) rfl f
    simp[Rd.run]at h
 simp[Rd.run]at h
end
/-! Types, told apart -/
section
variable {P:Program} {t:TypeId} {n:Nat} {z:List Value}
theorem xx{k:Kd}(h:eg P t=some ⟨k,n,z⟩): ∃a,P.underlying t=some a/\su P t a=some k/\(P.info? t).map (·.size)=some n:=by
 obtain⟨i,a,z,b,e,_,c,d,_⟩:=gF h;exact⟨a,e,c,by rw[b];simp[d]⟩
theorem oT{k:IntKind}(h:eg P t=some ⟨.int k,n,z⟩):P.underlying t=some (.int k):=by
 obtain⟨c,b,a,_⟩:=xx h;cases c<;>simp only[su]at a<;>(repeat' split at a)<;>first|(cases a;exact b)|cases a
theorem lw(h:eg P t=some ⟨.bool,n,z⟩):P.underlying t=some .bool:=by
 obtain⟨c,b,a,_⟩:=xx h;cases c<;>simp only[su]at a<;>(repeat' split at a)<;>first|(cases a;exact b)|cases a
theorem dE(h:eg P t=some ⟨.string,n,z⟩):P.underlying t=some .string:=by
 obtain⟨c,b,a,_⟩:=xx h;cases c<;>simp only[su]at a<;>(repeat' split at a)<;>first|(cases a;exact b)|cases a
theorem lv(h:eg P t=some ⟨.ptr,n,z⟩): ∃e,P.underlying t=some (.pointer e):=by
 obtain⟨c,b,a,_⟩:=xx h;cases c<;>simp only[su]at a<;>(repeat' split at a)<;>first|(cases a;exact⟨_,b⟩)|cases a
theorem je(h:eg P t=some ⟨.iface,n,z⟩): ∃c,P.underlying t=some (.interface c):=by
 obtain⟨d,b,a,_⟩:=xx h;cases d<;>simp only[su]at a<;>(repeat' split at a)<;>first|(cases a;exact⟨_,b⟩)|cases a
theorem bF{e:TypeId}{a d:Nat}{f:List Value}(h:eg P t=some ⟨.slice e a d f,n,z⟩):P.underlying t=some (.slice e)/\ ∃c g,P.info? e=some c/\c.zero=some g/\c.size=a/\c.bytes=d/\g.cells.toList=f:=by
 obtain⟨j,i,b,_⟩:=xx h;cases j<;>simp only[su]at b<;>(repeat' split at b)<;>first|(cases b;exact⟨i,_,_,by assumption,by assumption,rfl,rfl,rfl⟩)|cases b
theorem rO{k e:TypeId}{c:Value}(h:eg P t=some ⟨.map k e c,n,z⟩):P.underlying t=some (.map k e)/\ ∃b,P.info? e=some b/\b.zero=some c:=by
 obtain⟨f,d,a,_⟩:=xx h;cases f<;>simp only[su]at a<;>(repeat' split at a)<;>first|(cases a;exact⟨d,_,by assumption,by assumption⟩)|cases a
theorem eC{c:List (Nat×TypeId×Nat)}{b:Bool}(h:eg P t=some ⟨.struct c b,n,z⟩): ∃f,P.underlying t=some (.struct f)/\f.toList.mapM (fun f=>(P.info? f.type).map fun i=>(f.offset,f.type,i.size))=some c/\b=(!P.eqGuardType P.depth t&& !P.stoodInHeld t&&f.toList.all (fun f=>f.name≠ "_")):=by
 obtain⟨e,d,a,_⟩:=xx h;cases e<;>simp only[su]at a<;>(repeat' split at a)<;>first|(cases a;exact⟨_,d,by assumption,rfl⟩)|cases a
end
def mapM_at{e d:Type}(f:e->Option d): ∀(l:List e)(r:List d),l.mapM f=some r-> ∀(i:Nat)(y:d),r[i]? =some y-> ∃x,l[i]? =some x/\f x=some y
 | [],r,h,i,y,a=>by
   simp only[List.mapM_nil,Rm,OH]at h;subst h;simp at a
 | x::l,r,h,i,y,a=>by
   simp only[Rs,SA,Rm]at h;cases b:f x with
   |none=>simp[b]at h
   | some q=>
     cases c:l.mapM f with
     |none=>simp[b,c]at h
     | some k=>
       simp[b,c]at h;subst h;cases i with
       |zero=>simp at a;subst a;exact⟨x,rfl,b⟩
       |succ i=>obtain⟨m,g,j⟩:=mapM_at f l k c i y (by simpa using a);exact⟨m,by simpa using g,j⟩
def nc{P:Program}{t:TypeId}{a:Array Field}{f:Field}{i n:Nat}{c:TypeInfo}(w:World)(b p:Nat)(j:P.underlying t=some (.struct a))(e:a[i]? =some f)(hi:P.info? f.type=some c)(g:c.size=n)(d:n≠0):
 (Instr.fieldAt t (.pointer (some ⟨b,p,none⟩)) i).run P w= .ok (.pointer (some ⟨b,p+f.offset,none⟩)) w:=by
 have h:(sizeOf f.type).run P w= .ok n w:=by simp[sizeOf,typeInfo,hi,g]
 simp[Instr.fieldAt,OV j,e,Instr.sureAddr,fieldPlace,h,d,Addr.add_mid]
section
variable {P:Program} {x:rk} {s:St} {a:Act} {w:World} {m:k9} {o:Oper} {out:Out}
theorem rB{t:TypeId}{y:Operand}{i:Nat}(V:o.op= .fieldAddr t y i)(O:dk x s a w m)(h:(aY P x.env s.f o).run s=some out):dh P x s a w o out:=by
 have G:=ao O y;unfold aY at h;simp only[V]at h;unfold gA at h
 have L: ∀(A:List (Nat×TypeId×Nat))(C:Bool)(n:Nat)(z:List Value)(p:Nat)(D:TypeId)(q b l:Nat),eg P t=some ⟨.struct A C,n,z⟩->A[i]? =some (p,D,q)->q≠0->a.eval y= .pointer (some ⟨b,l,none⟩)->(execOp a.eval o).run P w= .ok (.value (.pointer (some ⟨b,l+p,none⟩))) w:=by
  intro A C n z p D q b l H d I N;obtain⟨f,hu,hm,_⟩:=eC H;obtain⟨X,Y,E⟩:=mapM_at _ _ _ hm i _ d;cases B:P.info? X.type with
  |none=>rw[B]at E;cases E
  | some ie=>
    rw[B]at E;simp only[O0,OH,RU]at E;have K:=nc (P:=P) w b l hu (by simpa using Y) B E.2.2 I;unfold execOp;simp only[V,N,Oc,K,OX,PF,E.1]
 split at h
 ·rename_i M U j off A C n z e H;rw[e]at G;split at h
  ·rename_i p D q d;split at h
   ·simp[Rd.run]at h
   ·rename_i I;simp only[Rd.run,OH]at h;subst h;have hr:=G.ref_;generalize N:a.eval y=vy at*;cases hr with
    | ref M U j off b l u hz Q S=>
      refine .same O (v:= .pointer (some ⟨b,l+(j*M+(off+p)),none⟩)) ?_ rfl (.val (.ref M U j (off+p) b l u hz Q S));rw[show l+(j*M+(off+p))=l+(j*M+off)+p by omega];exact L A C n z p D q b _ H d I rfl
  simp[Rd.run]at h
 ·rename_i r T j off A C n z e H;rw[e]at G;split at h
  ·rename_i p D q d;split at h
   ·simp[Rd.run]at h
   ·rename_i I;simp only[Rd.row,Rd.run]at h;cases c:s.rows r with
    |none=>rw[c]at h;simp[Rd.run]at h
    | some row=>
      rw[c]at h;simp only at h;split at h
      ·rename_i k;obtain⟨k,hrz⟩:=k;simp only[Rd.run,OH]at h;subst h;obtain⟨R,G⟩:=G.loc_;obtain⟨g,Z,N⟩:=G k row c;refine .same O (v:= .pointer (some ⟨g,j*row.sz+(off+p),none⟩)) ?_ rfl (.loc r T j (off+p) rfl R fun _ W J=>⟨g,Z,by rw[c]at J;cases J;rfl⟩);rw[show j*row.sz+(off+p)=j*row.sz+off+p by omega];exact L A C n z p D q g _ H d I N
      simp[Rd.run]at h
  simp[Rd.run]at h
 simp[Rd.run]at h
theorem zi{t:TypeId}{y:Operand}{i:Nat}(N:o.op= .field t y i)(K:dk x s a w m)(h:(aY P x.env s.f o).run s=some out):dh P x s a w o out:=by
 have U:=ao K y;unfold aY at h;simp only[N]at h;obtain⟨c,b,h⟩:=fg h;obtain rfl:=bE h;unfold pT at b;split at b
 ·rename_i S fs eq n z e X;rw[e]at U;obtain⟨R,r,Y,W,E⟩:=U.agg_;obtain⟨f,T,hm,_⟩:=eC X;split at b
  ·rename_i p ft q L;obtain⟨d,V,D⟩:=mapM_at _ _ _ hm i _ L;have C:f[i]? =some d:=by simpa using V
   cases A:P.info? d.type with
   |none=>rw[A]at D;cases D
   | some Q=>
     rw[A]at D;simp only[O0,OH,RU]at D;obtain⟨rfl,rfl,rfl⟩:=D
     have agg: ∀(u:TypeDesc),P.underlying d.type=some u->u.isRow=true->(if d.offset+Q.size<=S.length then some (AV.agg ((S.drop d.offset).take Q.size)) else none)=some c->dh P x s a w o ⟨c,[]⟩:=fun u O I M=>by
      split at M
      ·rename_i Z;cases M
       have g:(isAgg d.type).run P w= .ok true w:=by
        unfold isAgg;rw[Oc,OV O w];cases u<;>simp_all[TypeDesc.isRow]
       refine .same K (v:= .agg ((R.drop d.offset).take Q.size).toArray) ?_ rfl (.agg _ _ (by simp;omega) (fun v r=>W v (Qf (Ph r))) fun j v c r b=> ?_)
       ·simp[execOp,N,r,Instr.field,OV T,C,asAgg,part,g,sizeOf,typeInfo,A]
       rw[Om]at r b;split at r
       ·rename_i J;rw[OL J,PY]at b;rw[PY]at r;exact E _ v c r b
       cases r
      cases M
     split at b
     ·rename_i k;obtain⟨f2,l,_⟩:=eC k;exact agg _ l rfl b
     ·rename_i k;obtain⟨u,l,B,_⟩:=xx k;exact agg u l (by rw[uQ B];rfl) b
     ·rename_i d2 G H k;obtain⟨k2,n2,z2⟩:=d2;obtain⟨u,l,B,_⟩:=xx k
      have I:u.isRow=false:=by
       rw[uQ B];cases k2 with
       |struct=>exact absurd rfl (G _ _ _ _)
       |arr=>exact absurd rfl (H _ _ _ _ _)
       |_=>rfl
      have g:(isAgg d.type).run P w= .ok false w:=by
       unfold isAgg;rw[Oc,OV l w];cases u<;>simp_all[TypeDesc.isRow]
      have J:d.offset<R.length:=by rw[Y];exact(OG.1 b).1
      refine .same K (v:=R[d.offset]) ?_ rfl (E d.offset _ c (OE J) b);simp[execOp,N,r,Instr.field,OV T,C,asAgg,part,g,J]
     cases b
  cases b
 cases b
end
end
end Go.Proofs.YtfcdkaolcdglmaaGreatDoor
