/- What Go values read as when memory is left out; the state of a call; how both stand to memory. No program is named here. How rows of a call's own come, grow, turn, and are seen by others. No program is named here. Stores into rows of a call's own, and appends to them. No program is named here. Appends to rows of a call's own. No program is named here. What each operation makes of values without memory. No program is named here. What operands read as; loads. No program is named here. Operations that turn no memory. No program is named here. -/
import Derived.Test.YtfhkmjbjafeckaaGreatDoorP1
set_option linter.unusedSimpArgs false
set_option linter.defProp false
namespace Go.Proofs.YtfhkmjbjafeckaaGreatDoor
def ai{a b:Prop}(x:a)(y:b):a/\b:=⟨x,y⟩
def gb{a b c:Prop}(d:a)(e:b)(f:c):a/\b/\c:=⟨d,e,f⟩
def hU{a b c d:Prop}(e:a)(f:b)(g:c)(h:d):a/\b/\c/\d:=⟨e,f,g,h⟩
def g9{a b c d e:Prop}(f:a)(g:b)(h:c)(i:d)(j:e):a/\b/\c/\d/\e:=⟨f,g,h,i,j⟩
def i'{a b c d e f:Prop}(g:a)(h:b)(i:c)(j:d)(k:e)(l:f):a/\b/\c/\d/\e/\f:=⟨g,h,i,j,k,l⟩
def mc{a b c d e f g:Prop}(h:a)(i:b)(j:c)(k:d)(l:e)(m:f)(n:g):a/\b/\c/\d/\e/\f/\g:=⟨h,i,j,k,l,m,n⟩
def n4{a b c d e f g h:Prop}(i:a)(j:b)(k:c)(l:d)(m:e)(n:f)(o:g)(x7:h):a/\b/\c/\d/\e/\f/\g/\h:=⟨i,j,k,l,m,n,o,x7⟩
def qr{a b c d e f g h i:Prop}(j:a)(k:b)(l:c)(m:d)(n:e)(o:f)(p:g)(x7:h)(x8:i):a/\b/\c/\d/\e/\f/\g/\h/\i:=⟨j,k,l,m,n,o,p,x7,x8⟩
def lE{a b c d e f g h i j:Prop}(k:a)(l:b)(m:c)(n:d)(o:e)(p:f)(q:g)(x7:h)(x8:i)(x9:j):a/\b/\c/\d/\e/\f/\g/\h/\i/\j:=⟨k,l,m,n,o,p,q,x7,x8,x9⟩
def ql{c d e f g h i j k l a:Prop}(m:c)(n:d)(o:e)(p:f)(q:g)(r:h)(s:i)(x7:j)(x8:k)(x9:l)(b:a):c/\d/\e/\f/\g/\h/\i/\j/\k/\l/\a:=⟨m,n,o,p,q,r,s,x7,x8,x9,b⟩
def ed{e f g h i j k l m n a b:Prop}(o:e)(p:f)(q:g)(r:h)(s:i)(t:j)(u:k)(x7:l)(x8:m)(x9:n)(c:a)(d:b):e/\f/\g/\h/\i/\j/\k/\l/\m/\n/\a/\b:=⟨o,p,q,r,s,t,u,x7,x8,x9,c,d⟩
def gE{a:Type}{l:List a}{k:Nat}(h:k<l.length): ∃x,l[k]? =some x:=⟨l[k],Mq h⟩
def nl(n:Nat): ¬(n:Int)< (n:Int):=by omega
open Go.RowKit
section
inductive AV where
 |any
 |lit (v:Value)
 |agg (cs:List AV)
 |tuple (vs:List AV)
 |iface (t:TypeId) (v:AV)
 |seq (sz:Nat) (es:List (List AV))
 |ref (sz:Nat) (es:List (List AV)) (i off:Nat)
 |own (e:TypeId) (sz:Nat) (es:List (List AV))
 |row (r ver:Nat)
 |loc (r ver i off:Nat)
 |mp (r ver:Nat)
 |sub (r ver lo:Nat)
 |clo (g:FuncId) (cs:List AV)
 |fmap (es:List (List AV))
 |full (sz:Nat) (es:List (List AV))
 |news (n sz:Nat) (es:List (List AV))
 deriving Inhabited
def bs(es:List (List AV))(i j:Nat):Option AV:=(es[i]?).bind (·[j]?)
def k9(w d:World)(b o:Nat):Prop:=d.cell? ⟨b,o,none⟩=w.cell? ⟨b,o,none⟩/\ ∀a c,w.heap[b]? =some (.map a c)->d.heap[b]? =some (.map a c)
def k9.rfl{w:World}{b o:Nat} :k9 w w b o:=⟨Eq.refl _,fun _ _ h=>h⟩
def k9.trans{w f a:World}{b o:Nat}(h:k9 w f b o)(d:k9 f a b o):k9 w a b o:=⟨d.1.trans h.1,fun e c k=>d.2 e c (h.2 e c k)⟩
def k9.block{w a:World}{b o:Nat}(h:a.heap[b]? =w.heap[b]?):k9 w a b o:=⟨World.cell?_of_block h,fun _ _ k=>h.trans k⟩
def k9.cells{w a:World}{b o:Nat}{cs:Array Value}{e:TypeId}{c:Nat×Nat}(d:w.heap[b]? =some (.cells cs e c))(h:a.cell? ⟨b,o,none⟩=w.cell? ⟨b,o,none⟩):k9 w a b o:=⟨h,fun _ _ k=>by rw[d]at k;cases k⟩
inductive RV(S:Nat->Nat->Prop)(w:World):Value->AV->Prop
 |any (v:Value):RV S w v .any
 |lit (v:Value):RV S w v (.lit v)
 |agg (vs:List Value) (cs:List AV) (h:vs.length=cs.length) (h1: ∀v∈vs,v.oneCell'=true) (hc: ∀(i:Nat)(v:Value)(c:AV),vs[i]? =some v->cs[i]? =some c->RV S w v c):RV S w (.agg vs.toArray) (.agg cs)
 |tuple (vs:List Value) (cs:List AV) (h:vs.length=cs.length) (hc: ∀(i:Nat)(v:Value)(c:AV),vs[i]? =some v->cs[i]? =some c->RV S w v c):RV S w (.tuple vs.toArray) (.tuple cs)
 |iface (t:TypeId) (v:Value) (c:AV) (h:RV S w v c):RV S w (.iface t v) (.iface t c)
 |seq (A:Option Addr) (n cap sz:Nat) (es:List (List AV)) (b o:Nat) (u:Nat->Nat->Value) (hn:es.length=n) (hcap:n<=cap) (hA:0<n->A=some ⟨b,o,none⟩)
  (hz: ∀(i:Nat)(e:List AV),es[i]? =some e->e.length=sz)
  (hc: ∀(i j:Nat)(c:AV),bs es i j=some c->S b (o+(i*sz+j))/\w.cell? ⟨b,o+(i*sz+j),none⟩=some (u i j)/\(u i j).oneCell'=true)
  (hr: ∀(i j:Nat)(c:AV),bs es i j=some c->RV S w (u i j) c):RV S w (.slice A n cap) (.seq sz es)
 |ref (sz:Nat) (es:List (List AV)) (i off b o:Nat) (u:Nat->Nat->Value)
  (hz: ∀(i:Nat)(e:List AV),es[i]? =some e->e.length=sz)
  (hc: ∀(i j:Nat)(c:AV),bs es i j=some c->S b (o+(i*sz+j))/\w.cell? ⟨b,o+(i*sz+j),none⟩=some (u i j)/\(u i j).oneCell'=true)
  (hr: ∀(i j:Nat)(c:AV),bs es i j=some c->RV S w (u i j) c):RV S w (.pointer (some ⟨b,o+(i*sz+off),none⟩)) (.ref sz es i off)
 |clo (g:FuncId) (vs:List Value) (cs:List AV) (h:vs.length=cs.length) (hc: ∀(i:Nat)(v:Value)(c:AV),vs[i]? =some v->cs[i]? =some c->RV S w v c):RV S w (.func (.func g) #[] vs.toArray) (.clo g cs)
 |fmap (g:Nat) (ents:Array MapEntry) (clock:Nat) (es:List (List AV)) (hS:S g 0) (hg:w.heap[g]? =some (.map ents clock)) (hn:ents.size=es.length) (hz: ∀(i:Nat)(e:List AV),es[i]? =some e->e.length=2)
  (hk: ∀(i:Nat)(en:MapEntry)(c:AV),ents[i]? =some en->bs es i 0=some c->RV S w en.key c)
  (hv: ∀(i:Nat)(en:MapEntry)(c:AV),ents[i]? =some en->bs es i 1=some c->RV S w en.val c):RV S w (.map (some g)) (.fmap es)
 |full (A:Option Addr) (n sz:Nat) (es:List (List AV)) (h:RV S w (.slice A n n) (.seq sz es)):RV S w (.slice A n n) (.full sz es)
 |news (A:Option Addr) (n k cap sz:Nat) (es:List (List AV)) (hA: ∀a,A=some a->n<=a.block) (h:RV S w (.slice A k cap) (.seq sz es)):RV S w (.slice A k cap) (.news n sz es)
def RV.mono{S S':Nat->Nat->Prop}{w K:World}(p: ∀b o,S b o->S' b o/\k9 w K b o){v:Value}{c:AV}(h:RV S w v c):RV S' K v c:=by
 induction h with
 |any v=>exact .any v
 |lit v=>exact .lit v
 |agg z r h l q a=>exact .agg z r h l a
 |tuple z r h q a=>exact .tuple z r h a
 |iface t v c h a=>exact .iface t v c a
 | seq A n e m d b o u E x D y q M a=>
   exact .seq A n e m d b o u E x D y (fun i j c h=>by
    obtain⟨l,B,C⟩:=q i j c h
    exact⟨(p _ _ l).1,(p _ _ l).2.1.trans B,C⟩) a
 | ref m d i I b o u y q M a=>
   exact .ref m d i I b o u y (fun i j c h=>by
    obtain⟨l,B,C⟩:=q i j c h
    exact⟨(p _ _ l).1,(p _ _ l).2.1.trans B,C⟩) a
 |clo g z r h q a=>exact .clo g z r h a
 |fmap g s f d J L E y N O G H=>exact .fmap g s f d (p _ _ J).1 ((p _ _ J).2.2 _ _ L) E y G H
 |full A n m d h a=>exact .full A n m d a
 |news A n k e m d D h a=>exact .news A n k e m d D a
structure Row where
 sz:Nat
 es:List (List AV)
 e:TypeId
 pure:Bool
structure St where
 f:Nat->AV
 rows:Nat->Option Row
 vs:Nat->Nat
 esc:Nat->Bool
structure ld where
 S:Nat->Nat->Prop
 ρ:Nat->Value
def Ss:Value->Nat->Nat->Value
 | .slice A n c,k,a=> .slice (if c=a then A else A.map (·.add k)) (n-a) (c-a)
 |v,_,_=>v
inductive RL(w:World)(m:ld)(s:St):Value->AV->Prop
 |val {v:Value} {c:AV} (h:RV m.S w v c):RL w m s v c
 |agg (vs:List Value) (cs:List AV) (h:vs.length=cs.length) (h1: ∀v∈vs,v.oneCell'=true) (hc: ∀(i:Nat)(v:Value)(c:AV),vs[i]? =some v->cs[i]? =some c->RL w m s v c):RL w m s (.agg vs.toArray) (.agg cs)
 |tuple (vs:List Value) (cs:List AV) (h:vs.length=cs.length) (hc: ∀(i:Nat)(v:Value)(c:AV),vs[i]? =some v->cs[i]? =some c->RL w m s v c):RL w m s (.tuple vs.toArray) (.tuple cs)
 |row {v:Value} (r ver:Nat) (h1:v.oneCell'=true) (hle:ver<=s.vs r) (h:s.vs r=ver-> ∀row,s.rows r=some row->v=m.ρ r):RL w m s v (.row r ver)
 |loc {v:Value} (r ver i off:Nat) (h1:v.oneCell'=true) (hle:ver<=s.vs r) (h:s.vs r=ver-> ∀row,s.rows r=some row-> ∃g,(m.ρ r).ownBlock=some g/\v= .pointer (some ⟨g,i*row.sz+off,none⟩)):RL w m s v (.loc r ver i off)
 |mp {v:Value} (r ver:Nat) (h1:v.oneCell'=true) (hle:ver<=s.vs r) (h:s.vs r=ver-> ∀row,s.rows r=some row-> ∃g,(m.ρ r).ownBlock=some g/\v= .map (some g)):RL w m s v (.mp r ver)
 |sub {v:Value} (r ver lo:Nat) (h1:v.oneCell'=true) (hle:ver<=s.vs r) (h:s.vs r=ver-> ∀row,s.rows r=some row->v=Ss (m.ρ r) (lo*row.sz) lo):RL w m s v (.sub r ver lo)
 |clo (g:FuncId) (vs:List Value) (cs:List AV) (h:vs.length=cs.length) (hc: ∀(i:Nat)(v:Value)(c:AV),vs[i]? =some v->cs[i]? =some c->RL w m s v c):RL w m s (.func (.func g) #[] vs.toArray) (.clo g cs)
def RL.mono{w A:World}{m m':ld}{s s':St}{v:Value}{c:AV}(h:RL w m s v c)(B: ∀b o,m.S b o->m'.S b o/\k9 w A b o)(j: ∀r,s.vs r<=s'.vs r)
 (u: ∀r row',s'.vs r=s.vs r->s'.rows r=some row'-> ∃row,s.rows r=some row/\row.sz=row'.sz/\m'.ρ r=m.ρ r):RL A m' s' v c:=by
 induction h with
 |val h=>exact .val (h.mono B)
 |agg t p h a z q=>exact .agg t p h a q
 |tuple t p h z q=>exact .tuple t p h q
 | row r f a d h=>
   refine .row r f a (NK d (j r)) fun e row' n=> ?_;have k:s'.vs r=s.vs r:=Qk (by omega) (j r);obtain⟨row,a,_,l⟩:=u r row' k n;rw[l];exact h (by omega) row a
 | loc r f i y a d h=>
   refine .loc r f i y a (NK d (j r)) fun e row' n=> ?_;have k:s'.vs r=s.vs r:=Qk (by omega) (j r);obtain⟨row,a,x,l⟩:=u r row' k n;rw[l, <-x];exact h (by omega) row a
 | sub r f C a d h=>
   refine .sub r f C a (NK d (j r)) fun e row' n=> ?_;have k:s'.vs r=s.vs r:=Qk (by omega) (j r);obtain⟨row,a,x,l⟩:=u r row' k n;rw[l, <-x];exact h (by omega) row a
 | mp r f a d h=>
   refine .mp r f a (NK d (j r)) fun e row' n=> ?_;have k:s'.vs r=s.vs r:=Qk (by omega) (j r);obtain⟨row,a,_,l⟩:=u r row' k n;rw[l];exact h (by omega) row a
 |clo g t p h z q=>exact .clo g t p h q
structure wd(base:Nat)(w:World)(m:ld)(s:St)(r:Nat)(row:Row):Prop where
 pos:0<row.sz
 len: ∀(i:Nat)(e:List AV),row.es[i]? =some e->e.length=row.sz
 own: ∃xs,w.ownsRow base row.e row.sz (m.ρ r) row.es.length xs/\(∀u∈xs,u.oneCell'=true)/\ ∀(i j:Nat)(c:AV),bs row.es i j=some c-> ∃u,xs[i*row.sz+j]? =some u/\(if row.pure then RV m.S w u c else RL w m s u c)
 esc:s.esc r=true-> ∀g,(m.ρ r).ownBlock=some g-> ∀o,o<row.es.length*row.sz->m.S g o
 spare: ∀g,(m.ρ r).ownBlock=some g-> ∀o,row.es.length*row.sz<=o-> ¬m.S g o
 fresh:s.esc r=false-> ∀g,(m.ρ r).ownBlock=some g-> ∀o,¬m.S g o
def DP(a:Array MapEntry)(b n:Nat):Prop:=a.size=n/\b=n/\ ∀(i:Nat)(c:MapEntry),a[i]? =some c->c.born=i
structure TN(base:Nat)(w:World)(m:ld)(s:St)(r:Nat)(row:Row):Prop where
 sz:row.sz=0
 own: ∃g ents clock,m.ρ r= .slice (some ⟨g,0,none⟩) 0 0/\base<=g/\w.heap[g]? =some (.map ents clock)/\DP ents clock row.es.length/\
  ∀(i:Nat)(e:List AV),row.es[i]? =some e-> ∃en kc vc,ents[i]? =some en/\e=[kc,vc]/\RV m.S w en.key kc/\(if row.pure then RV m.S w en.val vc else RL w m s en.val vc)
 fresh: ∀g,(m.ρ r).ownBlock=some g-> ∀o,¬m.S g o
def gp(base:Nat)(w:World)(m:ld)(s:St)(r:Nat)(row:Row):Prop:=wd base w m s r row\/TN base w m s r row
def gp.cells{base:Nat}{w:World}{m:ld}{s:St}{r:Nat}{row:Row}(h:gp base w m s r row)(a:row.sz≠0):wd base w m s r row:=h.elim id fun h=>absurd h.sz a
def gp.map{base:Nat}{w:World}{m:ld}{s:St}{r:Nat}{row:Row}(h:gp base w m s r row)(a:row.sz=0):TN base w m s r row:=h.elim (fun h=>by have:=h.pos;omega) id
def _root_.Go.RowKit.Below.stay{n:Nat}{w a:World}(h:Below n w a){b o:Nat}(c:b<n):k9 w a b o:= .block (h.block b c)
structure b8 where
 at_:Nat->Option AV
 inv:World->Prop
 up: ∀w w',inv w->Below w.heap.size w w'->inv w'
instance:CoeFun b8 fun _=>Nat->Option AV:=⟨b8.at_⟩
def b8.none:b8:=⟨fun _=>Option.none,fun _=>True,fun _ _ h _=>h⟩
structure py where
 w:World
 S:Nat->Nat->Prop
 env:b8
 nt:Nat
 fw:World
 fm:ld
 e:St
 fx:Nat->Prop
 df:List Deferred:=[]
structure dT(x:py)(s:St)(a:Act)(w:World)(m:ld):Prop where
 Z3:Below x.w.heap.size x.w w
 low: ∀b o,m.S b o->b<w.heap.size
 ZT: ∀b o,x.S b o->m.S b o
 sub: ∀b o,m.S b o->x.S b o\/x.w.heap.size<=b
 env: ∀g c,x.env g=some c-> ∃u,x.w.cell? ⟨g,0,none⟩=some u/\u.oneCell'=true/\x.S g 0/\RV x.S x.w u c
 ZX: ∀b o,x.S b o->b<x.w.heap.size
 ZV:x.env.inv x.w
 ZU:a.defers=x.df
 ZR:a.tmps.size=x.nt
 slot: ∀t,RL w m s (a.tmps.getD t undef) (s.f t)
 rows: ∀r row,s.rows r=some row->gp x.w.heap.size w m s r row
 inj: ∀r r' row row',s.rows r=some row->s.rows r'=some row'->r≠r'-> ∀g,(m.ρ r).ownBlock=some g->(m.ρ r').ownBlock≠some g
 ZL: ∀b o,x.fm.S b o->m.S b o/\k9 x.fw w b o
 ZQ: ∀r,x.e.vs r<=s.vs r
 evK: ∀r row',s.vs r=x.e.vs r->s.rows r=some row'-> ∃row,x.e.rows r=some row/\row.sz=row'.sz/\m.ρ r=x.fm.ρ r
 ZY:x.fw.heap.size<=w.heap.size
 fix: ∀b,x.fx b->b<x.fw.heap.size/\w.heap[b]? =x.fw.heap[b]? /\ ∀o,m.S b o->x.fm.S b o
 Z5: ∀r row,s.rows r=some row-> ∀g,(m.ρ r).ownBlock=some g-> ¬x.fx g
section
variable {x:py} {s s':St} {a:Act} {w w':World} {m m':ld}
theorem dT.toS(h:dT x s a w m)(d: ∀b o,m.S b o->m'.S b o/\k9 w w' b o): ∀b o,x.fm.S b o->m'.S b o/\k9 x.fw w' b o:=
 fun b o c=>⟨(d b o (h.ZL b o c).1).1,(h.ZL b o c).2.trans (d b o (h.ZL b o c).1).2⟩
theorem dT.toV(h:dT x s a w m)(b: ∀r,s.vs r<=s'.vs r): ∀r,x.e.vs r<=s'.vs r:=fun r=>NK (h.ZQ r) (b r)
theorem dT.toK(h:dT x s a w m)(f: ∀r,s.vs r<=s'.vs r)(c: ∀r row',s'.vs r=s.vs r->s'.rows r=some row'-> ∃row,s.rows r=some row/\row.sz=row'.sz/\m'.ρ r=m.ρ r):
 ∀r row',s'.vs r=x.e.vs r->s'.rows r=some row'-> ∃row,x.e.rows r=some row/\row.sz=row'.sz/\m'.ρ r=x.fm.ρ r:=fun r row' e d=>by
 have o:=h.ZQ r;have p:=f r;obtain⟨row,g,i,j⟩:=c r row' (by omega) d;obtain⟨b,k,l,n⟩:=h.evK r row (by omega) g;exact⟨b,k,l.trans i,j.trans n⟩
theorem dT.fxlt(h:dT x s a w m){b:Nat}(c:x.fx b):b<w.heap.size:=Oc (h.fix b c).1 h.ZY
end
def JY(a:Act)(d:Nat)(v:Value)(t:Nat)(b:d<a.tmps.size):(a.put (some d) v).tmps.getD t undef=if t=d then v else a.tmps.getD t undef:=by
 simp only[Act.put,Nw,Array.getElem?_setIfInBounds];by_cases h:t=d
 ·subst h;simp[b]
 rw[Mt (Ot h),Mt h]
def mu{a:Type}(f:Nat->a)(d:Nat)(v:a):Nat->a:=fun t=>if t=d then v else f t
def aw{a:Type}(f:Nat->a)(d:Nat)(v:a):mu f d v d=v:=by simp[mu]
def cR{a:Type}(f:Nat->a)(d:Nat)(v:a){t:Nat}(h:t≠d):mu f d v t=f t:=by simp[mu,h]
def St.put(s:St)(d:Option Nat)(c:AV):St:=match d with|some d=>{ s with f:=mu s.f d c }|none=>s
def RL.put{w:World}{m:ld}{s:St}{v:Value}{c:AV}(h:RL w m s v c)(d:Option Nat)(e:AV):RL w m (s.put d e) v c:=by
 refine RL.mono h (fun b o f=>⟨f, .rfl⟩) ?_ ?_
 ·cases d<;>exact fun _=>NC _
 cases d<;>exact fun r a _ g=>⟨a,g,rfl,rfl⟩
def wd.mono{base:Nat}{w x:World}{m m':ld}{s s':St}{r:Nat}{row:Row}(h:wd base w m s r row)
 (p: ∀b o,m.S b o->m'.S b o/\k9 w x b o)(L: ∀r,s.vs r<=s'.vs r)
 (K: ∀r row',s'.vs r=s.vs r->s'.rows r=some row'-> ∃row,s.rows r=some row/\row.sz=row'.sz/\m'.ρ r=m.ρ r)
 (a:m'.ρ r=m.ρ r)(I: ∀g,(m.ρ r).ownBlock=some g->x.heap[g]? =w.heap[g]?)(A:s'.esc r=s.esc r)(B: ∀g,(m.ρ r).ownBlock=some g-> ∀o,m'.S g o->m.S g o):wd base x m' s' r row:=by
 refine⟨h.pos,h.len,?_,?_,?_,?_⟩
 ·obtain⟨M,z,G,H⟩:=h.own;refine⟨M,?_,G,fun i j c J=> ?_⟩
  ·rw[a];refine⟨z.1,?_⟩;rcases z.2 with l|⟨g,f,k,y,C,D,E⟩
   ·exact .inl l
   exact .inr ⟨g,f,k,y,C,(I g (by rw[y];rfl)).trans D,E⟩
  obtain⟨u,l,n⟩:=H i j c J;refine⟨u,l,?_⟩;split at n
  ·rename_i v;rw[Mw v];exact n.mono p
  rename_i v;rw[Mt v];exact n.mono p L K
 ·rw[a,A];exact fun e g d o t=>(p _ _ (h.esc e g d o t)).1
 ·rw[a];exact fun g d o t q=>h.spare g d o t (B g d o q)
 rw[a,A];exact fun e g d o q=>h.fresh e g d o (B g d o q)
def bi{w:World}{base n size:Nat}{e:TypeId}{v:Value}{xs:List Value}{g:Nat}(h:w.ownsRow base e size v n xs)(a:v.ownBlock=some g):base<=g/\g<w.heap.size:=h.lt g a
def gp.blk{base:Nat}{w:World}{m:ld}{s:St}{r:Nat}{row:Row}{g:Nat}(h:gp base w m s r row)(a:(m.ρ r).ownBlock=some g):base<=g/\g<w.heap.size:=by
 rcases h with h|h
 ·obtain⟨k,i,_⟩:=h.own;exact bi i a
 obtain⟨j,c,b,d,e,f,_⟩:=h.own;rw[d]at a;simp only[Value.ownBlock,Ms]at a;subst a;exact⟨e,(N2.1 f).1⟩
def gp.mono{base:Nat}{w l:World}{m m':ld}{s s':St}{r:Nat}{row:Row}(h:gp base w m s r row)
 (f: ∀b o,m.S b o->m'.S b o/\k9 w l b o)(v: ∀r,s.vs r<=s'.vs r)
 (t: ∀r row',s'.vs r=s.vs r->s'.rows r=some row'-> ∃row,s.rows r=some row/\row.sz=row'.sz/\m'.ρ r=m.ρ r)
 (a:m'.ρ r=m.ρ r)(p: ∀g,(m.ρ r).ownBlock=some g->l.heap[g]? =w.heap[g]?)(C:s'.esc r=s.esc r)(u: ∀g,(m.ρ r).ownBlock=some g-> ∀o,m'.S g o->m.S g o):gp base l m' s' r row:=by
 rcases h with h|h
 ·exact .inl (h.mono f v t a p C u)
 obtain⟨g,d,c,n,x,y,z,A⟩:=h.own;refine .inr ⟨h.sz,⟨g,d,c,a.trans n,x,(p g (by rw[n];rfl)).trans y,z,fun i e E=> ?_⟩,fun g q o D=>h.fresh g (by rw[<-a];exact q) o (u g (by rw[<-a];exact q) o D)⟩;obtain⟨B,J,K,G,H,I,k⟩:=A i e E;refine⟨B,J,K,G,H,I.mono f,?_⟩;split at k
 ·rename_i j;rw[Mw j];exact k.mono f
 rename_i j;rw[Mt j];exact k.mono f v t
def dT.put{x:py}{s:St}{a:Act}{w:World}{m:ld}(h:dT x s a w m)(d:Option Nat)(g: ∀t,d=some t->t<x.nt){v:Value}{c:AV}(p:RL w m s v c):dT x (s.put d c) (a.put d v) w m:=by
 cases d with
 |none=>exact h
 | some d=>
   have g:=g d rfl;refine { h with ZU:=h.ZU,ZR:=by simpa[Act.put]using h.ZR,slot:=fun t=> ?_,rows:=fun r k i=> ?_ }
   ·rw[JY a d v t (by rw[h.ZR];exact g)]
    have j:RL w m s (if t=d then v else a.tmps.getD t undef) (mu s.f d c t):=by
     by_cases e:t=d
     ·rw[Mw e,e,aw];exact p
     rw[Mt e,cR _ _ _ e];exact h.slot t
    exact RL.put j (some d) c
   exact(h.rows r k i).mono (fun b o l=>⟨l, .rfl⟩) (fun _=>NC _) (fun r f _ i=>⟨f,i,rfl,rfl⟩) rfl (fun _ _=>rfl) rfl (fun _ _ _ n=>n)
def dT.move{x:py}{s:St}{a:Act}{w j:World}{m m':ld}(h:dT x s a w m)(f:m'.ρ=m.ρ)(q:Below x.w.heap.size w j)
 (p: ∀b o,m.S b o->m'.S b o/\k9 w j b o)(d: ∀b o,m'.S b o->m.S b o\/(w.heap.size<=b/\b<j.heap.size))
 (n: ∀r row,s.rows r=some row-> ∀g,(m.ρ r).ownBlock=some g->j.heap[g]? =w.heap[g]?)(u: ∀b,x.fx b->j.heap[b]? =w.heap[b]?):dT x s a j m':=by
 have y: ∀r c,s.vs r=s.vs r->s.rows r=some c-> ∃row,s.rows r=some row/\row.sz=c.sz/\m'.ρ r=m.ρ r:=fun r c _ i=>⟨c,i,rfl,by rw[f]⟩;refine⟨h.Z3.trans q,fun b o e=> ?_,fun b o e=>(p _ _ (h.ZT b o e)).1,fun b o e=> ?_,h.env,h.ZX,h.ZV,h.ZU,h.ZR,fun t=>(h.slot t).mono p (fun _=>NC _) y,fun r row i=> ?_,fun r C row c i A z=> ?_,h.toS p,h.ZQ,h.toK (fun _=>NC _) y,NK h.ZY q.size,fun b l=>⟨(h.fix b l).1,(u b l).trans (h.fix b l).2.1,fun o e=> ?_⟩,fun r row i=>by rw[f];exact h.Z5 r row i⟩
 rotate_right
 ·rcases d b o e with k|⟨k,_⟩
  ·exact(h.fix b l).2.2 o k
  have:=h.fxlt l;omega
 ·rcases d b o e with k|⟨_,k⟩
  ·have:=h.low b o k;have:=q.size;omega
  exact k
 ·rcases d b o e with k|⟨k,_⟩
  ·exact h.sub b o k
  have:=h.Z3.size;exact .inr (by omega)
 ·have k:=h.rows r row i;refine k.mono p (fun _=>NC _) y (by rw[f]) (fun g v=>n r row i g v) rfl fun g v o e=> ?_;rcases d g o e with B | ⟨B,_⟩
  ·exact B
  have:=(k.blk v).2;omega
 rw[f];exact h.inj r C row c i A z
def dT.drew{x:py}{s:St}{a:Act}{w:World}{m:ld}(h:dT x s a w m)(n:Nat):dT x s a (w.drewN n) m:=
 h.move rfl (below_drewN (O1 _ _) n) (fun _ _ b=>⟨b, .rfl⟩) (fun _ _ b=> .inl b) (fun _ _ _ _ _=>rfl) (fun _ _=>rfl)
end
section
def St.renew(s:St)(r:Nat)(row:Row)(e:Bool):St:={ s with rows:=mu s.rows r (some row),vs:=mu s.vs r (s.vs r+1),esc:=mu s.esc r e }
def St.setRow(s:St)(r:Nat)(row:Row):St:={ s with rows:=mu s.rows r (some row) }
def St.show(s:St)(r:Nat):St:={ s with esc:=mu s.esc r true }
def lJ(s:St)(r:Nat)(row:Row)(e:Bool)(k:Nat):s.vs k<=(s.renew r row e).vs k:=by
 simp only[St.renew,mu];split
 ·rename_i h;rw[h];omega
 exact NC _
def qc{s:St}{r:Nat}{row:Row}{e:Bool}{ρ:Nat->Value}{v:Value}(k:Nat)(row':Row)(c:(s.renew r row e).vs k=s.vs k)(b:(s.renew r row e).rows k=some row'):k≠r/\s.rows k=some row'/\mu ρ r v k=ρ k:=by
 have a:k≠r:=by
  rintro rfl;simp only[St.renew,aw]at c;omega
 refine⟨a,?_,cR _ _ _ a⟩;simpa only[St.renew,cR _ _ _ a]using b
def dT.renew{x:py}{s:St}{a:Act}{w B:World}{m:ld}(h:dT x s a w m)(r:Nat)(row:Row)(e:Bool)(v:Value)(S':Nat->Nat->Prop)(L:Below x.w.heap.size w B)
 (H: ∀b o,m.S b o->S' b o/\k9 w B b o)(p: ∀b o,S' b o->m.S b o\/(x.w.heap.size<=b/\b<B.heap.size))
 (f: ∀k row',k≠r->s.rows k=some row'-> ∀g,(m.ρ k).ownBlock=some g->B.heap[g]? =w.heap[g]? /\v.ownBlock≠some g/\ ∀o,S' g o->m.S g o)
 (O:gp x.w.heap.size B ⟨S',mu m.ρ r v⟩ (s.renew r row e) r row)(u: ∀b,x.fx b->B.heap[b]? =w.heap[b]? /\(∀o,S' b o->m.S b o)/\v.ownBlock≠some b):dT x (s.renew r row e) a B ⟨S',mu m.ρ r v⟩:=by
 have N: ∀k row',(s.renew r row e).vs k=s.vs k->(s.renew r row e).rows k=some row'-> ∃q,s.rows k=some q/\q.sz=row'.sz/\mu m.ρ r v k=m.ρ k:=fun k row' K G=>by
  obtain⟨_,P,Q⟩:=qc (ρ:=m.ρ) (v:=v) k row' K G;exact⟨row',P,rfl,Q⟩
 refine⟨h.Z3.trans L,fun b o y=> ?_,fun b o y=>(H _ _ (h.ZT b o y)).1,fun b o y=> ?_,h.env,h.ZX,h.ZV,h.ZU,h.ZR,fun t=>(h.slot t).mono (m':=⟨S',mu m.ρ r v⟩) (s':=s.renew r row e) H (lJ s r row e) N,fun k row' I=> ?_,fun k D j i K G l g d=> ?_,h.toS (m':=⟨S',mu m.ρ r v⟩) H,h.toV (lJ s r row e),h.toK (m':=⟨S',mu m.ρ r v⟩) (lJ s r row e) N,NK h.ZY L.size,fun b n=>⟨(h.fix b n).1,(u b n).1.trans (h.fix b n).2.1,fun o y=>(h.fix b n).2.2 o ((u b n).2.1 o y)⟩,fun k row' I g d n=> ?_⟩
 rotate_right
 ·simp only at d;by_cases c:k=r
  ·subst c;rw[aw]at d;exact(u g n).2.2 d
  rw[cR _ _ _ c]at d;exact h.Z5 k row' (by simpa only[St.renew,cR _ _ _ c]using I) g d n
 ·rcases p b o y with k|⟨_,k⟩
  ·have:=h.low b o k;have:=L.size;omega
  exact k
 ·rcases p b o y with k|⟨k,_⟩
  ·exact h.sub b o k
  exact .inr k
 ·by_cases c:k=r
  ·subst c;have:row'=row:=by simpa[St.renew,aw]using I.symm
   subst this;exact O
  have z:s.rows k=some row':=by simpa only[St.renew,cR _ _ _ c]using I
  refine(h.rows k row' z).mono (m':=⟨S',mu m.ρ r v⟩) (s':=s.renew r row e) H (lJ s r row e) N (cR _ _ _ c) (fun g d=>(f k row' c z g d).1) (by simp only[St.renew,cR _ _ _ c]) (fun g d=>(f k row' c z g d).2.2)
 simp only at d |-;by_cases E:k=r
 ·subst E;rw[aw]at d;rw[cR _ _ _ (Ot l)];have A:s.rows D=some i:=by simpa only[St.renew,cR _ _ _ (Ot l)]using G
  intro M;exact(f D i (Ot l) A g M).2.1 d
 rw[cR _ _ _ E]at d;have C:s.rows k=some j:=by simpa only[St.renew,cR _ _ _ E]using K
 by_cases J:D=r
 ·subst J;rw[aw];exact(f k j E C g d).2.1
 rw[cR _ _ _ J];have A:s.rows D=some i:=by simpa only[St.renew,cR _ _ _ J]using G
 exact h.inj k D j i C A l g d
def Uq(es:List (List AV)):List AV:=es.flatten
def eO{es:List (List AV)}{i j:Nat}{c:AV}{sz:Nat}(d: ∀(i:Nat)(e:List AV),es[i]? =some e->e.length=sz)(h:bs es i j=some c):i<es.length/\j<sz:=by
 unfold bs at h;cases a:es[i]? with
 |none=>rw[a]at h;cases h
 | some e=>
   rw[a]at h;have b:j<e.length:=(Mr.1 h).1;rw[d i e a]at b;exact⟨(Mr.1 a).1,b⟩
def kZ{i j n sz:Nat}(hi:i<n)(a:j<sz):i*sz+j<n*sz:=by
 have:(i+1)*sz<=n*sz:=Nk _ hi;rw[OY,P7]at this;omega
def dT.newRow{x:py}{s:St}{a:Act}{w:World}{m:ld}(h:dT x s a w m)(r:Nat)(row:Row)(cs:List Value)(q:0<row.sz)(p:row.es.length<=maxLen)
 (L: ∀(i:Nat)(e:List AV),row.es[i]? =some e->e.length=row.sz)(z:cs.length=row.es.length*row.sz)(C: ∀u∈cs,u.oneCell'=true)
 (J: ∀(i j:Nat)(c:AV),bs row.es i j=some c-> ∃u,cs[i*row.sz+j]? =some u/\(if row.pure then RV m.S w u c else RL w m s u c)):
 dT x (s.renew r row false) a (w.alloc (.cells cs.toArray row.e)) ⟨m.S,mu m.ρ r (.slice (some ⟨w.heap.size,0,none⟩) row.es.length row.es.length)⟩:=by
 have d: ∀b o,m.S b o->m.S b o/\k9 w (w.alloc (.cells cs.toArray row.e)) b o:=fun b o f=>⟨f, .block (Oo _ _ _ (h.low b o f))⟩;have t:=h.Z3.size;refine h.renew r row false _ m.S ((O1 _ _).alloc t _) d (fun b o f=> .inl f) (fun k l M K g n=> ?_) (.inl ⟨q,L,?_,(fun e=>by simp[St.renew,aw]at e),(fun g n o N f=> ?_),(fun _ g n o f=> ?_)⟩) fun b B=>⟨Oo _ _ _ (h.fxlt B),fun _ f=>f,fun e=>by have:=h.fxlt B;simp[Value.ownBlock]at e;omega⟩
 ·have:=((h.rows k l K).blk n).2;refine⟨Oo _ _ _ this,?_,fun o f=>f⟩;simp[Value.ownBlock];omega
 ·refine⟨cs,⟨z, .inr ⟨w.heap.size,row.es.length,cs.toArray,aw _ _ _,t,fI.new _ _ _,NC _,p,by simpa using z,by rw[Nq (by simp[z])]⟩⟩,C,fun i j c f=> ?_⟩;obtain⟨u,D,y⟩:=J i j c f;refine⟨u,D,?_⟩;split at y
  ·rename_i A;rw[Mw A];exact y.mono d
  rename_i A;rw[Mt A];refine y.mono d (lJ s r row false) fun k l E G=> ?_;obtain⟨_,H,I⟩:=qc (ρ:=m.ρ) (v:= .slice (some ⟨w.heap.size,0,none⟩) row.es.length row.es.length) k l E G;exact⟨l,H,rfl,I⟩
 ·simp[aw,Value.ownBlock]at n;have:=h.low g o f;omega
 simp[aw,Value.ownBlock]at n;have:=h.low g o f;omega
def ig{w:World}{base n size:Nat}{e:TypeId}{v:Value}{xs:List Value}{g:Nat}(h:w.ownsRow base e size v n xs)(a:v.ownBlock=some g)(j:Nat)(u:Value)(b:xs[j]? =some u):w.cell? ⟨g,j,none⟩=some u:=by
 rcases h.2 with⟨f,_⟩|⟨p,c,d,i,_,k,m,_,o,l⟩
 ·rw[f]at a;cases a
 rw[i]at a;simp[Value.ownBlock]at a;subst a;rw[<-l,N8]at b;split at b
 ·simp[World.cell?,k];simpa using b
 cases b
def Ix{w:World}{base n size:Nat}{e:TypeId}{v:Value}{xs:List Value}{g:Nat}(h:w.ownsRow base e size v n xs)(b:v.ownBlock=some g): ∃a j,w.heap[g]? =some (.cells a e j):=by
 rcases h.2 with⟨d,_⟩|⟨k,c,a,f,_,i,_⟩
 ·rw[d]at b;cases b
 rw[f]at b;simp[Value.ownBlock]at b;subst b;exact⟨a,_,i⟩
def jF{f:AV->AV}{es:List (List AV)}{i j:Nat}{c:AV}(h:bs (es.map (·.map f)) i j=some c): ∃a,bs es i j=some a/\f a=c:=by
 unfold bs at h |-;rw[NB]at h;cases b:es[i]? with
 |none=>rw[b]at h;cases h
 | some e=>
   rw[b]at h;simp only[NT,OD,NB]at h |-;exact OI.1 h
def R'{f:AV->AV}{es:List (List AV)}{n:Nat}(c: ∀(i:Nat)(e:List AV),es[i]? =some e->e.length=n)(i:Nat)(e:List AV)(h:(es.map (·.map f))[i]? =some e):e.length=n:=by
 rw[NB]at h;obtain⟨a,b,rfl⟩:=OI.1 h;rw[NQ];exact c i a b
def dT.showF(f:AV->AV){x:py}{s:St}{a:Act}{w:World}{m:ld}(h:dT x s a w m)(r:Nat)(row:Row)(Q:s.rows r=some row)(hsz:row.sz≠0)(hp: ∀(i j:Nat)(c:AV)(u:Value),bs row.es i j=some c->(if row.pure then RV m.S w u c else RL w m s u c)->RV m.S w u (f c)):
 ∃S',dT x (s.show r) a w ⟨S',m.ρ⟩/\(∀b o,m.S b o->S' b o)/\RV S' w (m.ρ r) (.seq row.sz (row.es.map (·.map f)))/\ ∀g,(m.ρ r).ownBlock=some g-> ∀i off,RV S' w (.pointer (some ⟨g,i*row.sz+off,none⟩)) (.ref row.sz (row.es.map (·.map f)) i off):=by
 have k:=(h.rows r row Q).cells hsz;obtain⟨J,D,U,M⟩:=k.own;obtain⟨S',q⟩: ∃S':Nat->Nat->Prop,S'=fun b o=>m.S b o\/((m.ρ r).ownBlock=some b/\o<row.es.length*row.sz):=⟨_,rfl⟩;have l: ∀b o,m.S b o->S' b o/\k9 w w b o:=fun b o d=>⟨by rw[q];exact .inl d, .rfl⟩;have P: ∀k n,(s.show r).vs k=s.vs k->(s.show r).rows k=some n-> ∃H,s.rows k=some H/\H.sz=n.sz/\m.ρ k=m.ρ k:=fun k n _ d=>⟨n,d,rfl,rfl⟩
 refine⟨S',⟨h.Z3,fun b o d=> ?_,fun b o d=>(l _ _ (h.ZT b o d)).1,fun b o d=> ?_,h.env,h.ZX,h.ZV,h.ZU,h.ZR,fun t=>(h.slot t).mono (m':=⟨S',m.ρ⟩) (s':=s.show r) l (fun _=>NC _) P,fun R n z=> ?_,h.inj,h.toS (m':=⟨S',m.ρ⟩) l,h.ZQ,h.toK (s':=s.show r) (m':=⟨S',m.ρ⟩) (fun _=>NC _) P,h.ZY,fun b O=>⟨(h.fix b O).1,(h.fix b O).2.1,fun o d=>(h.fix b O).2.2 o (by
  simp only[q]at d;rcases d with d|⟨d,_⟩
  ·exact d
  exact absurd O (h.Z5 r row Q b d))⟩,h.Z5⟩,fun b o d=>(l b o d).1,?_⟩
 ·rw[q]at d;rcases d with d|⟨d,_⟩
  ·exact h.low b o d
  exact(bi D d).2
 ·rw[q]at d;rcases d with d|⟨d,_⟩
  ·exact h.sub b o d
  exact .inr (bi D d).1
 ·have z:s.rows R=some n:=z;by_cases e:R=r
  ·subst e;obtain rfl:row=n:=OV (Q.symm.trans z);refine .inl ⟨k.pos,k.len,⟨J,D,U,fun i j c v=> ?_⟩,fun _ g G o Z=> ?_,fun g G o Z d=> ?_,fun e=> ?_⟩
   ·obtain⟨u,y,C⟩:=M i j c v;refine⟨u,y,?_⟩;split at C
    ·rename_i hq;rw[Mw hq];exact C.mono l
    rename_i hq;rw[Mt hq];exact C.mono l (fun _=>NC _) P
   ·rw[q];exact .inr ⟨G,Z⟩
   ·rw[q]at d;rcases d with d|⟨_,d⟩
    ·exact k.spare g G o Z d
    omega
   simp[St.show,aw]at e
  refine(h.rows R n z).mono (m':=⟨S',m.ρ⟩) (s':=s.show r) l (fun _=>NC _) P rfl (fun _ _=>rfl) (by simp only[St.show,cR _ _ _ e]) fun g G o d=> ?_;rw[q]at d;rcases d with d|⟨d,_⟩
  ·exact d
  exact absurd G (h.inj r R row n Q z (Ot e) g d)
 refine⟨?_,fun g G i off=> ?_⟩
 case refine_2=>
  have k2:=RV.ref (S:=S') (w:=w) row.sz (row.es.map (·.map f)) i off g 0 (fun i j=>J.getD (i*row.sz+j) undef) (R' k.len) (fun i j K v=>by
   obtain⟨B,p,rfl⟩:=jF v;obtain⟨u,y,C⟩:=M i j B p;obtain⟨X,Y⟩:=eO k.len p;have I:J.getD (i*row.sz+j) undef=u:=by simp[List.getD,y]
   rw[I,OM]
   exact⟨by rw[q];exact .inr ⟨G,kZ X Y⟩,ig D G _ u y,U u (Mv y)⟩) fun i j K v=>by
   obtain⟨B,p,rfl⟩:=jF v;obtain⟨u,y,C⟩:=M i j B p;have I:J.getD (i*row.sz+j) undef=u:=by simp[List.getD,y]
   rw[I];exact(hp i j B u p C).mono l
  rw[OM]at k2;exact k2
 obtain⟨A,c,hv,hrd⟩:=wi D
 have E:row.es.length<=c:=by
  rcases D.2 with⟨e,hn⟩|⟨g,T,cur,e,_,_,hle,_⟩
  ·rw[hv]at e;injection e with L e2 e3;omega
  rw[hv]at e;injection e with L e2 e3;omega
 rw[hv]at q D |-;by_cases h0:row.es.length=0
 ·have N:row.es=[]:=Np h0;exact .seq A _ c row.sz (row.es.map (·.map f)) 0 0 (fun _ _=>undef) (NQ ..) E (fun d=>by omega) (R' k.len) (fun i j K v=>by rw[N]at v;simp[bs]at v) (fun i j K v=>by rw[N]at v;simp[bs]at v)
 obtain⟨b,off,rfl,_,V⟩:=hrd.2 (by omega);obtain⟨g,T,W,_⟩:=D.form (by omega);injection W with L e2 e3
 injection L with L
 injection L with e4 e5 e6
 subst e4 e5;refine .seq _ _ c row.sz (row.es.map (·.map f)) b 0 (fun i j=>J.getD (i*row.sz+j) undef) (NQ ..) E (fun _=>rfl) (R' k.len) (fun i j K v=> ?_) fun i j K v=> ?_
 ·obtain⟨B,p,rfl⟩:=jF v;obtain⟨u,y,C⟩:=M i j B p;obtain⟨X,Y⟩:=eO k.len p;have I:J.getD (i*row.sz+j) undef=u:=by simp[List.getD,y]
  rw[I];refine⟨by rw[q];exact .inr ⟨rfl,by rw[OM];exact kZ X Y⟩,by rw[<-V _ u y],U u (Mv y)⟩
 obtain⟨B,p,rfl⟩:=jF v;obtain⟨u,y,C⟩:=M i j B p;have I:J.getD (i*row.sz+j) undef=u:=by simp[List.getD,y]
 rw[I];exact(hp i j B u p C).mono l
def dT.show_{x:py}{s:St}{a:Act}{w:World}{m:ld}(h:dT x s a w m)(r:Nat)(row:Row)(f:s.rows r=some row)(d:row.sz≠0)(e: ∀(i j:Nat)(c:AV)(u:Value),bs row.es i j=some c->(if row.pure then RV m.S w u c else RL w m s u c)->RV m.S w u c):
 ∃S',dT x (s.show r) a w ⟨S',m.ρ⟩/\(∀b o,m.S b o->S' b o)/\RV S' w (m.ρ r) (.seq row.sz row.es)/\ ∀g,(m.ρ r).ownBlock=some g-> ∀i off,RV S' w (.pointer (some ⟨g,i*row.sz+off,none⟩)) (.ref row.sz row.es i off):=by
 have:=h.showF id r row f d e;rwa [show row.es.map (·.map id)=row.es by simp]at this
def dT.show{x:py}{s:St}{a:Act}{w:World}{m:ld}(h:dT x s a w m)(r:Nat)(row:Row)(n:s.rows r=some row)(d:row.sz≠0)(l:row.pure=true):
 ∃S',dT x (s.show r) a w ⟨S',m.ρ⟩/\(∀b o,m.S b o->S' b o)/\RV S' w (m.ρ r) (.seq row.sz row.es):=by
 obtain⟨S',f,g,k,_⟩:=h.show_ r row n d (fun i j c u _ e=>by rw[Mw l]at e;exact e);exact⟨S',f,g,k⟩
end
section
def ew{a:Type}(l:List a)(p:Nat)(vs:List a):List a:=l.take p++vs++l.drop (p+vs.length)
def dQ{a:Type}(l:List a)(p:Nat)(vs:List a)(h:p+vs.length<=l.length):(ew l p vs).length=l.length:=by
 simp only[ew,My,NJ,Oa];omega
def bz{c:Type}(l:List c)(p:Nat)(vs:List c)(h:p+vs.length<=l.length)(k:Nat):(ew l p vs)[k]? =if k<p then l[k]? else if k<p+vs.length then vs[k-p]? else l[k]? :=by
 unfold ew;by_cases a:k<p
 ·rw[Mw a,Nl,Nb (by simp;omega),N8,Mw a]
 rw[Mt a];have d:(l.take p).length=p:=by simp;omega
 by_cases b:k<p+vs.length
 ·rw[Mw b,Nl,N3 (by omega),d,Nb (by omega)]
 rw[Mt b,N3 (by simp;omega),OL]
 congr 1
 simp;omega
def dT.reset{x:py}{s:St}{a:Act}{w l:World}{m:ld}(h:dT x s a w m)(r:Nat)(row row':Row)(J:s.rows r=some row)(B:row'.sz=row.sz)(v:Below x.w.heap.size w l)
 (H: ∀b o,m.S b o->k9 w l b o)
 (q: ∀k f,k≠r->s.rows k=some f-> ∀g,(m.ρ k).ownBlock=some g->l.heap[g]? =w.heap[g]?)
 (A:gp x.w.heap.size l m (s.setRow r row') r row')(y: ∀b,x.fx b->l.heap[b]? =w.heap[b]?):dT x (s.setRow r row') a l m:=by
 have j: ∀b o,m.S b o->m.S b o/\k9 w l b o:=fun b o i=>⟨i,H b o i⟩
 have p: ∀k c,(s.setRow r row').vs k=s.vs k->(s.setRow r row').rows k=some c-> ∃d,s.rows k=some d/\d.sz=c.sz/\m.ρ k=m.ρ k:=fun k c _ i=>by
  by_cases e:k=r
  ·subst e;simp only[St.setRow,aw,Ms]at i;subst i;exact⟨row,J,B.symm,rfl⟩
  simp only[St.setRow,cR _ _ _ e]at i;exact⟨c,i,rfl,rfl⟩
 refine⟨h.Z3.trans v,fun b o i=>Oc (h.low b o i) v.size,h.ZT,h.sub,h.env,h.ZX,h.ZV,h.ZU,h.ZR,fun t=>(h.slot t).mono j (fun _=>NC _) p,fun k c i=> ?_,fun k C f c n G z=> ?_,h.toS j,h.ZQ,h.toK (s':=s.setRow r row') (fun _=>NC _) p,NK h.ZY v.size,fun b u=>⟨(h.fix b u).1,(y b u).trans (h.fix b u).2.1,(h.fix b u).2.2⟩,fun k c i=> ?_⟩
 rotate_right
 ·obtain⟨d,n,_⟩:=p k c rfl i;exact h.Z5 k d n
 ·by_cases e:k=r
  ·subst e;simp only[St.setRow,aw,Ms]at i;subst i;exact A
  simp only[St.setRow,cR _ _ _ e]at i;exact(h.rows k c i).mono j (fun _=>NC _) p rfl (fun g I=>q k c e i g I) rfl (fun _ _ _ i=>i)
 have: ∀k f,(s.setRow r row').rows k=some f-> ∃d,s.rows k=some d:=fun k f i=>by
  obtain⟨d,n,_⟩:=p k f rfl i;exact⟨d,n⟩
 obtain⟨K,D⟩:=this k f n;obtain⟨L,E⟩:=this C c G;exact h.inj k C K L D E z
def dT.store{x:py}{s:St}{a:Act}{w:World}{m:ld}(h:dT x s a w m)(r:Nat)(row:Row)(T:s.rows r=some row)(hsz:row.sz≠0)(he:s.esc r=false)(i off:Nat)(e:List AV)(hi:row.es[i]? =some e)
 (cs:List AV)(vs:List Value)(hl:vs.length=cs.length)(hfit:off+cs.length<=row.sz)(h1: ∀v∈vs,v.oneCell'=true)
 (hc: ∀(j:Nat)(v:Value)(c:AV),vs[j]? =some v->cs[j]? =some c->if row.pure then RV m.S w v c else RL w m s v c)(g:Nat)(M:(m.ρ r).ownBlock=some g):
 ∃d,w.heap[g]? =some (.cells d row.e (0,0))/\i*row.sz+off+vs.length<=d.size/\
  dT x (s.setRow r { row with es:=row.es.set i (ew e off cs) }) a (w.setRow g (d.toList.take (i*row.sz+off)++vs++d.toList.drop (i*row.sz+off+vs.length)).toArray) m:=by
 have k:=(h.rows r row T).cells hsz;obtain⟨H,k1,k2,k3⟩:=k.own;have J:i<row.es.length:=(Mr.1 hi).1;have hbg:=bi k1 M;rcases k1.2 with⟨e0,_⟩|⟨t,I,d,N,e2,e3,e4,e5,e6,e7⟩
 ·rw[e0]at M;cases M
 rw[N]at M;simp[Value.ownBlock]at M;subst M;have hxl:H.length=row.es.length*row.sz:=k1.1
 have hpos:i*row.sz+off+vs.length<=row.es.length*row.sz:=by
  have:(i+1)*row.sz<=row.es.length*row.sz:=Nk _ J;rw[OY,P7]at this;omega
 have hcs:row.es.length*row.sz<=d.size:=by rw[e6];exact Nk _ e4
 have P:i*row.sz+off+vs.length<=d.toList.length:=by simp;omega
 refine⟨d,e3,by omega,?_⟩;have hel:e.length=row.sz:=k.len i e hi;have D: ∀o,¬m.S t o:=k.fresh he t (by rw[N];rfl);have hb:Below x.w.heap.size w (w.setRow t (ew d.toList (i*row.sz+off) vs).toArray):=⟨rfl,rfl,rfl,by simp,fun q z=>PI w t q _ (by omega)⟩;refine h.reset r row _ T rfl hb (fun b o A=> .block (PI w t b _ (fun e=>D o (e ▸ A)))) (fun q V hne z X l=>PI w t X _ (fun e=>h.inj r q row V T z (Ot hne) t (by rw[N];rfl) (e ▸ l))) ?_ fun b hf=>PI w t b _ fun e=>h.Z5 r row T t (by rw[N];rfl) (e ▸ hf)
 have U: ∀(p:Nat)(G:List AV),(row.es.set i (ew e off cs))[p]? =some G->G.length=row.sz:=fun p G hp=>by
  rw[O0]at hp;by_cases ep:i=p
  ·rw[Mw ep,Mw J]at hp;cases hp;rw[dQ _ _ _ (by omega),hel]
  rw[Mt ep]at hp;exact k.len p G hp
 have L:m.ρ r= .slice (some ⟨t,0,none⟩) row.es.length I:=N
 have B: ∀ {v:Value}{c:AV},(if row.pure then RV m.S w v c else RL w m s v c)->(if row.pure then RV m.S (w.setRow t (ew d.toList (i*row.sz+off) vs).toArray) v c else RL (w.setRow t (ew d.toList (i*row.sz+off) vs).toArray) m (s.setRow r { row with es:=row.es.set i (ew e off cs) }) v c):=fun {v c} A=>by
  have O: ∀b o,m.S b o->m.S b o/\k9 w (w.setRow t (ew d.toList (i*row.sz+off) vs).toArray) b o:=fun b o A=>⟨A, .block (PI w t b _ (fun e=>D o (e ▸ A)))⟩;split at A
  ·rename_i hp;rw[Mw hp];exact A.mono O
  rename_i hp;rw[Mt hp];refine A.mono O (fun _=>NC _) fun q W _ z=> ?_;by_cases eq:q=r
  ·subst eq;simp only[St.setRow,aw,Ms]at z;subst z;exact⟨row,T,rfl,rfl⟩
  simp only[St.setRow,cR _ _ _ eq]at z;exact⟨W,z,rfl,rfl⟩
 refine .inl ⟨k.pos,U,⟨ew H (i*row.sz+off) vs,⟨?_, .inr ⟨t,I,_,?_,e2,QO w t d _ row.e _ e3,?_,e5,?_,?_⟩⟩,?_,?_⟩,?_,?_,?_⟩
 ·rw[dQ _ _ _ (by omega),hxl];simp
 ·rw[L];simp
 ·simpa using e4
 ·rw[PD];show (ew d.toList (i*row.sz+off) vs).length=I*row.sz;rw[dQ _ _ _ P,OK,e6]
 ·show ((ew d.toList (i*row.sz+off) vs).toArray.toList.take ((row.es.set i (ew e off cs)).length*row.sz))=ew H (i*row.sz+off) vs;apply Nv;intro q;rw[PF,Qd,N8,bz d.toList _ _ P,bz H _ _ (by omega)];have hx: ∀q,q<row.es.length*row.sz->H[q]? =d.toList[q]? :=fun q z=>by rw[<-e7,N8,Mw z]
  split
  ·rename_i z;split
   ·exact(hx q z).symm
   split
   ·rfl
   exact(hx q z).symm
  rename_i z;rw[Mt (by omega),Mt (by omega),NI (by omega)]
 ·intro u hu;simp only[ew,NY]at hu;rcases hu with(hu|hu)|hu
  ·exact k2 u (Ou hu)
  ·exact h1 u hu
  exact k2 u (P8 hu)
 ·intro p j c y;have S:=eO U y;simp only[PF]at S;show ∃u,(ew H (i*row.sz+off) vs)[p*row.sz+j]? =some u/\_;rw[bz _ _ _ (by omega)]
  have C: ∀E,bs row.es p j=some E->E=c->(¬(p=i/\off<=j/\j<off+cs.length))-> ∃u,(if p*row.sz+j<i*row.sz+off then H[p*row.sz+j]? else if p*row.sz+j<i*row.sz+off+vs.length then vs[p*row.sz+j-(i*row.sz+off)]? else H[p*row.sz+j]?)=some u/\(if row.pure then RV m.S (w.setRow t (ew d.toList (i*row.sz+off) vs).toArray) u c else RL (w.setRow t (ew d.toList (i*row.sz+off) vs).toArray) m (s.setRow r { row with es:=row.es.set i (ew e off cs) }) u c):=fun E Y Z hno=>by
   subst Z;obtain⟨u,h4,h5⟩:=k3 p j E Y;refine⟨u,?_,B h5⟩;split
   ·exact h4
   rename_i hge;rw[Mt ?_]
   ·exact h4
   intro hlt2;apply hno;rcases Px p i with hp|hp|hp
   ·have:=kZ (n:=i) hp S.2;omega
   ·subst hp;omega
   have:=kZ (i:=i) (j:=off+vs.length-1) (n:=p) (sz:=row.sz) hp (by have:=k.pos;omega);have:(i+1)*row.sz<=p*row.sz:=Nk _ hp;rw[OY,P7]at this;omega
  by_cases K:p=i
  ·subst K
   have f:(ew e off cs)[j]? =some c:=by
    unfold bs at y;rw[QP J]at y;exact y
   rw[bz _ _ _ (by omega)]at f;have Q: ∀E,e[j]? =some E->bs row.es p j=some E:=fun E A=>by unfold bs;rw[hi];exact A
   by_cases j1:j<off
   ·rw[Mw j1]at f;exact C c (Q c f) rfl (by omega)
   rw[Mt j1]at f;by_cases j2:j<off+cs.length
   ·rw[Mw j2]at f;have R:j-off<vs.length:=by omega
    refine⟨vs[j-off],?_,B (hc (j-off) _ c (Mq R) f)⟩;rw[Mt (by omega),Mw (by omega),show p*row.sz+j-(p*row.sz+off)=j-off by omega,Mq R]
   rw[Mt j2]at f;exact C c (Q c f) rfl (by omega)
  have f:bs row.es p j=some c:=by
   unfold bs at y |-;rw[Py (Ot K)]at y;exact y
  exact C c f rfl (fun A=>K A.1)
 ·intro G;simp only[St.setRow]at G;rw[he]at G;cases G
 ·intro X l o ho;rw[L]at l;simp[Value.ownBlock]at l;subst l;exact D o
 intro _ X l o;rw[L]at l;simp[Value.ownBlock]at l;subst l;exact D o
end
section
section
variable {P:Program} (w:World)
theorem fH(base:Nat)(t Q e:TypeId)(i:TypeInfo)(z:Value)(size s:Nat)(M:P.underlying t=some (.slice e))(hi:P.info? e=some i)(hz:i.zero=some z)
 (H:i.size=size)(U:i.bytes=s)(Z:z.cells.size=size)(hsz:0<size)
 (v:Value)(n:Nat)(xs:List Value)(d:w.ownsRow base e size v n xs)
 (A:Option Addr)(m c:Nat)(b:List Value)(D:b.length=m*size)(G:0<m-> ∃a,A=some a/\ ∀j u,b[j]? =some u->w.cell? (a.add j)=some u)(h1: ∀u∈b,u.oneCell'=true)
 (J:n+m<=maxLen)(o:(n+m)*s<=140737488355328)(B:base<=w.heap.size):
 ∃R S,(Builtin.append_ #[t,t] Q #[v, .slice A m c]).run P w= .ok R S/\S.ownsRow base e size R (n+m) (xs++b)/\
  ((R.ownBlock=v.ownBlock/\w.grownBy S v.ownBlock)\/(R.ownBlock=some w.heap.size/\w.grownBy S none)):=by
 have N:(n+m)=n->b=[]:=fun hh=>Np (by rw[D,show m=0 by omega];simp);by_cases hm:m=0
 ·subst hm;have Y:=N rfl;subst Y;refine⟨v,w,?_,by simpa using d, .inl ⟨rfl,World.grownBy.refl w _⟩⟩;rcases d.2 with⟨rfl,rfl⟩|⟨g,q,y,rfl,_,_,L,_⟩
  ·cases A<;>simp[Builtin.append_,NL M,sizeOf,typeInfo,hi,Builtin.lenOf,Builtin.firstCells,loadCells,loadCellsFrom]
  cases A<;>simp[Builtin.append_,NL M,sizeOf,typeInfo,hi,Builtin.lenOf,Builtin.firstCells,L,storeCells,loadCells,loadCellsFrom]
 obtain⟨a,rfl,h⟩:=G (by omega);subst H;subst U;have O:n+m<=9223372036854775807:=by simp only[maxLen]at J;omega
 have p:(xs++b).length=(n+m)*i.size:=by rw[My,d.1,D,OY]
 have x: ∀(f:Nat),f<n+m->
  (w.drew.alloc (.cells (xs.toArray++b.toArray++Builtin.zeroCells z.cells (grownCap w (n+m) f e-(n+m))) e)).ownsRow base e i.size
   (.slice (some ⟨w.heap.size,0,none⟩) (n+m) (grownCap w (n+m) f e)) (n+m) (xs++b)/\
  w.grownBy (w.drew.alloc (.cells (xs.toArray++b.toArray++Builtin.zeroCells z.cells (grownCap w (n+m) f e-(n+m))) e)) none:=by
  intro f ho;have W:=SC w (n+m) f e;have C:grownCap w (n+m) f e<=maxLen:=Re w (n+m) f e J;refine⟨⟨p, .inr ⟨w.heap.size,_,_,rfl,B,heap_alloc_new w.drew _,W,C,?_,?_⟩⟩,⟨rfl,rfl,rfl,by simp,fun k X _=>Oo w.drew _ k X⟩⟩
  ·simp only[Array.size_append,PD,Rf,Z,d.1,D, <-OY]
   congr 1
   omega
  simp only[Array.toList_append,Nl];rw[<-Nl, <-p];exact SD
 rcases d.2 with⟨rfl,rfl⟩|⟨g,q,y,rfl,T,hg,L,C,V,I⟩
 ·have hx:xs=[]:=Np (by simpa using d.1);subst hx;have G:=run_append_nil (P:=P) w t Q e i z M hi hz a m c b D h (by omega) (by omega) (by have hb:=o;simp only[OM]at hb;omega);have r:=x 0 (by omega);simp only[OM,PX,Array.empty_append]at r |-;exact⟨_,_,G,r.1,Or.inr ⟨rfl,r.2⟩⟩
 by_cases l:n+m<=q
 ·have K:n*i.size+b.length<=y.size:=by rw[D,V, <-OY];exact Nk _ l
  have G:=run_append_room (P:=P) w t Q e i M hi g n q y hg a m c b D h h1 l K;refine⟨_,_,G,⟨p, .inr ⟨g,q,_,rfl,T,QO w g y _ e _ hg,l,C,?_,?_⟩⟩,Or.inl ⟨rfl,⟨rfl,rfl,rfl,by simp,fun k _ X=>PI w g k _ (fun e=>X (by simp[Value.ownBlock,e]))⟩⟩⟩
  ·simp only[PD,My,NJ,Oa,OK];omega
  rw[I, <-p];exact SD
 have E: ∀j u,xs[j]? =some u->w.cell? ((⟨g,0,none⟩:Addr).add j)=some u:=d.cells (g:=g) rfl;have G:=run_append_grow (P:=P) w t Q e i z M hi hz ⟨g,0,none⟩ n q xs d.1 E a m c b D h (by omega) (by omega) (SF (by omega) o);have r:=x q (by omega);exact⟨_,_,G,r.1,Or.inr ⟨rfl,r.2⟩⟩
end
section
variable {P:Program} (w:World)
theorem rR(base:Nat)(t L e:TypeId)(i:TypeInfo)(z:Value)(size h:Nat)(R:P.underlying t=some (.slice e))(hi:P.info? e=some i)(T:i.zero=some z)
 (v:i.size=size)(G:i.bytes=h)(K:z.cells.size=size)
 (E:Option Addr)(n:Nat)(xs:List Value)(p:xs.length=n*size)(S:0<n-> ∃a,E=some a/\ ∀j u,xs[j]? =some u->w.cell? (a.add j)=some u)
 (A:Option Addr)(m c:Nat)(b:List Value)(C:b.length=m*size)(B:0<m-> ∃a,A=some a/\ ∀j u,b[j]? =some u->w.cell? (a.add j)=some u)(Y:0<m)
 (y:n+m<=maxLen)(f:(n+m)*h<=140737488355328)(r:base<=w.heap.size):
 ∃M N,(Builtin.append_ #[t,t] L #[.slice E n n, .slice A m c]).run P w= .ok M N/\N.ownsRow base e size M (n+m) (xs++b)/\
  M.ownBlock=some w.heap.size/\w.grownBy N none:=by
 obtain⟨a,rfl,o⟩:=B Y;subst v;subst G;have D:n+m<=9223372036854775807:=by simp only[maxLen]at y;omega
 have q:(xs++b).length=(n+m)*i.size:=by rw[My,p,C,OY]
 have l: ∀(d:Nat),d<n+m->
  (w.drew.alloc (.cells (xs.toArray++b.toArray++Builtin.zeroCells z.cells (grownCap w (n+m) d e-(n+m))) e)).ownsRow base e i.size
   (.slice (some ⟨w.heap.size,0,none⟩) (n+m) (grownCap w (n+m) d e)) (n+m) (xs++b)/\
  w.grownBy (w.drew.alloc (.cells (xs.toArray++b.toArray++Builtin.zeroCells z.cells (grownCap w (n+m) d e-(n+m))) e)) none:=by
  intro d ho;have I:=SC w (n+m) d e;have H:grownCap w (n+m) d e<=maxLen:=Re w (n+m) d e y;refine⟨⟨q, .inr ⟨w.heap.size,_,_,rfl,r,heap_alloc_new w.drew _,I,H,?_,?_⟩⟩,⟨rfl,rfl,rfl,by simp,fun k X _=>Oo w.drew _ k X⟩⟩
  ·simp only[Array.size_append,PD,Rf,K,p,C, <-OY]
   congr 1
   omega
  simp only[Array.toList_append,Nl];rw[<-Nl, <-q];exact SD
 cases E with
 | none=>
   have J:n=0:=PQ fun hne=>by obtain⟨a,e,_⟩:=S (by omega);cases e
   subst J;have x:xs=[]:=Np (by simpa using p);subst x;have B:=run_append_nil (P:=P) w t L e i z R hi T a m c b C o (by omega) (by omega) (by have W:=f;simp only[OM]at W;omega);have g:=l 0 (by omega);simp only[OM,PX,Array.empty_append]at g |-;exact⟨_,_,B,g.1,rfl,g.2⟩
 | some O=>
   have s: ∀j u,xs[j]? =some u->w.cell? (O.add j)=some u:=fun j u Q=>by
    by_cases Z:0<n
    ·obtain⟨a',U,V⟩:=S Z;cases U;exact V j u Q
    have x:xs=[]:=Np (by rw[p,show n=0 by omega,Pi]);subst x;simp at Q
   have B:=run_append_grow (P:=P) w t L e i z R hi T O n n xs p s a m c b C o (by omega) (by omega) (SF (by omega) f);have g:=l n (by omega);exact⟨_,_,B,g.1,rfl,g.2⟩
end
def me(es RC:List (List AV))(i j:Nat):bs (es++RC) i j=if i<es.length then bs es i j else bs RC (i-es.length) j:=by
 unfold bs;by_cases h:i<es.length
 ·rw[Mw h,Nb h]
 rw[Mt h,N3 (by omega)]
def dT.grow{x:py}{s:St}{a:Act}{w E:World}{m:ld}(h:dT x s a w m)(r:Nat)(row:Row)(hr:s.rows r=some row)(hrz:row.sz≠0)(hp:row.pure=true)(RC:List (List AV))(xs p:List Value)(C:Value)
 (J:w.ownsRow x.w.heap.size row.e row.sz (m.ρ r) row.es.length xs)(hx1: ∀u∈xs,u.oneCell'=true)(hxc: ∀(i j:Nat)(c:AV),bs row.es i j=some c-> ∃u,xs[i*row.sz+j]? =some u/\RV m.S w u c)
 (hz2: ∀(i:Nat)(e:List AV),RC[i]? =some e->e.length=row.sz)(h1: ∀u∈p,u.oneCell'=true)(hnl:p.length=RC.length*row.sz)
 (Z: ∀(i j:Nat)(c:AV),bs RC i j=some c-> ∃u,p[i*row.sz+j]? =some u/\RV m.S w u c)
 (ho:E.ownsRow x.w.heap.size row.e row.sz C (row.es.length+RC.length) (xs++p))
 (f:(C.ownBlock=(m.ρ r).ownBlock/\w.grownBy E (m.ρ r).ownBlock)\/(C.ownBlock=some w.heap.size/\w.grownBy E none)):
 ∃S',dT x (s.renew r { row with es:=row.es++RC } (s.esc r)) a E ⟨S',mu m.ρ r C⟩/\ ∀b o,m.S b o->S' b o:=by
 have k:=(h.rows r row hr).cells hrz;have hsz:w.heap.size<=E.heap.size:=by rcases f with⟨_,f⟩|⟨_,f⟩<;>exact f.size
 have hb:Below x.w.heap.size w E:=by
  rcases f with⟨_,f⟩|⟨_,f⟩
  ·exact(O1 _ _).grown f h.Z3.size (fun q L=>(bi J L).1)
  exact(O1 _ _).grown f h.Z3.size (fun q L=>by cases L)
 have I: ∀b o,m.S b o->k9 w E b o:=fun b o d=>by
  have n:=h.low b o d;by_cases D:(m.ρ r).ownBlock=some b
  ·rcases f with⟨t,f⟩|⟨t,f⟩
   ·have hlo:o<row.es.length*row.sz:=by
     rcases Pa o (row.es.length*row.sz) with q|q
     ·exact q
     exact absurd d (k.spare b D o q)
    have K:o<xs.length:=by rw[J.1];exact hlo
    have V:=ig J D o xs[o] (Mq K);have W:=ig ho (t.trans D) o xs[o] (by rw[Nb K];exact Mq K);obtain⟨cur,fr,M⟩:=Ix J D;exact .cells M (W.trans V.symm)
   exact .block (f.block b n (by simp))
  rcases f with⟨t,f⟩|⟨t,f⟩
  ·exact .block (f.block b n (fun e=>D e.symm))
  exact .block (f.block b n (by simp))
 obtain⟨S',v⟩: ∃S':Nat->Nat->Prop,S'=fun b o=>m.S b o\/(s.esc r=true/\C.ownBlock=some b/\o< (row.es.length+RC.length)*row.sz):=⟨_,rfl⟩;have A: ∀b o,m.S b o->S' b o/\k9 w E b o:=fun b o d=>⟨by rw[v];exact .inl d,I b o d⟩
 have Q: ∀q B,q≠r->s.rows q=some B-> ∀g,(m.ρ q).ownBlock=some g->E.heap[g]? =w.heap[g]? /\C.ownBlock≠some g/\ ∀o,S' g o->m.S g o:=fun q B hne L g N=>by
  have n:g<w.heap.size:=by
   exact((h.rows q B L).blk N).2
  have P:(m.ρ r).ownBlock≠some g:=fun e=>h.inj r q row B hr L (Ot hne) g e N
  have S:C.ownBlock≠some g:=by
   rcases f with⟨t,_⟩|⟨t,_⟩
   ·rw[t];exact P
   rw[t];intro e;injection e with e;omega
  refine⟨?_,S,fun o d=> ?_⟩
  ·rcases f with⟨t,f⟩|⟨t,f⟩
   ·exact f.block g n (fun e=>P e.symm)
   exact f.block g n (by simp)
  rw[v]at d;rcases d with d|⟨_,d,_⟩
  ·exact d
  exact absurd d S
 have hfx: ∀b,x.fx b->E.heap[b]? =w.heap[b]? /\(∀o,S' b o->m.S b o)/\C.ownBlock≠some b:=fun b hf=>by
  have n:=h.fxlt hf;have O:(m.ρ r).ownBlock≠some b:=fun e=>h.Z5 r row hr b e hf
  have R:C.ownBlock≠some b:=by
   rcases f with⟨t,_⟩|⟨t,_⟩
   ·rw[t];exact O
   rw[t];intro e;injection e with e;omega
  refine⟨?_,fun o d=> ?_,R⟩
  ·rcases f with⟨t,f⟩|⟨t,f⟩
   ·exact f.block b n (fun e=>O e.symm)
   exact f.block b n (by simp)
  rw[v]at d;rcases d with d|⟨_,d,_⟩
  ·exact d
  exact absurd d R
 have T: ∀(i:Nat)(e:List AV),(row.es++RC)[i]? =some e->e.length=row.sz:=fun i e y=>by
  by_cases U:i<row.es.length
  ·rw[Nb U]at y;exact k.len i e y
  rw[N3 (by omega)]at y;exact hz2 _ e y
 have z: ∀g,C.ownBlock=some g-> ∀o,m.S g o->o<row.es.length*row.sz/\s.esc r=true:=fun g l o d=>by
  rcases f with⟨t,_⟩|⟨t,_⟩
  ·rw[t]at l;refine⟨?_,?_⟩
   ·rcases Pa o (row.es.length*row.sz) with q|q
    ·exact q
    exact absurd d (k.spare g l o q)
   ·cases y:s.esc r with
    |true=>rfl
    |false=>exact absurd d (k.fresh y g l o)
  rw[t]at l;injection l with l
  have:=h.low g o d;omega
 refine⟨S',h.renew r _ (s.esc r) C S' hb A (fun b o d=> ?_) Q (.inl ⟨k.pos,T,⟨xs++p,?_,?_,fun i j c hc=> ?_⟩,?_,?_,?_⟩) hfx,fun b o d=>(A b o d).1⟩
 ·rw[v]at d;rcases d with d|⟨_,d,_⟩
  ·exact .inl d
  exact .inr (bi ho d)
 ·show E.ownsRow x.w.heap.size row.e row.sz (mu m.ρ r C r) (row.es++RC).length (xs++p);rw[aw,My];exact ho
 ·intro u hu;rcases NY.1 hu with hu|hu
  ·exact hx1 u hu
  exact h1 u hu
 ·show ∃u,(xs++p)[i*row.sz+j]? =some u/\(if row.pure then _ else _);have n:=eO T hc;have G:bs (row.es++RC) i j=some c:=hc;rw[me]at G;split at G
  ·rename_i U;obtain⟨u,X,Y⟩:=hxc i j c G;refine⟨u,?_,?_⟩
   ·rw[Nb (by rw[J.1];exact kZ U n.2)];exact X
   rw[Mw hp];exact Y.mono A
  rename_i U;obtain⟨u,X,Y⟩:=Z _ j c G;refine⟨u,?_,?_⟩
  ·have V:i*row.sz+j-row.es.length*row.sz=(i-row.es.length)*row.sz+j:=by
    rw[Nat.sub_mul];have:row.es.length*row.sz<=i*row.sz:=Nk _ (by omega);omega
   have W:row.es.length*row.sz<=i*row.sz+j:=by
    have:row.es.length*row.sz<=i*row.sz:=Nk _ (by omega);omega
   rw[N3 (by rw[J.1];exact W),J.1,V];exact X
  rw[Mw hp];exact Y.mono A
 ·intro y g l o H;simp only[St.renew,aw]at y l;simp only[My]at H;rw[v];exact .inr ⟨y,l,H⟩
 ·intro g l o H d;simp only[aw]at l;simp only[My,OY]at H;rw[v]at d;rcases d with d|⟨_,_,d⟩
  ·have:=(z g l o d).1;omega
  rw[OY]at d;omega
 intro y g l o d;simp only[St.renew,aw]at y l;rw[v]at d;rcases d with d|⟨d,_⟩
 ·rw[(z g l o d).2]at y;cases y
 rw[d]at y;cases y
end
section
inductive Kd where
 |int (k:IntKind)
 |bool
 |string
 |slice (e:TypeId) (esz ebytes:Nat) (ez:List Value)
 |ptr
 |iface
 |struct (fs:List (Nat×TypeId×Nat)) (eq:Bool)
 |arr (n:Nat) (e:TypeId) (esz:Nat)
 |map (k e:TypeId) (z:Value)
 |other
structure Uj where
 kd:Kd
 size:Nat
 zero:List Value
def tK(P:Program)(t:TypeId):TypeDesc->Option Kd
 | .int k=>some (.int k)
 | .bool=>some .bool
 | .string=>some .string
 | .pointer _=>some .ptr
 | .interface _=>some .iface
 | .slice e=>match P.info? e with
   | some a=>match a.zero with
     |some z=>some (.slice e a.size a.bytes z.cells.toList)
     |none=>none
   |none=>none
 | .struct b=>match b.toList.mapM (fun f=>(P.info? f.type).map fun i=>(f.offset,f.type,i.size)) with
   |some l=>some (.struct l (!P.eqGuardType P.depth t&& !P.stoodInHeld t&&b.toList.all (fun f=>f.name≠ "_")))
   |none=>none
 | .array n e=>match P.info? e with
   |some a=>some (.arr n e a.size)
   |none=>none
 | .map k e=>match P.info? e with
   | some a=>match a.zero with
     |some z=>some (.map k e z)
     |none=>none
   |none=>none
 |_=>some .other
def ef(P:Program)(t:TypeId):Option Uj:=
 match P.info? t,P.underlying t with
 | some i,some d=>match i.zero,tK P t d with
   |some z,some k=>some ⟨k,i.size,z.cells.toList⟩
   |_,_=>none
 |_,_=>none
inductive Rd(α:Type) where
 |ret (a:α)
 |fail
 |look (r:Nat) (k:Option Row->Nat->Rd α)
 |esc (r:Nat) (k:Bool->Rd α)
def Rd.bind{c d:Type} :Rd c->(c->Rd d)->Rd d
 | .ret a,k=>k a
 | .fail,_=> .fail
 | .look r j,k=> .look r fun o v=>(j o v).bind k
 | .esc r j,k=> .esc r fun b=>(j b).bind k
def Rd.run{b:Type} :Rd b->St->Option b
 | .ret a,_=>some a
 | .fail,_=>none
 | .look r k,s=>(k (s.rows r) (s.vs r)).run s
 | .esc r k,s=>(k (s.esc r)).run s
def Rd.run_bind{c d:Type}(m:Rd c)(k:c->Rd d)(s:St):(m.bind k).run s=(m.run s).bind fun a=>(k a).run s:=by
 induction m with
 |ret a=>rfl
 |fail=>rfl
 |look r j b=>exact b _ _
 |esc r j b=>exact b _
def Rd.row{c:Type}(r b:Nat)(k:Row->Rd c):Rd c:= .look r fun o v=>match o with
 |some a=>if v=b/\a.sz≠0 then k a else .fail
 |none=> .fail
def AV.bare:AV->Bool
 | .row .. | .loc .. | .mp .. | .sub .. =>false
 | .agg cs=>bareL cs
 | .tuple cs=>bareL cs
 | .clo _ cs=>bareL cs
 |_=>true
where bareL:List AV->Bool
 |[]=>true
 |c::cs=>c.bare&&bareL cs
def pG: ∀ {cs:List AV},AV.bare.bareL cs=true-> ∀(i:Nat)(c:AV),cs[i]? =some c->c.bare=true
 |[],_,i,c,a=>by simp at a
 | d::cs,h,i,c,a=>by
   simp only[AV.bare.bareL,Mu]at h;cases i with
   |zero=>simp at a;subst a;exact h.1
   |succ i=>exact pG h.2 i c (by simpa using a)
def RL.bare{w:World}{m:ld}{s:St}{v:Value}{c:AV}(h:RL w m s v c)(b:c.bare=true):RV m.S w v c:=by
 induction h with
 |val h=>exact h
 |agg k d h l e j=>exact .agg k d h l fun i v c f a=>j i v c f a (pG (by simpa only[AV.bare]using b) i c a)
 |tuple k d h e j=>exact .tuple k d h fun i v c f a=>j i v c f a (pG (by simpa only[AV.bare]using b) i c a)
 |row=>simp[AV.bare]at b
 |loc=>simp[AV.bare]at b
 |mp=>simp[AV.bare]at b
 |sub=>simp[AV.bare]at b
 |clo g k d h e j=>exact .clo g k d h fun i v c f a=>j i v c f a (pG (by simpa only[AV.bare]using b) i c a)
def Rd.map{c:Type}(r b:Nat)(k:Row->Rd c):Rd c:= .look r fun o v=>match o with
 |some a=>if v=b/\a.sz=0 then k a else .fail
 |none=> .fail
inductive u3 where
 |renew (r:Nat) (row:Row)
 |grow (r:Nat) (row:Row)
 |set (r:Nat) (row:Row)
 |show (r:Nat)
def u3.app:u3->St->St
 | .renew r a,s=>s.renew r a false
 | .grow r a,s=>s.renew r a (s.esc r)
 | .set r a,s=>s.setRow r a
 | .show r,s=>s.show r
structure Out where
 val:AV
 Z2:List u3
def dk:List u3->St->St
 |[],s=>s
 |e::a,s=>dk a (e.app s)
def Out.app(o:Out)(d:Option Nat)(s:St):St:=(dk o.Z2 s).put d o.val
def AV.ofVal:Value->AV
 | .agg a=>if a.toList.all (·.oneCell') then .agg (a.toList.map .lit) else .any
 |v=> .lit v
def gt(env:b8)(f:Nat->AV):Operand->AV
 | .tmp t=>f t
 | .const v=> .ofVal v
 | .global g=>match env g with
   |some c=> .ref 1 [[c]] 0 0
   |none=> .lit (.pointer (some ⟨g,0,none⟩))
 | .func g=> .lit (.func (.func g) #[] #[])
def AV.asCells:AV->Option (List AV)
 | .agg a=>some a
 | .any | .tuple _ | .own .. =>none
 | .lit v=>if v.oneCell' then some [.lit v] else none
 |c=>some [c]
def AV.plain:AV->Bool
 | .row .. | .loc .. | .mp .. | .agg _ | .own .. | .tuple _ | .clo .. | .sub .. =>false
 |_=>true
def AV.soft(c:AV):AV:=if c.plain then c else .any
def cd:AV->Rd (AV×List Nat)
 | .row r a=>Rd.row r a fun row=>if row.pure then .ret (.seq row.sz row.es,[r]) else .fail
 | .loc r a i b=>Rd.row r a fun row=>if row.pure||row.es.all (·.all AV.plain) then .ret (.ref row.sz row.es i b,[r]) else .ret (.ref row.sz (row.es.map (·.map AV.soft)) i b,[r])
 | .sub r a d=>Rd.row r a fun row=>if row.pure=true/\d<=row.es.length then .ret (.seq row.sz (row.es.drop d),[r]) else .fail
 | .own .. | .agg _ | .tuple _ | .mp .. | .clo .. => .fail
 |c=> .ret (c,[])
def eM:List AV->Rd (List AV×List Nat)
 |[]=> .ret ([],[])
 |c::a=>(cd c).bind fun x=>(eM a).bind fun y=> .ret (x.1::y.1,x.2++y.2)
def fz:AV->Rd (AV×List Nat)
 | .agg a=>(eM a).bind fun x=> .ret (.agg x.1,x.2)
 | .clo g a=>(eM a).bind fun x=> .ret (.clo g x.1,x.2)
 |c=>cd c
def ik(l:List Nat):List u3:=l.map .show
def mJ(d:Option Nat)(t:TypeId)(cs:List AV):Rd Out:=match d with
 |some d=>if 0<cs.length then .look d fun _ v=> .ret ⟨.loc d (v+1) 0 0,[.renew d ⟨cs.length,[cs],t,false⟩]⟩ else .fail
 |none=> .fail
def eY(P:Program)(t:TypeId)(e:Option (List AV))(off:Nat):Rd Out:=
 match ef P t,e with
 |some ⟨.struct ..,n,_⟩,some a|some ⟨.arr ..,n,_⟩,some a=>if off+n<=a.length then .ret ⟨.agg ((a.drop off).take n),[]⟩ else .fail
 | some _,some a=>match a[off]? with
   |some c=> .ret ⟨c,[]⟩
   |none=> .fail
 |_,_=> .fail
def pU(P:Program)(t:TypeId)(a x:AV):Rd Out:=
 match a,ef P t with
 | .loc r h i f,some d=>Rd.row r h fun c=> .esc r fun b=>if b then .fail else
  match c.es[i]? with
  |some e=>if c.pure then(fz x).bind fun y=>match y.1.asCells with
   |some g=>if g.length=d.size/\f+g.length<=c.sz/\y.2.all (· != r) then .ret ⟨.any,ik y.2++[.set r { c with es:=c.es.set i (ew e f g) }]⟩ else .fail
   |none=> .fail
    else match x.asCells with
     |some g=>if g.length=d.size/\f+g.length<=c.sz then .ret ⟨.any,[.set r { c with es:=c.es.set i (ew e f g) }]⟩ else .fail
     |none=> .fail
  |none=> .fail
 |_,_=> .fail
def mV(e:List (Nat×TypeId×Nat)):List AV->List (Nat×AV)->Option (List AV)
 |c,[]=>some c
 | c,(i,x)::b=>match e[i]?,x.asCells with
   |some (a,_,n),some d=>if d.length=n/\a+d.length<=c.length then mV e (ew c a d) b else none
   |_,_=>none
def jM(sz:Nat):List (List AV)->List (Nat×AV)->Option (List (List AV))
 |es,[]=>some es
 | es,(i,x)::a=>match x.asCells with
   |some b=>if b.length=sz/\i<es.length then jM sz (es.set i b) a else none
   |none=>none
def eL:List (Nat×AV)->Rd (List (Nat×AV)×List Nat)
 |[]=> .ret ([],[])
 |(i,x)::a=>(fz x).bind fun y=>(eL a).bind fun z=> .ret ((i,y.1)::z.1,y.2++z.2)
def bS(s:ByteArray):List UInt8:=s.data.toList
def ce(P:Program)(t:TypeId):AV->AV->Option Bool
 | .lit (.int k a), .lit (.int c b)=>match ef P t with
   |some ⟨.int _,_,_⟩=>if k=c then some (a==b) else none
   |_=>none
 | .lit (.string a), .lit (.string b)=>match ef P t with
   |some ⟨.string,_,_⟩=>some (bS a==bS b)
   |_=>none
 | .lit (.bool a), .lit (.bool b)=>match ef P t with
   |some ⟨.bool,_,_⟩=>some (a==b)
   |_=>none
 |_,_=>none
def rl(P:Program)(xs c:List AV):List (Nat×TypeId×Nat)->Option Bool
 |[]=>some true
 |(o,t,_)::d=>match xs[o]?,c[o]? with
   | some a,some b=>match ce P t a b,rl P xs c d with
     |some p,some q=>some (p&&q)
     |_,_=>none
   |_,_=>none
def jg:Nat->List (Nat×TypeId×Nat)->Bool
 |_,[]=>true
 |i,f::a=>f.1==i&&jg (i+1) a
def cO(P:Program)(k:TypeId)(a b:AV):Option Bool:=match ef P k with
 | some ⟨.struct c true,n,_⟩=>match a,b with
   | .agg d, .agg e=>if (jg 0 c&&c.length==n&&d.length==n&&e.length==n)=true then rl P d e c else none
   |_,_=>none
 |_=>ce P k a b
def sv(P:Program)(k:TypeId)(x:AV):List (List AV)->Nat->Option (Option Nat)
 |[],_=>some none
 | [b,_]::a,i=>match cO P k x b with
   |some true=>some (some i)
   |some false=>sv P k x a (i+1)
   |none=>none
 |_::_,_=>none
def uI(c:BinOp)(k:IntKind)(a b:Int):Int:=match c with
 | .and=>k.wrap (BitVec.ofInt k.bits a&&& BitVec.ofInt k.bits b).toNat
 | .or=>k.wrap (BitVec.ofInt k.bits a||| BitVec.ofInt k.bits b).toNat
 | .xor=>k.wrap (BitVec.ofInt k.bits a ^^^ BitVec.ofInt k.bits b).toNat
 | .andNot=>k.wrap (BitVec.ofInt k.bits a&&& ~~~(BitVec.ofInt k.bits b)).toNat
 |_=>a
def IW(P:Program)(d:BinOp)(t:TypeId)(h i:Bool):AV->AV->Option AV
 | .lit (.int k a), .lit (.int c b)=>
   match d with
   | .add=>if k=c then some (.lit (.int k (k.wrap (a+b)))) else none
   | .sub=>if k=c then some (.lit (.int k (k.wrap (a-b)))) else none
   | .mul=>if k=c then some (.lit (.int k (k.wrap (a*b)))) else none
   | .quo=>if k=c/\b≠0 then some (.lit (.int k (k.wrap (a.tdiv b)))) else none
   | .rem=>if k=c/\b≠0 then some (.lit (.int k (a.tmod b))) else none
   | .eql=>if k=c then some (.lit (.bool (a==b))) else none
   | .neq=>if k=c then some (.lit (.bool (a != b))) else none
   | .lss=>if k=c then some (.lit (.bool (a<b))) else none
   | .leq=>if k=c then some (.lit (.bool (a<=b))) else none
   | .gtr=>if k=c then some (.lit (.bool (a>b))) else none
   | .geq=>if k=c then some (.lit (.bool (a>=b))) else none
   | .and=>if k=c then some (.lit (.int k (uI .and k a b))) else none
   | .or=>if k=c then some (.lit (.int k (uI .or k a b))) else none
   | .xor=>if k=c then some (.lit (.int k (uI .xor k a b))) else none
   | .andNot=>if k=c then some (.lit (.int k (uI .andNot k a b))) else none
   | .shl=>if 0<=b then some (.lit (.int k (k.wrap (a*2^min b.toNat k.bits)))) else none
   | .shr=>if 0<=b then some (.lit (.int k (a.fdiv (2^min b.toNat k.bits)))) else none
 | .lit (.string a), .lit (.string b)=>
   match d with
   | .add=>if (bS a).length+(bS b).length<=9223372036854775807 then some (.lit (.string ⟨(bS a++bS b).toArray⟩)) else none
   | .eql=>some (.lit (.bool (bS a==bS b)))
   | .neq=>some (.lit (.bool (!(bS a==bS b))))
   | .lss=>some (.lit (.bool (Op.bytesLess (bS a) (bS b))))
   | .leq=>some (.lit (.bool (Op.bytesLess (bS a) (bS b)||bS a==bS b)))
   | .gtr=>some (.lit (.bool (!(Op.bytesLess (bS a) (bS b)||bS a==bS b))))
   | .geq=>some (.lit (.bool (!Op.bytesLess (bS a) (bS b))))
   |_=>none
 | .lit (.bool a), .lit (.bool b)=>
   match d,ef P t with
   | .eql,some ⟨.bool,_,_⟩=>some (.lit (.bool (a==b)))
   | .neq,some ⟨.bool,_,_⟩=>some (.lit (.bool (!(a==b))))
   |_,_=>none
 | .lit .nilIface, .lit .nilIface=>
   match d,ef P t,h||i with
   | .eql,some ⟨.iface,_,_⟩,true=>some (.lit (.bool true))
   | .neq,some ⟨.iface,_,_⟩,true=>some (.lit (.bool false))
   |_,_,_=>none
 | .iface _ _, .lit .nilIface | .lit .nilIface, .iface _ _=>
   match d,ef P t with
   | .eql,some ⟨.iface,_,_⟩=>some (.lit (.bool false))
   | .neq,some ⟨.iface,_,_⟩=>some (.lit (.bool true))
   |_,_=>none
 | .lit (.pointer none), .lit (.pointer none)=>
   match d,ef P t with
   | .eql,some ⟨.ptr,_,_⟩=>some (.lit (.bool true))
   | .neq,some ⟨.ptr,_,_⟩=>some (.lit (.bool false))
   |_,_=>none
 | .ref .., .lit (.pointer none) | .lit (.pointer none), .ref .. =>
   match d,ef P t with
   | .eql,some ⟨.ptr,_,_⟩=>some (.lit (.bool false))
   | .neq,some ⟨.ptr,_,_⟩=>some (.lit (.bool true))
   |_,_=>none
 | .agg f, .agg g=>
   match d,ef P t with
   | .eql,some ⟨.struct e true,_,_⟩=>(rl P f g e).map fun b=> .lit (.bool b)
   | .neq,some ⟨.struct e true,_,_⟩=>(rl P f g e).map fun b=> .lit (.bool (!b))
   |_,_=>none
 |_,_=>none
def jX(x:AV):Rd (Nat×List (List AV)):=match x with
 | .seq d c=> .ret (d,c)
 | .lit (.slice _ 0 _)=> .ret (0,[])
 | .row r b=>Rd.row r b fun a=> .ret (a.sz,a.es)
 |_=> .fail
def TY(b:UInt8):List AV:=[.lit (.int .u8 (b.toNat:Int))]
def byteOf:List AV->Option UInt8
 |[.lit (.int .u8 n)]=>if 0<=n/\n<256 then some (UInt8.ofNat n.toNat) else none
 |_=>none
def wk:List (List AV)->Option (List UInt8)
 |[]=>some []
 | e::a=>match byteOf e,wk a with
   |some b,some l=>some (b::l)
   |_,_=>none
def D0: ∀l:List UInt8,wk (l.map TY)=some l
 |[]=>rfl
 | b::l=>by
   have a:byteOf (TY b)=some b:=by
    have:=b.toNat_lt;simp only[TY,byteOf];rw[Mw ⟨by omega,by omega⟩];simp
   simp only[Nh,wk,a,D0 l]
def vt(P:Program)(b a:TypeId)(x:AV):Rd Out:=
 match x,ef P b,ef P a with
 | .lit (.int _ n),some _,some ⟨.int k,_,_⟩=> .ret ⟨.lit (.int k (k.wrap n)),[]⟩
 | .lit (.string s),some _,some ⟨.string,_,_⟩=> .ret ⟨.lit (.string s),[]⟩
 | .lit (.string s),some ⟨.string,_,_⟩,some ⟨.slice e _ _ _,_,_⟩=>match ef P e with
   |some ⟨.int .u8,_,_⟩=> .ret ⟨.seq 1 ((bS s).map TY),[]⟩
   |_=> .fail
 | x,some ⟨.slice e _ _ _,_,_⟩,some ⟨.string,_,_⟩=>match ef P e with
   | some ⟨.int .u8,_,_⟩=>(fz x).bind fun y=>(jX y.1).bind fun q=>if q.1=1\/q.2=[] then match wk q.2 with
     |some l=> .ret ⟨.lit (.string ⟨l.toArray⟩),ik y.2⟩
     |none=> .fail else .fail
   |_=> .fail
 |_,_,_=> .fail
def zl(P:Program)(t:TypeId)(x:AV):Rd Out:=
 match x,ef P t with
 | .lit (.string s),some ⟨.string,_,_⟩=> .ret ⟨.lit (.int .i64 (bS s).length),[]⟩
 | .mp r b,some ⟨.map ..,_,_⟩=>Rd.map r b fun a=> .ret ⟨.lit (.int .i64 a.es.length),[]⟩
 |x,some ⟨.slice ..,_,_⟩=>(jX x).bind fun q=> .ret ⟨.lit (.int .i64 q.2.length),[]⟩
 |_,_=> .fail
def z7(z:Value):Bool:=match z with
 | .slice .. =>false
 |_=>true
def j9(P:Program)(d:Option Nat)(t:TypeId):Rd Out:=match ef P t,d with
 |some ⟨.map _ _ z,_,_⟩,some d=> .look d fun _ v=> .ret ⟨.mp d (v+1),[.renew d ⟨0,[],t,z7 z⟩]⟩
 |_,_=> .fail
def lT(P:Program)(t:TypeId)(x k:AV)(c:Bool):Rd Out:=match x,ef P t with
 | .mp r e,some ⟨.map b _ z,_,_⟩=>Rd.map r e fun a=>if (cO P b k k).isSome/\(a.pure|| !c)=true then
  match sv P b k a.es 0 with
  | some (some i)=>match a.es[i]? with
    |some [_,d]=> .ret ⟨if c then .tuple [d, .lit (.bool true)] else d,[]⟩
    |_=> .fail
  |some none=> .ret ⟨if c then .tuple [.ofVal z, .lit (.bool false)] else .ofVal z,[]⟩
  |none=> .fail
   else .fail
 | .fmap f,some ⟨.map b _ z,_,_⟩=>if (cO P b k k).isSome then
  match sv P b k f 0 with
  | some (some i)=>match f[i]? with
    |some [_,d]=> .ret ⟨if c then .tuple [d, .lit (.bool true)] else d,[]⟩
    |_=> .fail
  |some none=> .ret ⟨if c then .tuple [.ofVal z, .lit (.bool false)] else .ofVal z,[]⟩
  |none=> .fail
   else .fail
 |_,_=> .fail
def gJ(P:Program)(t:TypeId)(x k v:AV):Rd Out:=match x,ef P t with
 | .mp r b,some ⟨.map c _ _,_,_⟩=>Rd.map r b fun a=>if (cO P c k k).isSome/\k.bare=true/\(!a.pure||v.bare)=true then
  match sv P c k a.es 0 with
  |some (some i)=> .ret ⟨.any,[.set r { a with es:=a.es.set i [k,v] }]⟩
  |some none=> .ret ⟨.any,[.set r { a with es:=a.es++[[k,v]] }]⟩
  |none=> .fail
   else .fail
 |_,_=> .fail
def iV(P:Program)(t:TypeId)(x k:AV):Rd Out:=match x,ef P t with
 | .mp r b,some ⟨.map c _ z,_,_⟩=>Rd.map r b fun a=>if (cO P c k k).isSome/\k.bare=true then
  match sv P c k a.es 0 with
  | some (some i)=>match a.es[i]? with
    |some [_,d]=> .ret ⟨.tuple [d, .lit (.int .i64 i)],[.set r { a with es:=a.es.set i [k,d] }]⟩
    |_=> .fail
  |some none=> .ret ⟨.tuple [.ofVal z, .lit (.int .i64 a.es.length)],[.set r { a with es:=a.es++[[k, .ofVal z]] }]⟩
  |none=> .fail
   else .fail
 |_,_=> .fail
def eU(x n v:AV):Rd Out:=match x,n with
 | .mp r b, .lit (.int _ n)=>Rd.map r b fun a=>if 0<=n/\(!a.pure||v.bare)=true then
  match a.es[n.toNat]? with
  |some [c,_]=> .ret ⟨.any,[.set r { a with es:=a.es.set n.toNat [c,v] }]⟩
  |_=> .fail
   else .fail
 |_,_=> .fail
def jj(P:Program)(t:TypeId)(x k:AV):Rd Out:=match x,ef P t with
 | .mp r b,some ⟨.map c _ _,_,_⟩=>Rd.map r b fun a=>if (cO P c k k).isSome then
  match sv P c k a.es 0 with
  |some none=> .ret ⟨.any,[]⟩
  |some (some _)=> .fail
  |none=> .fail
   else .fail
 |_,_=> .fail
def gK(P:Program)(t:TypeId)(x i:AV):Rd Out:=
 match x,i,ef P t with
 | .seq e d, .lit (.int _ i),some ⟨.slice _ a _ _,_,_⟩=>if 0<=i/\i<d.length/\a=e then .ret ⟨.ref e d i.toNat 0,[]⟩ else .fail
 | .row r c, .lit (.int _ i),some ⟨.slice _ a _ _,_,_⟩=>Rd.row r c fun b=>if 0<=i/\i<b.es.length/\a=b.sz then .ret ⟨.loc r c i.toNat 0,[]⟩ else .fail
 |_,_,_=> .fail
def gL(P:Program)(t:TypeId)(x:AV)(i:Nat):Rd Out:=
 match x,ef P t with
 | .ref e d j a,some ⟨.struct c _,_,_⟩=>match c[i]? with
   |some (o,_,n)=>if n=0 then .fail else .ret ⟨.ref e d j (a+o),[]⟩
   |none=> .fail
 | .loc r b j a,some ⟨.struct c _,_,_⟩=>match c[i]? with
   |some (o,_,n)=>if n=0 then .fail else Rd.row r b fun _=> .ret ⟨.loc r b j (a+o),[]⟩
   |none=> .fail
 |_,_=> .fail
def pX(P:Program)(t:TypeId)(x:AV)(i:Nat):Option AV:=
 match x,ef P t with
 | .agg a,some ⟨.struct b _,_,_⟩=>match b[i]? with
   | some (o,c,n)=>match ef P c with
     |some ⟨.struct ..,_,_⟩|some ⟨.arr ..,_,_⟩=>if o+n<=a.length then some (.agg ((a.drop o).take n)) else none
     |some _=>a[o]?
     |none=>none
   |none=>none
 |_,_=>none
def pW(P:Program)(t:TypeId)(x i:AV):Option AV:=
 match x,i,ef P t with
 | .lit (.string s), .lit (.int _ i),some ⟨.string,_,_⟩=>if 0<=i then match (bS s)[i.toNat]? with
   |some b=>some (.lit (.int .u8 b.toNat))
   |none=>none else none
 |_,_,_=>none
def tU(l:Nat)(d:Nat):Option AV->Option Nat
 |none=>some d
 |some (.lit (.int _ i))=>if 0<=i/\i<=l then some i.toNat else none
 |some _=>none
def im(b:Nat)(x:AV)(lo hi:Option AV):Rd Out:=(fz x).bind fun y=>match y.1 with
 | .seq c a=>if b=c then match tU a.length a.length hi with
   | some h=>match tU h 0 lo with
     |some l=> .ret ⟨.seq c ((a.drop l).take (h-l)),ik y.2⟩
     |none=> .fail
   |none=> .fail else .fail
 |_=> .fail
def pV(P:Program)(t:TypeId)(x:AV)(lo hi:Option AV):Rd Out:=
 match x,ef P t with
 | .lit (.string s),some ⟨.string,_,_⟩=>match tU (bS s).length (bS s).length hi with
   | some h=>match tU h 0 lo with
     |some l=> .ret ⟨.lit (.string ⟨(((bS s).drop l).take (h-l)).toArray⟩),[]⟩
     |none=> .fail
   |none=> .fail
 | x,some ⟨.slice _ c _ _,_,_⟩=>match x,lo,hi with
   | .row r d,none,some (.lit (.int _ i))=> .esc r fun b=>if b then im c x lo hi else Rd.row r d fun a=>
    if c=a.sz/\a.pure=true/\0<=i/\i<=a.es.length then .ret ⟨.row r (d+1),[.grow r { a with es:=a.es.take i.toNat }]⟩ else .fail
   | .row r d,some (.lit (.int _ i)),none=> .esc r fun b=>if b then im c x lo hi else Rd.row r d fun a=>
    if c=a.sz/\a.pure=true/\0<=i/\i<=a.es.length then .ret ⟨.sub r d i.toNat,[]⟩ else .fail
   |_,_,_=>im c x lo hi
 |_,_=> .fail
def vr(P:Program)(t:TypeId)(x:AV)(lo hi:Option AV)(mx:AV):Rd Out:=
 match ef P t,lo,hi,mx with
 | some ⟨.slice _ b _ _,_,_⟩,none,some (.lit (.int _ i)), .lit (.int _ k)=>(fz x).bind fun y=>match y.1 with
   | .seq c a=>if b=c/\i=a.length/\k=a.length then .ret ⟨.full c a,ik y.2⟩ else if b=c/\i=k/\0<=i/\i<=a.length then .ret ⟨.full c (a.take i.toNat),ik y.2⟩ else .fail
   |_=> .fail
 |_,_,_,_=> .fail
def cU(n a:Nat):Prop:=n*a<=140737488355328/\n<=9223372036854775807
instance (n a:Nat):Decidable (cU n a):=inferInstanceAs (Decidable (_/\_))
def aC{n a:Nat}(b:n<=4096)(c:a<=4096):cU n a:=by
 have:n*a<=4096*4096:=Nat.mul_le_mul b c;exact⟨by omega,by omega⟩
def jk(P:Program)(d:Option Nat)(t:TypeId)(x y:AV):Rd Out:=
 match ef P t with
 | some ⟨.slice e a f h,_,_⟩=>if h.length≠a\/a=0 then .fail else
   (fz y).bind fun z=>(jX z.1).bind fun q=>if q.1≠a/\q.2≠[] then .fail else
    match x with
    | .lit (.slice none 0 0)=>match d with
      |some d=>if cU q.2.length f then .look d fun _ v=> .ret ⟨.row d (v+1),ik z.2++[.renew d ⟨a,q.2,e,true⟩]⟩ else .fail
      |none=> .fail
    | .row r c=>Rd.row r c fun b=>if b.pure/\b.sz=a/\b.e=e/\cU (b.es.length+q.2.length) f then
     .ret ⟨.row r (c+1),ik z.2++[.grow r { b with es:=b.es++q.2 }]⟩ else .fail
    | .full i g=>match d with
      |some d=>if i=a/\0<q.2.length/\cU (g.length+q.2.length) f then .look d fun _ v=> .ret ⟨.row d (v+1),ik z.2++[.renew d ⟨a,g++q.2,e,true⟩]⟩ else .fail
      |none=> .fail
    |_=> .fail
 |_=> .fail
def mY(P:Program)(t:TypeId)(x:AV):Rd Out:=
 match x,ef P t with
 | .sub r f e,some ⟨.slice _ c _ d,_,_⟩=> .esc r fun b=>if b then .fail else Rd.row r f fun a=>
  if (c=a.sz/\d.length=c/\d.all (·.oneCell')=true)/\a.pure=true/\e<=a.es.length then .ret ⟨.any,[.set r { a with es:=a.es.take e++List.replicate (a.es.length-e) (d.map .lit) }]⟩ else .fail
 |_,_=> .fail
def vp(P:Program)(d:Option Nat)(t:TypeId)(l c:AV):Rd Out:=
 match ef P t,l,c,d with
 | some ⟨.slice e a f b,_,_⟩, .lit (.int _ n), .lit (.int _ g),some d=>
   if b.length≠a\/a=0\/n≠g\/n<0\/16777216<n\/281474976710656< (f:Int)*n\/ ¬b.all (·.oneCell') then .fail else
    .look d fun _ v=> .ret ⟨.row d (v+1),[.renew d ⟨a,List.replicate n.toNat (b.map .lit),e,true⟩]⟩
 |_,_,_,_=> .fail
def MY(k:IntKind)(n:Int):Int:=k.wrap ((BitVec.ofInt k.bits (if k.signed then -1 else k.max) ^^^ BitVec.ofInt k.bits n).toNat:Nat)
def cX:Operand->Bool
 | .const _=>true
 |_=>false
def iO{b:Type} :Option b->(b->Rd Out)->Rd Out
 |some a,k=>k a
 |none,_=> .fail
def val(c:AV):Rd Out:= .ret ⟨c,[]⟩
def r6:List AV->Option (List Value)
 |[]=>some []
 | .lit v::l=>(r6 l).map (v:: ·)
 |_=>none
def mU(g:FuncId)(cap:Bool)(a:List AV):Rd Out:=match cap,r6 a with
 |true,some b=>val (.lit (.func (.func g) b.toArray #[]))
 |_,_=> .fail
def vu(P:Program)(c:BinOp)(t:TypeId)(e f:Bool)(a b:AV):Rd Out:=match a,b with
 | .loc r d _ _, .lit (.pointer none)=>Rd.row r d fun _=>match c,ef P t with
   | .eql,some ⟨.ptr,_,_⟩=>val (.lit (.bool false))
   | .neq,some ⟨.ptr,_,_⟩=>val (.lit (.bool true))
   |_,_=> .fail
 | .lit (.slice A _ _), .lit (.slice none _ _)=>match c,ef P t with
   | .eql,some ⟨.slice _ _ _ _,_,_⟩=>val (.lit (.bool A.isNone))
   | .neq,some ⟨.slice _ _ _ _,_,_⟩=>val (.lit (.bool (!A.isNone)))
   |_,_=> .fail
 | .seq _ (_::_), .lit (.slice none _ _)=>match c,ef P t with
   | .eql,some ⟨.slice _ _ _ _,_,_⟩=>val (.lit (.bool false))
   | .neq,some ⟨.slice _ _ _ _,_,_⟩=>val (.lit (.bool true))
   |_,_=> .fail
 |a,b=>iO (IW P c t e f a b) val
def EA(x y:AV):Rd Out:=match x,y with
 | .lit (.int k a), .lit (.int c b)=>if k=c then val (.lit (.int k (if b<a then b else a))) else .fail
 |_,_=> .fail
def EB(x y:AV):Rd Out:=match x,y with
 | .lit (.int k a), .lit (.int c b)=>if k=c then val (.lit (.int k (if a<b then b else a))) else .fail
 |_,_=> .fail
def aX(P:Program)(env:b8)(f:Nat->AV)(o:Oper):Rd Out:=
 match o.op with
 | .move x=>val (gt env f x)
 | .assign x=>val (gt env f x)
 | .pick c a b=>match gt env f c with
   | .lit (.bool true)=>val (gt env f a)
   | .lit (.bool false)=>val (gt env f b)
   |_=> .fail
 | .alloc t=>match ef P t with
   |some d=>if d.zero.length=d.size/\d.zero.all (·.oneCell') then mJ o.dst t (d.zero.map .lit) else .fail
   |none=> .fail
 | .box t x=>iO (gt env f x).asCells (mJ o.dst t)
 | .build t parts=>match ef P t with
   |some ⟨.struct H _,n,z⟩=>if z.length=n/\z.all (·.oneCell') then iO (mV H (z.map .lit) (parts.toList.map fun p=>(p.1,gt env f p.2))) fun w=>val (.agg w) else .fail
   |_=> .fail
 | .buildSlice t n parts=>match ef P t,o.dst with
   |some ⟨.slice e m _ B,_,_⟩,some d=>if B.length=m/\0<m/\B.all (·.oneCell')/\n*m<=16777216 then
    (eL (parts.toList.map fun p=>(p.1,gt env f p.2))).bind fun q=>iO (jM m (List.replicate n (B.map .lit)) q.1) fun u=>
     .look d fun _ v=> .ret ⟨.row d (v+1),ik q.2++[.renew d ⟨m,u,e,true⟩]⟩ else .fail
   |_,_=> .fail
 | .load t a=>match gt env f a with
   | .ref _ u i j=>eY P t u[i]? j
   | .loc r s i j=>Rd.row r s fun G=>eY P t G.es[i]? j
   |_=> .fail
 | .store t a x=>pU P t (gt env f a) (gt env f x)
 | .nilCheck x=>match gt env f x with
   | .ref K u i j=>val (.ref K u i j)
   | .loc r s i j=>Rd.row r s fun _=>val (.loc r s i j)
   |_=> .fail
 | .binOp E t x y _=>vu P E t (cX x) (cX y) (gt env f x) (gt env f y)
 | .unOp E _ x=>match E,gt env f x with
   | .not, .lit (.bool b)=>val (.lit (.bool (!b)))
   | .neg, .lit (.int k n)=>val (.lit (.int k (k.wrap (0-n))))
   | .xor, .lit (.int k n)=>val (.lit (.int k (MY k n)))
   |_,_=> .fail
 | .convert src A x=>vt P src A (gt env f x)
 | .makeInterface t x=>match ef P t with
   |some ⟨.iface,_,_⟩=> .fail
   |some _=>(fz (gt env f x)).bind fun y=> .ret ⟨.iface t y.1,ik y.2⟩
   |none=> .fail
 | .makeSlice t l c=>vp P o.dst t (gt env f l) (gt env f c)
 | .makeFunc (.func g) first h=>if first.isEmpty/\ !h.isEmpty then val (.clo g (h.toList.map (gt env f))) else if first.isEmpty then val (.lit (.func (.func g) #[] #[])) else mU g h.isEmpty (first.toList.map (gt env f))
 | .makeMap t none=>j9 P o.dst t
 | .lookup t x k J=>lT P t (gt env f x) (gt env f k) J
 | .mapUpdate t x k v=>gJ P t (gt env f x) (gt env f k) (gt env f v)
 | .mapEntry t x k=>iV P t (gt env f x) (gt env f k)
 | .entryStore _ x n v=>eU (gt env f x) (gt env f n) (gt env f v)
 | .slice t x D C none=>pV P t (gt env f x) (D.map (gt env f)) (C.map (gt env f))
 | .slice t x D C (some I)=>vr P t (gt env f x) (D.map (gt env f)) (C.map (gt env f)) (gt env f I)
 | .fieldAddr t x i=>gL P t (gt env f x) i
 | .field t x i=>iO (pX P t (gt env f x) i) val
 | .indexAddr t x i=>gK P t (gt env f x) (gt env f i)
 | .index t x i=>iO (pW P t (gt env f x) (gt env f i)) val
 | .extract x i=>match gt env f x with
   | .tuple w=>iO w[i]? val
   |_=> .fail
 | .call { callee:= .builtin b,args,argTypes } =>match b,args.toList,argTypes.toList with
   | .len,[x],[t]=>zl P t (gt env f x)
   | .append,[x,y],[t,L]=>if t=L then jk P o.dst t (gt env f x) (gt env f y) else .fail
   | .min,[x,y],_=>EA (gt env f x) (gt env f y)
   | .max,[x,y],_=>EB (gt env f x) (gt env f y)
   | .clear,[x],[t]=>mY P t (gt env f x)
   | .delete,[x,k],[t,_]=>jj P t (gt env f x) (gt env f k)
   |_,_,_=> .fail
 |_=> .fail
end
section
def dl(P:Program)(x:py)(s:St)(a:Act)(w:World)(o:Oper)(b:Out):Prop:=
 ∃c d e v,(execOp a.eval o).run P w= .ok c d/\(c= .value v\/c= .skip/\v=undef)/\dT x (dk b.Z2 s) a d e/\RL d e (dk b.Z2 s) v b.val
section
variable {w:World} {m:ld} {s:St} {v:Value}
theorem RL.lit_{u:Value}(h:RL w m s v (.lit u)):v=u:=by
 cases h with|val h=>cases h;rfl
theorem RL.seq_{sz:Nat}{es:List (List AV)}(h:RL w m s v (.seq sz es)):RV m.S w v (.seq sz es):=by
 cases h with|val h=>exact h
theorem RL.ref_{sz:Nat}{es:List (List AV)}{i off:Nat}(h:RL w m s v (.ref sz es i off)):RV m.S w v (.ref sz es i off):=by
 cases h with|val h=>exact h
theorem RL.iface_{t:TypeId}{c:AV}(h:RL w m s v (.iface t c)): ∃u,v= .iface t u/\RV m.S w u c:=by
 cases h with|val h=>cases h with|iface t u c h=>exact⟨u,rfl,h⟩
theorem RL.tuple_{cs:List AV}(h:RL w m s v (.tuple cs)): ∃vs:List Value,v= .tuple vs.toArray/\vs.length=cs.length/\ ∀(i:Nat)(v:Value)(c:AV),vs[i]? =some v->cs[i]? =some c->RL w m s v c:=by
 cases h with
 |val h=>cases h with|tuple vs cs h a=>exact⟨vs,rfl,h,fun i v c d b=> .val (a i v c d b)⟩
 |tuple vs cs h a=>exact⟨vs,rfl,h,a⟩
theorem RL.agg_{cs:List AV}(h:RL w m s v (.agg cs)): ∃vs:List Value,v= .agg vs.toArray/\vs.length=cs.length/\(∀v∈vs,v.oneCell'=true)/\ ∀(i:Nat)(v:Value)(c:AV),vs[i]? =some v->cs[i]? =some c->RL w m s v c:=by
 cases h with
 |val h=>cases h with|agg vs cs h a b=>exact⟨vs,rfl,h,a,fun i v c e d=> .val (b i v c e d)⟩
 |agg vs cs h a b=>exact⟨vs,rfl,h,a,b⟩
theorem RL.sub_{r a lo:Nat}(h:RL w m s v (.sub r a lo)):a<=s.vs r/\(s.vs r=a-> ∀row,s.rows r=some row->v=Ss (m.ρ r) (lo*row.sz) lo):=by
 cases h with
 |val h=>cases h
 |sub r a lo c b h=>exact⟨b,h⟩
theorem RL.clo_{g:FuncId}{cs:List AV}(h:RL w m s v (.clo g cs)): ∃vs:List Value,v= .func (.func g) #[] vs.toArray/\vs.length=cs.length/\ ∀(i:Nat)(v:Value)(c:AV),vs[i]? =some v->cs[i]? =some c->RL w m s v c:=by
 cases h with
 |val h=>cases h with|clo g vs cs h a=>exact⟨vs,rfl,h,fun i v c d b=> .val (a i v c d b)⟩
 |clo g vs cs h a=>exact⟨vs,rfl,h,a⟩
theorem RL.fmap_{es:List (List AV)}(h:RL w m s v (.fmap es)):RV m.S w v (.fmap es):=by
 cases h with|val h=>exact h
theorem RL.full_{sz:Nat}{es:List (List AV)}(h:RL w m s v (.full sz es)):RV m.S w v (.full sz es):=by
 cases h with|val h=>exact h
theorem RL.news_{n sz:Nat}{es:List (List AV)}(h:RL w m s v (.news n sz es)):RV m.S w v (.news n sz es):=by
 cases h with|val h=>exact h
theorem RL.row_{r a:Nat}(h:RL w m s v (.row r a)):a<=s.vs r/\(s.vs r=a-> ∀row,s.rows r=some row->v=m.ρ r):=by
 cases h with
 |val h=>cases h
 |row r a c b h=>exact⟨b,h⟩
theorem RL.loc_{r a i off:Nat}(h:RL w m s v (.loc r a i off)):a<=s.vs r/\(s.vs r=a-> ∀row,s.rows r=some row-> ∃g,(m.ρ r).ownBlock=some g/\v= .pointer (some ⟨g,i*row.sz+off,none⟩)):=by
 cases h with
 |val h=>cases h
 |loc r a i off c b h=>exact⟨b,h⟩
end
def dT.old{x:py}{s:St}{a:Act}{w:World}{m:ld}(h:dT x s a w m){v:Value}{c:AV}(e:RV x.S x.w v c):RV m.S w v c:=
 e.mono fun b o d=>⟨h.ZT b o d,h.Z3.stay (h.ZX b o d)⟩
def uF(c:AV)(i j:Nat)(a:AV)(h:bs [[c]] i j=some a):i=0/\j=0/\a=c:=by
 unfold bs at h;cases i with
 | zero=>
   cases j with
   |zero=>exact⟨rfl,rfl,by simpa using h.symm⟩
   |succ j=>simp at h
 |succ i=>simp at h
def ar{x:py}{s:St}{a:Act}{w:World}{m:ld}(h:dT x s a w m)(o:Operand):RL w m s (a.eval o) (gt x.env s.f o):=by
 cases o with
 |tmp t=>exact h.slot t
 | const v=>
   show RL w m s v (AV.ofVal v);cases v with
   | agg r=>
     obtain⟨l⟩:=r;show RL w m s (.agg l.toArray) (if l.toArray.toList.all (·.oneCell') then .agg (l.toArray.toList.map .lit) else .any);split
     ·rename_i B;refine .val (.agg l _ (by simp) (fun v n=>(Mz.1 B) v (by simpa using n)) fun i v c n b=> ?_);rw[Qd,NB,n]at b;simp only[NT,Ms]at b;subst b;exact .lit v
     exact .val (.any _)
   |_=>exact .val (.lit _)
 | global g=>
   show RL w m s (.pointer (some ⟨g,0,none⟩)) (match x.env g with|some c=> .ref 1 [[c]] 0 0|none=> .lit (.pointer (some ⟨g,0,none⟩)));cases C:x.env g with
   |none=>exact .val (.lit _)
   | some c=>
     obtain⟨u,y,z,q,A⟩:=h.env g c C
     have:=RV.ref (S:=m.S) (w:=w) 1 [[c]] 0 0 g 0 (fun _ _=>u) (fun i e k=>by
      cases i with
      |zero=>simp at k;subst k;rfl
      | succ i=>simp at k) (fun i j d b=>by
        obtain⟨rfl,rfl,rfl⟩:=uF c i j d b;exact⟨h.ZT _ _ q,(h.Z3.cell (p:=⟨g,0,none⟩) (h.ZX g 0 q)).trans y,z⟩) (fun i j d b=>by
        obtain⟨rfl,rfl,rfl⟩:=uF c i j d b
        exact h.old A)
     exact .val this
 |func f=>exact .val (.lit _)
/-! Types -/
def gV{P:Program}{t:TypeId}{d:Uj}(h:ef P t=some d): ∃i a z,P.info? t=some i/\P.underlying t=some a/\i.zero=some z/\tK P t a=some d.kd/\i.size=d.size/\z.cells.toList=d.zero:=by
 unfold ef at h;split at h
 ·rename_i i a b e;split at h
  ·rename_i z k f c;cases h;exact⟨i,a,z,b,e,f,c,rfl,rfl⟩
  cases h
 cases h
def Kd.isRow:Kd->Bool
 | .struct .. | .arr .. =>true
 |_=>false
def uj{P:Program}{t:TypeId}{a:TypeDesc}{k:Kd}(h:tK P t a=some k):a.isRow=k.isRow:=by
 cases a<;>simp only[tK]at h<;>(repeat' split at h)<;>cases h<;>rfl
def rQ{P:Program}{t:TypeId}{c:TypeDesc}(w:World)(b o:Nat)(v:Value)(e:P.underlying t=some c)(f:c.isRow=false)(d:w.cell? ⟨b,o,none⟩=some v):
 (Instr.loadAt t (.pointer (some ⟨b,o,none⟩))).run P w= .ok v w:=by
 have a:(isAgg t).run P w= .ok false w:=by
  unfold isAgg;rw[NZ,NL e w];cases c<;>simp_all[TypeDesc.isRow]
 simp only[Instr.loadAt,Instr.sureAddr,loadVar,NZ,Nu,NP,a,NU,OA,run_load,d]
def x9{P:Program}{a:Act}{w:World}{o:Oper}{t:TypeId}{y:Operand}(b:o.op= .load t y){v:Value}(h:(Instr.loadAt t (a.eval y)).run P w= .ok v w):(execOp a.eval o).run P w= .ok (.value v) w:=by
 unfold execOp;simp only[b,NZ,h,NP,Nu]
def lh{P:Program}{t:TypeId}{w:World}{m:ld}{s:St}{cs:List AV}{off b p:Nat}{a:Out}(u:Nat->Value)(A: ∀(j:Nat)(c:AV),cs[j]? =some c->w.cell? ⟨b,p+j,none⟩=some (u j)/\(u j).oneCell'=true/\RL w m s (u j) c)
 (h:(eY P t (some cs) off).run s=some a): ∃v,(Instr.loadAt t (.pointer (some ⟨b,p+off,none⟩))).run P w= .ok v w/\RL w m s v a.val/\a.Z2=[]:=by
 unfold eY at h;cases B:ef P t with
 |none=>rw[B]at h;simp[Rd.run]at h
 | some d=>
   obtain⟨i,M,z,K,H,Q,E,G,_⟩:=gV B;have o:=uj E;obtain⟨k,n,R⟩:=d;rw[B]at h;simp only at G E o
   have D: ∀(l:k.isRow=true)(g:(if off+n<=cs.length then Rd.ret (⟨.agg ((cs.drop off).take n),[]⟩:Out) else .fail).run s=some a),∃v,(Instr.loadAt t (.pointer (some ⟨b,p+off,none⟩))).run P w= .ok v w/\RL w m s v a.val/\a.Z2=[]:=by
    intro l g;split at g
    ·rename_i L;simp only[Rd.run,Ms]at g;subst g;have C: ∀j,j<n-> ∃c,cs[off+j]? =some c:=fun j C=>⟨cs[off+j],Mq (by omega)⟩;have O:((List.range n).map fun j=>u (off+j)).length=n:=by simp
     refine⟨_,run_loadAt_mid w b (p+off) t ((List.range n).map fun j=>u (off+j)) M (fun j v f=> ?_) H (by rw[o,l]) (by rw[K];simp[G]), .agg _ _ (by simp;omega) (fun v f=> ?_) fun j v c f y=> ?_,rfl⟩
     ·have e:j<n:=by
       rcases Pa j n with q|q
       ·exact q
       rw[NI (by simpa using q)]at f;cases f
      rw[NB,O8 e]at f;simp only[NT,Ms]at f;subst f;obtain⟨c,r⟩:=C j e;rw[QV];exact(A _ c r).1
     ·simp only[NE,NX]at f;obtain⟨j,e,rfl⟩:=f;obtain⟨c,r⟩:=C j e;exact(A _ c r).2.1
     have e:j<n:=by
      rcases Pa j n with q|q
      ·exact q
      rw[NI (by simpa using q)]at f;cases f
     rw[NB,O8 e]at f;simp only[NT,Ms]at f;subst f;rw[N8,Mw e,OL]at y;exact(A _ c y).2.2
    simp[Rd.run]at g
   have one: ∀(l:k.isRow=false)(g:(match cs[off]? with|some c=>Rd.ret (⟨c,[]⟩:Out)|none=> .fail).run s=some a),∃v,(Instr.loadAt t (.pointer (some ⟨b,p+off,none⟩))).run P w= .ok v w/\RL w m s v a.val/\a.Z2=[]:=by
    intro l g;cases x:cs[off]? with
    |none=>rw[x]at g;simp[Rd.run]at g
    | some c=>
      rw[x]at g;simp only[Rd.run,Ms]at g;subst g;obtain⟨I,N,J⟩:=A off c x;exact⟨u off,rQ w b (p+off) _ H (by rw[o,l]) I,J,rfl⟩
   cases k<;>first|exact D rfl h|exact one rfl h
def Cp{P:Program}{x:py}{s:St}{a:Act}{w:World}{m:ld}{o:Oper}{t:TypeId}{y:Operand}{D:Out}(N:o.op= .load t y)(H:dT x s a w m)(h:(aX P x.env s.f o).run s=some D):dl P x s a w o D:=by
 have T:=ar H y;unfold aX at h;simp only[N]at h;generalize gt x.env s.f y=c at*;cases c with
 | ref U J i C=>
   have O:=T.ref_;simp only at h;cases A:J[i]? with
   | none=>
     rw[A]at h;unfold eY at h;cases B:ef P t with
     |none=>rw[B]at h;simp[Rd.run]at h
     |some d=>rw[B]at h;obtain⟨k,n,z⟩:=d;cases k<;>simp[Rd.run]at h
   | some W=>
     rw[A]at h;generalize S:a.eval y=vy at*;cases O with
     | ref U J i C b p u hz X Q=>
       obtain⟨v,G,K,L⟩:=lh (P:=P) (t:=t) (w:=w) (m:=m) (s:=s) (b:=b) (p:=p+i*U) (fun j=>u i j) (fun j c M=>by
        have q:bs J i j=some c:=by unfold bs;rw[A];exact M
        obtain⟨I,E,q3⟩:=X i j c q
        exact⟨by rw[QV];exact E,q3, .val (Q i j c q)⟩) h
       rw[QV]at G;refine⟨_,w,m,v,x9 N (by rw[S];exact G), .inl rfl,?_⟩;rw[L];exact⟨H,K⟩
 | loc r ver i C=>
   obtain⟨_,O⟩:=T.loc_;simp only[Rd.row,Rd.run]at h;cases f:s.rows r with
   |none=>rw[f]at h;simp[Rd.run]at h
   | some e=>
     rw[f]at h;simp only at h;split at h
     ·rename_i l;obtain⟨l,R⟩:=l;obtain⟨g,Y,S⟩:=O l e f;have k:=(H.rows r e f).cells R;obtain⟨V,k1,k2,k3⟩:=k.own;cases A:e.es[i]? with
      | none=>
        rw[A]at h;unfold eY at h;cases B:ef P t with
        |none=>rw[B]at h;simp[Rd.run]at h
        |some d=>rw[B]at h;obtain⟨k,n,z⟩:=d;cases k<;>simp[Rd.run]at h
      | some W=>
        rw[A]at h
        obtain⟨v,G,K,L⟩:=lh (P:=P) (t:=t) (w:=w) (m:=m) (s:=s) (b:=g) (p:=i*e.sz) (fun j=>V.getD (i*e.sz+j) undef) (fun j c M=>by
         have q:bs e.es i j=some c:=by unfold bs;rw[A];exact M
         obtain⟨u,I,E⟩:=k3 i j c q;have Z:V.getD (i*e.sz+j) undef=u:=by simp[List.getD,I]
         rw[Z];refine⟨ig k1 Y _ u I,k2 u (Mv I),?_⟩;split at E
         ·exact .val E
         exact E) h
        refine⟨_,w,m,v,x9 N (by rw[S];exact G), .inl rfl,?_⟩;rw[L];exact⟨H,K⟩
     simp[Rd.run]at h
 |_=>simp[Rd.run]at h
end
section
def dl.same{P:Program}{x:py}{s:St}{a:Act}{w:World}{m:ld}{o:Oper}{b:Out}(c:dT x s a w m){v:Value}(h:(execOp a.eval o).run P w= .ok (.value v) w)(d:b.Z2=[])(e:RL w m s v b.val):dl P x s a w o b:=by
 refine⟨_,w,m,v,h, .inl rfl,?_⟩;rw[d];exact⟨c,e⟩
def bH{c:AV}{s:St}{a:Out}(h:(val c).run s=some a):a=⟨c,[]⟩:=by
 simpa[val,Rd.run]using h.symm
def gC{b:Type}{q:Option b}{k:b->Rd Out}{s:St}{a:Out}(h:(iO q k).run s=some a): ∃y,q=some y/\(k y).run s=some a:=by
 cases q with
 |none=>simp[iO,Rd.run]at h
 |some y=>exact⟨y,rfl,h⟩
section
variable {P:Program} {x:py} {s:St} {a:Act} {w:World} {m:ld} {o:Oper} {out:Out}
theorem Co{y:Operand}(c:o.op= .move y)(b:dT x s a w m)(h:(aX P x.env s.f o).run s=some out):dl P x s a w o out:=by
 unfold aX at h;simp only[c]at h;obtain rfl:=bH h;exact .same b (v:=a.eval y) (by simp[execOp,c]) rfl (ar b y)
theorem yF{y:Operand}(c:o.op= .assign y)(b:dT x s a w m)(h:(aX P x.env s.f o).run s=some out):dl P x s a w o out:=by
 unfold aX at h;simp only[c]at h;obtain rfl:=bH h;exact .same b (v:=a.eval y) (by simp[execOp,c]) rfl (ar b y)
theorem Cn{c y z:Operand}(f:o.op= .pick c y z)(d:dT x s a w m)(h:(aX P x.env s.f o).run s=some out):dl P x s a w o out:=by
 have b:=ar d c;unfold aX at h;simp only[f]at h;split at h
 ·rename_i e;rw[e]at b;have b:=b.lit_;obtain rfl:=bH h;exact .same d (v:=a.eval y) (by simp[execOp,f,b,asBool]) rfl (ar d y)
 ·rename_i e;rw[e]at b;have b:=b.lit_;obtain rfl:=bH h;exact .same d (v:=a.eval z) (by simp[execOp,f,b,asBool]) rfl (ar d z)
 simp[Rd.run]at h
theorem Cm{f:UnOp}{t:TypeId}{y:Operand}(d:o.op= .unOp f t y)(c:dT x s a w m)(h:(aX P x.env s.f o).run s=some out):dl P x s a w o out:=by
 have b:=ar c y;unfold aX at h;simp only[d]at h;split at h
 ·rename_i e;rw[e]at b;have b:=b.lit_;obtain rfl:=bH h;exact .same c (v:=_) (by simp[execOp,d,b,Op.unary]) rfl (.val (.lit _))
 ·rename_i e;rw[e]at b;have b:=b.lit_;obtain rfl:=bH h;exact .same c (v:=_) (by simp[execOp,d,b,Op.unary,Op.intArith]) rfl (.val (.lit _))
 ·rename_i e;rw[e]at b;have b:=b.lit_;obtain rfl:=bH h;exact .same c (v:=_) (by simp[execOp,d,b,Op.unary,Op.intBits,MY]) rfl (.val (.lit _))
 simp[Rd.run]at h
theorem vR{y:Operand}{i:Nat}(g:o.op= .extract y i)(d:dT x s a w m)(h:(aX P x.env s.f o).run s=some out):dl P x s a w o out:=by
 have j:=ar d y;unfold aX at h;simp only[g]at h;split at h
 ·rename_i q e;rw[e]at j;obtain⟨k,p,n,l⟩:=j.tuple_;obtain⟨c,b,h⟩:=gC h;obtain rfl:=bH h;have f:i<k.length:=by rw[n];exact(Mr.1 b).1
  exact .same d (v:=k[i]) (by simp[execOp,g,p,Instr.extract,f]) rfl (l i _ c (Mq f) b)
 simp[Rd.run]at h
theorem rz{y:Operand}(q:o.op= .nilCheck y)(n:dT x s a w m)(h:(aX P x.env s.f o).run s=some out):dl P x s a w o out:=by
 have j:=ar n y;unfold aX at h;simp only[q]at h;split at h
 ·rename_i t z i f e;rw[e]at j;obtain rfl:=bH h;have A:=j.ref_;generalize l:a.eval y=H at*;cases A with
  |ref t z i f b p u G E B=>exact .same n (v:= .pointer (some ⟨b,p+(i*t+f),none⟩)) (by simp[execOp,q,l]) rfl j
 ·rename_i r D i f e;rw[e]at j;simp only[Rd.row,Rd.run]at h;cases c:s.rows r with
  |none=>rw[c]at h;simp[Rd.run]at h
  | some k=>
    rw[c]at h;simp only at h;split at h
    ·rename_i d;obtain⟨d,C⟩:=d;obtain rfl:=bH h;obtain⟨g,_,l⟩:=j.loc_.2 d k c;rw[l]at j;exact .same n (v:= .pointer (some ⟨g,i*k.sz+f,none⟩)) (by simp[execOp,q,l]) rfl j
    simp[Rd.run]at h
 simp[Rd.run]at h
end
/-! Types, told apart -/
section
variable {P:Program} {t:TypeId} {n:Nat} {z:List Value}
theorem yf{k:Kd}(h:ef P t=some ⟨k,n,z⟩): ∃a,P.underlying t=some a/\tK P t a=some k/\(P.info? t).map (·.size)=some n:=by
 obtain⟨i,a,z,b,e,_,c,d,_⟩:=gV h;exact⟨a,e,c,by rw[b];simp[d]⟩
theorem oT{k:IntKind}(h:ef P t=some ⟨.int k,n,z⟩):P.underlying t=some (.int k):=by
 obtain⟨c,b,a,_⟩:=yf h;cases c<;>simp only[tK]at a<;>(repeat' split at a)<;>first|(cases a;exact b)|cases a
theorem mB(h:ef P t=some ⟨.bool,n,z⟩):P.underlying t=some .bool:=by
 obtain⟨c,b,a,_⟩:=yf h;cases c<;>simp only[tK]at a<;>(repeat' split at a)<;>first|(cases a;exact b)|cases a
theorem dI(h:ef P t=some ⟨.string,n,z⟩):P.underlying t=some .string:=by
 obtain⟨c,b,a,_⟩:=yf h;cases c<;>simp only[tK]at a<;>(repeat' split at a)<;>first|(cases a;exact b)|cases a
theorem lz(h:ef P t=some ⟨.ptr,n,z⟩): ∃e,P.underlying t=some (.pointer e):=by
 obtain⟨c,b,a,_⟩:=yf h;cases c<;>simp only[tK]at a<;>(repeat' split at a)<;>first|(cases a;exact⟨_,b⟩)|cases a
theorem jd(h:ef P t=some ⟨.iface,n,z⟩): ∃c,P.underlying t=some (.interface c):=by
 obtain⟨d,b,a,_⟩:=yf h;cases d<;>simp only[tK]at a<;>(repeat' split at a)<;>first|(cases a;exact⟨_,b⟩)|cases a
theorem bI{e:TypeId}{a d:Nat}{f:List Value}(h:ef P t=some ⟨.slice e a d f,n,z⟩):P.underlying t=some (.slice e)/\ ∃c g,P.info? e=some c/\c.zero=some g/\c.size=a/\c.bytes=d/\g.cells.toList=f:=by
 obtain⟨j,i,b,_⟩:=yf h;cases j<;>simp only[tK]at b<;>(repeat' split at b)<;>first|(cases b;exact⟨i,_,_,by assumption,by assumption,rfl,rfl,rfl⟩)|cases b
theorem rZ{k e:TypeId}{c:Value}(h:ef P t=some ⟨.map k e c,n,z⟩):P.underlying t=some (.map k e)/\ ∃b,P.info? e=some b/\b.zero=some c:=by
 obtain⟨f,d,a,_⟩:=yf h;cases f<;>simp only[tK]at a<;>(repeat' split at a)<;>first|(cases a;exact⟨d,_,by assumption,by assumption⟩)|cases a
theorem eG{c:List (Nat×TypeId×Nat)}{b:Bool}(h:ef P t=some ⟨.struct c b,n,z⟩): ∃f,P.underlying t=some (.struct f)/\f.toList.mapM (fun f=>(P.info? f.type).map fun i=>(f.offset,f.type,i.size))=some c/\b=(!P.eqGuardType P.depth t&& !P.stoodInHeld t&&f.toList.all (fun f=>f.name≠ "_")):=by
 obtain⟨e,d,a,_⟩:=yf h;cases e<;>simp only[tK]at a<;>(repeat' split at a)<;>first|(cases a;exact⟨_,d,by assumption,rfl⟩)|cases a
end
def mapM_at{e d:Type}(f:e->Option d): ∀(l:List e)(r:List d),l.mapM f=some r-> ∀(i:Nat)(y:d),r[i]? =some y-> ∃x,l[i]? =some x/\f x=some y
 | [],r,h,i,y,a=>by
   simp only[List.mapM_nil,QS,Ms]at h;subst h;simp at a
 | x::l,r,h,i,y,a=>by
   simp only[Q3,Qe,QS]at h;cases b:f x with
   |none=>simp[b]at h
   | some q=>
     cases c:l.mapM f with
     |none=>simp[b,c]at h
     | some k=>
       simp[b,c]at h;subst h;cases i with
       |zero=>simp at a;subst a;exact⟨x,rfl,b⟩
       |succ i=>obtain⟨m,g,j⟩:=mapM_at f l k c i y (by simpa using a);exact⟨m,by simpa using g,j⟩
def nh{P:Program}{t:TypeId}{a:Array Field}{f:Field}{i n:Nat}{c:TypeInfo}(w:World)(b p:Nat)(j:P.underlying t=some (.struct a))(e:a[i]? =some f)(hi:P.info? f.type=some c)(g:c.size=n)(d:n≠0):
 (Instr.fieldAt t (.pointer (some ⟨b,p,none⟩)) i).run P w= .ok (.pointer (some ⟨b,p+f.offset,none⟩)) w:=by
 have h:(sizeOf f.type).run P w= .ok n w:=by simp[sizeOf,typeInfo,hi,g]
 simp[Instr.fieldAt,NL j,e,Instr.sureAddr,fieldPlace,h,d,Addr.add_mid]
section
variable {P:Program} {x:py} {s:St} {a:Act} {w:World} {m:ld} {o:Oper} {out:Out}
theorem rP{t:TypeId}{y:Operand}{i:Nat}(X:o.op= .fieldAddr t y i)(R:dT x s a w m)(h:(aX P x.env s.f o).run s=some out):dl P x s a w o out:=by
 have I:=ar R y;unfold aX at h;simp only[X]at h;unfold gL at h
 have N: ∀(C:List (Nat×TypeId×Nat))(E:Bool)(n:Nat)(z:List Value)(p:Nat)(G:TypeId)(q b A:Nat),ef P t=some ⟨.struct C E,n,z⟩->C[i]? =some (p,G,q)->q≠0->a.eval y= .pointer (some ⟨b,A,none⟩)->(execOp a.eval o).run P w= .ok (.value (.pointer (some ⟨b,A+p,none⟩))) w:=by
  intro C E n z p G q b A J k K Q;obtain⟨f,hu,hm,_⟩:=eG J;obtain⟨Z,h1,H⟩:=mapM_at _ _ _ hm i _ k;cases D:P.info? Z.type with
  |none=>rw[D]at H;cases H
  | some ie=>
    rw[D]at H;simp only[NT,Ms,QG]at H;have M:=nh (P:=P) w b A hu (by simpa using h1) D H.2.2 K;unfold execOp;simp only[X,Q,NZ,M,NP,Nu,H.1]
 split at h
 ·rename_i O W j c C E n z e J;rw[e]at I;split at h
  ·rename_i p G q k;split at h
   ·simp[Rd.run]at h
   ·rename_i K;simp only[Rd.run,Ms]at h;subst h;have hr:=I.ref_;generalize Q:a.eval y=vy at*;cases hr with
    | ref O W j c b A u hz S U=>
      refine .same R (v:= .pointer (some ⟨b,A+(j*O+(c+p)),none⟩)) ?_ rfl (.val (.ref O W j (c+p) b A u hz S U));rw[show A+(j*O+(c+p))=A+(j*O+c)+p by omega];exact N C E n z p G q b _ J k K rfl
  simp[Rd.run]at h
 ·rename_i r V j c C E n z e J;rw[e]at I;split at h
  ·rename_i p G q k;split at h
   ·simp[Rd.run]at h
   ·rename_i K;simp only[Rd.row,Rd.run]at h;cases d:s.rows r with
    |none=>rw[d]at h;simp[Rd.run]at h
    | some B=>
      rw[d]at h;simp only at h;split at h
      ·rename_i l;obtain⟨l,hrz⟩:=l;simp only[Rd.run,Ms]at h;subst h;obtain⟨T,I⟩:=I.loc_;obtain⟨g,hg,Q⟩:=I l B d;refine .same R (v:= .pointer (some ⟨g,j*B.sz+(c+p),none⟩)) ?_ rfl (.loc r V j (c+p) rfl T fun _ Y L=>⟨g,hg,by rw[d]at L;cases L;rfl⟩);rw[show j*B.sz+(c+p)=j*B.sz+c+p by omega];exact N C E n z p G q g _ J k K Q
      simp[Rd.run]at h
  simp[Rd.run]at h
 simp[Rd.run]at h
theorem AF{t:TypeId}{y:Operand}{i:Nat}(O:o.op= .field t y i)(L:dT x s a w m)(h:(aX P x.env s.f o).run s=some out):dl P x s a w o out:=by
 have V:=ar L y;unfold aX at h;simp only[O]at h;obtain⟨c,b,h⟩:=gC h;obtain rfl:=bH h;unfold pX at b;split at b
 ·rename_i T fs eq n z e Y;rw[e]at V;obtain⟨S,r,Z,X,G⟩:=V.agg_;obtain⟨f,U,hm,_⟩:=eG Y;split at b
  ·rename_i p ft q M;obtain⟨d,W,E⟩:=mapM_at _ _ _ hm i _ M;have D:f[i]? =some d:=by simpa using W
   cases A:P.info? d.type with
   |none=>rw[A]at E;cases E
   | some R=>
     rw[A]at E;simp only[NT,Ms,QG]at E;obtain⟨rfl,rfl,rfl⟩:=E
     have C: ∀(u:TypeDesc),P.underlying d.type=some u->u.isRow=true->(if d.offset+R.size<=T.length then some (AV.agg ((T.drop d.offset).take R.size)) else none)=some c->dl P x s a w o ⟨c,[]⟩:=fun u Q J N=>by
      split at N
      ·rename_i hle;cases N
       have g:(isAgg d.type).run P w= .ok true w:=by
        unfold isAgg;rw[NZ,NL Q w];cases u<;>simp_all[TypeDesc.isRow]
       refine .same L (v:= .agg ((S.drop d.offset).take R.size).toArray) ?_ rfl (.agg _ _ (by simp;omega) (fun v r=>X v (P8 (Ou r))) fun j v c r b=> ?_)
       ·simp[execOp,O,r,Instr.field,NL U,D,asAgg,part,g,sizeOf,typeInfo,A]
       rw[N8]at r b;split at r
       ·rename_i K;rw[Mw K,OL]at b;rw[OL]at r;exact G _ v c r b
       cases r
      cases N
     split at b
     ·rename_i k;obtain⟨f2,l,_⟩:=eG k;exact C _ l rfl b
     ·rename_i k;obtain⟨u,l,B,_⟩:=yf k;exact C u l (by rw[uj B];rfl) b
     ·rename_i d2 H I k;obtain⟨k2,n2,z2⟩:=d2;obtain⟨u,l,B,_⟩:=yf k
      have J:u.isRow=false:=by
       rw[uj B];cases k2 with
       |struct=>exact absurd rfl (H _ _ _ _)
       |arr=>exact absurd rfl (I _ _ _ _ _)
       |_=>rfl
      have g:(isAgg d.type).run P w= .ok false w:=by
       unfold isAgg;rw[NZ,NL l w];cases u<;>simp_all[TypeDesc.isRow]
      have K:d.offset<S.length:=by rw[Z];exact(Mr.1 b).1
      refine .same L (v:=S[d.offset]) ?_ rfl (G d.offset _ c (Mq K) b);simp[execOp,O,r,Instr.field,NL U,D,asAgg,part,g,K]
     cases b
  cases b
 cases b
end
end
end Go.Proofs.YtfhkmjbjafeckaaGreatDoor
