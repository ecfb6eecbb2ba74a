/- Walking without memory: rows that are not there, rows seen. No program is named here. -/
import Derived.Test.YtfhkmjbjafeckaaGreatDoorP5
set_option linter.unusedSimpArgs false
set_option linter.defProp false
namespace Go.Proofs.YtfhkmjbjafeckaaGreatDoor
open Go.RowKit
section
def AV.ren(g:Nat->Nat->Option (Nat×Nat)):AV->AV
 | .row r ver=>match g r ver with
   |some q=> .row q.1 q.2
   |none=> .any
 | .loc r ver i off=>match g r ver with
   |some q=> .loc q.1 q.2 i off
   |none=> .any
 | .mp r ver=>match g r ver with
   |some q=> .mp q.1 q.2
   |none=> .any
 | .sub r ver lo=>match g r ver with
   |some q=> .sub q.1 q.2 lo
   |none=> .any
 | .agg cs=> .agg (renL g cs)
 | .tuple cs=> .tuple (renL g cs)
 | .clo f cs=> .clo f (renL g cs)
 |c=>c
where renL (g:Nat->Nat->Option (Nat×Nat)):List AV->List AV
 |[]=>[]
 |c::cs=>c.ren g::renL g cs
def d7(g:Nat->Nat->Option (Nat×Nat)): ∀cs,(AV.ren.renL g cs).length=cs.length
 |[]=>rfl
 |c::cs=>by simp[AV.ren.renL,d7 g cs]
def jS(g:Nat->Nat->Option (Nat×Nat)): ∀(cs:List AV)(i:Nat)(c:AV),(AV.ren.renL g cs)[i]? =some c-> ∃a,cs[i]? =some a/\c=a.ren g
 |[],i,c,h=>by simp[AV.ren.renL]at h
 | d::cs,i,c,h=>by
   cases i with
   |zero=>simp[AV.ren.renL]at h;exact⟨d,rfl,h.symm⟩
   | succ i=>
     obtain⟨a,b,e⟩:=jS g cs i c (by simpa[AV.ren.renL]using h);exact⟨a,by simpa using b,e⟩
def RV.ren{S:Nat->Nat->Prop}{w:World}{v:Value}{c:AV}(g:Nat->Nat->Option (Nat×Nat))(h:RV S w v c):RV S w v (c.ren g):=by
 induction h with
 |any v=>exact .any v
 |lit v=>exact .lit v
 | agg C s h K q e=>
   refine .agg C _ (by rw[d7];exact h) K fun i v c m a=> ?_;obtain⟨r,B,rfl⟩:=jS g s i c a;exact e i v r m B
 | tuple C s h q e=>
   refine .tuple C _ (by rw[d7];exact h) fun i v c m a=> ?_;obtain⟨r,B,rfl⟩:=jS g s i c a;exact e i v r m B
 |iface t v c h e=>exact .iface t v c h
 |seq A n j p d b o u E y D z q G e=>exact .seq A n j p d b o u E y D z q G
 |ref p d i H b o u z q G e=>exact .ref p d i H b o u z q G
 |fmap I x l d J L E z M m _ _=>exact .fmap I x l d J L E z M m
 |full A n p d h _=>exact .full A n p d h
 |news A n k j p d D h _=>exact .news A n k j p d D h
 | clo f C s h q e=>
   refine .clo f C _ (by rw[d7];exact h) fun i v c m a=> ?_;obtain⟨r,B,rfl⟩:=jS g s i c a;exact e i v r m B
def SS(s:St)(m:ld)(s':St)(m':ld)(g:Nat->Nat->Option (Nat×Nat)):Prop:= ∀r c d a,g r c=some (d,a)->c<=s.vs r->
 a<=s'.vs d/\(s'.vs d=a-> ∀b,s'.rows d=some b->s.vs r=c/\ ∃e,s.rows r=some e/\e.sz=b.sz/\m'.ρ d=m.ρ r)
def RL.ren{w K:World}{m m':ld}{s s':St}{v:Value}{c:AV}{g:Nat->Nat->Option (Nat×Nat)}(L: ∀b o,m.S b o->m'.S b o/\k9 w K b o)(H:SS s m s' m' g)(h:RL w m s v c):RL K m' s' v (c.ren g):=by
 induction h with
 |val h=>exact .val ((h.mono L).ren g)
 | agg G A h n J C=>
   refine .agg G _ (by rw[d7];exact h) n fun i v c B l=> ?_;obtain⟨z,k,rfl⟩:=jS g A i c l;exact C i v z B k
 | tuple G A h J C=>
   refine .tuple G _ (by rw[d7];exact h) fun i v c B l=> ?_;obtain⟨z,k,rfl⟩:=jS g A i c l;exact C i v z B k
 | clo f G A h J C=>
   refine .clo f G _ (by rw[d7];exact h) fun i v c B l=> ?_;obtain⟨z,k,rfl⟩:=jS g A i c l;exact C i v z B k
 | row r d n j h=>
   unfold AV.ren;cases p:g r d with
   |none=>exact .val (.any _)
   | some q=>
     obtain⟨k,u⟩:=H r d q.1 q.2 p j;refine .row q.1 q.2 n k fun e a t=> ?_;obtain⟨x,row,y,_,D⟩:=u e a t;rw[D];exact h x row y
 | sub r d M n j h=>
   unfold AV.ren;cases p:g r d with
   |none=>exact .val (.any _)
   | some q=>
     obtain⟨k,u⟩:=H r d q.1 q.2 p j;refine .sub q.1 q.2 M n k fun e a t=> ?_;obtain⟨x,row,y,E,D⟩:=u e a t;rw[D, <-E];exact h x row y
 | loc r d i I n j h=>
   unfold AV.ren;cases p:g r d with
   |none=>exact .val (.any _)
   | some q=>
     obtain⟨k,u⟩:=H r d q.1 q.2 p j;refine .loc q.1 q.2 i I n k fun e a t=> ?_;obtain⟨x,row,y,D,E⟩:=u e a t;rw[E, <-D];exact h x row y
 | mp r d n j h=>
   unfold AV.ren;cases p:g r d with
   |none=>exact .val (.any _)
   | some q=>
     obtain⟨k,u⟩:=H r d q.1 q.2 p j;refine .mp q.1 q.2 n k fun e a t=> ?_;obtain⟨x,row,y,_,E⟩:=u e a t;rw[E];exact h x row y
def Row.ren(g:Nat->Nat->Option (Nat×Nat))(row:Row):Row:=if row.pure then row else { row with es:=row.es.map (·.map (AV.ren g)) }
def Row.ren_sz(g:Nat->Nat->Option (Nat×Nat))(row:Row):(row.ren g).sz=row.sz:=by unfold Row.ren;split<;>rfl
def Row.ren_e(g:Nat->Nat->Option (Nat×Nat))(row:Row):(row.ren g).e=row.e:=by unfold Row.ren;split<;>rfl
def Row.ren_pure(g:Nat->Nat->Option (Nat×Nat))(row:Row):(row.ren g).pure=row.pure:=by unfold Row.ren;split<;>rfl
def Row.ren_len(g:Nat->Nat->Option (Nat×Nat))(row:Row):(row.ren g).es.length=row.es.length:=by unfold Row.ren;split<;>simp
def Row.ren_at(g:Nat->Nat->Option (Nat×Nat))(row:Row){i j:Nat}{c:AV}(h:bs (row.ren g).es i j=some c): ∃a,bs row.es i j=some a/\c=(if row.pure then a else a.ren g):=by
 unfold Row.ren at h;split at h
 ·rename_i d;exact⟨c,h,by rw[Mw d]⟩
 ·rename_i d;unfold bs at h |-;simp only[NB]at h;cases f:row.es[i]? with
  |none=>rw[f]at h;cases h
  | some e=>
    rw[f]at h;simp only[NT,OD,NB]at h;cases b:e[j]? with
    |none=>rw[b]at h;cases h
    | some a=>
      rw[b]at h;cases h;exact⟨a,b,by rw[Mt d]⟩
def Row.ren_els(g:Nat->Nat->Option (Nat×Nat))(row:Row)(n:Nat)(h: ∀(i:Nat)(e:List AV),row.es[i]? =some e->e.length=n)(i:Nat)(e:List AV)(a:(row.ren g).es[i]? =some e):e.length=n:=by
 unfold Row.ren at a;split at a
 ·exact h i e a
 ·simp only[NB]at a;cases b:row.es[i]? with
  |none=>rw[b]at a;cases a
  |some c=>rw[b]at a;cases a;simpa using h i c b
def wd.ren{base:Nat}{w:World}{m m':ld}{s s':St}{r r':Nat}{row:Row}{g:Nat->Nat->Option (Nat×Nat)}(h:wd base w m s r row)(f:m'.S=m.S)(y:SS s m s' m' g)(a:m'.ρ r'=m.ρ r)(k:s'.esc r'=s.esc r):wd base w m' s' r' (row.ren g):=by
 refine⟨by rw[Row.ren_sz];exact h.pos,fun i e z=>by rw[Row.ren_sz];exact Row.ren_els g row _ h.len i e z,?_,?_,?_,?_⟩
 ·obtain⟨D,p,q,t⟩:=h.own;refine⟨D,by rw[Row.ren_e,Row.ren_sz,Row.ren_len,a];exact p,q,fun i j c x=> ?_⟩;obtain⟨n,A,B⟩:=Row.ren_at g row x;obtain⟨u,C,d⟩:=t i j n A;refine⟨u,by rw[Row.ren_sz];exact C,?_⟩;rw[Row.ren_pure];subst B;cases l:row.pure with
  |true=>rw[l]at d;simp only[Nt]at d |-;rw[f];exact d
  | false=>
    rw[l]at d;simp only[NU,OA]at d |-;exact RL.ren (fun b o v=>⟨by rw[f];exact v, .rfl⟩) y d
 ·rw[k,a,f,Row.ren_len,Row.ren_sz];exact h.esc
 ·rw[a,f,Row.ren_len,Row.ren_sz];exact h.spare
 rw[k,a,f];exact h.fresh
def gp.ren{base:Nat}{w:World}{m m':ld}{s s':St}{r r':Nat}{row:Row}{g:Nat->Nat->Option (Nat×Nat)}(h:gp base w m s r row)(j:m'.S=m.S)(z:SS s m s' m' g)(f:m'.ρ r'=m.ρ r)(H:s'.esc r'=s.esc r):gp base w m' s' r' (row.ren g):=by
 rcases h with h|h
 ·exact .inl (h.ren j z f H)
 obtain⟨b,k,c,B,C,D,E,y⟩:=h.own;refine .inr ⟨by rw[Row.ren_sz];exact h.sz,⟨b,k,c,f.trans B,C,D,by rw[Row.ren_len];exact E,fun i e a=> ?_⟩,by rw[f,j];exact h.fresh⟩;unfold Row.ren at a;split at a
 ·rename_i l;obtain⟨p,v,x,q,t,u,n⟩:=y i e a;rw[Mw l]at n;exact⟨p,v,x,q,t,by rw[j];exact u,by rw[Row.ren_pure,Mw l,j];exact n⟩
 ·rename_i l;simp only[NB]at a;cases d:row.es[i]? with
  |none=>rw[d]at a;cases a
  | some A=>
    rw[d]at a;cases a;obtain⟨p,v,x,q,t,u,n⟩:=y i A d;rw[Mt l]at n;subst t;refine⟨p,v.ren g,x.ren g,q,rfl,by rw[j];exact u.ren g,?_⟩;rw[Row.ren_pure,Mt l];exact RL.ren (fun b o G=>⟨by rw[j];exact G, .rfl⟩) z n
end
section
section
variable (toR toK:Nat->Option Nat)
def Sw(toK:Nat->Option Nat)(r a:Nat):Option (Nat×Nat):=(toK r).map fun k=>(k,a)
def mP(s:St)(cs:List AV):St:=⟨fun t=>(cs.getD t .any).ren (Sw toK),fun k=>(toR k).bind fun r=>(s.rows r).map (Row.ren (Sw toK)),fun k=>match toR k with|some r=>s.vs r|none=>0,fun k=>match toR k with|some r=>s.esc r|none=>false⟩
def wG(m:ld):ld:=⟨m.S,fun k=>match toR k with|some r=>m.ρ r|none=>undef⟩
def Pc(x:py)(s:St)(cs:List AV)(w:World)(m:ld)(nt:Nat):py:=
 { x with df:=[],nt:=nt,fw:=w,fm:=wG toR m,e:=mP toR toK s cs,fx:=fun b=>x.fx b\/ ∃r a,s.rows r=some a/\toK r=none/\(m.ρ r).ownBlock=some b }
end
section
variable {toR toK:Nat->Option Nat} {x:py} {s:St} {a:Act} {w:World} {m:ld}
theorem JD(d: ∀k r,toR k=some r↔toK r=some k)(cs:List AV):SS s m (mP toR toK s cs) (wG toR m) (Sw toK):=fun r t k p c g=>by
 unfold Sw at c;cases f:toK r with
 |none=>rw[f]at c;cases c
 | some i=>
   rw[f]at c;simp only[NT,Ms,QG]at c;obtain⟨rfl,rfl⟩:=c;have h:=(d i r).2 f;have l:(mP toR toK s cs).vs i=s.vs r:=by simp only[mP,h]
   refine⟨by rw[l];exact g,fun e o b=>⟨by rw[<-l];exact e,?_⟩⟩;have q:(mP toR toK s cs).rows i=(s.rows r).map (Row.ren (Sw toK)):=by simp only[mP,h,OD]
   rw[q]at b;cases n:s.rows r with
   |none=>rw[n]at b;cases b
   | some j=>
     rw[n]at b;simp only[NT,Ms]at b;subst b;exact⟨j,rfl,(Row.ren_sz _ _).symm,by simp only[wG,h]⟩
theorem dT.enter(h:dT x s a w m)(n: ∀k r,toR k=some r↔toK r=some k){nt:Nat}{cs:List AV}{vs:List Value}(Q:vs.length=cs.length)(T:cs.length<=nt)(U: ∀(i:Nat)(v:Value)(c:AV),vs[i]? =some v->cs[i]? =some c->RL w m s v c):
 dT (Pc toR toK x s cs w m nt) (mP toR toK s cs) { tmps:=vs.toArray++Array.replicate (nt-vs.toArray.size) undef,defers:=[] } w (wG toR m):=by
 have P:=JD (m:=m) (s:=s) n cs
 have j: ∀k d,(mP toR toK s cs).rows k=some d-> ∃r f,toR k=some r/\s.rows r=some f/\d=f.ren (Sw toK):=fun k d l=>by
  simp only[mP]at l;cases G:toR k with
  |none=>rw[G]at l;cases l
  | some r=>
    rw[G]at l;simp only[OD]at l;cases M:s.rows r with
    |none=>rw[M]at l;cases l
    |some f=>rw[M]at l;cases l;exact⟨r,f,rfl,M,rfl⟩
 have q: ∀k r,toR k=some r->(wG toR m).ρ k=m.ρ r:=fun k r G=>by simp only[wG,G]
 refine⟨h.Z3,h.low,h.ZT,h.sub,h.env,h.ZX,h.ZV,rfl,by simp[Pc];omega,fun t=> ?_,fun k d l=> ?_,fun k N E p z C L g A=> ?_,fun _ _ K=>⟨K, .rfl⟩,fun _=>NC _,fun r d _ l=>⟨d,l,rfl,rfl⟩,NC _,fun b u=>⟨?_,rfl,fun _ K=>K⟩,fun k d l g A=> ?_⟩
 ·show RL w _ _ _ ((cs.getD t .any).ren (Sw toK));by_cases R:t<cs.length
  ·refine RL.ren (m:=m) (s:=s) (fun b o u=>⟨u, .rfl⟩) P (U t _ _ ?_ ?_)
   ·rw[Nw,Pt (by simp;omega)];simp[show t<vs.length by omega]
   simp[List.getD,R]
  have:cs.getD t .any= .any:=by simp[List.getD,NI (RO R)]
  rw[this];exact .val (.any _)
 ·obtain⟨r,f,z,C,rfl⟩:=j k d l;exact(h.rows r f C).ren rfl P (q k r z) (by simp only[mP,z])
 ·obtain⟨r,f,D,H,_⟩:=j k E z;obtain⟨B,d,I,J,_⟩:=j N p C;rw[q k r D]at A;rw[q N B I]
  have y:r≠B:=fun e=>L (by
   subst e;have S:=(n k r).1 D;have O:=(n N r).1 I;rw[S]at O
   exact OV O)
  exact h.inj r B f d H J y g A
 ·rcases u with u|⟨r,f,z,_,C⟩
  ·exact h.fxlt u
  exact((h.rows r f z).blk C).2
 obtain⟨r,f,D,H,_⟩:=j k d l;rw[q k r D]at A;rintro(u|⟨B,p,I,J,V⟩)
 ·exact h.Z5 r f H g A u
 have y:r≠B:=fun e=>by
  subst e;rw[(n k r).1 D]at J;cases J
 exact h.inj r B f p H I y g A V
def um(toR:Nat->Option Nat)(o n:Nat->Nat)(k b:Nat):Option (Nat×Nat):=(toR k).bind fun r=>if b=o k then some (r,n r) else none
def kX(toK:Nat->Option Nat)(b:Nat->Bool)(s:St)(r:Nat):Nat:=if (toK r).isSome&&b r then s.vs r+1 else s.vs r
def jD(toR toK:Nat->Option Nat)(b:Nat->Bool)(s c:St):St:=⟨s.f,fun r=>match toK r with|some k=>(c.rows k).map (Row.ren (um toR c.vs (kX toK b s)))|none=>s.rows r,kX toK b s,fun r=>match toK r with|some k=>c.esc k|none=>s.esc r⟩
def iD(toK:Nat->Option Nat)(m b:ld):ld:=⟨b.S,fun r=>match toK r with|some k=>b.ρ k|none=>m.ρ r⟩
theorem HK(e: ∀k r,toR k=some r↔toK r=some k)(c:Nat->Bool)(s g:St)(m n:ld):SS g n (jD toR toK c s g) (iD toK m n) (um toR g.vs (kX toK c s)):=fun k t r p d _=>by
 unfold um at d;cases h:toR k with
 |none=>rw[h]at d;cases d
 | some q=>
   rw[h]at d;simp only[OD]at d;split at d
   ·rename_i f;simp only[Ms,QG]at d;obtain⟨rfl,rfl⟩:=d;have j:=(e k q).1 h;refine⟨NC _,fun _ o b=>⟨f.symm,?_⟩⟩;simp only[jD,j]at b;cases l:g.rows k with
    |none=>rw[l]at b;cases b
    | some i=>
      rw[l]at b;simp only[NT,Ms]at b;subst b;exact⟨i,rfl,(Row.ren_sz _ _).symm,by simp only[iD,j]⟩
   cases d
theorem dT.back{cs:List AV}{nt:Nat}{u:St}{a2:Act}{T:World}{C:ld}(h:dT x s a w m)(y:dT (Pc toR toK x s cs w m nt) u a2 T C)(B: ∀k r,toR k=some r↔toK r=some k)(d:Nat->Bool)(R: ∀k r,toR k=some r->d r=false->u.vs k=s.vs r):
 dT x (jD toR toK d s u) a T (iD toK m C)/\ ∀v c,RL T C u v c->RL T (iD toK m C) (jD toR toK d s u) v (c.ren (um toR u.vs (kX toK d s))):=by
 have hN:=HK B d s u m C;have Y: ∀b o,m.S b o->(iD toK m C).S b o/\k9 w T b o:=y.ZL
 have U: ∀r,s.vs r<=(jD toR toK d s u).vs r:=fun r=>by
  show s.vs r<=kX toK d s r;unfold kX;split<;>omega
 have Z: ∀r f,(jD toR toK d s u).vs r=s.vs r->(jD toR toK d s u).rows r=some f-> ∃p,s.rows r=some p/\p.sz=f.sz/\(iD toK m C).ρ r=m.ρ r:=fun r f e l=>by
  cases j:toK r with
  | none=>
    simp only[jD,j]at l;exact⟨f,l,rfl,by simp only[iD,j]⟩
  | some k=>
    have J:=(B k r).2 j;have e:kX toK d s r=s.vs r:=e
    have L:d r=false:=by
     cases L:d r with
     |false=>rfl
     |true=>simp[kX,j,L]at e
    simp only[jD,j]at l;cases M:u.rows k with
    |none=>rw[M]at l;cases l
    | some i=>
      rw[M]at l;simp only[NT,Ms]at l;subst l
      have hvk:u.vs k=(Pc toR toK x s cs w m nt).e.vs k:=by
       rw[R k r J L];simp only[Pc,mP,J]
      obtain⟨row0,O,q2,q3⟩:=y.evK k i hvk M;simp only[Pc,mP,J,OD]at O;cases Q:s.rows r with
      |none=>rw[Q]at O;cases O
      | some p=>
        rw[Q]at O;simp only[NT,Ms]at O;subst O;refine⟨p,rfl,?_,?_⟩
        ·rw[Row.ren_sz, <-q2,Row.ren_sz]
        simp only[iD,j];rw[q3];simp only[Pc,wG,J]
 have I: ∀r p,s.rows r=some p->toK r=none-> ∀g,(m.ρ r).ownBlock=some g->(Pc toR toK x s cs w m nt).fx g:=fun r p W X g z=> .inr ⟨r,p,W,X,z⟩
 have n: ∀r f,(jD toR toK d s u).rows r=some f->(toK r=none/\s.rows r=some f/\(iD toK m C).ρ r=m.ρ r)\/ ∃k i,toK r=some k/\u.rows k=some i/\f=i.ren (um toR u.vs (kX toK d s))/\(iD toK m C).ρ r=C.ρ k:=fun r f l=>by
  cases j:toK r with
  | none=>
    simp only[jD,j]at l;exact .inl ⟨rfl,l,by simp only[iD,j]⟩
  | some k=>
    simp only[jD,j]at l;cases M:u.rows k with
    |none=>rw[M]at l;cases l
    | some i=>
      rw[M]at l;simp only[NT,Ms]at l;exact .inr ⟨k,i,rfl,M,l.symm,by simp only[iD,j]⟩
 refine⟨⟨y.Z3,y.low,y.ZT,y.sub,h.env,h.ZX,h.ZV,h.ZU,h.ZR,fun t=>(h.slot t).mono Y U Z,fun r f l=> ?_,fun r V G i W X P g z=> ?_,h.toS Y,h.toV U,h.toK U Z,NK h.ZY y.ZY,fun b H=>⟨(h.fix b H).1,(y.fix b (.inl H)).2.1.trans (h.fix b H).2.1,fun o ho=>(h.fix b H).2.2 o ((y.fix b (.inl H)).2.2 o ho)⟩,fun r f l g z H=> ?_⟩,fun v c hc=>RL.ren (m:=C) (s:=u) (fun b o H=>⟨H, .rfl⟩) hN hc⟩
 ·rcases n r f l with⟨D,A,p3⟩|⟨k,i,D,A,rfl,p3⟩
  ·refine(h.rows r f A).mono Y U Z p3 (fun g z=>(y.fix g (I r f A D g z)).2.1) (by simp only[jD,D]) fun g z o ho=>(y.fix g (I r f A D g z)).2.2 o ho
  exact(y.rows k i A).ren rfl hN p3 (by simp only[jD,D])
 ·rcases n r G W with⟨D,A,p3⟩|⟨k,q,D,A,_,p3⟩<;>rcases n V i X with⟨N,E,S⟩|⟨k',q',N,E,_,S⟩<;>rw[p3]at z<;>rw[S]
  ·exact h.inj r V G i A E P g z
  ·exact fun K=>y.Z5 k' q' E g K (I r G A D g z)
  ·exact fun K=>y.Z5 k q A g z (I V i E N g K)
  refine y.inj k k' q q' A E (fun e=>P ?_) g z;subst e;have e1:=(B k r).2 D;have e2:=(B k V).2 N;rw[e1]at e2;exact OV e2
 rcases n r f l with⟨D,A,p3⟩|⟨k,q,D,A,_,p3⟩<;>rw[p3]at z
 ·exact h.Z5 r f A g z H
 exact y.Z5 k q A g z (.inl H)
end
end
section
/-! Contracts of bodies that are handed rows -/
def zn(P:Program)(t:TypeId)(c:AV):Rd Out:=match c with
 | .loc r d i a=>Rd.row r d fun b=>eY P t b.es[i]? a
 |_=> .fail
def DC(P:Program)(s:St):ResultVar->AV->Prop
 | .tmp t,c=>s.f t=c
 | .cell p t,c=>(zn P t (s.f p)).run s=some ⟨c,[]⟩
def pI(P:Program)(s:St):List ResultVar->List AV->Prop
 |[],[]=>True
 |r::b,c::a=>DC P s r c/\pI P s b a
 |_,_=>False
def KB(P:Program)(s:St):List ResultVar->AV->Prop
 |[],c=>c= .lit (.tuple #[])
 |[r],c=>DC P s r c
 |b,c=> ∃a,c= .tuple a/\b.length≠1/\pI P s b a
section
variable {P:Program} {x:py} {s:St} {a:Act} {w:World} {m:ld}
theorem BR{r:ResultVar}{c:AV}(y:dT x s a w m)(h:DC P s r c): ∃v,(m8 a.tmps r).run P w= .ok v w/\RL w m s v c:=by
 cases r with
 | tmp t=>
   have h:s.f t=c:=h;exact⟨_,rfl,h ▸ y.slot t⟩
 | cell p t=>
   have l:(zn P t (s.f p)).run s=some ⟨c,[]⟩:=h;unfold zn at l;have H:=y.slot p;split at l
   ·rename_i r U i R e;rw[e]at H;obtain⟨f,o,q,C,l⟩:=dn l;obtain⟨g,J,M⟩:=H.loc_.2 q f o;obtain⟨I,N,O,Q⟩:=((y.rows r f o).cells C).own;cases B:f.es[i]? with
    | none=>
      rw[B]at l;unfold eY at l;cases G:ef P t with
      |none=>rw[G]at l;simp[Rd.run]at l
      |some d=>rw[G]at l;obtain⟨k,n,z⟩:=d;cases k<;>simp[Rd.run]at l
    | some V=>
      rw[B]at l
      obtain⟨v,S,T,p3⟩:=lh (P:=P) (t:=t) (w:=w) (m:=m) (s:=s) (b:=g) (p:=i*f.sz) (fun j=>I.getD (i*f.sz+j) undef) (fun j c K=>by
       have A:bs f.es i j=some c:=by unfold bs;rw[B];exact K
       obtain⟨u,D,E⟩:=Q i j c A;have L:I.getD (i*f.sz+j) undef=u:=by simp[List.getD,D]
       rw[L];refine⟨ig N J _ u D,O u (Mv D),?_⟩;split at E
       ·exact .val E
       exact E) l
      refine⟨v,?_,T⟩;simp only[m8,M,asAddr,NZ,Nu,NP];simpa[Instr.loadAt,Instr.sureAddr]using S
   simp[Rd.run]at l
theorem Eu(e:dT x s a w m): ∀ {rs:List ResultVar}{cs:List AV},pI P s rs cs-> ∃vs:List Value,(rs.mapM (m8 a.tmps)).run P w= .ok vs w/\vs.length=rs.length/\vs.length=cs.length/\ ∀(i:Nat)(v:Value)(c:AV),vs[i]? =some v->cs[i]? =some c->RL w m s v c
 |[],[],_=>⟨[],by simp,rfl,rfl,fun i v c h _=>by simp at h⟩
 | r::rs,c::cs,⟨k,h⟩=>by
   obtain⟨vs,l,n,o,p⟩:=Eu e h;obtain⟨q,g,j⟩:=BR e k;refine⟨q::vs,by simp[Q3,g,l],by simp[n],by simp[o],fun i v f d b=> ?_⟩;cases i with
   | zero=>
     simp only[Nr,Ms]at d b;subst d b;exact j
   |succ i=>exact p i v f (by simpa using d) (by simpa using b)
 |_::_,[],h=>h.elim
 |[],_::_,h=>h.elim
theorem Kj{fn:Func}{c:AV}(l:dT x s a w m)(h:KB P s fn.results.toList c): ∃v,(results fn a.tmps).run P w= .ok v w/\RL w m s v c:=by
 generalize b:fn.results.toList=f at h
 match f,h with
 | [],h=>
   have h:c= .lit (.tuple #[]):=h;refine⟨.tuple #[],?_,by rw[h];exact .val (.lit _)⟩;have j:fn.results= #[]:=by rw[<-Ny (xs:=fn.results),b]
   rw[iM,j];simp
 | [r],h=>
   have h:DC P s r c:=h;have j:fn.results= #[r]:=by rw[<-Ny (xs:=fn.results),b]
   obtain⟨v,q,t⟩:=BR l h;refine⟨v,?_,t⟩;rw[iM,j];simp[q]
 | r::k::f,h=>
   obtain⟨g,u,d,n⟩: ∃g,c= .tuple g/\(r::k::f).length≠1/\pI P s (r::k::f) g:=h;obtain⟨i,o,p,y,z⟩:=Eu (P:=P) l n;refine⟨.tuple i.toArray,?_,by rw[u];exact .tuple i g y z⟩;rw[iM]
   have:(fn.results.mapM (m8 a.tmps)).run P w= .ok i.toArray w:=by
    rw[Array.mapM_eq_mapM_toList,b];try clear d n p
    generalize r::k::f=L at o |-;simp[o]
   have e: ¬i.length=1:=by rw[p];exact d
   simp[this,e]
end
def KA(P:Program)(rs:List ResultVar)(c:List Nat)(a:Nat->Bool)(e:Nat->Nat)(b:(Nat->Nat)->List (Nat×Row))(d:(Nat->Nat)->AV):Exit->St->Prop
 | .normal,s | .ret,s=>(∀k∈c,(s.rows k=ap (b s.vs) k/\s.esc k=false)/\(a k=false->s.vs k=e k))/\KB P s rs (d s.vs)
 |_,_=>False
structure ip(P:Program)(env:b8)(f:FuncId)(ids:List Nat)(grown:Nat->Bool)(cs:(Nat->Nat)->List AV)(pre post:(Nat->Nat)->List (Nat×Row))(res:(Nat->Nat)->AV):Prop where
 enter: ∀(args:Array Value)(w:World),(callFunc f args).run P w= .ok (.enter f args) w
 body: ∃fn c,P.funcs[f]? =some fn/\fn.body=some c/\(∀vs,(cs vs).length<=fn.ntmps)/\ ∀vs esc,(∀k∈ids,esc k=false)->fp P env fn.ntmps c (KA P fn.results.toList ids grown vs post res) ⟨fun t=>(cs vs).getD t .any,ap (pre vs),vs,esc⟩
def dh:List (Nat×Nat)->Nat->Option Nat
 |[],_=>none
 |p::L,k=>if p.1=k then some p.2 else dh L k
def fQ:List (Nat×Nat)->Nat->Option Nat
 |[],_=>none
 |p::L,r=>if p.2=r then some p.1 else fQ L r
def je: ∀ {L:List (Nat×Nat)}{k r:Nat},(L.map (·.1)).Nodup->(dh L k=some r↔(k,r)∈L)
 |[],k,r,_=>by simp[dh]
 | p::L,k,r,h=>by
   obtain⟨a,b⟩:=PM.1 (by simpa using h:(p.1::L.map (·.1)).Nodup);have c:=je (L:=L) (k:=k) (r:=r) b;unfold dh;by_cases e:p.1=k
   ·subst e;rw[Mw rfl];simp only[Ms,NV];constructor
    ·rintro rfl;exact .inl rfl
    rintro(h|h)
    ·rw[<-h]
    exact absurd (NE.2 ⟨_,h,rfl⟩) a
   rw[Mt e,c];simp only[NV];constructor
   ·exact .inr
   rintro(h|h)
   ·exact absurd (by rw[<-h]) e
   exact h
def ib: ∀ {L:List (Nat×Nat)}{k r:Nat},(L.map (·.2)).Nodup->(fQ L r=some k↔(k,r)∈L)
 |[],k,r,_=>by simp[fQ]
 | p::L,k,r,h=>by
   obtain⟨a,b⟩:=PM.1 (by simpa using h:(p.2::L.map (·.2)).Nodup);have c:=ib (L:=L) (k:=k) (r:=r) b;unfold fQ;by_cases e:p.2=r
   ·subst e;rw[Mw rfl];simp only[Ms,NV];constructor
    ·rintro rfl;exact .inl rfl
    rintro(h|h)
    ·rw[<-h]
    exact absurd (NE.2 ⟨_,h,rfl⟩) a
   rw[Mt e,c];simp only[NV];constructor
   ·exact .inr
   rintro(h|h)
   ·exact absurd (by rw[<-h]) e
   exact h
def gd(L:List (Nat×Nat))(a:Nat->Bool)(r:Nat):Bool:=match fQ L r with|some k=>a k|none=>false
def Sc(L:List (Nat×Nat))(vsv:Nat->Nat)(k:Nat):Nat:=match dh L k with|some r=>vsv r|none=>0
def Fk(L:List (Nat×Nat))(a:Nat->Bool)(vsv:Nat->Nat)(r:Nat):Nat:=if (fQ L r).isSome&&gd L a r then vsv r+1 else vsv r
def lay(a:Nat->Bool)(b:Nat->Row)(p:Nat×Nat):u3:=if a p.1 then .renew p.2 (b p.2) else .set p.2 (b p.2)
def Td(k:List (Nat×Nat))(a:Nat->Bool)(b:Nat->Row): ∀(L:List (Nat×Nat))(s:St),(L.map (·.2)).Nodup->(∀p∈L,gd k a p.2=a p.1)->(∀p∈L,s.esc p.2=false)->
 (dk (L.map (lay a b)) s).f=s.f/\(∀r,(dk (L.map (lay a b)) s).rows r=if r∈L.map (·.2) then some (b r) else s.rows r)/\
 (∀r,(dk (L.map (lay a b)) s).vs r=if r∈L.map (·.2)/\gd k a r=true then s.vs r+1 else s.vs r)/\(∀r,(dk (L.map (lay a b)) s).esc r=s.esc r)
 |[],s,_,_,_=>⟨rfl,fun r=>by simp[dk],fun r=>by simp[dk],fun r=>by simp[dk]⟩
 | p::L,s,h,v,u=>by
   obtain⟨t,B⟩:=PM.1 (by simpa using h:(p.2::L.map (·.2)).Nodup);have m:=v p (by simp);have l:=u p (by simp);have C: ∀q∈L,q.2≠p.2:=fun q i e=>t (by rw[<-e];exact NE.2 ⟨q,i,rfl⟩)
   have j: ∀f:St,f.f=s.f->(∀r,f.rows r=if r=p.2 then some (b p.2) else s.rows r)->(∀r,f.vs r=if r=p.2/\a p.1=true then s.vs r+1 else s.vs r)->(∀r,f.esc r=s.esc r)->(lay a b p).app s=f->
    _:=fun f x y z o A=>by
    obtain⟨D,E,G,H⟩:=Td k a b L f B (fun q i=>v q (by simp[i])) (fun q i=>by rw[o];exact u q (by simp[i]));have w:dk ((p::L).map (lay a b)) s=dk (L.map (lay a b)) f:=by rw[Nh,dk,A]
    show (dk ((p::L).map (lay a b)) s).f=s.f/\(∀r,(dk ((p::L).map (lay a b)) s).rows r=if r∈(p::L).map (·.2) then some (b r) else s.rows r)/\
     (∀r,(dk ((p::L).map (lay a b)) s).vs r=if r∈(p::L).map (·.2)/\gd k a r=true then s.vs r+1 else s.vs r)/\(∀r,(dk ((p::L).map (lay a b)) s).esc r=s.esc r)
    rw[w];refine⟨D.trans x,fun r=> ?_,fun r=> ?_,fun r=>(H r).trans (o r)⟩
    ·rw[E,y];simp only[Nh,NV];by_cases d:r∈L.map (·.2)
     ·rw[Mw d,Mw (.inr d)]
     rw[Mt d];by_cases g:r=p.2
     ·rw[Mw g,Mw (.inl g),g]
     rw[Mt g,Mt (by rintro(h|h)<;>contradiction)]
    rw[G,z];simp only[Nh,NV];by_cases d:r∈L.map (·.2)
    ·have n:r≠p.2:=fun e=>t (e ▸ d);simp[d,n]
    by_cases g:r=p.2
    ·subst g;simp[d,m]
    simp[d,g]
   cases c:a p.1 with
   | true=>
     refine j (s.renew p.2 (b p.2) false) rfl (fun r=>by simp only[St.renew,mu]) (fun r=> ?_) (fun r=> ?_) (by simp only[lay,c,Nt,u3.app])
     ·simp only[St.renew,mu,c,Rs];split
      ·rename_i e;rw[e]
      rfl
     simp only[St.renew,mu];split
     ·rename_i e;rw[e,l]
     rfl
   |false=>exact j (s.setRow p.2 (b p.2)) rfl (fun r=>by simp only[St.setRow,mu]) (fun r=>by simp[St.setRow,c]) (fun r=>rfl) (by simp only[lay,c,NU,OA,u3.app])
def LW{P:Program}{env:b8}{f:FuncId}{L:List (Nat×Nat)}{b:Nat->Bool}{cs:(Nat->Nat)->List AV}{n z:(Nat->Nat)->List (Nat×Row)}{I:(Nat->Nat)->AV}(B:ip P env f (L.map (·.1)) b cs n z I)
 (Q:(L.map (·.1)).Nodup)(H:(L.map (·.2)).Nodup){d:List AV}{rows:Nat->Option Row}{vsv:Nat->Nat}{C:Nat->Row}{val:AV}
 (h1:AV.ren.renL (Sw (fQ L)) d=cs (Sc L vsv))
 (h2: ∀k row,ap (n (Sc L vsv)) k=some row-> ∃r A,dh L k=some r/\rows r=some A/\A.ren (Sw (fQ L))=row)
 (h3: ∀o:Nat->Nat,(∀p∈L,b p.1=false->o p.1=vsv p.2)-> ∀p∈L,(ap (z o) p.1).map (Row.ren (um (dh L) o (Fk L b vsv)))=some (C p.2))
 (h4: ∀o:Nat->Nat,(∀p∈L,b p.1=false->o p.1=vsv p.2)->(I o).ren (um (dh L) o (Fk L b vsv))=val):
 To P env f d (L.map (·.2)) rows vsv ⟨val,L.map (lay b C)⟩:=by
 refine⟨B.enter,fun x s a w m vs hx hS i hl hv=> ?_⟩;obtain⟨Z,c,hf,hb,hn,D⟩:=B.body;have u: ∀k r,dh L k=some r↔fQ L r=some k:=fun k r=>(je Q).trans (ib H).symm;have j: ∀ {k r},dh L k=some r->r∈L.map (·.2):=fun {k r} h=>NE.2 ⟨(k,r),(je Q).1 h,rfl⟩
 have W:(mP (dh L) (fQ L) s d).vs=Sc L vsv:=by
  funext k
  simp only[mP,Sc];cases E:dh L k with
  |none=>rfl
  |some r=>exact(i r (j E)).2.1
 have R:d.length=(cs (Sc L vsv)).length:=by rw[<-h1,d7]
 have hE:=hS.enter (toR:=dh L) (toK:=fQ L) u (nt:=Z.ntmps) hl (by rw[R];exact hn _) hv;refine calls_of_wp hf hb ?_
 have G:SM (mP (dh L) (fQ L) s d) ⟨fun t=>(cs (Sc L vsv)).getD t .any,ap (n (Sc L vsv)),Sc L vsv,(mP (dh L) (fQ L) s d).esc⟩:=by
  refine⟨fun t=> .inl ?_,fun k=> ?_,W.symm,rfl⟩
  ·show (cs (Sc L vsv)).getD t .any=(d.getD t .any).ren (Sw (fQ L));rw[<-h1];by_cases ht:t<d.length
   ·obtain⟨c',k1,k2⟩:=jS (Sw (fQ L)) d t _ (Mq (by rw[d7];exact ht));simp only[List.getD,Mq (show t< (AV.ren.renL (Sw (fQ L)) d).length by rw[d7];exact ht),k1,OH,k2]
   simp only[List.getD,NI (show d.length<=t by omega),NI (show (AV.ren.renL (Sw (fQ L)) d).length<=t by rw[d7];omega),PG];rfl
  ·show ap (n (Sc L vsv)) k=(mP (dh L) (fQ L) s d).rows k\/ap (n (Sc L vsv)) k=none;cases hh:ap (n (Sc L vsv)) k with
   |none=>exact .inr rfl
   | some row=>
     obtain⟨r,A,J,K,q3⟩:=h2 k row hh;left;simp only[mP,J,OD,(i r (j J)).1,K,NT,q3]
 have N: ∀k∈L.map (·.1),(mP (dh L) (fQ L) s d).esc k=false:=fun k hkm=>by
  obtain⟨p,l,rfl⟩:=NE.1 hkm;have S:dh L p.1=some p.2:=(je Q).2 l;simp only[mP,S];exact(i p.2 (j S)).2.2
 have hxe:(Pc (dh L) (fQ L) x s d w m Z.ntmps).env=env:=hx;refine wpIn_wide.1 (PS (D (Sc L vsv) _ N none _ hxe rfl _ w _ (hE.less G)) ?_);rintro e a' w' ⟨q,m2,J,K⟩
 have M:(∀k∈L.map (·.1),(q.rows k=ap (z q.vs) k/\q.esc k=false)/\(b k=false->q.vs k=Sc L vsv k))/\KB P q Z.results.toList (I q.vs)->
  ∃v,(results Z a'.tmps).run P w'= .ok v w'/\ ∃v' m',Ending.returned v= .returned v'/\dT x (dk (L.map (lay b C)) s) a w' m'/\RL w' m' (dk (L.map (lay b C)) s) v' val:=fun⟨p1,p2⟩=>by
  obtain⟨v,X,Y⟩:=Kj (P:=P) K p2
  have ho: ∀p∈L,b p.1=false->q.vs p.1=vsv p.2:=fun p l hg=>by
   have:=(p1 p.1 (NE.2 ⟨p,l,rfl⟩)).2 hg;rw[this];simp only[Sc,(je Q).2 l]
  have U: ∀k r,dh L k=some r->gd L b r=false->q.vs k=s.vs r:=fun k r g hg=>by
   have hg':b k=false:=by simpa only[gd,(u k r).1 g]using hg
   rw[(i r (j g)).2.1];exact ho (k,r) ((je Q).1 g) hg'
  obtain⟨b1,b2⟩:=hS.back K u (gd L b) U;have hnout:kX (fQ L) (gd L b) s=fun r=>if (fQ L r).isSome&&gd L b r then s.vs r+1 else s.vs r:=rfl
  have O:um (dh L) q.vs (kX (fQ L) (gd L b) s)=um (dh L) q.vs (Fk L b vsv):=by
   funext k ver
   unfold um;cases g:dh L k with
   |none=>rfl
   | some r=>
     have hv1:=(i r (j g)).2.1;simp only[OD,kX,Fk,hv1]
  obtain⟨l1,l2,l3,l4⟩:=Td L b C L s H (fun p l=>by simp only[gd,(ib H).2 l]) (fun p l=>(i p.2 (NE.2 ⟨p,l,rfl⟩)).2.2)
  have V:jD (dh L) (fQ L) (gd L b) s q=dk (L.map (lay b C)) s:=by
   generalize dk (L.map (lay b C)) s=T at l1 l2 l3 l4;obtain⟨Tf,Trows,Tvs,Tesc⟩:=T;simp only at l1 l2 l3 l4;subst l1
   have y: ∀r,r∈L.map (·.2)↔(fQ L r).isSome:=fun r=>by
    constructor
    ·intro h;obtain⟨p,l,rfl⟩:=NE.1 h;rw[(ib H).2 l];rfl
    intro h;obtain⟨k,E⟩:=PW.1 h;exact NE.2 ⟨(k,r),(ib H).1 E,rfl⟩
   simp only[jD,St.mk.injEq,true_and];refine⟨funext fun r=> ?_,funext fun r=> ?_,funext fun r=> ?_⟩
   ·rw[l2];cases g:fQ L r with
    |none=>rw[Mt (by rw[y,g];simp)]
    | some k=>
      have l:=(ib H).1 g;rw[Mw (by rw[y,g];rfl)];simp only;rw[(p1 k (NE.2 ⟨_,l,rfl⟩)).1.1,O];exact h3 q.vs ho (k,r) l
   ·rw[l3];simp only[kX,y,Mu]
   ·rw[l4];cases g:fQ L r with
    |none=>rfl
    | some k=>
      have l:=(ib H).1 g;simp only;rw[(p1 k (NE.2 ⟨_,l,rfl⟩)).1.2,(i r (NE.2 ⟨_,l,rfl⟩)).2.2]
  rw[V,O]at b2;rw[V]at b1;have b3:=b2 v _ Y;rw[h4 q.vs ho]at b3;exact⟨v,X,v,_,rfl,b1,b3⟩
 cases e with
 | normal=>
   obtain⟨v,X,Y⟩:=M J;exact⟨K.ZU,v,X,Y⟩
 | ret=>
   obtain⟨v,X,Y⟩:=M J;exact⟨K.ZU,v,X,Y⟩
 |_=>exact J.elim
/-! As scripts use it -/
def E0(s:St)(c:Nat->Nat)(a:Nat->Bool)(b:List (Nat×Row)):List Nat->Prop
 |[]=>True
 |k::d=>((s.rows k=ap b k/\s.esc k=false)/\(a k=false->s.vs k=c k))/\E0 s c a b d
def ut{s:St}{d:Nat->Nat}{a:Nat->Bool}{b:List (Nat×Row)} : ∀ {c:List Nat},E0 s d a b c-> ∀k∈c,(s.rows k=ap b k/\s.esc k=false)/\(a k=false->s.vs k=d k)
 |[],_,k,hk=>by simp at hk
 | i::c,h,k,hk=>by
   rcases NV.1 hk with rfl|hk
   ·exact h.1
   exact ut h.2 k hk
def sQ{P:Program}{rs:List ResultVar}{c:List Nat}{a:Nat->Bool}{e:Nat->Nat}{b:(Nat->Nat)->List (Nat×Row)}{d:(Nat->Nat)->AV}{s:St}(f:E0 s e a (b s.vs) c)(g:KB P s rs (d s.vs)):KA P rs c a e b d .ret s:=⟨ut f,g⟩
def Il{P:Program}{rs:List ResultVar}{c:List Nat}{a:Nat->Bool}{e:Nat->Nat}{b:(Nat->Nat)->List (Nat×Row)}{d:(Nat->Nat)->AV}{s:St}(f:E0 s e a (b s.vs) c)(g:KB P s rs (d s.vs)):KA P rs c a e b d .normal s:=⟨ut f,g⟩
def zr(L:List (Nat×Nat))(rows:Nat->Option Row):List (Nat×Row)->Prop
 |[]=>True
 |p::a=>((dh L p.1).bind fun r=>(rows r).map (Row.ren (Sw (fQ L))))=some p.2/\zr L rows a
def B8{L:List (Nat×Nat)}{rows:Nat->Option Row} : ∀ {ps:List (Nat×Row)},zr L rows ps-> ∀k row,ap ps k=some row-> ∃r a,dh L k=some r/\rows r=some a/\a.ren (Sw (fQ L))=row
 |[],_,k,row,h=>by simp[ap]at h
 | p::ps,⟨b,f⟩,k,row,h=>by
   obtain⟨i,q⟩:=p;unfold ap at h;split at h
   ·rename_i e;simp only[Ms]at h;subst h e;cases d:dh L k with
    |none=>rw[show dh L (k,q).1=none from d]at b;cases b
    | some r=>
      rw[show dh L (k,q).1=some r from d]at b;simp only[OD]at b;cases c:rows r with
      |none=>rw[c]at b;cases b
      | some a=>
        rw[c]at b;simp only[NT,Ms]at b;exact⟨r,a,rfl,c,b⟩
   exact B8 f k row h
instance:Inhabited Row:=⟨⟨1,[],0,true⟩⟩
def g8(L:List (Nat×Nat))(a:Nat->Bool)(vsv:Nat->Nat)(b:List (Nat×Row))(r:Nat):Row:=(((fQ L r).bind (ap b)).map (Row.ren (um (dh L) (fun _=>0) (Fk L a vsv)))).getD default
def rh(L:List (Nat×Nat))(a:Nat->Bool)(vsv:Nat->Nat)(o:Nat->Nat)(c b:List (Nat×Row)):List (Nat×Nat)->Prop
 |[]=>True
 |p::d=>(ap c p.1).map (Row.ren (um (dh L) o (Fk L a vsv)))=some (g8 L a vsv b p.2)/\rh L a vsv o c b d
def wb{L:List (Nat×Nat)}{a:Nat->Bool}{vsv:Nat->Nat}{o:Nat->Nat}{c b:List (Nat×Row)} : ∀ {ps:List (Nat×Nat)},rh L a vsv o c b ps-> ∀p∈ps,(ap c p.1).map (Row.ren (um (dh L) o (Fk L a vsv)))=some (g8 L a vsv b p.2)
 |[],_,p,hp=>by simp at hp
 | q::ps,⟨d,e⟩,p,hp=>by
   rcases NV.1 hp with rfl|hp
   ·exact d
   exact wb e p hp
def zt(s:St):List (Nat×Nat)->Prop
 |[]=>True
 |p::a=>s.esc p.2=false/\zt s a
def CU{s:St} : ∀ {L:List (Nat×Nat)},zt s L-> ∀r∈L.map (·.2),s.esc r=false
 |[],_,r,a=>by simp at a
 | p::L,⟨b,c⟩,r,a=>by
   rcases NV.1 (show r∈p.2::L.map (·.2) from a) with rfl|a
   ·exact b
   exact CU c r a
section
variable {P:Program} {env:b8} {s:St}
theorem iq{o:Oper}{f:FuncId}{args:List AV}{d:List No}{l:St}{i:fy}{K:St->List fy->Prop}{a:Nat->Bool}{cs:(Nat->Nat)->List AV}{g b:(Nat->Nat)->List (Nat×Row)}{c:(Nat->Nat)->AV}(L:List (Nat×Nat))(v:bM env s.f o=some (f,args))
 (e:ip P env f (L.map (·.1)) a cs g b c)(x:(L.map (·.1)).Nodup)(z:(L.map (·.2)).Nodup)
 (m:AV.ren.renL (Sw (fQ L)) args=cs (Sc L s.vs))(n:zr L s.rows (g (Sc L s.vs)))(w:zt s L)
 (q: ∀o:Nat->Nat,rh L a s.vs o (b o) (b fun _=>0) L)(r: ∀o:Nat->Nat,(c o).ren (um (dh L) o (Fk L a s.vs))=(c fun _=>0).ren (um (dh L) (fun _=>0) (Fk L a s.vs)))
 (t:Is ((⟨(c fun _=>0).ren (um (dh L) (fun _=>0) (Fk L a s.vs)),L.map (lay a (g8 L a s.vs (b fun _=>0)))⟩:Out).app o.dst s) l)(j:Is (⟨L.map (·.2),L.map (·.2),nb (L.map (lay a (g8 L a s.vs (b fun _=>0)))),zs (L.map (lay a (g8 L a s.vs (b fun _=>0))))⟩:fy) i)
 (k:jw P env d l fun A h=>K A (i::h)):jw P env (⟨o, .always⟩::d) s K:=by
 have u:=LW (rows:=s.rows) (vsv:=s.vs) e x z m (B8 n) (fun o _ p y=>wb (q o) p y) (fun o _=>r o);unfold Is at j;subst j;exact qL v rfl u (CU w) t k
end
section
variable {P:Program} {env:b8} {f:Nat->AV} {d:Option Nat} {ty:TypeId} {ps:String} {af:Array Edge} {g:Option (Nat×Bool)}
def Ld(x:AV):Rd Out:=match x with
 | .ref e c i a=>val (.ref e c i a)
 | .loc r b i a=>Rd.row r b fun _=>val (.loc r b i a)
 |_=> .fail
theorem Al{y:Operand} :aX P env f ⟨d, .nilCheck y,ty,ps,af,g⟩=Ld (gt env f y):=rfl
end
end
section
attribute [go_sem] Ld Al pI KB DC zn E0 dh fQ Sw um Fk Sc gd lay AV.ren AV.ren.renL Row.ren ap Option.bind_some Option.bind_none Option.isSome_some Option.isSome_none Option.getD_some Bool.true_eq_false zr rh zt nb zs List.cons.injEq Prod.mk.injEq forall_const
end
section
def dT.tell{x:py}{s:St}{a:Act}{w:World}{m:ld}(h:dT x s a w m)(t:Nat)(c:AV)(k:RL w m s (a.tmps.getD t undef) c):dT x (s.put (some t) c) a w m:=by
 refine { h with ZU:=h.ZU,ZR:=h.ZR,slot:=fun e=> ?_,rows:=fun p d f=> ?_ }
 ·have g:RL w m s (a.tmps.getD e undef) (mu s.f t c e):=by
   by_cases i:e=t
   ·subst i;rw[aw];exact k
   rw[cR _ _ _ i];exact h.slot e
  exact RL.put g (some t) _
 exact(h.rows p d f).mono (s':=s.put (some t) c) (fun b o j=>⟨j, .rfl⟩) (fun _=>NC _) (fun r d _ n=>⟨d,n,rfl,rfl⟩) rfl (fun _ _=>rfl) rfl (fun _ _ _ l=>l)
section
variable {P:Program} {env:b8} {nt:Nat} {Q:Exit->St->Prop} {s:St}
end
def dT.nilCell{x:py}{s:St}{a:Act}{w:World}{m:ld}(h:dT x s a w m)(r r2 i j:Nat)(row:Row)(e:List AV)(v:TypeId)(sz:Nat)(N:r2≠r)(P:0<sz)(X:s.rows r=some row)(O:row.sz≠0)(W:row.pure=false)(hi:row.es[i]? =some e)(U:e[j]? =some (.lit (.slice none 0 0))):
 dT x ((s.renew r2 ⟨sz,[],v,true⟩ false).setRow r { row with es:=row.es.set i (e.set j (.row r2 (s.vs r2+1))) }) a w ⟨m.S,mu m.ρ r2 (.slice none 0 0)⟩:=by
 have T:=h.renew r2 ⟨sz,[],v,true⟩ false (.slice none 0 0) m.S (O1 _ _) (fun b o z=>⟨z, .rfl⟩) (fun b o z=> .inl z) (fun k Z V X g n=>⟨rfl,by simp[Value.ownBlock],fun o z=>z⟩)
  (.inl ⟨P,fun i B y=>by simp at y,⟨[],by simp only[aw];exact QY _ _ _ _,by simp,fun i j c f=>by simp[bs]at f⟩,(fun y=>by simp[St.renew,aw]at y),(fun g n=>by simp[aw,Value.ownBlock]at n),(fun _ g n=>by simp[aw,Value.ownBlock]at n)⟩) (fun b _=>⟨rfl,fun _ z=>z,by simp[Value.ownBlock]⟩)
 have A:(s.renew r2 ⟨sz,[],v,true⟩ false).rows r=some row:=by simpa only[St.renew,cR _ _ _ (Ot N)]using X
 have k:=(T.rows r row A).cells O;have E:i<row.es.length:=(Mr.1 hi).1
 have Q: ∀(p:Nat)(B:List AV),(row.es.set i (e.set j (.row r2 (s.vs r2+1))))[p]? =some B->B.length=row.sz:=fun p B l=>by
  rw[O0]at l;by_cases C:i=p
  ·rw[Mw C,Mw E]at l;cases l;rw[PF];exact k.len i e hi
  rw[Mt C]at l;exact k.len p B l
 have V: ∀q d,(({ s.renew r2 ⟨sz,[],v,true⟩ false with } :St).setRow r { row with es:=row.es.set i (e.set j (.row r2 (s.vs r2+1))) }).vs q=(s.renew r2 ⟨sz,[],v,true⟩ false).vs q->((s.renew r2 ⟨sz,[],v,true⟩ false).setRow r { row with es:=row.es.set i (e.set j (.row r2 (s.vs r2+1))) }).rows q=some d-> ∃t,(s.renew r2 ⟨sz,[],v,true⟩ false).rows q=some t/\t.sz=d.sz/\(mu m.ρ r2 (.slice none 0 0)) q=(mu m.ρ r2 (.slice none 0 0)) q:=fun q d _ K=>by
  by_cases D:q=r
  ·subst D;simp only[St.setRow,aw,Ms]at K;subst K;exact⟨row,A,rfl,rfl⟩
  simp only[St.setRow,cR _ _ _ D]at K;exact⟨d,K,rfl,rfl⟩
 refine T.reset r row { row with es:=row.es.set i (e.set j (.row r2 (s.vs r2+1))) } A rfl (O1 _ _) (fun _ _ _=> .rfl) (fun _ _ _ _ _ _=>rfl) (.inl ⟨k.pos,Q,?_,fun y g n o G=> ?_,fun g n o G=> ?_,fun y g n o=> ?_⟩) (fun _ _=>rfl)
 ·obtain⟨S,k1,k2,Y⟩:=k.own;refine⟨S,by simpa only[PF]using k1,k2,fun p q c f=> ?_⟩;show ∃u,S[p*row.sz+q]? =some u/\if row.pure=true then _ else _
  have H: ∀J,bs row.es p q=some J->J=c-> ∃u,S[p*row.sz+q]? =some u/\(if row.pure=true then RV m.S w u c else RL w ⟨m.S,mu m.ρ r2 (.slice none 0 0)⟩ ((s.renew r2 ⟨sz,[],v,true⟩ false).setRow r { row with es:=row.es.set i (e.set j (.row r2 (s.vs r2+1))) }) u c):=fun J L ec=>by
   subst ec;obtain⟨u,R,I⟩:=Y p q J L;refine⟨u,R,?_⟩;rw[Mt (by simp[W])]at I |-;exact I.mono (fun b o hb=>⟨hb, .rfl⟩) (fun _=>NC _) V
  unfold bs at f;rw[O0]at f;by_cases C:i=p
  ·subst C;rw[Mw rfl,Mw E]at f;simp only[OD,O0]at f;by_cases D:j=q
   ·subst D;have M:j<e.length:=(Mr.1 U).1;rw[Mw rfl,Mw M]at f;cases f;obtain⟨u,R,I⟩:=Y i j (.lit (.slice none 0 0)) (by unfold bs;rw[hi];exact U);refine⟨u,R,?_⟩;rw[Mt (by simp[W])]at I |-;rw[I.lit_];exact .row r2 (s.vs r2+1) rfl (by simp[St.setRow,St.renew,aw]) fun _ row _=>by simp[aw]
   rw[Mt D]at f;exact H c (by unfold bs;rw[hi];exact f) rfl
  rw[Mt C]at f;exact H c f rfl
 ·simp only[PF]at G;exact k.esc y g n o G
 ·simp only[PF]at G;exact k.spare g n o G
 exact k.fresh y g n o
section
variable {P:Program} {env:b8} {nt:Nat} {Q:Exit->St->Prop} {s:St}
theorem rG{c:Code}{g:St}(r r2 i j:Nat)(row:Row)(e:List AV)(k:TypeId)(sz:Nat)(b:r2≠r)(f:0<sz)(d:row.sz≠0)(q:row.pure=false)(hi:row.es[i]? =some e)(o:e[j]? =some (.lit (.slice none 0 0)))(t:Is (s.rows r) (some row))
 (l:Is ((s.renew r2 ⟨sz,[],k,true⟩ false).setRow r { row with es:=row.es.set i (e.set j (.row r2 (s.vs r2+1))) }) g)(h:fp P env nt c Q g):fp P env nt c Q s:=
 fun u x n p a w _ m=>h u x n p a w _ (by
  have:=m.nilCell r r2 i j row e k sz b f t d q hi o;rw[show _=g from l]at this
  exact this)
end
def b7.empty{P:Program}{env:b8}{f:FuncId}{sz:Nat}{a:AV}(h: ∀A cap,b7 P env f [.lit (.slice A 0 cap)] a):b7 P env f [.seq sz []] a:=by
 refine⟨(h none 0).enter,fun w S s l p q=> ?_⟩
 match s,p with
 | [v],_=>
   have g:RV S w v (.seq sz []):=q 0 v _ rfl rfl
   have r: ∃A cap,v= .slice A 0 cap:=by
    generalize m:([]:List (List AV))=k at g;cases g with
    | seq A n cap sz k b o u j=>
      subst m;simp only[Pq]at j;subst j;exact⟨A,cap,rfl⟩
   obtain⟨A,cap,rfl⟩:=r;refine(h A cap).calls w S [.slice A 0 cap] l rfl fun i v c d e=> ?_
   match i,d,e with
   |0,d,e=>cases d;cases e;exact .lit _
end
section
def dT.clean{x:py}{s:St}{a:Act}{w:World}{m:ld}(h:dT x s a w m)(r:Nat)(l:s.rows r=none):dT x { s with esc:=mu s.esc r false } a w m:=by
 have j: ∀k c,s.vs k=s.vs k->s.rows k=some c-> ∃d,s.rows k=some d/\d.sz=c.sz/\m.ρ k=m.ρ k:=fun k c _ f=>⟨c,f,rfl,rfl⟩;refine { h with slot:=fun t=>(h.slot t).mono (s':={ s with esc:=mu s.esc r false }) (fun b o g=>⟨g, .rfl⟩) (fun _=>NC _) j,rows:=fun k d f=> ?_ };have i:k≠r:=fun e=>by rw[e]at f;exact absurd (l.symm.trans f) (by simp)
 exact(h.rows k d f).mono (s':={ s with esc:=mu s.esc r false }) (fun b o g=>⟨g, .rfl⟩) (fun _=>NC _) j rfl (fun _ _=>rfl) (cR _ _ _ i) (fun _ _ _ f=>f)
def xu{P:Program}{env:b8}{nt:Nat}{c:Code}{Q:Exit->St->Prop}{s:St}(r:Nat)(e:s.rows r=none)(h:fp P env nt c Q { s with esc:=mu s.esc r false }):fp P env nt c Q s:=
 fun g x f d a w m b=>h g x f d a w m (b.clean r e)
end
end Go.Proofs.YtfhkmjbjafeckaaGreatDoor
