/- Walking without memory: rows that are not there, rows seen. No program is named here. -/
import Derived.Test.YtknkhdgfhbogdaaGreatDoorP5
set_option linter.unusedSimpArgs false
set_option linter.defProp false
namespace Go.Proofs.YtknkhdgfhbogdaaGreatDoor
open Go.RowKit
section
def AV.ren(g:Nat->Nat->Option (Nat×Nat)):AV->AV
 | .row r ver=>match g r ver with
   |some q=> .row q.1 q.2
   |none=> .any
 | .loc r ver i off=>match g r ver with
   |some q=> .loc q.1 q.2 i off
   |none=> .any
 | .mp r ver=>match g r ver with
   |some q=> .mp q.1 q.2
   |none=> .any
 | .sub r ver lo=>match g r ver with
   |some q=> .sub q.1 q.2 lo
   |none=> .any
 | .agg cs=> .agg (renL g cs)
 | .tuple cs=> .tuple (renL g cs)
 | .clo f cs=> .clo f (renL g cs)
 |c=>c
where renL (g:Nat->Nat->Option (Nat×Nat)):List AV->List AV
 |[]=>[]
 |c::cs=>c.ren g::renL g cs
def dY(g:Nat->Nat->Option (Nat×Nat)): ∀cs,(AV.ren.renL g cs).length=cs.length
 |[]=>rfl
 |c::cs=>by simp[AV.ren.renL,dY g cs]
def jF(g:Nat->Nat->Option (Nat×Nat)): ∀(cs:List AV)(i:Nat)(c:AV),(AV.ren.renL g cs)[i]? =some c-> ∃a,cs[i]? =some a/\c=a.ren g
 |[],i,c,h=>by simp[AV.ren.renL]at h
 | d::cs,i,c,h=>by
   cases i with
   |zero=>simp[AV.ren.renL]at h;exact⟨d,rfl,h.symm⟩
   | succ i=>
     obtain⟨a,b,e⟩:=jF g cs i c (by simpa[AV.ren.renL]using h);exact⟨a,by simpa using b,e⟩
def RV.ren{S:Nat->Nat->Prop}{w:World}{v:Value}{c:AV}(g:Nat->Nat->Option (Nat×Nat))(h:RV S w v c):RV S w v (c.ren g):=by
 induction h with
 |any v=>exact .any v
 |lit v=>exact .lit v
 | agg C s h K q e=>
   refine .agg C _ (by rw[dY];exact h) K fun i v c m a=> ?_;obtain⟨r,B,rfl⟩:=jF g s i c a;exact e i v r m B
 | tuple C s h q e=>
   refine .tuple C _ (by rw[dY];exact h) fun i v c m a=> ?_;obtain⟨r,B,rfl⟩:=jF g s i c a;exact e i v r m B
 |iface t v c h e=>exact .iface t v c h
 |seq A n j p d b o u E y D z q G e=>exact .seq A n j p d b o u E y D z q G
 |ref p d i H b o u z q G e=>exact .ref p d i H b o u z q G
 |fmap I x l d J L E z M m _ _=>exact .fmap I x l d J L E z M m
 |full A n p d h _=>exact .full A n p d h
 |news A n k j p d D h _=>exact .news A n k j p d D h
 | clo f C s h q e=>
   refine .clo f C _ (by rw[dY];exact h) fun i v c m a=> ?_;obtain⟨r,B,rfl⟩:=jF g s i c a;exact e i v r m B
def Qw(s:St)(m:k6)(s':St)(m':k6)(g:Nat->Nat->Option (Nat×Nat)):Prop:= ∀r c d a,g r c=some (d,a)->c<=s.vs r->
 a<=s'.vs d/\(s'.vs d=a-> ∀b,s'.rows d=some b->s.vs r=c/\ ∃e,s.rows r=some e/\e.sz=b.sz/\m'.ρ d=m.ρ r)
def RL.ren{w K:World}{m m':k6}{s s':St}{v:Value}{c:AV}{g:Nat->Nat->Option (Nat×Nat)}(L: ∀b o,m.S b o->m'.S b o/\kE w K b o)(H:Qw s m s' m' g)(h:RL w m s v c):RL K m' s' v (c.ren g):=by
 induction h with
 |val h=>exact .val ((h.mono L).ren g)
 | agg G A h n J C=>
   refine .agg G _ (by rw[dY];exact h) n fun i v c B l=> ?_;obtain⟨z,k,rfl⟩:=jF g A i c l;exact C i v z B k
 | tuple G A h J C=>
   refine .tuple G _ (by rw[dY];exact h) fun i v c B l=> ?_;obtain⟨z,k,rfl⟩:=jF g A i c l;exact C i v z B k
 | clo f G A h J C=>
   refine .clo f G _ (by rw[dY];exact h) fun i v c B l=> ?_;obtain⟨z,k,rfl⟩:=jF g A i c l;exact C i v z B k
 | row r d n j h=>
   unfold AV.ren;cases p:g r d with
   |none=>exact .val (.any _)
   | some q=>
     obtain⟨k,u⟩:=H r d q.1 q.2 p j;refine .row q.1 q.2 n k fun e a t=> ?_;obtain⟨x,row,y,_,D⟩:=u e a t;rw[D];exact h x row y
 | sub r d M n j h=>
   unfold AV.ren;cases p:g r d with
   |none=>exact .val (.any _)
   | some q=>
     obtain⟨k,u⟩:=H r d q.1 q.2 p j;refine .sub q.1 q.2 M n k fun e a t=> ?_;obtain⟨x,row,y,E,D⟩:=u e a t;rw[D, <-E];exact h x row y
 | loc r d i I n j h=>
   unfold AV.ren;cases p:g r d with
   |none=>exact .val (.any _)
   | some q=>
     obtain⟨k,u⟩:=H r d q.1 q.2 p j;refine .loc q.1 q.2 i I n k fun e a t=> ?_;obtain⟨x,row,y,D,E⟩:=u e a t;rw[E, <-D];exact h x row y
 | mp r d n j h=>
   unfold AV.ren;cases p:g r d with
   |none=>exact .val (.any _)
   | some q=>
     obtain⟨k,u⟩:=H r d q.1 q.2 p j;refine .mp q.1 q.2 n k fun e a t=> ?_;obtain⟨x,row,y,_,E⟩:=u e a t;rw[E];exact h x row y
def Row.ren(g:Nat->Nat->Option (Nat×Nat))(row:Row):Row:=if row.pure then row else { row with es:=row.es.map (·.map (AV.ren g)) }
def Row.ren_sz(g:Nat->Nat->Option (Nat×Nat))(row:Row):(row.ren g).sz=row.sz:=by unfold Row.ren;split<;>rfl
def Row.ren_e(g:Nat->Nat->Option (Nat×Nat))(row:Row):(row.ren g).e=row.e:=by unfold Row.ren;split<;>rfl
def Row.ren_pure(g:Nat->Nat->Option (Nat×Nat))(row:Row):(row.ren g).pure=row.pure:=by unfold Row.ren;split<;>rfl
def Row.ren_len(g:Nat->Nat->Option (Nat×Nat))(row:Row):(row.ren g).es.length=row.es.length:=by unfold Row.ren;split<;>simp
def Row.ren_at(g:Nat->Nat->Option (Nat×Nat))(row:Row){i j:Nat}{c:AV}(h:bs (row.ren g).es i j=some c): ∃a,bs row.es i j=some a/\c=(if row.pure then a else a.ren g):=by
 unfold Row.ren at h;split at h
 ·rename_i d;exact⟨c,h,by rw[Lj d]⟩
 ·rename_i d;unfold bs at h |-;simp only[Lo]at h;cases f:row.es[i]? with
  |none=>rw[f]at h;cases h
  | some e=>
    rw[f]at h;simp only[MG,Mk,Lo]at h;cases b:e[j]? with
    |none=>rw[b]at h;cases h
    | some a=>
      rw[b]at h;cases h;exact⟨a,b,by rw[Lf d]⟩
def Row.ren_els(g:Nat->Nat->Option (Nat×Nat))(row:Row)(n:Nat)(h: ∀(i:Nat)(e:List AV),row.es[i]? =some e->e.length=n)(i:Nat)(e:List AV)(a:(row.ren g).es[i]? =some e):e.length=n:=by
 unfold Row.ren at a;split at a
 ·exact h i e a
 ·simp only[Lo]at a;cases b:row.es[i]? with
  |none=>rw[b]at a;cases a
  |some c=>rw[b]at a;cases a;simpa using h i c b
def tD.ren{base:Nat}{w:World}{m m':k6}{s s':St}{r r':Nat}{row:Row}{g:Nat->Nat->Option (Nat×Nat)}(h:tD base w m s r row)(f:m'.S=m.S)(y:Qw s m s' m' g)(a:m'.ρ r'=m.ρ r)(k:s'.esc r'=s.esc r):tD base w m' s' r' (row.ren g):=by
 refine⟨by rw[Row.ren_sz];exact h.pos,fun i e z=>by rw[Row.ren_sz];exact Row.ren_els g row _ h.len i e z,?_,?_,?_,?_⟩
 ·obtain⟨D,p,q,t⟩:=h.own;refine⟨D,by rw[Row.ren_e,Row.ren_sz,Row.ren_len,a];exact p,q,fun i j c x=> ?_⟩;obtain⟨n,A,B⟩:=Row.ren_at g row x;obtain⟨u,C,d⟩:=t i j n A;refine⟨u,by rw[Row.ren_sz];exact C,?_⟩;rw[Row.ren_pure];subst B;cases l:row.pure with
  |true=>rw[l]at d;simp only[Mb]at d |-;rw[f];exact d
  | false=>
    rw[l]at d;simp only[MH,Mi]at d |-;exact RL.ren (fun b o v=>⟨by rw[f];exact v, .rfl⟩) y d
 ·rw[k,a,f,Row.ren_len,Row.ren_sz];exact h.esc
 ·rw[a,f,Row.ren_len,Row.ren_sz];exact h.spare
 rw[k,a,f];exact h.fresh
def ga.ren{base:Nat}{w:World}{m m':k6}{s s':St}{r r':Nat}{row:Row}{g:Nat->Nat->Option (Nat×Nat)}(h:ga base w m s r row)(j:m'.S=m.S)(z:Qw s m s' m' g)(f:m'.ρ r'=m.ρ r)(H:s'.esc r'=s.esc r):ga base w m' s' r' (row.ren g):=by
 rcases h with h|h
 ·exact .inl (h.ren j z f H)
 obtain⟨b,k,c,B,C,D,E,y⟩:=h.own;refine .inr ⟨by rw[Row.ren_sz];exact h.sz,⟨b,k,c,f.trans B,C,D,by rw[Row.ren_len];exact E,fun i e a=> ?_⟩,by rw[f,j];exact h.fresh⟩;unfold Row.ren at a;split at a
 ·rename_i l;obtain⟨p,v,x,q,t,u,n⟩:=y i e a;rw[Lj l]at n;exact⟨p,v,x,q,t,by rw[j];exact u,by rw[Row.ren_pure,Lj l,j];exact n⟩
 ·rename_i l;simp only[Lo]at a;cases d:row.es[i]? with
  |none=>rw[d]at a;cases a
  | some A=>
    rw[d]at a;cases a;obtain⟨p,v,x,q,t,u,n⟩:=y i A d;rw[Lf l]at n;subst t;refine⟨p,v.ren g,x.ren g,q,rfl,by rw[j];exact u.ren g,?_⟩;rw[Row.ren_pure,Lf l];exact RL.ren (fun b o G=>⟨by rw[j];exact G, .rfl⟩) z n
end
section
section
variable (toR toK:Nat->Option Nat)
def Qr(toK:Nat->Option Nat)(r a:Nat):Option (Nat×Nat):=(toK r).map fun k=>(k,a)
def lw(s:St)(cs:List AV):St:=⟨fun t=>(cs.getD t .any).ren (Qr toK),fun k=>(toR k).bind fun r=>(s.rows r).map (Row.ren (Qr toK)),fun k=>match toR k with|some r=>s.vs r|none=>0,fun k=>match toR k with|some r=>s.esc r|none=>false⟩
def vH(m:k6):k6:=⟨m.S,fun k=>match toR k with|some r=>m.ρ r|none=>undef⟩
def J'(x:o1)(s:St)(cs:List AV)(w:World)(m:k6)(nt:Nat):o1:=
 { x with df:=[],nt:=nt,fw:=w,fm:=vH toR m,e:=lw toR toK s cs,fx:=fun b=>x.fx b\/ ∃r a,s.rows r=some a/\toK r=none/\(m.ρ r).ownBlock=some b }
end
section
variable {toR toK:Nat->Option Nat} {x:o1} {s:St} {a:Act} {w:World} {m:k6}
theorem Hi(d: ∀k r,toR k=some r↔toK r=some k)(cs:List AV):Qw s m (lw toR toK s cs) (vH toR m) (Qr toK):=fun r t k p c g=>by
 unfold Qr at c;cases f:toK r with
 |none=>rw[f]at c;cases c
 | some i=>
   rw[f]at c;simp only[MG,Le,Oa]at c;obtain⟨rfl,rfl⟩:=c;have h:=(d i r).2 f;have l:(lw toR toK s cs).vs i=s.vs r:=by simp only[lw,h]
   refine⟨by rw[l];exact g,fun e o b=>⟨by rw[<-l];exact e,?_⟩⟩;have q:(lw toR toK s cs).rows i=(s.rows r).map (Row.ren (Qr toK)):=by simp only[lw,h,Mk]
   rw[q]at b;cases n:s.rows r with
   |none=>rw[n]at b;cases b
   | some j=>
     rw[n]at b;simp only[MG,Le]at b;subst b;exact⟨j,rfl,(Row.ren_sz _ _).symm,by simp only[vH,h]⟩
theorem dj.enter(h:dj x s a w m)(n: ∀k r,toR k=some r↔toK r=some k){nt:Nat}{cs:List AV}{vs:List Value}(Q:vs.length=cs.length)(T:cs.length<=nt)(U: ∀(i:Nat)(v:Value)(c:AV),vs[i]? =some v->cs[i]? =some c->RL w m s v c):
 dj (J' toR toK x s cs w m nt) (lw toR toK s cs) { tmps:=vs.toArray++Array.replicate (nt-vs.toArray.size) undef,defers:=[] } w (vH toR m):=by
 have P:=Hi (m:=m) (s:=s) n cs
 have j: ∀k d,(lw toR toK s cs).rows k=some d-> ∃r f,toR k=some r/\s.rows r=some f/\d=f.ren (Qr toK):=fun k d l=>by
  simp only[lw]at l;cases G:toR k with
  |none=>rw[G]at l;cases l
  | some r=>
    rw[G]at l;simp only[Mk]at l;cases M:s.rows r with
    |none=>rw[M]at l;cases l
    |some f=>rw[M]at l;cases l;exact⟨r,f,rfl,M,rfl⟩
 have q: ∀k r,toR k=some r->(vH toR m).ρ k=m.ρ r:=fun k r G=>by simp only[vH,G]
 refine⟨h.Z3,h.low,h.ZT,h.sub,h.env,h.ZX,h.ZV,rfl,by simp[J'];omega,fun t=> ?_,fun k d l=> ?_,fun k N E p z C L g A=> ?_,fun _ _ K=>⟨K, .rfl⟩,fun _=>Lr _,fun r d _ l=>⟨d,l,rfl,rfl⟩,Lr _,fun b u=>⟨?_,rfl,fun _ K=>K⟩,fun k d l g A=> ?_⟩
 ·show RL w _ _ _ ((cs.getD t .any).ren (Qr toK));by_cases R:t<cs.length
  ·refine RL.ren (m:=m) (s:=s) (fun b o u=>⟨u, .rfl⟩) P (U t _ _ ?_ ?_)
   ·rw[Mf,OZ (by simp;omega)];simp[show t<vs.length by omega]
   simp[List.getD,R]
  have:cs.getD t .any= .any:=by simp[List.getD,Lu (Pj R)]
  rw[this];exact .val (.any _)
 ·obtain⟨r,f,z,C,rfl⟩:=j k d l;exact(h.rows r f C).ren rfl P (q k r z) (by simp only[lw,z])
 ·obtain⟨r,f,D,H,_⟩:=j k E z;obtain⟨B,d,I,J,_⟩:=j N p C;rw[q k r D]at A;rw[q N B I]
  have y:r≠B:=fun e=>L (by
   subst e;have S:=(n k r).1 D;have O:=(n N r).1 I;rw[S]at O
   exact NQ O)
  exact h.inj r B f d H J y g A
 ·rcases u with u|⟨r,f,z,_,C⟩
  ·exact h.fxlt u
  exact((h.rows r f z).blk C).2
 obtain⟨r,f,D,H,_⟩:=j k d l;rw[q k r D]at A;rintro(u|⟨B,p,I,J,V⟩)
 ·exact h.Z5 r f H g A u
 have y:r≠B:=fun e=>by
  subst e;rw[(n k r).1 D]at J;cases J
 exact h.inj r B f p H I y g A V
def sy(toR:Nat->Option Nat)(o n:Nat->Nat)(k b:Nat):Option (Nat×Nat):=(toR k).bind fun r=>if b=o k then some (r,n r) else none
def kM(toK:Nat->Option Nat)(b:Nat->Bool)(s:St)(r:Nat):Nat:=if (toK r).isSome&&b r then s.vs r+1 else s.vs r
def io(toR toK:Nat->Option Nat)(b:Nat->Bool)(s c:St):St:=⟨s.f,fun r=>match toK r with|some k=>(c.rows k).map (Row.ren (sy toR c.vs (kM toK b s)))|none=>s.rows r,kM toK b s,fun r=>match toK r with|some k=>c.esc k|none=>s.esc r⟩
def gl(toK:Nat->Option Nat)(m b:k6):k6:=⟨b.S,fun r=>match toK r with|some k=>b.ρ k|none=>m.ρ r⟩
theorem Fj(e: ∀k r,toR k=some r↔toK r=some k)(c:Nat->Bool)(s g:St)(m n:k6):Qw g n (io toR toK c s g) (gl toK m n) (sy toR g.vs (kM toK c s)):=fun k t r p d _=>by
 unfold sy at d;cases h:toR k with
 |none=>rw[h]at d;cases d
 | some q=>
   rw[h]at d;simp only[Mk]at d;split at d
   ·rename_i f;simp only[Le,Oa]at d;obtain⟨rfl,rfl⟩:=d;have j:=(e k q).1 h;refine⟨Lr _,fun _ o b=>⟨f.symm,?_⟩⟩;simp only[io,j]at b;cases l:g.rows k with
    |none=>rw[l]at b;cases b
    | some i=>
      rw[l]at b;simp only[MG,Le]at b;subst b;exact⟨i,rfl,(Row.ren_sz _ _).symm,by simp only[gl,j]⟩
   cases d
theorem dj.back{cs:List AV}{nt:Nat}{u:St}{a2:Act}{T:World}{C:k6}(h:dj x s a w m)(y:dj (J' toR toK x s cs w m nt) u a2 T C)(B: ∀k r,toR k=some r↔toK r=some k)(d:Nat->Bool)(R: ∀k r,toR k=some r->d r=false->u.vs k=s.vs r):
 dj x (io toR toK d s u) a T (gl toK m C)/\ ∀v c,RL T C u v c->RL T (gl toK m C) (io toR toK d s u) v (c.ren (sy toR u.vs (kM toK d s))):=by
 have hN:=Fj B d s u m C;have Y: ∀b o,m.S b o->(gl toK m C).S b o/\kE w T b o:=y.ZM
 have U: ∀r,s.vs r<=(io toR toK d s u).vs r:=fun r=>by
  show s.vs r<=kM toK d s r;unfold kM;split<;>omega
 have Z: ∀r f,(io toR toK d s u).vs r=s.vs r->(io toR toK d s u).rows r=some f-> ∃p,s.rows r=some p/\p.sz=f.sz/\(gl toK m C).ρ r=m.ρ r:=fun r f e l=>by
  cases j:toK r with
  | none=>
    simp only[io,j]at l;exact⟨f,l,rfl,by simp only[gl,j]⟩
  | some k=>
    have J:=(B k r).2 j;have e:kM toK d s r=s.vs r:=e
    have L:d r=false:=by
     cases L:d r with
     |false=>rfl
     |true=>simp[kM,j,L]at e
    simp only[io,j]at l;cases M:u.rows k with
    |none=>rw[M]at l;cases l
    | some i=>
      rw[M]at l;simp only[MG,Le]at l;subst l
      have hvk:u.vs k=(J' toR toK x s cs w m nt).e.vs k:=by
       rw[R k r J L];simp only[J',lw,J]
      obtain⟨row0,O,q2,q3⟩:=y.evK k i hvk M;simp only[J',lw,J,Mk]at O;cases Q:s.rows r with
      |none=>rw[Q]at O;cases O
      | some p=>
        rw[Q]at O;simp only[MG,Le]at O;subst O;refine⟨p,rfl,?_,?_⟩
        ·rw[Row.ren_sz, <-q2,Row.ren_sz]
        simp only[gl,j];rw[q3];simp only[J',vH,J]
 have I: ∀r p,s.rows r=some p->toK r=none-> ∀g,(m.ρ r).ownBlock=some g->(J' toR toK x s cs w m nt).fx g:=fun r p W X g z=> .inr ⟨r,p,W,X,z⟩
 have n: ∀r f,(io toR toK d s u).rows r=some f->(toK r=none/\s.rows r=some f/\(gl toK m C).ρ r=m.ρ r)\/ ∃k i,toK r=some k/\u.rows k=some i/\f=i.ren (sy toR u.vs (kM toK d s))/\(gl toK m C).ρ r=C.ρ k:=fun r f l=>by
  cases j:toK r with
  | none=>
    simp only[io,j]at l;exact .inl ⟨rfl,l,by simp only[gl,j]⟩
  | some k=>
    simp only[io,j]at l;cases M:u.rows k with
    |none=>rw[M]at l;cases l
    | some i=>
      rw[M]at l;simp only[MG,Le]at l;exact .inr ⟨k,i,rfl,M,l.symm,by simp only[gl,j]⟩
 refine⟨⟨y.Z3,y.low,y.ZT,y.sub,h.env,h.ZX,h.ZV,h.ZU,h.ZR,fun t=>(h.slot t).mono Y U Z,fun r f l=> ?_,fun r V G i W X P g z=> ?_,h.toS Y,h.toV U,h.toK U Z,Ly h.ZY y.ZY,fun b H=>⟨(h.fix b H).1,(y.fix b (.inl H)).2.1.trans (h.fix b H).2.1,fun o ho=>(h.fix b H).2.2 o ((y.fix b (.inl H)).2.2 o ho)⟩,fun r f l g z H=> ?_⟩,fun v c hc=>RL.ren (m:=C) (s:=u) (fun b o H=>⟨H, .rfl⟩) hN hc⟩
 ·rcases n r f l with⟨D,A,p3⟩|⟨k,i,D,A,rfl,p3⟩
  ·refine(h.rows r f A).mono Y U Z p3 (fun g z=>(y.fix g (I r f A D g z)).2.1) (by simp only[io,D]) fun g z o ho=>(y.fix g (I r f A D g z)).2.2 o ho
  exact(y.rows k i A).ren rfl hN p3 (by simp only[io,D])
 ·rcases n r G W with⟨D,A,p3⟩|⟨k,q,D,A,_,p3⟩<;>rcases n V i X with⟨N,E,S⟩|⟨k',q',N,E,_,S⟩<;>rw[p3]at z<;>rw[S]
  ·exact h.inj r V G i A E P g z
  ·exact fun K=>y.Z5 k' q' E g K (I r G A D g z)
  ·exact fun K=>y.Z5 k q A g z (I V i E N g K)
  refine y.inj k k' q q' A E (fun e=>P ?_) g z;subst e;have e1:=(B k r).2 D;have e2:=(B k V).2 N;rw[e1]at e2;exact NQ e2
 rcases n r f l with⟨D,A,p3⟩|⟨k,q,D,A,_,p3⟩<;>rw[p3]at z
 ·exact h.Z5 r f A g z H
 exact y.Z5 k q A g z (.inl H)
end
end
section
/-! Contracts of bodies that are handed rows -/
def ye(P:Program)(t:TypeId)(c:AV):Rd Out:=match c with
 | .loc r d i a=>Rd.row r d fun b=>eR P t b.es[i]? a
 |_=> .fail
def Bp(P:Program)(s:St):ResultVar->AV->Prop
 | .tmp t,c=>s.f t=c
 | .cell p t,c=>(ye P t (s.f p)).run s=some ⟨c,[]⟩
def o9(P:Program)(s:St):List ResultVar->List AV->Prop
 |[],[]=>True
 |r::b,c::a=>Bp P s r c/\o9 P s b a
 |_,_=>False
def It(P:Program)(s:St):List ResultVar->AV->Prop
 |[],c=>c= .lit (.tuple #[])
 |[r],c=>Bp P s r c
 |b,c=> ∃a,c= .tuple a/\b.length≠1/\o9 P s b a
section
variable {P:Program} {x:o1} {s:St} {a:Act} {w:World} {m:k6}
theorem AM{r:ResultVar}{c:AV}(y:dj x s a w m)(h:Bp P s r c): ∃v,(m6 a.tmps r).run P w= .ok v w/\RL w m s v c:=by
 cases r with
 | tmp t=>
   have h:s.f t=c:=h;exact⟨_,rfl,h ▸ y.slot t⟩
 | cell p t=>
   have l:(ye P t (s.f p)).run s=some ⟨c,[]⟩:=h;unfold ye at l;have H:=y.slot p;split at l
   ·rename_i r U i R e;rw[e]at H;obtain⟨f,o,q,C,l⟩:=db l;obtain⟨g,J,M⟩:=H.loc_.2 q f o;obtain⟨I,N,O,Q⟩:=((y.rows r f o).cells C).own;cases B:f.es[i]? with
    | none=>
      rw[B]at l;unfold eR at l;cases G:ew P t with
      |none=>rw[G]at l;simp[Rd.run]at l
      |some d=>rw[G]at l;obtain⟨k,n,z⟩:=d;cases k<;>simp[Rd.run]at l
    | some V=>
      rw[B]at l
      obtain⟨v,S,T,p3⟩:=lN (P:=P) (t:=t) (w:=w) (m:=m) (s:=s) (b:=g) (p:=i*f.sz) (fun j=>I.getD (i*f.sz+j) undef) (fun j c K=>by
       have A:bs f.es i j=some c:=by unfold bs;rw[B];exact K
       obtain⟨u,D,E⟩:=Q i j c A;have L:I.getD (i*f.sz+j) undef=u:=by simp[List.getD,D]
       rw[L];refine⟨iV N J _ u D,O u (Lh D),?_⟩;split at E
       ·exact .val E
       exact E) l
      refine⟨v,?_,T⟩;simp only[m6,M,asAddr,MQ,Mc,MD];simpa[Instr.loadAt,Instr.sureAddr]using S
   simp[Rd.run]at l
theorem Dl(e:dj x s a w m): ∀ {rs:List ResultVar}{cs:List AV},o9 P s rs cs-> ∃vs:List Value,(rs.mapM (m6 a.tmps)).run P w= .ok vs w/\vs.length=rs.length/\vs.length=cs.length/\ ∀(i:Nat)(v:Value)(c:AV),vs[i]? =some v->cs[i]? =some c->RL w m s v c
 |[],[],_=>⟨[],by simp,rfl,rfl,fun i v c h _=>by simp at h⟩
 | r::rs,c::cs,⟨k,h⟩=>by
   obtain⟨vs,l,n,o,p⟩:=Dl e h;obtain⟨q,g,j⟩:=AM e k;refine⟨q::vs,by simp[PC,g,l],by simp[n],by simp[o],fun i v f d b=> ?_⟩;cases i with
   | zero=>
     simp only[M9,Le]at d b;subst d b;exact j
   |succ i=>exact p i v f (by simpa using d) (by simpa using b)
 |_::_,[],h=>h.elim
 |[],_::_,h=>h.elim
theorem J8{fn:Func}{c:AV}(l:dj x s a w m)(h:It P s fn.results.toList c): ∃v,(results fn a.tmps).run P w= .ok v w/\RL w m s v c:=by
 generalize b:fn.results.toList=f at h
 match f,h with
 | [],h=>
   have h:c= .lit (.tuple #[]):=h;refine⟨.tuple #[],?_,by rw[h];exact .val (.lit _)⟩;have j:fn.results= #[]:=by rw[<-Mg (xs:=fn.results),b]
   rw[iC,j];simp
 | [r],h=>
   have h:Bp P s r c:=h;have j:fn.results= #[r]:=by rw[<-Mg (xs:=fn.results),b]
   obtain⟨v,q,t⟩:=AM l h;refine⟨v,?_,t⟩;rw[iC,j];simp[q]
 | r::k::f,h=>
   obtain⟨g,u,d,n⟩: ∃g,c= .tuple g/\(r::k::f).length≠1/\o9 P s (r::k::f) g:=h;obtain⟨i,o,p,y,z⟩:=Dl (P:=P) l n;refine⟨.tuple i.toArray,?_,by rw[u];exact .tuple i g y z⟩;rw[iC]
   have:(fn.results.mapM (m6 a.tmps)).run P w= .ok i.toArray w:=by
    rw[Array.mapM_eq_mapM_toList,b];try clear d n p
    generalize r::k::f=L at o |-;simp[o]
   have e: ¬i.length=1:=by rw[p];exact d
   simp[this,e]
end
def Ir(P:Program)(rs:List ResultVar)(c:List Nat)(a:Nat->Bool)(e:Nat->Nat)(b:(Nat->Nat)->List (Nat×Row))(d:(Nat->Nat)->AV):Exit->St->Prop
 | .normal,s | .ret,s=>(∀k∈c,(s.rows k=ao (b s.vs) k/\s.esc k=false)/\(a k=false->s.vs k=e k))/\It P s rs (d s.vs)
 |_,_=>False
structure hU(P:Program)(env:b6)(f:FuncId)(ids:List Nat)(grown:Nat->Bool)(cs:(Nat->Nat)->List AV)(pre post:(Nat->Nat)->List (Nat×Row))(res:(Nat->Nat)->AV):Prop where
 enter: ∀(args:Array Value)(w:World),(callFunc f args).run P w= .ok (.enter f args) w
 body: ∃fn c,P.funcs[f]? =some fn/\fn.body=some c/\(∀vs,(cs vs).length<=fn.ntmps)/\ ∀vs esc,(∀k∈ids,esc k=false)->fk P env fn.ntmps c (Ir P fn.results.toList ids grown vs post res) ⟨fun t=>(cs vs).getD t .any,ao (pre vs),vs,esc⟩
def d8:List (Nat×Nat)->Nat->Option Nat
 |[],_=>none
 |p::L,k=>if p.1=k then some p.2 else d8 L k
def fF:List (Nat×Nat)->Nat->Option Nat
 |[],_=>none
 |p::L,r=>if p.2=r then some p.1 else fF L r
def jZ: ∀ {L:List (Nat×Nat)}{k r:Nat},(L.map (·.1)).Nodup->(d8 L k=some r↔(k,r)∈L)
 |[],k,r,_=>by simp[d8]
 | p::L,k,r,h=>by
   obtain⟨a,b⟩:=Nm.1 (by simpa using h:(p.1::L.map (·.1)).Nodup);have c:=jZ (L:=L) (k:=k) (r:=r) b;unfold d8;by_cases e:p.1=k
   ·subst e;rw[Lj rfl];simp only[Le,MI];constructor
    ·rintro rfl;exact .inl rfl
    rintro(h|h)
    ·rw[<-h]
    exact absurd (Lp.2 ⟨_,h,rfl⟩) a
   rw[Lf e,c];simp only[MI];constructor
   ·exact .inr
   rintro(h|h)
   ·exact absurd (by rw[<-h]) e
   exact h
def iT: ∀ {L:List (Nat×Nat)}{k r:Nat},(L.map (·.2)).Nodup->(fF L r=some k↔(k,r)∈L)
 |[],k,r,_=>by simp[fF]
 | p::L,k,r,h=>by
   obtain⟨a,b⟩:=Nm.1 (by simpa using h:(p.2::L.map (·.2)).Nodup);have c:=iT (L:=L) (k:=k) (r:=r) b;unfold fF;by_cases e:p.2=r
   ·subst e;rw[Lj rfl];simp only[Le,MI];constructor
    ·rintro rfl;exact .inl rfl
    rintro(h|h)
    ·rw[<-h]
    exact absurd (Lp.2 ⟨_,h,rfl⟩) a
   rw[Lf e,c];simp only[MI];constructor
   ·exact .inr
   rintro(h|h)
   ·exact absurd (by rw[<-h]) e
   exact h
def gU(L:List (Nat×Nat))(a:Nat->Bool)(r:Nat):Bool:=match fF L r with|some k=>a k|none=>false
def PT(L:List (Nat×Nat))(vsv:Nat->Nat)(k:Nat):Nat:=match d8 L k with|some r=>vsv r|none=>0
def CT(L:List (Nat×Nat))(a:Nat->Bool)(vsv:Nat->Nat)(r:Nat):Nat:=if (fF L r).isSome&&gU L a r then vsv r+1 else vsv r
def lay(a:Nat->Bool)(b:Nat->Row)(p:Nat×Nat):tb:=if a p.1 then .renew p.2 (b p.2) else .set p.2 (b p.2)
def Rn(k:List (Nat×Nat))(a:Nat->Bool)(b:Nat->Row): ∀(L:List (Nat×Nat))(s:St),(L.map (·.2)).Nodup->(∀p∈L,gU k a p.2=a p.1)->(∀p∈L,s.esc p.2=false)->
 (dd (L.map (lay a b)) s).f=s.f/\(∀r,(dd (L.map (lay a b)) s).rows r=if r∈L.map (·.2) then some (b r) else s.rows r)/\
 (∀r,(dd (L.map (lay a b)) s).vs r=if r∈L.map (·.2)/\gU k a r=true then s.vs r+1 else s.vs r)/\(∀r,(dd (L.map (lay a b)) s).esc r=s.esc r)
 |[],s,_,_,_=>⟨rfl,fun r=>by simp[dd],fun r=>by simp[dd],fun r=>by simp[dd]⟩
 | p::L,s,h,v,u=>by
   obtain⟨t,B⟩:=Nm.1 (by simpa using h:(p.2::L.map (·.2)).Nodup);have m:=v p (by simp);have l:=u p (by simp);have C: ∀q∈L,q.2≠p.2:=fun q i e=>t (by rw[<-e];exact Lp.2 ⟨q,i,rfl⟩)
   have j: ∀f:St,f.f=s.f->(∀r,f.rows r=if r=p.2 then some (b p.2) else s.rows r)->(∀r,f.vs r=if r=p.2/\a p.1=true then s.vs r+1 else s.vs r)->(∀r,f.esc r=s.esc r)->(lay a b p).app s=f->
    _:=fun f x y z o A=>by
    obtain⟨D,E,G,H⟩:=Rn k a b L f B (fun q i=>v q (by simp[i])) (fun q i=>by rw[o];exact u q (by simp[i]));have w:dd ((p::L).map (lay a b)) s=dd (L.map (lay a b)) f:=by rw[M1,dd,A]
    show (dd ((p::L).map (lay a b)) s).f=s.f/\(∀r,(dd ((p::L).map (lay a b)) s).rows r=if r∈(p::L).map (·.2) then some (b r) else s.rows r)/\
     (∀r,(dd ((p::L).map (lay a b)) s).vs r=if r∈(p::L).map (·.2)/\gU k a r=true then s.vs r+1 else s.vs r)/\(∀r,(dd ((p::L).map (lay a b)) s).esc r=s.esc r)
    rw[w];refine⟨D.trans x,fun r=> ?_,fun r=> ?_,fun r=>(H r).trans (o r)⟩
    ·rw[E,y];simp only[M1,MI];by_cases d:r∈L.map (·.2)
     ·rw[Lj d,Lj (.inr d)]
     rw[Lf d];by_cases g:r=p.2
     ·rw[Lj g,Lj (.inl g),g]
     rw[Lf g,Lf (by rintro(h|h)<;>contradiction)]
    rw[G,z];simp only[M1,MI];by_cases d:r∈L.map (·.2)
    ·have n:r≠p.2:=fun e=>t (e ▸ d);simp[d,n]
    by_cases g:r=p.2
    ·subst g;simp[d,m]
    simp[d,g]
   cases c:a p.1 with
   | true=>
     refine j (s.renew p.2 (b p.2) false) rfl (fun r=>by simp only[St.renew,mc]) (fun r=> ?_) (fun r=> ?_) (by simp only[lay,c,Mb,tb.app])
     ·simp only[St.renew,mc,c,QM];split
      ·rename_i e;rw[e]
      rfl
     simp only[St.renew,mc];split
     ·rename_i e;rw[e,l]
     rfl
   |false=>exact j (s.setRow p.2 (b p.2)) rfl (fun r=>by simp only[St.setRow,mc]) (fun r=>by simp[St.setRow,c]) (fun r=>rfl) (by simp only[lay,c,MH,Mi,tb.app])
def KM{P:Program}{env:b6}{f:FuncId}{L:List (Nat×Nat)}{b:Nat->Bool}{cs:(Nat->Nat)->List AV}{n z:(Nat->Nat)->List (Nat×Row)}{I:(Nat->Nat)->AV}(B:hU P env f (L.map (·.1)) b cs n z I)
 (Q:(L.map (·.1)).Nodup)(H:(L.map (·.2)).Nodup){d:List AV}{rows:Nat->Option Row}{vsv:Nat->Nat}{C:Nat->Row}{val:AV}
 (h1:AV.ren.renL (Qr (fF L)) d=cs (PT L vsv))
 (h2: ∀k row,ao (n (PT L vsv)) k=some row-> ∃r A,d8 L k=some r/\rows r=some A/\A.ren (Qr (fF L))=row)
 (h3: ∀o:Nat->Nat,(∀p∈L,b p.1=false->o p.1=vsv p.2)-> ∀p∈L,(ao (z o) p.1).map (Row.ren (sy (d8 L) o (CT L b vsv)))=some (C p.2))
 (h4: ∀o:Nat->Nat,(∀p∈L,b p.1=false->o p.1=vsv p.2)->(I o).ren (sy (d8 L) o (CT L b vsv))=val):
 Rx P env f d (L.map (·.2)) rows vsv ⟨val,L.map (lay b C)⟩:=by
 refine⟨B.enter,fun x s a w m vs hx hS i hl hv=> ?_⟩;obtain⟨Z,c,hf,hb,hn,D⟩:=B.body;have u: ∀k r,d8 L k=some r↔fF L r=some k:=fun k r=>(jZ Q).trans (iT H).symm;have j: ∀ {k r},d8 L k=some r->r∈L.map (·.2):=fun {k r} h=>Lp.2 ⟨(k,r),(jZ Q).1 h,rfl⟩
 have W:(lw (d8 L) (fF L) s d).vs=PT L vsv:=by
  funext k
  simp only[lw,PT];cases E:d8 L k with
  |none=>rfl
  |some r=>exact(i r (j E)).2.1
 have R:d.length=(cs (PT L vsv)).length:=by rw[<-h1,dY]
 have hE:=hS.enter (toR:=d8 L) (toK:=fF L) u (nt:=Z.ntmps) hl (by rw[R];exact hn _) hv;refine calls_of_wp hf hb ?_
 have G:Qv (lw (d8 L) (fF L) s d) ⟨fun t=>(cs (PT L vsv)).getD t .any,ao (n (PT L vsv)),PT L vsv,(lw (d8 L) (fF L) s d).esc⟩:=by
  refine⟨fun t=> .inl ?_,fun k=> ?_,W.symm,rfl⟩
  ·show (cs (PT L vsv)).getD t .any=(d.getD t .any).ren (Qr (fF L));rw[<-h1];by_cases ht:t<d.length
   ·obtain⟨c',k1,k2⟩:=jF (Qr (fF L)) d t _ (Lc (by rw[dY];exact ht));simp only[List.getD,Lc (show t< (AV.ren.renL (Qr (fF L)) d).length by rw[dY];exact ht),k1,Mn,k2]
   simp only[List.getD,Lu (show d.length<=t by omega),Lu (show (AV.ren.renL (Qr (fF L)) d).length<=t by rw[dY];omega),Ni];rfl
  ·show ao (n (PT L vsv)) k=(lw (d8 L) (fF L) s d).rows k\/ao (n (PT L vsv)) k=none;cases hh:ao (n (PT L vsv)) k with
   |none=>exact .inr rfl
   | some row=>
     obtain⟨r,A,J,K,q3⟩:=h2 k row hh;left;simp only[lw,J,Mk,(i r (j J)).1,K,MG,q3]
 have N: ∀k∈L.map (·.1),(lw (d8 L) (fF L) s d).esc k=false:=fun k hkm=>by
  obtain⟨p,l,rfl⟩:=Lp.1 hkm;have S:d8 L p.1=some p.2:=(jZ Q).2 l;simp only[lw,S];exact(i p.2 (j S)).2.2
 have hxe:(J' (d8 L) (fF L) x s d w m Z.ntmps).env=env:=hx;refine wpIn_wide.1 (Nv (D (PT L vsv) _ N none _ hxe rfl _ w _ (hE.less G)) ?_);rintro e a' w' ⟨q,m2,J,K⟩
 have M:(∀k∈L.map (·.1),(q.rows k=ao (z q.vs) k/\q.esc k=false)/\(b k=false->q.vs k=PT L vsv k))/\It P q Z.results.toList (I q.vs)->
  ∃v,(results Z a'.tmps).run P w'= .ok v w'/\ ∃v' m',Ending.returned v= .returned v'/\dj x (dd (L.map (lay b C)) s) a w' m'/\RL w' m' (dd (L.map (lay b C)) s) v' val:=fun⟨p1,p2⟩=>by
  obtain⟨v,X,Y⟩:=J8 (P:=P) K p2
  have ho: ∀p∈L,b p.1=false->q.vs p.1=vsv p.2:=fun p l hg=>by
   have:=(p1 p.1 (Lp.2 ⟨p,l,rfl⟩)).2 hg;rw[this];simp only[PT,(jZ Q).2 l]
  have U: ∀k r,d8 L k=some r->gU L b r=false->q.vs k=s.vs r:=fun k r g hg=>by
   have hg':b k=false:=by simpa only[gU,(u k r).1 g]using hg
   rw[(i r (j g)).2.1];exact ho (k,r) ((jZ Q).1 g) hg'
  obtain⟨b1,b2⟩:=hS.back K u (gU L b) U;have hnout:kM (fF L) (gU L b) s=fun r=>if (fF L r).isSome&&gU L b r then s.vs r+1 else s.vs r:=rfl
  have O:sy (d8 L) q.vs (kM (fF L) (gU L b) s)=sy (d8 L) q.vs (CT L b vsv):=by
   funext k ver
   unfold sy;cases g:d8 L k with
   |none=>rfl
   | some r=>
     have hv1:=(i r (j g)).2.1;simp only[Mk,kM,CT,hv1]
  obtain⟨l1,l2,l3,l4⟩:=Rn L b C L s H (fun p l=>by simp only[gU,(iT H).2 l]) (fun p l=>(i p.2 (Lp.2 ⟨p,l,rfl⟩)).2.2)
  have V:io (d8 L) (fF L) (gU L b) s q=dd (L.map (lay b C)) s:=by
   generalize dd (L.map (lay b C)) s=T at l1 l2 l3 l4;obtain⟨Tf,Trows,Tvs,Tesc⟩:=T;simp only at l1 l2 l3 l4;subst l1
   have y: ∀r,r∈L.map (·.2)↔(fF L r).isSome:=fun r=>by
    constructor
    ·intro h;obtain⟨p,l,rfl⟩:=Lp.1 h;rw[(iT H).2 l];rfl
    intro h;obtain⟨k,E⟩:=Ny.1 h;exact Lp.2 ⟨(k,r),(iT H).1 E,rfl⟩
   simp only[io,St.mk.injEq,true_and];refine⟨funext fun r=> ?_,funext fun r=> ?_,funext fun r=> ?_⟩
   ·rw[l2];cases g:fF L r with
    |none=>rw[Lf (by rw[y,g];simp)]
    | some k=>
      have l:=(iT H).1 g;rw[Lj (by rw[y,g];rfl)];simp only;rw[(p1 k (Lp.2 ⟨_,l,rfl⟩)).1.1,O];exact h3 q.vs ho (k,r) l
   ·rw[l3];simp only[kM,y,Li]
   ·rw[l4];cases g:fF L r with
    |none=>rfl
    | some k=>
      have l:=(iT H).1 g;simp only;rw[(p1 k (Lp.2 ⟨_,l,rfl⟩)).1.2,(i r (Lp.2 ⟨_,l,rfl⟩)).2.2]
  rw[V,O]at b2;rw[V]at b1;have b3:=b2 v _ Y;rw[h4 q.vs ho]at b3;exact⟨v,X,v,_,rfl,b1,b3⟩
 cases e with
 | normal=>
   obtain⟨v,X,Y⟩:=M J;exact⟨K.ZU,v,X,Y⟩
 | ret=>
   obtain⟨v,X,Y⟩:=M J;exact⟨K.ZU,v,X,Y⟩
 |_=>exact J.elim
/-! As scripts use it -/
def DR(s:St)(c:Nat->Nat)(a:Nat->Bool)(b:List (Nat×Row)):List Nat->Prop
 |[]=>True
 |k::d=>((s.rows k=ao b k/\s.esc k=false)/\(a k=false->s.vs k=c k))/\DR s c a b d
def uG{s:St}{d:Nat->Nat}{a:Nat->Bool}{b:List (Nat×Row)} : ∀ {c:List Nat},DR s d a b c-> ∀k∈c,(s.rows k=ao b k/\s.esc k=false)/\(a k=false->s.vs k=d k)
 |[],_,k,hk=>by simp at hk
 | i::c,h,k,hk=>by
   rcases MI.1 hk with rfl|hk
   ·exact h.1
   exact uG h.2 k hk
def rY{P:Program}{rs:List ResultVar}{c:List Nat}{a:Nat->Bool}{e:Nat->Nat}{b:(Nat->Nat)->List (Nat×Row)}{d:(Nat->Nat)->AV}{s:St}(f:DR s e a (b s.vs) c)(g:It P s rs (d s.vs)):Ir P rs c a e b d .ret s:=⟨uG f,g⟩
def H1{P:Program}{rs:List ResultVar}{c:List Nat}{a:Nat->Bool}{e:Nat->Nat}{b:(Nat->Nat)->List (Nat×Row)}{d:(Nat->Nat)->AV}{s:St}(f:DR s e a (b s.vs) c)(g:It P s rs (d s.vs)):Ir P rs c a e b d .normal s:=⟨uG f,g⟩
def yi(L:List (Nat×Nat))(rows:Nat->Option Row):List (Nat×Row)->Prop
 |[]=>True
 |p::a=>((d8 L p.1).bind fun r=>(rows r).map (Row.ren (Qr (fF L))))=some p.2/\yi L rows a
def AY{L:List (Nat×Nat)}{rows:Nat->Option Row} : ∀ {ps:List (Nat×Row)},yi L rows ps-> ∀k row,ao ps k=some row-> ∃r a,d8 L k=some r/\rows r=some a/\a.ren (Qr (fF L))=row
 |[],_,k,row,h=>by simp[ao]at h
 | p::ps,⟨b,f⟩,k,row,h=>by
   obtain⟨i,q⟩:=p;unfold ao at h;split at h
   ·rename_i e;simp only[Le]at h;subst h e;cases d:d8 L k with
    |none=>rw[show d8 L (k,q).1=none from d]at b;cases b
    | some r=>
      rw[show d8 L (k,q).1=some r from d]at b;simp only[Mk]at b;cases c:rows r with
      |none=>rw[c]at b;cases b
      | some a=>
        rw[c]at b;simp only[MG,Le]at b;exact⟨r,a,rfl,c,b⟩
   exact AY f k row h
instance:Inhabited Row:=⟨⟨1,[],0,true⟩⟩
def g4(L:List (Nat×Nat))(a:Nat->Bool)(vsv:Nat->Nat)(b:List (Nat×Row))(r:Nat):Row:=(((fF L r).bind (ao b)).map (Row.ren (sy (d8 L) (fun _=>0) (CT L a vsv)))).getD default
def qu(L:List (Nat×Nat))(a:Nat->Bool)(vsv:Nat->Nat)(o:Nat->Nat)(c b:List (Nat×Row)):List (Nat×Nat)->Prop
 |[]=>True
 |p::d=>(ao c p.1).map (Row.ren (sy (d8 L) o (CT L a vsv)))=some (g4 L a vsv b p.2)/\qu L a vsv o c b d
def vd{L:List (Nat×Nat)}{a:Nat->Bool}{vsv:Nat->Nat}{o:Nat->Nat}{c b:List (Nat×Row)} : ∀ {ps:List (Nat×Nat)},qu L a vsv o c b ps-> ∀p∈ps,(ao c p.1).map (Row.ren (sy (d8 L) o (CT L a vsv)))=some (g4 L a vsv b p.2)
 |[],_,p,hp=>by simp at hp
 | q::ps,⟨d,e⟩,p,hp=>by
   rcases MI.1 hp with rfl|hp
   ·exact d
   exact vd e p hp
def yj(s:St):List (Nat×Nat)->Prop
 |[]=>True
 |p::a=>s.esc p.2=false/\yj s a
def BJ{s:St} : ∀ {L:List (Nat×Nat)},yj s L-> ∀r∈L.map (·.2),s.esc r=false
 |[],_,r,a=>by simp at a
 | p::L,⟨b,c⟩,r,a=>by
   rcases MI.1 (show r∈p.2::L.map (·.2) from a) with rfl|a
   ·exact b
   exact BJ c r a
section
variable {P:Program} {env:b6} {s:St}
theorem i6{o:Oper}{f:FuncId}{args:List AV}{d:List IS}{l:St}{i:fl}{K:St->List fl->Prop}{a:Nat->Bool}{cs:(Nat->Nat)->List AV}{g b:(Nat->Nat)->List (Nat×Row)}{c:(Nat->Nat)->AV}(L:List (Nat×Nat))(v:bK env s.f o=some (f,args))
 (e:hU P env f (L.map (·.1)) a cs g b c)(x:(L.map (·.1)).Nodup)(z:(L.map (·.2)).Nodup)
 (m:AV.ren.renL (Qr (fF L)) args=cs (PT L s.vs))(n:yi L s.rows (g (PT L s.vs)))(w:yj s L)
 (q: ∀o:Nat->Nat,qu L a s.vs o (b o) (b fun _=>0) L)(r: ∀o:Nat->Nat,(c o).ren (sy (d8 L) o (CT L a s.vs))=(c fun _=>0).ren (sy (d8 L) (fun _=>0) (CT L a s.vs)))
 (t:Is ((⟨(c fun _=>0).ren (sy (d8 L) (fun _=>0) (CT L a s.vs)),L.map (lay a (g4 L a s.vs (b fun _=>0)))⟩:Out).app o.dst s) l)(j:Is (⟨L.map (·.2),L.map (·.2),m9 (L.map (lay a (g4 L a s.vs (b fun _=>0)))),wc (L.map (lay a (g4 L a s.vs (b fun _=>0))))⟩:fl) i)
 (k:i9 P env d l fun A h=>K A (i::h)):i9 P env (⟨o, .always⟩::d) s K:=by
 have u:=KM (rows:=s.rows) (vsv:=s.vs) e x z m (AY n) (fun o _ p y=>vd (q o) p y) (fun o _=>r o);unfold Is at j;subst j;exact pV v rfl u (BJ w) t k
end
section
variable {P:Program} {env:b6} {f:Nat->AV} {d:Option Nat} {ty:TypeId} {ps:String} {af:Array Edge} {g:Option (Nat×Bool)}
def KW(x:AV):Rd Out:=match x with
 | .ref e c i a=>val (.ref e c i a)
 | .loc r b i a=>Rd.row r b fun _=>val (.loc r b i a)
 |_=> .fail
theorem zf{y:Operand} :aX P env f ⟨d, .nilCheck y,ty,ps,af,g⟩=KW (gt env f y):=rfl
end
end
section
attribute [go_sem] KW zf o9 It Bp ye DR d8 fF Qr sy CT PT gU lay AV.ren AV.ren.renL Row.ren ao Option.bind_some Option.bind_none Option.isSome_some Option.isSome_none Option.getD_some Bool.true_eq_false yi qu yj m9 wc List.cons.injEq Prod.mk.injEq forall_const
end
section
def dj.tell{x:o1}{s:St}{a:Act}{w:World}{m:k6}(h:dj x s a w m)(t:Nat)(c:AV)(k:RL w m s (a.tmps.getD t undef) c):dj x (s.put (some t) c) a w m:=by
 refine { h with ZU:=h.ZU,ZR:=h.ZR,slot:=fun e=> ?_,rows:=fun p d f=> ?_ }
 ·have g:RL w m s (a.tmps.getD e undef) (mc s.f t c e):=by
   by_cases i:e=t
   ·subst i;rw[aw];exact k
   rw[cD _ _ _ i];exact h.slot e
  exact RL.put g (some t) _
 exact(h.rows p d f).mono (s':=s.put (some t) c) (fun b o j=>⟨j, .rfl⟩) (fun _=>Lr _) (fun r d _ n=>⟨d,n,rfl,rfl⟩) rfl (fun _ _=>rfl) rfl (fun _ _ _ l=>l)
section
variable {P:Program} {env:b6} {nt:Nat} {Q:Exit->St->Prop} {s:St}
end
def dj.nilCell{x:o1}{s:St}{a:Act}{w:World}{m:k6}(h:dj x s a w m)(r r2 i j:Nat)(row:Row)(e:List AV)(v:TypeId)(sz:Nat)(N:r2≠r)(P:0<sz)(X:s.rows r=some row)(O:row.sz≠0)(W:row.pure=false)(hi:row.es[i]? =some e)(U:e[j]? =some (.lit (.slice none 0 0))):
 dj x ((s.renew r2 ⟨sz,[],v,true⟩ false).setRow r { row with es:=row.es.set i (e.set j (.row r2 (s.vs r2+1))) }) a w ⟨m.S,mc m.ρ r2 (.slice none 0 0)⟩:=by
 have T:=h.renew r2 ⟨sz,[],v,true⟩ false (.slice none 0 0) m.S (N9 _ _) (fun b o z=>⟨z, .rfl⟩) (fun b o z=> .inl z) (fun k Z V X g n=>⟨rfl,by simp[Value.ownBlock],fun o z=>z⟩)
  (.inl ⟨P,fun i B y=>by simp at y,⟨[],by simp only[aw];exact Ov _ _ _ _,by simp,fun i j c f=>by simp[bs]at f⟩,(fun y=>by simp[St.renew,aw]at y),(fun g n=>by simp[aw,Value.ownBlock]at n),(fun _ g n=>by simp[aw,Value.ownBlock]at n)⟩) (fun b _=>⟨rfl,fun _ z=>z,by simp[Value.ownBlock]⟩)
 have A:(s.renew r2 ⟨sz,[],v,true⟩ false).rows r=some row:=by simpa only[St.renew,cD _ _ _ (N5 N)]using X
 have k:=(T.rows r row A).cells O;have E:i<row.es.length:=(Ld.1 hi).1
 have Q: ∀(p:Nat)(B:List AV),(row.es.set i (e.set j (.row r2 (s.vs r2+1))))[p]? =some B->B.length=row.sz:=fun p B l=>by
  rw[NF]at l;by_cases C:i=p
  ·rw[Lj C,Lj E]at l;cases l;rw[Nh];exact k.len i e hi
  rw[Lf C]at l;exact k.len p B l
 have V: ∀q d,(({ s.renew r2 ⟨sz,[],v,true⟩ false with } :St).setRow r { row with es:=row.es.set i (e.set j (.row r2 (s.vs r2+1))) }).vs q=(s.renew r2 ⟨sz,[],v,true⟩ false).vs q->((s.renew r2 ⟨sz,[],v,true⟩ false).setRow r { row with es:=row.es.set i (e.set j (.row r2 (s.vs r2+1))) }).rows q=some d-> ∃t,(s.renew r2 ⟨sz,[],v,true⟩ false).rows q=some t/\t.sz=d.sz/\(mc m.ρ r2 (.slice none 0 0)) q=(mc m.ρ r2 (.slice none 0 0)) q:=fun q d _ K=>by
  by_cases D:q=r
  ·subst D;simp only[St.setRow,aw,Le]at K;subst K;exact⟨row,A,rfl,rfl⟩
  simp only[St.setRow,cD _ _ _ D]at K;exact⟨d,K,rfl,rfl⟩
 refine T.reset r row { row with es:=row.es.set i (e.set j (.row r2 (s.vs r2+1))) } A rfl (N9 _ _) (fun _ _ _=> .rfl) (fun _ _ _ _ _ _=>rfl) (.inl ⟨k.pos,Q,?_,fun y g n o G=> ?_,fun g n o G=> ?_,fun y g n o=> ?_⟩) (fun _ _=>rfl)
 ·obtain⟨S,k1,k2,Y⟩:=k.own;refine⟨S,by simpa only[Nh]using k1,k2,fun p q c f=> ?_⟩;show ∃u,S[p*row.sz+q]? =some u/\if row.pure=true then _ else _
  have H: ∀J,bs row.es p q=some J->J=c-> ∃u,S[p*row.sz+q]? =some u/\(if row.pure=true then RV m.S w u c else RL w ⟨m.S,mc m.ρ r2 (.slice none 0 0)⟩ ((s.renew r2 ⟨sz,[],v,true⟩ false).setRow r { row with es:=row.es.set i (e.set j (.row r2 (s.vs r2+1))) }) u c):=fun J L ec=>by
   subst ec;obtain⟨u,R,I⟩:=Y p q J L;refine⟨u,R,?_⟩;rw[Lf (by simp[W])]at I |-;exact I.mono (fun b o hb=>⟨hb, .rfl⟩) (fun _=>Lr _) V
  unfold bs at f;rw[NF]at f;by_cases C:i=p
  ·subst C;rw[Lj rfl,Lj E]at f;simp only[Mk,NF]at f;by_cases D:j=q
   ·subst D;have M:j<e.length:=(Ld.1 U).1;rw[Lj rfl,Lj M]at f;cases f;obtain⟨u,R,I⟩:=Y i j (.lit (.slice none 0 0)) (by unfold bs;rw[hi];exact U);refine⟨u,R,?_⟩;rw[Lf (by simp[W])]at I |-;rw[I.lit_];exact .row r2 (s.vs r2+1) rfl (by simp[St.setRow,St.renew,aw]) fun _ row _=>by simp[aw]
   rw[Lf D]at f;exact H c (by unfold bs;rw[hi];exact f) rfl
  rw[Lf C]at f;exact H c f rfl
 ·simp only[Nh]at G;exact k.esc y g n o G
 ·simp only[Nh]at G;exact k.spare g n o G
 exact k.fresh y g n o
section
variable {P:Program} {env:b6} {nt:Nat} {Q:Exit->St->Prop} {s:St}
theorem qP{c:Code}{g:St}(r r2 i j:Nat)(row:Row)(e:List AV)(k:TypeId)(sz:Nat)(b:r2≠r)(f:0<sz)(d:row.sz≠0)(q:row.pure=false)(hi:row.es[i]? =some e)(o:e[j]? =some (.lit (.slice none 0 0)))(t:Is (s.rows r) (some row))
 (l:Is ((s.renew r2 ⟨sz,[],k,true⟩ false).setRow r { row with es:=row.es.set i (e.set j (.row r2 (s.vs r2+1))) }) g)(h:fk P env nt c Q g):fk P env nt c Q s:=
 fun u x n p a w _ m=>h u x n p a w _ (by
  have:=m.nilCell r r2 i j row e k sz b f t d q hi o;rw[show _=g from l]at this
  exact this)
end
def b7.empty{P:Program}{env:b6}{f:FuncId}{sz:Nat}{a:AV}(h: ∀A cap,b7 P env f [.lit (.slice A 0 cap)] a):b7 P env f [.seq sz []] a:=by
 refine⟨(h none 0).enter,fun w S s l p q=> ?_⟩
 match s,p with
 | [v],_=>
   have g:RV S w v (.seq sz []):=q 0 v _ rfl rfl
   have r: ∃A cap,v= .slice A 0 cap:=by
    generalize m:([]:List (List AV))=k at g;cases g with
    | seq A n cap sz k b o u j=>
      subst m;simp only[OV]at j;subst j;exact⟨A,cap,rfl⟩
   obtain⟨A,cap,rfl⟩:=r;refine(h A cap).calls w S [.slice A 0 cap] l rfl fun i v c d e=> ?_
   match i,d,e with
   |0,d,e=>cases d;cases e;exact .lit _
end
section
def dj.clean{x:o1}{s:St}{a:Act}{w:World}{m:k6}(h:dj x s a w m)(r:Nat)(l:s.rows r=none):dj x { s with esc:=mc s.esc r false } a w m:=by
 have j: ∀k c,s.vs k=s.vs k->s.rows k=some c-> ∃d,s.rows k=some d/\d.sz=c.sz/\m.ρ k=m.ρ k:=fun k c _ f=>⟨c,f,rfl,rfl⟩;refine { h with slot:=fun t=>(h.slot t).mono (s':={ s with esc:=mc s.esc r false }) (fun b o g=>⟨g, .rfl⟩) (fun _=>Lr _) j,rows:=fun k d f=> ?_ };have i:k≠r:=fun e=>by rw[e]at f;exact absurd (l.symm.trans f) (by simp)
 exact(h.rows k d f).mono (s':={ s with esc:=mc s.esc r false }) (fun b o g=>⟨g, .rfl⟩) (fun _=>Lr _) j rfl (fun _ _=>rfl) (cD _ _ _ i) (fun _ _ _ f=>f)
def wt{P:Program}{env:b6}{nt:Nat}{c:Code}{Q:Exit->St->Prop}{s:St}(r:Nat)(e:s.rows r=none)(h:fk P env nt c Q { s with esc:=mc s.esc r false }):fk P env nt c Q s:=
 fun g x f d a w m b=>h g x f d a w m (b.clean r e)
end
end Go.Proofs.YtknkhdgfhbogdaaGreatDoor
