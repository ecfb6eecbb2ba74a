/- Walking without memory: rows that are not there, rows seen. No program is named here. -/
import Derived.Test.YtfcdkaolcdglmaaGreatDoorP5
set_option linter.unusedSimpArgs false
set_option linter.defProp false
namespace Go.Proofs.YtfcdkaolcdglmaaGreatDoor
open Go.RowKit
section
def AV.ren(g:Nat->Nat->Option (Nat×Nat)):AV->AV
 | .row r ver=>match g r ver with
   |some q=> .row q.1 q.2
   |none=> .any
 | .loc r ver i off=>match g r ver with
   |some q=> .loc q.1 q.2 i off
   |none=> .any
 | .mp r ver=>match g r ver with
   |some q=> .mp q.1 q.2
   |none=> .any
 | .sub r ver lo=>match g r ver with
   |some q=> .sub q.1 q.2 lo
   |none=> .any
 | .agg cs=> .agg (renL g cs)
 | .tuple cs=> .tuple (renL g cs)
 | .clo f cs=> .clo f (renL g cs)
 |c=>c
where renL (g:Nat->Nat->Option (Nat×Nat)):List AV->List AV
 |[]=>[]
 |c::cs=>c.ren g::renL g cs
def d5(g:Nat->Nat->Option (Nat×Nat)): ∀cs,(AV.ren.renL g cs).length=cs.length
 |[]=>rfl
 |c::cs=>by simp[AV.ren.renL,d5 g cs]
def jK(g:Nat->Nat->Option (Nat×Nat)): ∀(cs:List AV)(i:Nat)(c:AV),(AV.ren.renL g cs)[i]? =some c-> ∃a,cs[i]? =some a/\c=a.ren g
 |[],i,c,h=>by simp[AV.ren.renL]at h
 | d::cs,i,c,h=>by
   cases i with
   |zero=>simp[AV.ren.renL]at h;exact⟨d,rfl,h.symm⟩
   | succ i=>
     obtain⟨a,b,e⟩:=jK g cs i c (by simpa[AV.ren.renL]using h);exact⟨a,by simpa using b,e⟩
def RV.ren{S:Nat->Nat->Prop}{w:World}{v:Value}{c:AV}(g:Nat->Nat->Option (Nat×Nat))(h:RV S w v c):RV S w v (c.ren g):=by
 induction h with
 |any v=>exact .any v
 |lit v=>exact .lit v
 | agg C s h J q e=>
   refine .agg C _ (by rw[d5];exact h) J fun i v c m a=> ?_;obtain⟨r,B,rfl⟩:=jK g s i c a;exact e i v r m B
 | tuple C s h q e=>
   refine .tuple C _ (by rw[d5];exact h) fun i v c m a=> ?_;obtain⟨r,B,rfl⟩:=jK g s i c a;exact e i v r m B
 |iface t v c h e=>exact .iface t v c h
 |seq A n j p d b o u E y D z q G e=>exact .seq A n j p d b o u E y D z q G
 |ref p d i off b o u z q G e=>exact .ref p d i off b o u z q G
 |fmap H x l d I K E z L m _ _=>exact .fmap H x l d I K E z L m
 |full A n p d h _=>exact .full A n p d h
 |news A n k j p d D h _=>exact .news A n k j p d D h
 | clo f C s h q e=>
   refine .clo f C _ (by rw[d5];exact h) fun i v c m a=> ?_;obtain⟨r,B,rfl⟩:=jK g s i c a;exact e i v r m B
def U0(s:St)(m:k9)(s':St)(m':k9)(g:Nat->Nat->Option (Nat×Nat)):Prop:= ∀r c d a,g r c=some (d,a)->c<=s.vs r->
 a<=s'.vs d/\(s'.vs d=a-> ∀b,s'.rows d=some b->s.vs r=c/\ ∃row,s.rows r=some row/\row.sz=b.sz/\m'.ρ d=m.ρ r)
def RL.ren{w w':World}{m m':k9}{s s':St}{v:Value}{c:AV}{g:Nat->Nat->Option (Nat×Nat)}(J: ∀b o,m.S b o->m'.S b o/\k0 w w' b o)(H:U0 s m s' m' g)(h:RL w m s v c):RL w' m' s' v (c.ren g):=by
 induction h with
 |val h=>exact .val ((h.mono J).ren g)
 | agg G A h n I C=>
   refine .agg G _ (by rw[d5];exact h) n fun i v c B l=> ?_;obtain⟨z,k,rfl⟩:=jK g A i c l;exact C i v z B k
 | tuple G A h I C=>
   refine .tuple G _ (by rw[d5];exact h) fun i v c B l=> ?_;obtain⟨z,k,rfl⟩:=jK g A i c l;exact C i v z B k
 | clo f G A h I C=>
   refine .clo f G _ (by rw[d5];exact h) fun i v c B l=> ?_;obtain⟨z,k,rfl⟩:=jK g A i c l;exact C i v z B k
 | row r d n j h=>
   unfold AV.ren;cases p:g r d with
   |none=>exact .val (.any _)
   | some q=>
     obtain⟨k,u⟩:=H r d q.1 q.2 p j;refine .row q.1 q.2 n k fun e a t=> ?_;obtain⟨x,row,y,_,D⟩:=u e a t;rw[D];exact h x row y
 | sub r d K n j h=>
   unfold AV.ren;cases p:g r d with
   |none=>exact .val (.any _)
   | some q=>
     obtain⟨k,u⟩:=H r d q.1 q.2 p j;refine .sub q.1 q.2 K n k fun e a t=> ?_;obtain⟨x,row,y,E,D⟩:=u e a t;rw[D, <-E];exact h x row y
 | loc r d i off n j h=>
   unfold AV.ren;cases p:g r d with
   |none=>exact .val (.any _)
   | some q=>
     obtain⟨k,u⟩:=H r d q.1 q.2 p j;refine .loc q.1 q.2 i off n k fun e a t=> ?_;obtain⟨x,row,y,D,E⟩:=u e a t;rw[E, <-D];exact h x row y
 | mp r d n j h=>
   unfold AV.ren;cases p:g r d with
   |none=>exact .val (.any _)
   | some q=>
     obtain⟨k,u⟩:=H r d q.1 q.2 p j;refine .mp q.1 q.2 n k fun e a t=> ?_;obtain⟨x,row,y,_,E⟩:=u e a t;rw[E];exact h x row y
def Row.ren(g:Nat->Nat->Option (Nat×Nat))(row:Row):Row:=if row.pure then row else { row with es:=row.es.map (·.map (AV.ren g)) }
def Row.ren_sz(g:Nat->Nat->Option (Nat×Nat))(row:Row):(row.ren g).sz=row.sz:=by unfold Row.ren;split<;>rfl
def Row.ren_e(g:Nat->Nat->Option (Nat×Nat))(row:Row):(row.ren g).e=row.e:=by unfold Row.ren;split<;>rfl
def Row.ren_pure(g:Nat->Nat->Option (Nat×Nat))(row:Row):(row.ren g).pure=row.pure:=by unfold Row.ren;split<;>rfl
def Row.ren_len(g:Nat->Nat->Option (Nat×Nat))(row:Row):(row.ren g).es.length=row.es.length:=by unfold Row.ren;split<;>simp
def Row.ren_at(g:Nat->Nat->Option (Nat×Nat))(row:Row){i j:Nat}{c:AV}(h:bt (row.ren g).es i j=some c): ∃a,bt row.es i j=some a/\c=(if row.pure then a else a.ren g):=by
 unfold Row.ren at h;split at h
 ·rename_i d;exact⟨c,h,by rw[OL d]⟩
 ·rename_i d;unfold bt at h |-;simp only[OS]at h;cases f:row.es[i]? with
  |none=>rw[f]at h;cases h
  | some e=>
    rw[f]at h;simp only[O0,Oo,OS]at h;cases b:e[j]? with
    |none=>rw[b]at h;cases h
    | some a=>
      rw[b]at h;cases h;exact⟨a,b,by rw[OK d]⟩
def Row.ren_els(g:Nat->Nat->Option (Nat×Nat))(row:Row)(n:Nat)(h: ∀(i:Nat)(e:List AV),row.es[i]? =some e->e.length=n)(i:Nat)(e:List AV)(a:(row.ren g).es[i]? =some e):e.length=n:=by
 unfold Row.ren at a;split at a
 ·exact h i e a
 ·simp only[OS]at a;cases b:row.es[i]? with
  |none=>rw[b]at a;cases a
  |some c=>rw[b]at a;cases a;simpa using h i c b
def DB.ren{base:Nat}{w:World}{m m':k9}{s s':St}{r r':Nat}{row:Row}{g:Nat->Nat->Option (Nat×Nat)}(h:DB base w m s r row)(f:m'.S=m.S)(y:U0 s m s' m' g)(a:m'.ρ r'=m.ρ r)(k:s'.esc r'=s.esc r):DB base w m' s' r' (row.ren g):=by
 refine⟨by rw[Row.ren_sz];exact h.pos,fun i e z=>by rw[Row.ren_sz];exact Row.ren_els g row _ h.len i e z,?_,?_,?_,?_⟩
 ·obtain⟨D,p,q,t⟩:=h.own;refine⟨D,by rw[Row.ren_e,Row.ren_sz,Row.ren_len,a];exact p,q,fun i j c x=> ?_⟩;obtain⟨n,A,B⟩:=Row.ren_at g row x;obtain⟨u,C,d⟩:=t i j n A;refine⟨u,by rw[Row.ren_sz];exact C,?_⟩;rw[Row.ren_pure];subst B;cases l:row.pure with
  |true=>rw[l]at d;simp only[PW]at d |-;rw[f];exact d
  | false=>
    rw[l]at d;simp only[On,P8]at d |-;exact RL.ren (fun b o v=>⟨by rw[f];exact v, .rfl⟩) y d
 ·rw[k,a,f,Row.ren_len,Row.ren_sz];exact h.esc
 ·rw[a,f,Row.ren_len,Row.ren_sz];exact h.spare
 rw[k,a,f];exact h.fresh
def gX.ren{base:Nat}{w:World}{m m':k9}{s s':St}{r r':Nat}{row:Row}{g:Nat->Nat->Option (Nat×Nat)}(h:gX base w m s r row)(j:m'.S=m.S)(z:U0 s m s' m' g)(f:m'.ρ r'=m.ρ r)(H:s'.esc r'=s.esc r):gX base w m' s' r' (row.ren g):=by
 rcases h with h|h
 ·exact .inl (h.ren j z f H)
 obtain⟨b,k,c,B,C,D,E,y⟩:=h.own;refine .inr ⟨by rw[Row.ren_sz];exact h.sz,⟨b,k,c,f.trans B,C,D,by rw[Row.ren_len];exact E,fun i e a=> ?_⟩,by rw[f,j];exact h.fresh⟩;unfold Row.ren at a;split at a
 ·rename_i l;obtain⟨p,v,x,q,t,u,n⟩:=y i e a;rw[OL l]at n;exact⟨p,v,x,q,t,by rw[j];exact u,by rw[Row.ren_pure,OL l,j];exact n⟩
 ·rename_i l;simp only[OS]at a;cases d:row.es[i]? with
  |none=>rw[d]at a;cases a
  | some A=>
    rw[d]at a;cases a;obtain⟨p,v,x,q,t,u,n⟩:=y i A d;rw[OK l]at n;subst t;refine⟨p,v.ren g,x.ren g,q,rfl,by rw[j];exact u.ren g,?_⟩;rw[Row.ren_pure,OK l];exact RL.ren (fun b o G=>⟨by rw[j];exact G, .rfl⟩) z n
end
section
section
variable (toR toK:Nat->Option Nat)
def UQ(toK:Nat->Option Nat)(r a:Nat):Option (Nat×Nat):=(toK r).map fun k=>(k,a)
def mH(s:St)(cs:List AV):St:=⟨fun t=>(cs.getD t .any).ren (UQ toK),fun k=>(toR k).bind fun r=>(s.rows r).map (Row.ren (UQ toK)),fun k=>match toR k with|some r=>s.vs r|none=>0,fun k=>match toR k with|some r=>s.esc r|none=>false⟩
def vS(m:k9):k9:=⟨m.S,fun k=>match toR k with|some r=>m.ρ r|none=>undef⟩
def Uc(x:rk)(s:St)(cs:List AV)(w:World)(m:k9)(nt:Nat):rk:=
 { x with df:=[],nt:=nt,fw:=w,fm:=vS toR m,e:=mH toR toK s cs,fx:=fun b=>x.fx b\/ ∃r row,s.rows r=some row/\toK r=none/\(m.ρ r).ownBlock=some b }
end
section
variable {toR toK:Nat->Option Nat} {x:rk} {s:St} {a:Act} {w:World} {m:k9}
theorem JW(d: ∀k r,toR k=some r↔toK r=some k)(cs:List AV):U0 s m (mH toR toK s cs) (vS toR m) (UQ toK):=fun r q k o c g=>by
 unfold UQ at c;cases f:toK r with
 |none=>rw[f]at c;cases c
 | some i=>
   rw[f]at c;simp only[O0,OH,RU]at c;obtain⟨rfl,rfl⟩:=c;have h:=(d i r).2 f;have j:(mH toR toK s cs).vs i=s.vs r:=by simp only[mH,h]
   refine⟨by rw[j];exact g,fun e n b=>⟨by rw[<-j];exact e,?_⟩⟩;have p:(mH toR toK s cs).rows i=(s.rows r).map (Row.ren (UQ toK)):=by simp only[mH,h,Oo]
   rw[p]at b;cases l:s.rows r with
   |none=>rw[l]at b;cases b
   | some row=>
     rw[l]at b;simp only[O0,OH]at b;subst b;exact⟨row,rfl,(Row.ren_sz _ _).symm,by simp only[vS,h]⟩
theorem dk.enter(h:dk x s a w m)(l: ∀k r,toR k=some r↔toK r=some k){nt:Nat}{cs:List AV}{vs:List Value}(P:vs.length=cs.length)(S:cs.length<=nt)(T: ∀(i:Nat)(v:Value)(c:AV),vs[i]? =some v->cs[i]? =some c->RL w m s v c):
 dk (Uc toR toK x s cs w m nt) (mH toR toK s cs) { tmps:=vs.toArray++Array.replicate (nt-vs.toArray.size) undef,defers:=[] } w (vS toR m):=by
 have O:=JW (m:=m) (s:=s) l cs
 have f: ∀k d,(mH toR toK s cs).rows k=some d-> ∃r row,toR k=some r/\s.rows r=some row/\d=row.ren (UQ toK):=fun k d j=>by
  simp only[mH]at j;cases E:toR k with
  |none=>rw[E]at j;cases j
  | some r=>
    rw[E]at j;simp only[Oo]at j;cases L:s.rows r with
    |none=>rw[L]at j;cases j
    |some row=>rw[L]at j;cases j;exact⟨r,row,rfl,L,rfl⟩
 have p: ∀k r,toR k=some r->(vS toR m).ρ k=m.ρ r:=fun k r E=>by simp only[vS,E]
 refine⟨h.bel,h.low,h.ZR,h.sub,h.env,h.ZV,h.ZU,rfl,by simp[Uc];omega,fun t=> ?_,fun k d j=> ?_,fun k M D n y B K g z=> ?_,fun _ _ J=>⟨J, .rfl⟩,fun _=>OO _,fun r d _ j=>⟨d,j,rfl,rfl⟩,OO _,fun b q=>⟨?_,rfl,fun _ J=>J⟩,fun k d j g z=> ?_⟩
 ·show RL w _ _ _ ((cs.getD t .any).ren (UQ toK));by_cases Q:t<cs.length
  ·refine RL.ren (m:=m) (s:=s) (fun b o q=>⟨q, .rfl⟩) O (T t _ _ ?_ ?_)
   ·rw[PO,Qy (by simp;omega)];simp[show t<vs.length by omega]
   simp[List.getD,Q]
  have:cs.getD t .any= .any:=by simp[List.getD,OT (Sb Q)]
  rw[this];exact .val (.any _)
 ·obtain⟨r,row,y,B,rfl⟩:=f k d j;exact(h.rows r row B).ren rfl O (p k r y) (by simp only[mH,y])
 ·obtain⟨r,row,C,G,_⟩:=f k D y;obtain⟨A,d,H,I,_⟩:=f M n B;rw[p k r C]at z;rw[p M A H]
  have u:r≠A:=fun e=>K (by
   subst e;have R:=(l k r).1 C;have N:=(l M r).1 H;rw[R]at N
   exact Pq N)
  exact h.inj r A row d G I u g z
 ·rcases q with q|⟨r,row,y,_,B⟩
  ·exact h.fxlt q
  exact((h.rows r row y).blk B).2
 obtain⟨r,row,C,G,_⟩:=f k d j;rw[p k r C]at z;rintro(q|⟨A,n,H,I,U⟩)
 ·exact h.Z3 r row G g z q
 have u:r≠A:=fun e=>by
  subst e;rw[(l k r).1 C]at I;cases I
 exact h.inj r A row n G H u g z U
def Bk(toR:Nat->Option Nat)(o n:Nat->Nat)(k b:Nat):Option (Nat×Nat):=(toR k).bind fun r=>if b=o k then some (r,n r) else none
def ke(toK:Nat->Option Nat)(b:Nat->Bool)(s:St)(r:Nat):Nat:=if (toK r).isSome&&b r then s.vs r+1 else s.vs r
def im(toR toK:Nat->Option Nat)(b:Nat->Bool)(s c:St):St:=⟨s.f,fun r=>match toK r with|some k=>(c.rows k).map (Row.ren (Bk toR c.vs (ke toK b s)))|none=>s.rows r,ke toK b s,fun r=>match toK r with|some k=>c.esc k|none=>s.esc r⟩
def gg(toK:Nat->Option Nat)(m b:k9):k9:=⟨b.S,fun r=>match toK r with|some k=>b.ρ k|none=>m.ρ r⟩
theorem Gm(e: ∀k r,toR k=some r↔toK r=some k)(c:Nat->Bool)(s g:St)(m l:k9):U0 g l (im toR toK c s g) (gg toK m l) (Bk toR g.vs (ke toK c s)):=fun k q r o d _=>by
 unfold Bk at d;cases h:toR k with
 |none=>rw[h]at d;cases d
 | some p=>
   rw[h]at d;simp only[Oo]at d;split at d
   ·rename_i f;simp only[OH,RU]at d;obtain⟨rfl,rfl⟩:=d;have i:=(e k p).1 h;refine⟨OO _,fun _ n b=>⟨f.symm,?_⟩⟩;simp only[im,i]at b;cases j:g.rows k with
    |none=>rw[j]at b;cases b
    | some row=>
      rw[j]at b;simp only[O0,OH]at b;subst b;exact⟨row,rfl,(Row.ren_sz _ _).symm,by simp only[gg,i]⟩
   cases d
theorem dk.back{cs:List AV}{nt:Nat}{p:St}{a2:Act}{S:World}{B:k9}(h:dk x s a w m)(u:dk (Uc toR toK x s cs w m nt) p a2 S B)(A: ∀k r,toR k=some r↔toK r=some k)(d:Nat->Bool)(Q: ∀k r,toR k=some r->d r=false->p.vs k=s.vs r):
 dk x (im toR toK d s p) a S (gg toK m B)/\ ∀v c,RL S B p v c->RL S (gg toK m B) (im toR toK d s p) v (c.ren (Bk toR p.vs (ke toK d s))):=by
 have hN:=Gm A d s p m B;have X: ∀b o,m.S b o->(gg toK m B).S b o/\k0 w S b o:=u.ZG
 have T: ∀r,s.vs r<=(im toR toK d s p).vs r:=fun r=>by
  show s.vs r<=ke toK d s r;unfold ke;split<;>omega
 have Y: ∀r f,(im toR toK d s p).vs r=s.vs r->(im toR toK d s p).rows r=some f-> ∃row,s.rows r=some row/\row.sz=f.sz/\(gg toK m B).ρ r=m.ρ r:=fun r f e l=>by
  cases j:toK r with
  | none=>
    simp only[im,j]at l;exact⟨f,l,rfl,by simp only[gg,j]⟩
  | some k=>
    have I:=(A k r).2 j;have e:ke toK d s r=s.vs r:=e
    have K:d r=false:=by
     cases K:d r with
     |false=>rfl
     |true=>simp[ke,j,K]at e
    simp only[im,j]at l;cases L:p.rows k with
    |none=>rw[L]at l;cases l
    | some i=>
      rw[L]at l;simp only[O0,OH]at l;subst l
      have hvk:p.vs k=(Uc toR toK x s cs w m nt).e.vs k:=by
       rw[Q k r I K];simp only[Uc,mH,I]
      obtain⟨row0,N,q2,q3⟩:=u.evK k i hvk L;simp only[Uc,mH,I,Oo]at N;cases P:s.rows r with
      |none=>rw[P]at N;cases N
      | some row=>
        rw[P]at N;simp only[O0,OH]at N;subst N;refine⟨row,rfl,?_,?_⟩
        ·rw[Row.ren_sz, <-q2,Row.ren_sz]
        simp only[gg,j];rw[q3];simp only[Uc,vS,I]
 have H: ∀r row,s.rows r=some row->toK r=none-> ∀g,(m.ρ r).ownBlock=some g->(Uc toR toK x s cs w m nt).fx g:=fun r row V W g y=> .inr ⟨r,row,V,W,y⟩
 have n: ∀r f,(im toR toK d s p).rows r=some f->(toK r=none/\s.rows r=some f/\(gg toK m B).ρ r=m.ρ r)\/ ∃k i,toK r=some k/\p.rows k=some i/\f=i.ren (Bk toR p.vs (ke toK d s))/\(gg toK m B).ρ r=B.ρ k:=fun r f l=>by
  cases j:toK r with
  | none=>
    simp only[im,j]at l;exact .inl ⟨rfl,l,by simp only[gg,j]⟩
  | some k=>
    simp only[im,j]at l;cases L:p.rows k with
    |none=>rw[L]at l;cases l
    | some i=>
      rw[L]at l;simp only[O0,OH]at l;exact .inr ⟨k,i,rfl,L,l.symm,by simp only[gg,j]⟩
 refine⟨⟨u.bel,u.low,u.ZR,u.sub,h.env,h.ZV,h.ZU,h.ZT,h.ZP,fun t=>(h.slot t).mono X T Y,fun r f l=> ?_,fun r U E i V W O g y=> ?_,h.toS X,h.toV T,h.toK T Y,O3 h.ZX u.ZX,fun b G=>⟨(h.fix b G).1,(u.fix b (.inl G)).2.1.trans (h.fix b G).2.1,fun o Z=>(h.fix b G).2.2 o ((u.fix b (.inl G)).2.2 o Z)⟩,fun r f l g y G=> ?_⟩,fun v c hc=>RL.ren (m:=B) (s:=p) (fun b o G=>⟨G, .rfl⟩) hN hc⟩
 ·rcases n r f l with⟨C,z,p3⟩|⟨k,i,C,z,rfl,p3⟩
  ·refine(h.rows r f z).mono X T Y p3 (fun g y=>(u.fix g (H r f z C g y)).2.1) (by simp only[im,C]) fun g y o Z=>(u.fix g (H r f z C g y)).2.2 o Z
  exact(u.rows k i z).ren rfl hN p3 (by simp only[im,C])
 ·rcases n r E V with⟨C,z,p3⟩|⟨k,q,C,z,_,p3⟩<;>rcases n U i W with⟨M,D,R⟩|⟨k',q',M,D,_,R⟩<;>rw[p3]at y<;>rw[R]
  ·exact h.inj r U E i z D O g y
  ·exact fun J=>u.Z3 k' q' D g J (H r E z C g y)
  ·exact fun J=>u.Z3 k q z g y (H U i D M g J)
  refine u.inj k k' q q' z D (fun e=>O ?_) g y;subst e;have e1:=(A k r).2 C;have e2:=(A k U).2 M;rw[e1]at e2;exact Pq e2
 rcases n r f l with⟨C,z,p3⟩|⟨k,q,C,z,_,p3⟩<;>rw[p3]at y
 ·exact h.Z3 r f z g y G
 exact u.Z3 k q z g y (.inl G)
end
end
section
/-! Contracts of bodies that are handed rows -/
def zP(P:Program)(t:TypeId)(c:AV):Rd Out:=match c with
 | .loc r a i off=>Rd.row r a fun row=>eV P t row.es[i]? off
 |_=> .fail
def Cd(P:Program)(s:St):ResultVar->AV->Prop
 | .tmp t,c=>s.f t=c
 | .cell p t,c=>(zP P t (s.f p)).run s=some ⟨c,[]⟩
def pH(P:Program)(s:St):List ResultVar->List AV->Prop
 |[],[]=>True
 |r::b,c::a=>Cd P s r c/\pH P s b a
 |_,_=>False
def Kn(P:Program)(s:St):List ResultVar->AV->Prop
 |[],c=>c= .lit (.tuple #[])
 |[r],c=>Cd P s r c
 |b,c=> ∃a,c= .tuple a/\b.length≠1/\pH P s b a
section
variable {P:Program} {x:rk} {s:St} {a:Act} {w:World} {m:k9}
theorem BA{r:ResultVar}{c:AV}(q:dk x s a w m)(h:Cd P s r c): ∃v,(n8 a.tmps r).run P w= .ok v w/\RL w m s v c:=by
 cases r with
 | tmp t=>
   have h:s.f t=c:=h;exact⟨_,rfl,h ▸ q.slot t⟩
 | cell p t=>
   have f:(zP P t (s.f p)).run s=some ⟨c,[]⟩:=h;unfold zP at f;have G:=q.slot p;split at f
   ·rename_i r S i off e;rw[e]at G;obtain⟨row,l,o,B,f⟩:=dl f;obtain⟨g,I,L⟩:=G.loc_.2 o row l;obtain⟨H,M,N,O⟩:=((q.rows r row l).cells B).own;cases A:row.es[i]? with
    | none=>
      rw[A]at f;unfold eV at f;cases E:eg P t with
      |none=>rw[E]at f;simp[Rd.run]at f
      |some d=>rw[E]at f;obtain⟨k,n,z⟩:=d;cases k<;>simp[Rd.run]at f
    | some T=>
      rw[A]at f
      obtain⟨v,Q,R,p3⟩:=l6 (P:=P) (t:=t) (w:=w) (m:=m) (s:=s) (b:=g) (p:=i*row.sz) (fun j=>H.getD (i*row.sz+j) undef) (fun j c J=>by
       have y:bt row.es i j=some c:=by unfold bt;rw[A];exact J
       obtain⟨u,C,D⟩:=O i j c y;have K:H.getD (i*row.sz+j) undef=u:=by simp[List.getD,C]
       rw[K];refine⟨iU M I _ u C,N u (OM C),?_⟩;split at D
       ·exact .val D
       exact D) f
      refine⟨v,?_,R⟩;simp only[n8,L,asAddr,Oc,PF,OX];simpa[Instr.loadAt,Instr.sureAddr]using Q
   simp[Rd.run]at f
theorem Ea(e:dk x s a w m): ∀ {rs:List ResultVar}{cs:List AV},pH P s rs cs-> ∃vs:List Value,(rs.mapM (n8 a.tmps)).run P w= .ok vs w/\vs.length=rs.length/\vs.length=cs.length/\ ∀(i:Nat)(v:Value)(c:AV),vs[i]? =some v->cs[i]? =some c->RL w m s v c
 |[],[],_=>⟨[],by simp,rfl,rfl,fun i v c h _=>by simp at h⟩
 | r::rs,c::cs,⟨k,h⟩=>by
   obtain⟨vs,l,n,o,p⟩:=Ea e h;obtain⟨q,g,j⟩:=BA e k;refine⟨q::vs,by simp[Rs,g,l],by simp[n],by simp[o],fun i v f d b=> ?_⟩;cases i with
   | zero=>
     simp only[PK,OH]at d b;subst d b;exact j
   |succ i=>exact p i v f (by simpa using d) (by simpa using b)
 |_::_,[],h=>h.elim
 |[],_::_,h=>h.elim
theorem Lh{fn:Func}{c:AV}(l:dk x s a w m)(h:Kn P s fn.results.toList c): ∃v,(results fn a.tmps).run P w= .ok v w/\RL w m s v c:=by
 generalize b:fn.results.toList=f at h
 match f,h with
 | [],h=>
   have h:c= .lit (.tuple #[]):=h;refine⟨.tuple #[],?_,by rw[h];exact .val (.lit _)⟩;have j:fn.results= #[]:=by rw[<-PP (xs:=fn.results),b]
   rw[iF,j];simp
 | [r],h=>
   have h:Cd P s r c:=h;have j:fn.results= #[r]:=by rw[<-PP (xs:=fn.results),b]
   obtain⟨v,q,t⟩:=BA l h;refine⟨v,?_,t⟩;rw[iF,j];simp[q]
 | r::k::f,h=>
   obtain⟨g,u,d,n⟩: ∃g,c= .tuple g/\(r::k::f).length≠1/\pH P s (r::k::f) g:=h;obtain⟨i,o,p,y,z⟩:=Ea (P:=P) l n;refine⟨.tuple i.toArray,?_,by rw[u];exact .tuple i g y z⟩;rw[iF]
   have:(fn.results.mapM (n8 a.tmps)).run P w= .ok i.toArray w:=by
    rw[Array.mapM_eq_mapM_toList,b];try clear d n p
    generalize r::k::f=L at o |-;simp[o]
   have e: ¬i.length=1:=by rw[p];exact d
   simp[this,e]
end
def Km(P:Program)(rs:List ResultVar)(c:List Nat)(a:Nat->Bool)(e:Nat->Nat)(b:(Nat->Nat)->List (Nat×Row))(d:(Nat->Nat)->AV):Exit->St->Prop
 | .normal,s | .ret,s=>(∀k∈c,(s.rows k=an (b s.vs) k/\s.esc k=false)/\(a k=false->s.vs k=e k))/\Kn P s rs (d s.vs)
 |_,_=>False
structure g6(P:Program)(env:b7)(f:FuncId)(ids:List Nat)(grown:Nat->Bool)(cs:(Nat->Nat)->List AV)(pre post:(Nat->Nat)->List (Nat×Row))(res:(Nat->Nat)->AV):Prop where
 enter: ∀(args:Array Value)(w:World),(callFunc f args).run P w= .ok (.enter f args) w
 body: ∃fn c,P.funcs[f]? =some fn/\fn.body=some c/\(∀vs,(cs vs).length<=fn.ntmps)/\ ∀vs esc,(∀k∈ids,esc k=false)->gu P env fn.ntmps c (Km P fn.results.toList ids grown vs post res) ⟨fun t=>(cs vs).getD t .any,an (pre vs),vs,esc⟩
def de:List (Nat×Nat)->Nat->Option Nat
 |[],_=>none
 |p::L,k=>if p.1=k then some p.2 else de L k
def fO:List (Nat×Nat)->Nat->Option Nat
 |[],_=>none
 |p::L,r=>if p.2=r then some p.1 else fO L r
def jg: ∀ {L:List (Nat×Nat)}{k r:Nat},(L.map (·.1)).Nodup->(de L k=some r↔(k,r)∈L)
 |[],k,r,_=>by simp[de]
 | p::L,k,r,h=>by
   obtain⟨a,b⟩:=QZ.1 (by simpa using h:(p.1::L.map (·.1)).Nodup);have c:=jg (L:=L) (k:=k) (r:=r) b;unfold de;by_cases e:p.1=k
   ·subst e;rw[OL rfl];simp only[OH,O7];constructor
    ·rintro rfl;exact .inl rfl
    rintro(h|h)
    ·rw[<-h]
    exact absurd (OW.2 ⟨_,h,rfl⟩) a
   rw[OK e,c];simp only[O7];constructor
   ·exact .inr
   rintro(h|h)
   ·exact absurd (by rw[<-h]) e
   exact h
def iP: ∀ {L:List (Nat×Nat)}{k r:Nat},(L.map (·.2)).Nodup->(fO L r=some k↔(k,r)∈L)
 |[],k,r,_=>by simp[fO]
 | p::L,k,r,h=>by
   obtain⟨a,b⟩:=QZ.1 (by simpa using h:(p.2::L.map (·.2)).Nodup);have c:=iP (L:=L) (k:=k) (r:=r) b;unfold fO;by_cases e:p.2=r
   ·subst e;rw[OL rfl];simp only[OH,O7];constructor
    ·rintro rfl;exact .inl rfl
    rintro(h|h)
    ·rw[<-h]
    exact absurd (OW.2 ⟨_,h,rfl⟩) a
   rw[OK e,c];simp only[O7];constructor
   ·exact .inr
   rintro(h|h)
   ·exact absurd (by rw[<-h]) e
   exact h
def gN(L:List (Nat×Nat))(a:Nat->Bool)(r:Nat):Bool:=match fO L r with|some k=>a k|none=>false
def UA(L:List (Nat×Nat))(vsv:Nat->Nat)(k:Nat):Nat:=match de L k with|some r=>vsv r|none=>0
def Pl(L:List (Nat×Nat))(a:Nat->Bool)(vsv:Nat->Nat)(r:Nat):Nat:=if (fO L r).isSome&&gN L a r then vsv r+1 else vsv r
def lay(a:Nat->Bool)(b:Nat->Row)(p:Nat×Nat):CT:=if a p.1 then .renew p.2 (b p.2) else .set p.2 (b p.2)
def Vi(k:List (Nat×Nat))(a:Nat->Bool)(b:Nat->Row): ∀(L:List (Nat×Nat))(s:St),(L.map (·.2)).Nodup->(∀p∈L,gN k a p.2=a p.1)->(∀p∈L,s.esc p.2=false)->
 (dd (L.map (lay a b)) s).f=s.f/\(∀r,(dd (L.map (lay a b)) s).rows r=if r∈L.map (·.2) then some (b r) else s.rows r)/\
 (∀r,(dd (L.map (lay a b)) s).vs r=if r∈L.map (·.2)/\gN k a r=true then s.vs r+1 else s.vs r)/\(∀r,(dd (L.map (lay a b)) s).esc r=s.esc r)
 |[],s,_,_,_=>⟨rfl,fun r=>by simp[dd],fun r=>by simp[dd],fun r=>by simp[dd]⟩
 | p::L,s,h,v,u=>by
   obtain⟨t,B⟩:=QZ.1 (by simpa using h:(p.2::L.map (·.2)).Nodup);have m:=v p (by simp);have l:=u p (by simp);have C: ∀q∈L,q.2≠p.2:=fun q i e=>t (by rw[<-e];exact OW.2 ⟨q,i,rfl⟩)
   have j: ∀f:St,f.f=s.f->(∀r,f.rows r=if r=p.2 then some (b p.2) else s.rows r)->(∀r,f.vs r=if r=p.2/\a p.1=true then s.vs r+1 else s.vs r)->(∀r,f.esc r=s.esc r)->(lay a b p).app s=f->
    _:=fun f x y z o A=>by
    obtain⟨D,E,G,H⟩:=Vi k a b L f B (fun q i=>v q (by simp[i])) (fun q i=>by rw[o];exact u q (by simp[i]));have w:dd ((p::L).map (lay a b)) s=dd (L.map (lay a b)) f:=by rw[PE,dd,A]
    show (dd ((p::L).map (lay a b)) s).f=s.f/\(∀r,(dd ((p::L).map (lay a b)) s).rows r=if r∈(p::L).map (·.2) then some (b r) else s.rows r)/\
     (∀r,(dd ((p::L).map (lay a b)) s).vs r=if r∈(p::L).map (·.2)/\gN k a r=true then s.vs r+1 else s.vs r)/\(∀r,(dd ((p::L).map (lay a b)) s).esc r=s.esc r)
    rw[w];refine⟨D.trans x,fun r=> ?_,fun r=> ?_,fun r=>(H r).trans (o r)⟩
    ·rw[E,y];simp only[PE,O7];by_cases d:r∈L.map (·.2)
     ·rw[OL d,OL (.inr d)]
     rw[OK d];by_cases g:r=p.2
     ·rw[OL g,OL (.inl g),g]
     rw[OK g,OK (by rintro(h|h)<;>contradiction)]
    rw[G,z];simp only[PE,O7];by_cases d:r∈L.map (·.2)
    ·have n:r≠p.2:=fun e=>t (e ▸ d);simp[d,n]
    by_cases g:r=p.2
    ·subst g;simp[d,m]
    simp[d,g]
   cases c:a p.1 with
   | true=>
     refine j (s.renew p.2 (b p.2) false) rfl (fun r=>by simp only[St.renew,na]) (fun r=> ?_) (fun r=> ?_) (by simp only[lay,c,PW,CT.app])
     ·simp only[St.renew,na,c,TM];split
      ·rename_i e;rw[e]
      rfl
     simp only[St.renew,na];split
     ·rename_i e;rw[e,l]
     rfl
   |false=>exact j (s.setRow p.2 (b p.2)) rfl (fun r=>by simp only[St.setRow,na]) (fun r=>by simp[St.setRow,c]) (fun r=>rfl) (by simp only[lay,c,On,P8,CT.app])
def M8{P:Program}{env:b7}{f:FuncId}{L:List (Nat×Nat)}{b:Nat->Bool}{cs:(Nat->Nat)->List AV}{n z:(Nat->Nat)->List (Nat×Row)}{I:(Nat->Nat)->AV}(B:g6 P env f (L.map (·.1)) b cs n z I)
 (Q:(L.map (·.1)).Nodup)(H:(L.map (·.2)).Nodup){d:List AV}{rows:Nat->Option Row}{vsv:Nat->Nat}{C:Nat->Row}{val:AV}
 (h1:AV.ren.renL (UQ (fO L)) d=cs (UA L vsv))
 (h2: ∀k row,an (n (UA L vsv)) k=some row-> ∃r A,de L k=some r/\rows r=some A/\A.ren (UQ (fO L))=row)
 (h3: ∀o:Nat->Nat,(∀p∈L,b p.1=false->o p.1=vsv p.2)-> ∀p∈L,(an (z o) p.1).map (Row.ren (Bk (de L) o (Pl L b vsv)))=some (C p.2))
 (h4: ∀o:Nat->Nat,(∀p∈L,b p.1=false->o p.1=vsv p.2)->(I o).ren (Bk (de L) o (Pl L b vsv))=val):
 Vt P env f d (L.map (·.2)) rows vsv ⟨val,L.map (lay b C)⟩:=by
 refine⟨B.enter,fun x s a w m vs hx hS i hl hv=> ?_⟩;obtain⟨fn,c,hf,hb,hn,D⟩:=B.body;have u: ∀k r,de L k=some r↔fO L r=some k:=fun k r=>(jg Q).trans (iP H).symm;have j: ∀ {k r},de L k=some r->r∈L.map (·.2):=fun {k r} h=>OW.2 ⟨(k,r),(jg Q).1 h,rfl⟩
 have W:(mH (de L) (fO L) s d).vs=UA L vsv:=by
  funext k
  simp only[mH,UA];cases E:de L k with
  |none=>rfl
  |some r=>exact(i r (j E)).2.1
 have R:d.length=(cs (UA L vsv)).length:=by rw[<-h1,d5]
 have hE:=hS.enter (toR:=de L) (toK:=fO L) u (nt:=fn.ntmps) hl (by rw[R];exact hn _) hv;refine calls_of_wp hf hb ?_
 have G:UZ (mH (de L) (fO L) s d) ⟨fun t=>(cs (UA L vsv)).getD t .any,an (n (UA L vsv)),UA L vsv,(mH (de L) (fO L) s d).esc⟩:=by
  refine⟨fun t=> .inl ?_,fun k=> ?_,W.symm,rfl⟩
  ·show (cs (UA L vsv)).getD t .any=(d.getD t .any).ren (UQ (fO L));rw[<-h1];by_cases ht:t<d.length
   ·obtain⟨c',k1,k2⟩:=jK (UQ (fO L)) d t _ (OE (by rw[d5];exact ht));simp only[List.getD,OE (show t< (AV.ren.renL (UQ (fO L)) d).length by rw[d5];exact ht),k1,Pk,k2]
   simp only[List.getD,OT (show d.length<=t by omega),OT (show (AV.ren.renL (UQ (fO L)) d).length<=t by rw[d5];omega),R9];rfl
  ·show an (n (UA L vsv)) k=(mH (de L) (fO L) s d).rows k\/an (n (UA L vsv)) k=none;cases hh:an (n (UA L vsv)) k with
   |none=>exact .inr rfl
   | some row=>
     obtain⟨r,A,J,K,q3⟩:=h2 k row hh;left;simp only[mH,J,Oo,(i r (j J)).1,K,O0,q3]
 have N: ∀k∈L.map (·.1),(mH (de L) (fO L) s d).esc k=false:=fun k hkm=>by
  obtain⟨p,l,rfl⟩:=OW.1 hkm;have S:de L p.1=some p.2:=(jg Q).2 l;simp only[mH,S];exact(i p.2 (j S)).2.2
 have hxe:(Uc (de L) (fO L) x s d w m fn.ntmps).env=env:=hx;refine wpIn_wide.1 (Ql (D (UA L vsv) _ N none _ hxe rfl _ w _ (hE.less G)) ?_);rintro e a' Z ⟨q,m2,J,K⟩
 have M:(∀k∈L.map (·.1),(q.rows k=an (z q.vs) k/\q.esc k=false)/\(b k=false->q.vs k=UA L vsv k))/\Kn P q fn.results.toList (I q.vs)->
  ∃v,(results fn a'.tmps).run P Z= .ok v Z/\ ∃v' m',Ending.returned v= .returned v'/\dk x (dd (L.map (lay b C)) s) a Z m'/\RL Z m' (dd (L.map (lay b C)) s) v' val:=fun⟨p1,p2⟩=>by
  obtain⟨v,X,Y⟩:=Lh (P:=P) K p2
  have ho: ∀p∈L,b p.1=false->q.vs p.1=vsv p.2:=fun p l hg=>by
   have:=(p1 p.1 (OW.2 ⟨p,l,rfl⟩)).2 hg;rw[this];simp only[UA,(jg Q).2 l]
  have U: ∀k r,de L k=some r->gN L b r=false->q.vs k=s.vs r:=fun k r g hg=>by
   have hg':b k=false:=by simpa only[gN,(u k r).1 g]using hg
   rw[(i r (j g)).2.1];exact ho (k,r) ((jg Q).1 g) hg'
  obtain⟨b1,b2⟩:=hS.back K u (gN L b) U;have hnout:ke (fO L) (gN L b) s=fun r=>if (fO L r).isSome&&gN L b r then s.vs r+1 else s.vs r:=rfl
  have O:Bk (de L) q.vs (ke (fO L) (gN L b) s)=Bk (de L) q.vs (Pl L b vsv):=by
   funext k ver
   unfold Bk;cases g:de L k with
   |none=>rfl
   | some r=>
     have hv1:=(i r (j g)).2.1;simp only[Oo,ke,Pl,hv1]
  obtain⟨l1,l2,l3,l4⟩:=Vi L b C L s H (fun p l=>by simp only[gN,(iP H).2 l]) (fun p l=>(i p.2 (OW.2 ⟨p,l,rfl⟩)).2.2)
  have V:im (de L) (fO L) (gN L b) s q=dd (L.map (lay b C)) s:=by
   generalize dd (L.map (lay b C)) s=T at l1 l2 l3 l4;obtain⟨Tf,Trows,Tvs,Tesc⟩:=T;simp only at l1 l2 l3 l4;subst l1
   have y: ∀r,r∈L.map (·.2)↔(fO L r).isSome:=fun r=>by
    constructor
    ·intro h;obtain⟨p,l,rfl⟩:=OW.1 h;rw[(iP H).2 l];rfl
    intro h;obtain⟨k,E⟩:=Qa.1 h;exact OW.2 ⟨(k,r),(iP H).1 E,rfl⟩
   simp only[im,St.mk.injEq,true_and];refine⟨funext fun r=> ?_,funext fun r=> ?_,funext fun r=> ?_⟩
   ·rw[l2];cases g:fO L r with
    |none=>rw[OK (by rw[y,g];simp)]
    | some k=>
      have l:=(iP H).1 g;rw[OL (by rw[y,g];rfl)];simp only;rw[(p1 k (OW.2 ⟨_,l,rfl⟩)).1.1,O];exact h3 q.vs ho (k,r) l
   ·rw[l3];simp only[ke,y,OJ]
   ·rw[l4];cases g:fO L r with
    |none=>rfl
    | some k=>
      have l:=(iP H).1 g;simp only;rw[(p1 k (OW.2 ⟨_,l,rfl⟩)).1.2,(i r (OW.2 ⟨_,l,rfl⟩)).2.2]
  rw[V,O]at b2;rw[V]at b1;have b3:=b2 v _ Y;rw[h4 q.vs ho]at b3;exact⟨v,X,v,_,rfl,b1,b3⟩
 cases e with
 | normal=>
   obtain⟨v,X,Y⟩:=M J;exact⟨K.ZT,v,X,Y⟩
 | ret=>
   obtain⟨v,X,Y⟩:=M J;exact⟨K.ZT,v,X,Y⟩
 |_=>exact J.elim
/-! As scripts use it -/
def EH(s:St)(c:Nat->Nat)(a:Nat->Bool)(b:List (Nat×Row)):List Nat->Prop
 |[]=>True
 |k::d=>((s.rows k=an b k/\s.esc k=false)/\(a k=false->s.vs k=c k))/\EH s c a b d
def uV{s:St}{d:Nat->Nat}{a:Nat->Bool}{b:List (Nat×Row)} : ∀ {c:List Nat},EH s d a b c-> ∀k∈c,(s.rows k=an b k/\s.esc k=false)/\(a k=false->s.vs k=d k)
 |[],_,k,hk=>by simp at hk
 | i::c,h,k,hk=>by
   rcases O7.1 hk with rfl|hk
   ·exact h.1
   exact uV h.2 k hk
def sO{P:Program}{rs:List ResultVar}{c:List Nat}{a:Nat->Bool}{e:Nat->Nat}{b:(Nat->Nat)->List (Nat×Row)}{d:(Nat->Nat)->AV}{s:St}(f:EH s e a (b s.vs) c)(g:Kn P s rs (d s.vs)):Km P rs c a e b d .ret s:=⟨uV f,g⟩
def JE{P:Program}{rs:List ResultVar}{c:List Nat}{a:Nat->Bool}{e:Nat->Nat}{b:(Nat->Nat)->List (Nat×Row)}{d:(Nat->Nat)->AV}{s:St}(f:EH s e a (b s.vs) c)(g:Kn P s rs (d s.vs)):Km P rs c a e b d .normal s:=⟨uV f,g⟩
def zV(L:List (Nat×Nat))(rows:Nat->Option Row):List (Nat×Row)->Prop
 |[]=>True
 |p::a=>((de L p.1).bind fun r=>(rows r).map (Row.ren (UQ (fO L))))=some p.2/\zV L rows a
def BH{L:List (Nat×Nat)}{rows:Nat->Option Row} : ∀ {ps:List (Nat×Row)},zV L rows ps-> ∀k row,an ps k=some row-> ∃r a,de L k=some r/\rows r=some a/\a.ren (UQ (fO L))=row
 |[],_,k,row,h=>by simp[an]at h
 | p::ps,⟨b,f⟩,k,row,h=>by
   obtain⟨i,q⟩:=p;unfold an at h;split at h
   ·rename_i e;simp only[OH]at h;subst h e;cases d:de L k with
    |none=>rw[show de L (k,q).1=none from d]at b;cases b
    | some r=>
      rw[show de L (k,q).1=some r from d]at b;simp only[Oo]at b;cases c:rows r with
      |none=>rw[c]at b;cases b
      | some a=>
        rw[c]at b;simp only[O0,OH]at b;exact⟨r,a,rfl,c,b⟩
   exact BH f k row h
instance:Inhabited Row:=⟨⟨1,[],0,true⟩⟩
def behind(L:List (Nat×Nat))(a:Nat->Bool)(vsv:Nat->Nat)(b:List (Nat×Row))(r:Nat):Row:=(((fO L r).bind (an b)).map (Row.ren (Bk (de L) (fun _=>0) (Pl L a vsv)))).getD default
def rV(L:List (Nat×Nat))(a:Nat->Bool)(vsv:Nat->Nat)(o:Nat->Nat)(c b:List (Nat×Row)):List (Nat×Nat)->Prop
 |[]=>True
 |p::d=>(an c p.1).map (Row.ren (Bk (de L) o (Pl L a vsv)))=some (behind L a vsv b p.2)/\rV L a vsv o c b d
def wC{L:List (Nat×Nat)}{a:Nat->Bool}{vsv:Nat->Nat}{o:Nat->Nat}{c b:List (Nat×Row)} : ∀ {ps:List (Nat×Nat)},rV L a vsv o c b ps-> ∀p∈ps,(an c p.1).map (Row.ren (Bk (de L) o (Pl L a vsv)))=some (behind L a vsv b p.2)
 |[],_,p,hp=>by simp at hp
 | q::ps,⟨d,e⟩,p,hp=>by
   rcases O7.1 hp with rfl|hp
   ·exact d
   exact wC e p hp
def zW(s:St):List (Nat×Nat)->Prop
 |[]=>True
 |p::a=>s.esc p.2=false/\zW s a
def CC{s:St} : ∀ {L:List (Nat×Nat)},zW s L-> ∀r∈L.map (·.2),s.esc r=false
 |[],_,r,a=>by simp at a
 | p::L,⟨b,c⟩,r,a=>by
   rcases O7.1 (show r∈p.2::L.map (·.2) from a) with rfl|a
   ·exact b
   exact CC c r a
section
variable {P:Program} {env:b7} {s:St}
theorem iY{o:Oper}{f:FuncId}{args:List AV}{rest:List Ty}{j:St}{h:ff}{K:St->List ff->Prop}{a:Nat->Bool}{cs:(Nat->Nat)->List AV}{e b:(Nat->Nat)->List (Nat×Row)}{c:(Nat->Nat)->AV}(L:List (Nat×Nat))(u:bH env s.f o=some (f,args))
 (d:g6 P env f (L.map (·.1)) a cs e b c)(w:(L.map (·.1)).Nodup)(y:(L.map (·.2)).Nodup)
 (l:AV.ren.renL (UQ (fO L)) args=cs (UA L s.vs))(m:zV L s.rows (e (UA L s.vs)))(v:zW s L)
 (n: ∀o:Nat->Nat,rV L a s.vs o (b o) (b fun _=>0) L)(q: ∀o:Nat->Nat,(c o).ren (Bk (de L) o (Pl L a s.vs))=(c fun _=>0).ren (Bk (de L) (fun _=>0) (Pl L a s.vs)))
 (r:Is ((⟨(c fun _=>0).ren (Bk (de L) (fun _=>0) (Pl L a s.vs)),L.map (lay a (behind L a s.vs (b fun _=>0)))⟩:Out).app o.dst s) j)(i:Is (⟨L.map (·.2),L.map (·.2),o3 (L.map (lay a (behind L a s.vs (b fun _=>0)))),Es (L.map (lay a (behind L a s.vs (b fun _=>0))))⟩:ff) h)
 (k:jn P env rest j fun z g=>K z (h::g)):jn P env (⟨o, .always⟩::rest) s K:=by
 have t:=M8 (rows:=s.rows) (vsv:=s.vs) d w y l (BH m) (fun o _ p x=>wC (n o) p x) (fun o _=>q o);unfold Is at i;subst i;exact qC u rfl t (CC v) r k
end
section
variable {P:Program} {env:b7} {f:Nat->AV} {d:Option Nat} {ty:TypeId} {ps:String} {af:Array Edge} {g:Option (Nat×Bool)}
def Mk(x:AV):Rd Out:=match x with
 | .ref c b i off=>val (.ref c b i off)
 | .loc r a i off=>Rd.row r a fun _=>val (.loc r a i off)
 |_=> .fail
theorem AN{y:Operand} :aY P env f ⟨d, .nilCheck y,ty,ps,af,g⟩=Mk (gt env f y):=rfl
end
end
section
attribute [go_sem] Mk AN pH Kn Cd zP EH de fO UQ Bk Pl UA gN lay AV.ren AV.ren.renL Row.ren an Option.bind_some Option.bind_none Option.isSome_some Option.isSome_none Option.getD_some Bool.true_eq_false zV rV zW o3 Es List.cons.injEq Prod.mk.injEq forall_const
end
section
def dk.tell{x:rk}{s:St}{a:Act}{w:World}{m:k9}(h:dk x s a w m)(t:Nat)(c:AV)(k:RL w m s (a.tmps.getD t undef) c):dk x (s.put (some t) c) a w m:=by
 refine { h with ZT:=h.ZT,ZP:=h.ZP,slot:=fun e=> ?_,rows:=fun p d f=> ?_ }
 ·have g:RL w m s (a.tmps.getD e undef) (na s.f t c e):=by
   by_cases i:e=t
   ·subst i;rw[aE];exact k
   rw[ct _ _ _ i];exact h.slot e
  exact RL.put g (some t) _
 exact(h.rows p d f).mono (s':=s.put (some t) c) (fun b o j=>⟨j, .rfl⟩) (fun _=>OO _) (fun r d _ n=>⟨d,n,rfl,rfl⟩) rfl (fun _ _=>rfl) rfl (fun _ _ _ l=>l)
section
variable {P:Program} {env:b7} {nt:Nat} {Q:Exit->St->Prop} {s:St}
end
def dk.nilCell{x:rk}{s:St}{a:Act}{w:World}{m:k9}(h:dk x s a w m)(r r2 i j:Nat)(row:Row)(e:List AV)(v:TypeId)(sz:Nat)(N:r2≠r)(P:0<sz)(X:s.rows r=some row)(O:row.sz≠0)(W:row.pure=false)(hi:row.es[i]? =some e)(U:e[j]? =some (.lit (.slice none 0 0))):
 dk x ((s.renew r2 ⟨sz,[],v,true⟩ false).setRow r { row with es:=row.es.set i (e.set j (.row r2 (s.vs r2+1))) }) a w ⟨m.S,na m.ρ r2 (.slice none 0 0)⟩:=by
 have T:=h.renew r2 ⟨sz,[],v,true⟩ false (.slice none 0 0) m.S (Oy _ _) (fun b o z=>⟨z, .rfl⟩) (fun b o z=> .inl z) (fun k Z V X g n=>⟨rfl,by simp[Value.ownBlock],fun o z=>z⟩)
  (.inl ⟨P,fun i B y=>by simp at y,⟨[],by simp only[aE];exact Pr _ _ _ _,by simp,fun i j c f=>by simp[bt]at f⟩,(fun y=>by simp[St.renew,aE]at y),(fun g n=>by simp[aE,Value.ownBlock]at n),(fun _ g n=>by simp[aE,Value.ownBlock]at n)⟩) (fun b _=>⟨rfl,fun _ z=>z,by simp[Value.ownBlock]⟩)
 have A:(s.renew r2 ⟨sz,[],v,true⟩ false).rows r=some row:=by simpa only[St.renew,ct _ _ _ (Py N)]using X
 have k:=(T.rows r row A).cells O;have E:i<row.es.length:=(OG.1 hi).1
 have Q: ∀(p:Nat)(B:List AV),(row.es.set i (e.set j (.row r2 (s.vs r2+1))))[p]? =some B->B.length=row.sz:=fun p B l=>by
  rw[Pg]at l;by_cases C:i=p
  ·rw[OL C,OL E]at l;cases l;rw[QO];exact k.len i e hi
  rw[OK C]at l;exact k.len p B l
 have V: ∀q d,(({ s.renew r2 ⟨sz,[],v,true⟩ false with } :St).setRow r { row with es:=row.es.set i (e.set j (.row r2 (s.vs r2+1))) }).vs q=(s.renew r2 ⟨sz,[],v,true⟩ false).vs q->((s.renew r2 ⟨sz,[],v,true⟩ false).setRow r { row with es:=row.es.set i (e.set j (.row r2 (s.vs r2+1))) }).rows q=some d-> ∃t,(s.renew r2 ⟨sz,[],v,true⟩ false).rows q=some t/\t.sz=d.sz/\(na m.ρ r2 (.slice none 0 0)) q=(na m.ρ r2 (.slice none 0 0)) q:=fun q d _ K=>by
  by_cases D:q=r
  ·subst D;simp only[St.setRow,aE,OH]at K;subst K;exact⟨row,A,rfl,rfl⟩
  simp only[St.setRow,ct _ _ _ D]at K;exact⟨d,K,rfl,rfl⟩
 refine T.reset r row { row with es:=row.es.set i (e.set j (.row r2 (s.vs r2+1))) } A rfl (Oy _ _) (fun _ _ _=> .rfl) (fun _ _ _ _ _ _=>rfl) (.inl ⟨k.pos,Q,?_,fun y g n o G=> ?_,fun g n o G=> ?_,fun y g n o=> ?_⟩) (fun _ _=>rfl)
 ·obtain⟨S,k1,k2,Y⟩:=k.own;refine⟨S,by simpa only[QO]using k1,k2,fun p q c f=> ?_⟩;show ∃u,S[p*row.sz+q]? =some u/\if row.pure=true then _ else _
  have H: ∀J,bt row.es p q=some J->J=c-> ∃u,S[p*row.sz+q]? =some u/\(if row.pure=true then RV m.S w u c else RL w ⟨m.S,na m.ρ r2 (.slice none 0 0)⟩ ((s.renew r2 ⟨sz,[],v,true⟩ false).setRow r { row with es:=row.es.set i (e.set j (.row r2 (s.vs r2+1))) }) u c):=fun J L ec=>by
   subst ec;obtain⟨u,R,I⟩:=Y p q J L;refine⟨u,R,?_⟩;rw[OK (by simp[W])]at I |-;exact I.mono (fun b o hb=>⟨hb, .rfl⟩) (fun _=>OO _) V
  unfold bt at f;rw[Pg]at f;by_cases C:i=p
  ·subst C;rw[OL rfl,OL E]at f;simp only[Oo,Pg]at f;by_cases D:j=q
   ·subst D;have M:j<e.length:=(OG.1 U).1;rw[OL rfl,OL M]at f;cases f;obtain⟨u,R,I⟩:=Y i j (.lit (.slice none 0 0)) (by unfold bt;rw[hi];exact U);refine⟨u,R,?_⟩;rw[OK (by simp[W])]at I |-;rw[I.lit_];exact .row r2 (s.vs r2+1) rfl (by simp[St.setRow,St.renew,aE]) fun _ row _=>by simp[aE]
   rw[OK D]at f;exact H c (by unfold bt;rw[hi];exact f) rfl
  rw[OK C]at f;exact H c f rfl
 ·simp only[QO]at G;exact k.esc y g n o G
 ·simp only[QO]at G;exact k.spare g n o G
 exact k.fresh y g n o
section
variable {P:Program} {env:b7} {nt:Nat} {Q:Exit->St->Prop} {s:St}
theorem qv{c:Code}{g:St}(r r2 i j:Nat)(row:Row)(e:List AV)(k:TypeId)(sz:Nat)(b:r2≠r)(f:0<sz)(d:row.sz≠0)(q:row.pure=false)(hi:row.es[i]? =some e)(o:e[j]? =some (.lit (.slice none 0 0)))(t:Is (s.rows r) (some row))
 (l:Is ((s.renew r2 ⟨sz,[],k,true⟩ false).setRow r { row with es:=row.es.set i (e.set j (.row r2 (s.vs r2+1))) }) g)(h:gu P env nt c Q g):gu P env nt c Q s:=
 fun u x n p a w _ m=>h u x n p a w _ (by
  have:=m.nilCell r r2 i j row e k sz b f t d q hi o;rw[show _=g from l]at this
  exact this)
end
def cy.empty{P:Program}{env:b7}{f:FuncId}{sz:Nat}{a:AV}(h: ∀A cap,cy P env f [.lit (.slice A 0 cap)] a):cy P env f [.seq sz []] a:=by
 refine⟨(h none 0).enter,fun w S s l p q=> ?_⟩
 match s,p with
 | [v],_=>
   have g:RV S w v (.seq sz []):=q 0 v _ rfl rfl
   have r: ∃A cap,v= .slice A 0 cap:=by
    generalize m:([]:List (List AV))=k at g;cases g with
    | seq A n cap sz k b o u j=>
      subst m;simp only[Q0]at j;subst j;exact⟨A,cap,rfl⟩
   obtain⟨A,cap,rfl⟩:=r;refine(h A cap).calls w S [.slice A 0 cap] l rfl fun i v c d e=> ?_
   match i,d,e with
   |0,d,e=>cases d;cases e;exact .lit _
end
section
def dk.clean{x:rk}{s:St}{a:Act}{w:World}{m:k9}(h:dk x s a w m)(r:Nat)(j:s.rows r=none):dk x { s with esc:=na s.esc r false } a w m:=by
 have i: ∀k c,s.vs k=s.vs k->s.rows k=some c-> ∃row,s.rows k=some row/\row.sz=c.sz/\m.ρ k=m.ρ k:=fun k c _ d=>⟨c,d,rfl,rfl⟩;refine { h with slot:=fun t=>(h.slot t).mono (s':={ s with esc:=na s.esc r false }) (fun b o f=>⟨f, .rfl⟩) (fun _=>OO _) i,rows:=fun k row d=> ?_ };have g:k≠r:=fun e=>by rw[e]at d;exact absurd (j.symm.trans d) (by simp)
 exact(h.rows k row d).mono (s':={ s with esc:=na s.esc r false }) (fun b o f=>⟨f, .rfl⟩) (fun _=>OO _) i rfl (fun _ _=>rfl) (ct _ _ _ g) (fun _ _ _ d=>d)
def xN{P:Program}{env:b7}{nt:Nat}{c:Code}{Q:Exit->St->Prop}{s:St}(r:Nat)(e:s.rows r=none)(h:gu P env nt c Q { s with esc:=na s.esc r false }):gu P env nt c Q s:=
 fun g x f d a w m b=>h g x f d a w m (b.clean r e)
end
end Go.Proofs.YtfcdkaolcdglmaaGreatDoor
