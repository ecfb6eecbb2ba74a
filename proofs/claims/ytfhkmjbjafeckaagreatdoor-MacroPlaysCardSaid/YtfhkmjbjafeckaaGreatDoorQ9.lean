/- field.Take and the document's; numbers of bytes, the lowest first. -/
import Derived.Test.YtfhkmjbjafeckaaGreatDoorQ8
import Derived.Lib.TrailingZeros
import Derived.RangeFuncNested
import Derived.RangeFuncBound
import Derived.Shelf.RegionOpen
import Derived.OwnWalkIn
import Derived.LoopNIn
set_option linter.unusedSimpArgs false
set_option maxRecDepth 100000
set_option maxHeartbeats 2000000
set_option linter.defProp false
namespace Go.Proofs.YtfhkmjbjafeckaaGreatDoor
open Go.Proofs.Tryz
section
open Go.RowKit
def AV.see(g gm:Nat->Nat->Option AV):AV->AV
 | .row r ver=>(g r ver).getD (.row r ver)
 | .mp r ver=>(gm r ver).getD (.mp r ver)
 | .agg cs=> .agg (seeL g gm cs)
 | .tuple cs=> .tuple (seeL g gm cs)
 | .clo f cs=> .clo f (seeL g gm cs)
 |c=>c
where seeL (g gm:Nat->Nat->Option AV):List AV->List AV
 |[]=>[]
 |c::cs=>c.see g gm::seeL g gm cs
def ib(g gm:Nat->Nat->Option AV): ∀cs,(AV.see.seeL g gm cs).length=cs.length
 |[]=>rfl
 |c::cs=>by simp[AV.see.seeL,ib g gm cs]
def kS(g gm:Nat->Nat->Option AV): ∀(cs:List AV)(i:Nat)(c:AV),(AV.see.seeL g gm cs)[i]? =some c-> ∃a,cs[i]? =some a/\c=a.see g gm
 |[],i,c,h=>by simp[AV.see.seeL]at h
 | d::cs,i,c,h=>by
   cases i with
   |zero=>simp[AV.see.seeL]at h;exact⟨d,rfl,h.symm⟩
   | succ i=>
     obtain⟨a,b,e⟩:=kS g gm cs i c (by simpa[AV.see.seeL]using h);exact⟨a,by simpa using b,e⟩
def RV.see{S:Nat->Nat->Prop}{w:World}{v:Value}{c:AV}(g gm:Nat->Nat->Option AV)(h:RV S w v c):RV S w v (c.see g gm):=by
 induction h with
 |any v=>exact .any v
 |lit v=>exact .lit v
 | agg C s h K q e=>
   refine .agg C _ (by rw[ib];exact h) K fun i v c m a=> ?_;obtain⟨r,B,rfl⟩:=kS g gm s i c a;exact e i v r m B
 | tuple C s h q e=>
   refine .tuple C _ (by rw[ib];exact h) fun i v c m a=> ?_;obtain⟨r,B,rfl⟩:=kS g gm s i c a;exact e i v r m B
 |iface t v c h e=>exact .iface t v c h
 |seq A n j p d b o u E y D z q G e=>exact .seq A n j p d b o u E y D z q G
 |ref p d i H b o u z q G e=>exact .ref p d i H b o u z q G
 |fmap I x l d J L E z M m _ _=>exact .fmap I x l d J L E z M m
 |full A n p d h _=>exact .full A n p d h
 |news A n k j p d D h _=>exact .news A n k j p d D h
 | clo f C s h q e=>
   refine .clo f C _ (by rw[ib];exact h) fun i v c m a=> ?_;obtain⟨r,B,rfl⟩:=kS g gm s i c a;exact e i v r m B
section
variable {w:World} {m m':lP} {s s':St} {g gm:Nat->Nat->Option AV}
theorem RL.see{v:Value}{c:AV}(C: ∀b o,m.S b o->m'.S b o)(e: ∀ {v:Value}{c:AV},RL w m s v c->RL w m' s' v c)
 (E: ∀r a y,g r a=some y-> ∀v,RL w m s v (.row r a)->RL w m' s' v y)(x: ∀r a y,gm r a=some y-> ∀v,RL w m s v (.mp r a)->RL w m' s' v y)(h:RL w m s v c):RL w m' s' v (c.see g gm):=by
 induction h with
 |val h=>exact .val ((h.mono fun b o D=>⟨C b o D, .rfl⟩).see g gm)
 | agg u n h j B q=>
   refine .agg u _ (by rw[ib];exact h) j fun i v c p k=> ?_;obtain⟨l,t,rfl⟩:=kS g gm n i c k;exact q i v l p t
 | tuple u n h B q=>
   refine .tuple u _ (by rw[ib];exact h) fun i v c p k=> ?_;obtain⟨l,t,rfl⟩:=kS g gm n i c k;exact q i v l p t
 | clo f u n h B q=>
   refine .clo f u _ (by rw[ib];exact h) fun i v c p k=> ?_;obtain⟨l,t,rfl⟩:=kS g gm n i c k;exact q i v l p t
 | row r a j d h=>
   unfold AV.see;cases z:g r a with
   |none=>exact e (.row r a j d h)
   |some y=>exact E r a y z _ (.row r a j d h)
 |sub r a G j d h=>exact e (.sub r a G j d h)
 |loc r a i A j d h=>exact e (.loc r a i A j d h)
 | mp r a j d h=>
   unfold AV.see;cases z:gm r a with
   |none=>exact e (.mp r a j d h)
   |some y=>exact x r a y z _ (.mp r a j d h)
end
def Row.see(g gm:Nat->Nat->Option AV)(row:Row):Row:=if row.pure then row else { row with es:=row.es.map (·.map (AV.see g gm)) }
section
variable (g gm:Nat->Nat->Option AV) (row:Row)
theorem Row.see_sz:(row.see g gm).sz=row.sz:=by unfold Row.see;split<;>rfl
theorem Row.see_e:(row.see g gm).e=row.e:=by unfold Row.see;split<;>rfl
theorem Row.see_pure:(row.see g gm).pure=row.pure:=by unfold Row.see;split<;>rfl
theorem Row.see_len:(row.see g gm).es.length=row.es.length:=by unfold Row.see;split<;>simp
theorem Row.see_at{i j:Nat}{c:AV}(h:bx (row.see g gm).es i j=some c): ∃a,bx row.es i j=some a/\c=(if row.pure then a else a.see g gm):=by
 unfold Row.see at h;split at h
 ·rename_i d;exact⟨c,h,by rw[Mw d]⟩
 ·rename_i d;unfold bx at h |-;simp only[NE]at h;cases f:row.es[i]? with
  |none=>rw[f]at h;cases h
  | some e=>
    rw[f]at h;simp only[NU,OD,NE]at h;cases b:e[j]? with
    |none=>rw[b]at h;cases h
    |some a=>rw[b]at h;cases h;exact⟨a,b,by rw[Mv d]⟩
theorem Row.see_els{n:Nat}(b: ∀(i:Nat)(e:List AV),row.es[i]? =some e->e.length=n)(i:Nat)(e:List AV)(h:(row.see g gm).es[i]? =some e):e.length=n:=by
 unfold Row.see at h;split at h
 ·exact b i e h
 ·simp only[NE]at h;cases a:row.es[i]? with
  |none=>rw[a]at h;cases h
  |some c=>rw[a]at h;cases h;simpa using b i c a
end
def gn.see{base:Nat}{w:World}{m m':lP}{s s':St}{r:Nat}{row:Row}{g gm:Nat->Nat->Option AV}(h:gn base w m s r row)(J: ∀b o,m.S b o->m'.S b o)
 (L: ∀ {v:Value}{c:AV},RL w m s v c->RL w m' s' v (c.see g gm))(f:m'.ρ r=m.ρ r)(K:s'.esc r=s.esc r)(D: ∀d,(m.ρ r).ownBlock=some d-> ∀o,m'.S d o->m.S d o):gn base w m' s' r (row.see g gm):=by
 have l: ∀b o,m.S b o->m'.S b o/\l5 w w b o:=fun b o V=>⟨J b o V, .rfl⟩;rcases h with h|h
 ·refine .inl ⟨by rw[Row.see_sz];exact h.pos,fun i e t=>by rw[Row.see_sz];exact Row.see_els g gm row h.len i e t,?_,?_,?_,?_⟩
  ·obtain⟨X,S,T,U⟩:=h.own;refine⟨X,by rw[Row.see_e,Row.see_sz,Row.see_len,f];exact S,T,fun i j c W=> ?_⟩;obtain⟨M,z,A⟩:=Row.see_at g gm row W;obtain⟨u,B,k⟩:=U i j M z;refine⟨u,by rw[Row.see_sz];exact B,?_⟩;rw[Row.see_pure];subst A;cases p:row.pure with
   |true=>rw[p]at k;simp only[Nn]at k |-;exact k.mono l
   |false=>rw[p]at k;simp only[NW,OB]at k |-;exact L k
  ·rw[K,f,Row.see_len,Row.see_sz];exact fun e d a o E=>J d o (h.esc e d a o E)
  ·rw[f,Row.see_len,Row.see_sz];exact fun d a o E t=>h.spare d a o E (D d a o t)
  rw[K,f];exact fun e d a o t=>h.fresh e d a o (D d a o t)
 obtain⟨b,y,q,O,P,Q,R,I⟩:=h.own;refine .inr ⟨by rw[Row.see_sz];exact h.sz,⟨b,y,q,f.trans O,P,Q,by rw[Row.see_len];exact R,fun i e n=> ?_⟩,fun d a o t=>h.fresh d (by rw[<-f];exact a) o (D d (by rw[<-f];exact a) o t)⟩;unfold Row.see at n;split at n
 ·rename_i p;obtain⟨C,G,H,z,A,B,k⟩:=I i e n;rw[Mw p]at k;exact⟨C,G,H,z,A,B.mono l,by rw[Row.see_pure,Mw p];exact k.mono l⟩
 ·rename_i p;simp only[NE]at n;cases x:row.es[i]? with
  |none=>rw[x]at n;cases n
  | some N=>
    rw[x]at n;cases n;obtain⟨C,G,H,z,A,B,k⟩:=I i N x;rw[Mv p]at k;subst A;refine⟨C,G.see g gm,H.see g gm,z,rfl,(B.mono l).see g gm,?_⟩;rw[Row.see_pure,Mv p];exact L k
def dT.seen{x:ph}{s s':St}{a:Act}{w:World}{m:lP}{g gm:Nat->Nat->Option AV}(S':Nat->Nat->Prop)(h:dT x s a w m)(n: ∀b o,m.S b o->S' b o)(j: ∀b o,S' b o->m.S b o\/(x.w.heap.size<=b/\b<w.heap.size))
 (p:s'.vs=s.vs)(l: ∀t,s'.f t=(s.f t).see g gm)(d: ∀r row',s'.rows r=some row'-> ∃row,s.rows r=some row/\row'=row.see g gm/\s'.esc r=s.esc r/\ ∀u,(m.ρ r).ownBlock=some u-> ∀o,S' u o->m.S u o)
 (N: ∀r f y,g r f=some y-> ∀v,RL w m s v (.row r f)->RL w ⟨S',m.ρ⟩ s' v y)(C: ∀r f y,gm r f=some y-> ∀v,RL w m s v (.mp r f)->RL w ⟨S',m.ρ⟩ s' v y)(B: ∀b,x.fx b-> ∀o,S' b o->m.S b o):dT x s' a w ⟨S',m.ρ⟩:=by
 have E: ∀r row',s'.rows r=some row'-> ∃row,s.rows r=some row/\row.sz=row'.sz/\m.ρ r=m.ρ r:=fun r row' i=>by
  obtain⟨row,q,D,_⟩:=d r row' i;exact⟨row,q,by rw[D,Row.see_sz],rfl⟩
 have G: ∀ {v:Value}{c:AV},RL w m s v c->RL w ⟨S',m.ρ⟩ s' v (c.see g gm):=fun e=>e.see (m':=⟨S',m.ρ⟩) n (fun e=>e.mono (fun b o A=>⟨n b o A, .rfl⟩) (fun r=>by rw[p];exact ND _) fun r row' _ i=>E r row' i) N C;have z: ∀b o,m.S b o->S' b o/\l5 w w b o:=fun b o A=>⟨n b o A, .rfl⟩;have H: ∀r,s.vs r<=s'.vs r:=fun r=>by rw[p];exact ND _
 refine⟨h.Z4,fun b o e=> ?_,fun b o e=>n b o (h.ZT b o e),fun b o e=> ?_,h.env,h.ZX,h.ZV,h.ZU,h.ZR,fun t=>by rw[l];exact G (h.slot t),fun r row' i=> ?_,fun r I row row' L M=> ?_,h.toS (m':=⟨S',m.ρ⟩) z,h.toV H,h.toK (m':=⟨S',m.ρ⟩) H fun r row' _ i=>E r row' i,h.ZY,fun b l=>⟨(h.fix b l).1,(h.fix b l).2.1,fun o e=>(h.fix b l).2.2 o (B b l o e)⟩,fun r row' i=> ?_⟩
 ·rcases j b o e with k|k
  ·exact h.low b o k
  exact k.2
 ·rcases j b o e with k|k
  ·exact h.sub b o k
  exact .inr k.1
 ·obtain⟨row,q,D,O,P⟩:=d r row' i;rw[D];exact(h.rows r row q).see (m':=⟨S',m.ρ⟩) n G rfl O P
 ·obtain⟨Q,J,_⟩:=d r row L;obtain⟨R,K,_⟩:=d I row' M;exact h.inj r I Q R J K
 obtain⟨row,q,_⟩:=d r row' i;exact h.Z5 r row q
/-! Rows that freeze -/
def fV:List (Nat×Nat×AV)->Nat->Nat->Option AV
 |[],_,_=>none
 |p::L,r,a=>if r=p.1/\a=p.2.1 then some p.2.2 else fV L r a
def wY{r a:Nat}{y:AV} : ∀ {L:List (Nat×Nat×AV)},fV L r a=some y->(r,a,y)∈L
 |[],h=>by cases h
 | p::L,h=>by
   unfold fV at h;split at h
   ·rename_i e;cases h;obtain⟨b,c⟩:=e;subst b c;exact QQ ..
   exact O2 _ (wY h)
def rj(s:St)(L:List (Nat×Nat×AV)):Prop:= ∀p∈L,s.vs p.1=p.2.1/\ ∃a,s.rows p.1=some a/\a.sz≠0/\a.pure=true/\p.2.2= .seq a.sz a.es
def k6(s:St)(L:List (Nat×Nat×AV)):St:=⟨fun t=>(s.f t).see (fV L) fun _ _=>none,fun r=>(s.rows r).map (Row.see (fV L) fun _ _=>none),s.vs,fun r=>s.esc r||L.any fun p=>p.1==r⟩
def dT.shows{x:ph}{a:Act}{w:World} : ∀(L:List (Nat×Nat×AV)){s:St}{m:lP},dT x s a w m->rj s L->
 ∃S',dT x { s with esc:=fun r=>s.esc r||L.any fun p=>p.1==r } a w ⟨S',m.ρ⟩/\(∀b o,m.S b o->S' b o)/\ ∀p∈L,RV S' w (m.ρ p.1) p.2.2
 |[],s,m,h,_=>⟨m.S,by simpa using h,fun _ _ h=>h,fun p z=>by simp at z⟩
 | p::L,s,m,h,i=>by
   obtain⟨_,g,t,u,v,y⟩:=i p (by simp);obtain⟨E,A,B,C⟩:=h.show p.1 g t u v;have d:rj (s.show p.1) L:=fun q c=>i q (O2 _ c);obtain⟨l,j,k,D⟩:=dT.shows L A d;refine⟨l,?_,fun b o f=>k b o (B b o f),fun q c=> ?_⟩
   ·have e:({ s.show p.1 with esc:=fun r=>(s.show p.1).esc r||L.any fun p=>p.1==r } :St)={ s with esc:=fun r=>s.esc r||(p::L).any fun p=>p.1==r } :=by
     simp only[St.show,St.mk.injEq,true_and]
     funext r
     simp only[QH];by_cases e:r=p.1
     ·subst e;simp[aw]
     rw[cU _ _ _ e];have:(p.1==r)=false:=by simpa using fun n=>e n.symm
     rw[this,PF]
    rw[e]at j;exact j
   rcases NX.1 c with rfl|c
   ·rw[y];exact C.mono fun b o f=>⟨k b o f, .rfl⟩
   exact D q c
def dT.sees{x:ph}{s:St}{a:Act}{w:World}{m:lP}(h:dT x s a w m)(L:List (Nat×Nat×AV))(f:rj s L): ∃S',dT x (k6 s L) a w ⟨S',m.ρ⟩:=by
 obtain⟨S',o,u,p⟩:=h.shows L f;refine⟨S',dT.seen (m:=⟨S',m.ρ⟩) (s':=k6 s L) (g:=fV L) (gm:=fun _ _=>none) S' o (fun _ _ h=>h) (fun _ _ h=> .inl h) rfl (fun t=>rfl) (fun r j c=> ?_) (fun r q y e v n=> ?_) (fun _ _ _ e=>by cases e) fun _ _ _ h=>h⟩
 ·simp only[k6]at c;cases d:s.rows r with
  |none=>rw[d]at c;cases c
  | some b=>
    rw[d]at c;cases c;exact⟨b,by first|exact d|rfl,rfl,rfl,fun _ _ _ h=>h⟩
 have i:=wY e;obtain⟨k,b,l,_⟩:=f _ i;have:=n.row_.2 k b l;rw[this];exact .val (p _ i)
def Ju{P:Program}{env:cf}{nt:Nat}{c:Code}{Q:Exit->St->Prop}{s:St}(L:List (Nat×Nat×AV))(b:rj s L)(h:fq P env nt c Q (k6 s L)):fq P env nt c Q s:=fun g x f e a w m d=>by
 obtain⟨i,k⟩:=d.sees L b;exact h g x f e a w _ k
/-! Maps that freeze -/
def zo(s:St)(r:Nat)(y:AV):St:=⟨fun t=>(s.f t).see (fun _ _=>none) fun b a=>if b=r/\a=s.vs r then some y else none,fun k=>if k=r then none else(s.rows k).map (Row.see (fun _ _=>none) fun b a=>if b=r/\a=s.vs r then some y else none),s.vs,s.esc⟩
def dT.mapSee{x:ph}{s:St}{a:Act}{w:World}{m:lP}(h:dT x s a w m)(r:Nat)(row:Row)(M:s.rows r=some row)(S:row.sz=0)(hb:row.es.all (·.all AV.bare)=true): ∃S',dT x (zo s r (.fmap row.es)) a w ⟨S',m.ρ⟩:=by
 have k:=(h.rows r row M).map S;obtain⟨H,G,C,e1,e2,X,e4,N⟩:=k.own;have u:(m.ρ r).ownBlock=some H:=by rw[e1];rfl
 have P:H<w.heap.size:=(N5.1 X).1;obtain⟨S',n⟩: ∃S':Nat->Nat->Prop,S'=fun b o=>m.S b o\/(b=H/\o=0):=⟨_,rfl⟩;have A: ∀b o,m.S b o->S' b o:=fun b o d=>by rw[n];exact .inl d
 have f: ∀b o,m.S b o->S' b o/\l5 w w b o:=fun b o d=>⟨A b o d, .rfl⟩;have D: ∀(i:Nat)(e:List AV)(c:AV),row.es[i]? =some e->c∈e->c.bare=true:=fun i e c l j=>(NB.1 ((NB.1 hb) e (My l))) c j
 have hv:RV S' w (.map (some H)) (.fmap row.es):=by
  refine .fmap H G C row.es (by rw[n];exact .inr ⟨rfl,rfl⟩) X e4.1 (fun i e l=> ?_) (fun i Y c p j=> ?_) fun i Y c p j=> ?_
  ·obtain⟨Y,Z,vc,_,K,_⟩:=N i e l;rw[K];rfl
  ·unfold bx at j;cases l:row.es[i]? with
   |none=>rw[l]at j;cases j
   | some e=>
     rw[l]at j;obtain⟨O,Z,vc,V,K,k3,_⟩:=N i e l;rw[V]at p;cases p;subst K;cases j;exact k3.mono f
  ·unfold bx at j;cases l:row.es[i]? with
   |none=>rw[l]at j;cases j
   | some e=>
     rw[l]at j;obtain⟨O,Z,vc,V,K,_,W⟩:=N i e l;rw[V]at p;cases p;subst K;cases j;split at W
     ·exact W.mono f
     exact(W.bare (D i _ _ l (by simp))).mono f
 refine⟨S',dT.seen (g:=fun _ _=>none) (gm:=fun r' L=>if r'=r/\L=s.vs r then some (.fmap row.es) else none) S' h A (fun b o d=> ?_) rfl (fun t=>rfl) (fun q row' E=> ?_) (fun _ _ _ J=>by cases J) (fun q L y J v U=> ?_) fun b hf o d=> ?_⟩
 ·rw[n]at d;rcases d with d|⟨rfl,_⟩
  ·exact .inl d
  exact .inr ⟨e2,P⟩
 ·simp only[zo]at E;split at E
  ·cases E
  ·rename_i R;cases z:s.rows q with
   |none=>rw[z]at E;cases E
   | some B=>
     rw[z]at E;cases E;refine⟨B,by first|exact z|rfl,rfl,rfl,fun gq Q o d=> ?_⟩;rw[n]at d;rcases d with d|⟨rfl,_⟩
     ·exact d
     exact absurd u (h.inj q r B row z M R gq Q)
 ·split at J
  ·rename_i e;cases J;obtain⟨ea,eb⟩:=e;subst ea eb;obtain⟨g',I,T⟩:=U.mp_.2 rfl row M;rw[u]at I;cases I;rw[T];exact .val hv
  cases J
 rw[n]at d;rcases d with d|⟨rfl,_⟩
 ·exact d
 exact absurd hf (h.Z5 r row M b u)
/-! A row by another name, wherever it is named -/
def om(r b r2 a:Nat)(q v:Nat):Option AV:=if q=r/\v=b then some (.row r2 a) else none
def eP(s:St)(r r2:Nat)(row:Row):St:=⟨fun t=>(s.f t).see (om r (s.vs r) r2 (s.vs r2+1)) fun _ _=>none,fun k=>if k=r2 then some row else if k=r then none else(s.rows k).map (Row.see (om r (s.vs r) r2 (s.vs r2+1)) fun _ _=>none),m6 s.vs r2 (s.vs r2+1),m6 s.esc r2 (s.esc r)⟩
def dT.ren{x:ph}{s:St}{a:Act}{w:World}{m:lP}(h:dT x s a w m)(r r2:Nat)(row:Row)(Y:r2≠r)(I:s.rows r=some row)(hr2:s.rows r2=none)(M:row.sz≠0)(Z:row.pure=true):dT x (eP s r r2 row) a w ⟨m.S,m6 m.ρ r2 (m.ρ r)⟩:=by
 have N: ∀k,s.vs k<=(eP s r r2 row).vs k:=fun k=>by
  simp only[eP,m6];split
  ·rename_i e;rw[e];omega
  exact ND _
 have i: ∀k d,(eP s r r2 row).rows k=some d->(k=r2/\d=row)\/(k≠r2/\k≠r/\ ∃f,s.rows k=some f/\d=f.see (om r (s.vs r) r2 (s.vs r2+1)) fun _ _=>none):=fun k d l=>by
  simp only[eP]at l;split at l
  ·rename_i e;cases l;exact .inl ⟨e,rfl⟩
  rename_i e;split at l
  ·cases l
  ·rename_i u;cases B:s.rows k with
   |none=>rw[B]at l;cases l
   |some f=>rw[B]at l;cases l;exact .inr ⟨e,u,f,by first|exact B|rfl,rfl⟩
 have l: ∀k d,(eP s r r2 row).vs k=s.vs k->(eP s r r2 row).rows k=some d-> ∃f,s.rows k=some f/\f.sz=d.sz/\m6 m.ρ r2 (m.ρ r) k=m.ρ k:=fun k d e A=>by
  rcases i k d A with⟨rfl,rfl⟩|⟨p,u,f,E,rfl⟩
  ·simp only[eP,aw]at e;omega
  exact⟨f,E,by rw[Row.see_sz],cU _ _ _ p⟩
 have G: ∀b o,m.S b o->m.S b o/\l5 w w b o:=fun b o X=>⟨X, .rfl⟩;have k:=(h.rows r row I).cells M
 have L:(m.ρ r).oneCell'=true:=by
  obtain⟨xs,k1,_⟩:=k.own;rcases k1.2 with⟨e,_⟩|⟨g,R,S,e,_⟩<;>rw[e]<;>rfl
 have Q: ∀ {v:Value}{c:AV},RL w m s v c->RL w ⟨m.S,m6 m.ρ r2 (m.ρ r)⟩ (eP s r r2 row) v (c.see (om r (s.vs r) r2 (s.vs r2+1)) fun _ _=>none):=fun A=>RL.see (m:=m) (m':=⟨m.S,m6 m.ρ r2 (m.ρ r)⟩) (s:=s) (fun _ _ h=>h) (fun A=>RL.mono (m:=m) (m':=⟨m.S,m6 m.ρ r2 (m.ρ r)⟩) A G N l) (fun q ver y D v O=>by
  unfold om at D;split at D
  ·rename_i e;cases D;obtain⟨U,V⟩:=e;subst U V;have:=O.row_.2 rfl row I;subst this;exact .row r2 _ L (by simp[eP,aw]) fun _ d _=>by simp[aw]
  cases D) (fun _ _ _ D=>by cases D) A
 refine⟨h.Z4,h.low,h.ZT,h.sub,h.env,h.ZX,h.ZV,h.ZU,h.ZR,fun t=>Q (h.slot t),fun q d B=> ?_,fun q K z n E P H g j=> ?_,h.toS (m':=⟨m.S,m6 m.ρ r2 (m.ρ r)⟩) G,h.toV N,h.toK (m':=⟨m.S,m6 m.ρ r2 (m.ρ r)⟩) N l,h.ZY,h.fix,fun q d B g j=> ?_⟩
 ·rcases i q d B with⟨rfl,rfl⟩|⟨p,u,f,E,rfl⟩
  ·have:=k.ren (r':=q) (m':=⟨m.S,m6 m.ρ q (m.ρ r)⟩) (s':=eP s r q d) (g:=fun _ _=>none) rfl (fun _ _ _ _ A=>by cases A) (by simp[aw]) (by simp[eP,aw]);have e:d.ren (fun _ _=>none)=d:=by unfold Row.ren;rw[Mw Z]
   rw[e]at this;exact .inl this
  exact(h.rows q f E).see (m':=⟨m.S,m6 m.ρ r2 (m.ρ r)⟩) (fun _ _ h=>h) Q (cU _ _ _ p) (by simp only[eP,cU _ _ _ p]) fun _ _ _ h=>h
 ·simp only at j |-;rcases i q z E with⟨rfl,rfl⟩|⟨p,u,f,C,rfl⟩
  ·rw[aw]at j;rcases i K n P with⟨e,_⟩|⟨p,u,f,C,_⟩
   ·exact absurd e.symm H
   rw[cU _ _ _ p];exact h.inj r K z f I C (Oq u) g j
  rw[cU _ _ _ p]at j;rcases i K n P with⟨rfl,rfl⟩|⟨T,e4,J,W,_⟩
  ·rw[aw];exact h.inj q r f n C I u g j
  rw[cU _ _ _ T];exact h.inj q K f J C W H g j
 simp only at j;rcases i q d B with⟨rfl,rfl⟩|⟨p,u,f,C,_⟩
 ·rw[aw]at j;exact h.Z5 r d I g j
 rw[cU _ _ _ p]at j;exact h.Z5 q f C g j
def L5{P:Program}{env:cf}{nt:Nat}{c:Code}{Q:Exit->St->Prop}{s:St}(r r2:Nat)(row:Row)(b:r2≠r)(j:s.rows r=some row)(d:s.rows r2=none)(e:row.sz≠0)(i:row.pure=true)(h:fq P env nt c Q (eP s r r2 row)):fq P env nt c Q s:=fun l x k g a w _ f=>
 h l x k g a w _ (f.ren r r2 row b j d e i)
end
section
open Go.RowKit
section
variable {P:Program} {ro:Option Nat} {a:Act} {w:World} {Q:Exit->Act->World->Prop}
theorem Jb{k:Nat} :(Sc ro).room k:=by cases ro<;>exact room_wide _
theorem Fa{n g:Nat}{c:Code}(h:c.wpIn (Sc ro) n P Q a w):c.wpIn (Sc ro) g P Q a w:=fun b k d e f _=>h b k d e f Jb
end
/-! A walk taken up anew -/
def ph.again(x:ph)(s:St)(w:World)(m:lP)(fx:Nat->Prop)(df:List Deferred):ph:={ x with fw:=w,fm:=m,e:=s,fx:=fx,df:=df }
section
variable {x:ph} {s s1:St} {a a' a1:Act} {w w' w1:World} {m m1:lP} {fx:Nat->Prop} {df:List Deferred}
theorem dT.take(h:dT x s a w m)(c: ∀b,fx b->b<w.heap.size/\ ∀r row,s.rows r=some row->(m.ρ r).ownBlock≠some b)(i:a'.tmps=a.tmps)(k:a'.defers=df):dT (x.again s w m fx df) s a' w m:=
 ⟨h.Z4,h.low,h.ZT,h.sub,h.env,h.ZX,h.ZV,k,by rw[i];exact h.ZR,by rw[i];exact h.slot,h.rows,h.inj,fun _ _ e=>⟨e, .rfl⟩,fun _=>ND _,fun r d _ f=>⟨d,f,rfl,rfl⟩,ND _,
  fun b j=>⟨(c b j).1,rfl,fun _ e=>e⟩,fun r row f g n l=>(c g l).2 r row f n⟩
theorem dT.untake{e:St}(h:dT x s a w m)(c:dT (x.again e w m fx df) s1 a1 w1 m1)(j: ∀b,x.fx b->fx b)(q:e.vs=s.vs)(l:e.rows=s.rows):dT x ⟨s.f,s1.rows,s1.vs,s1.esc⟩ a w1 m1:=by
 have p: ∀r,s.vs r<=s1.vs r:=q ▸ c.ZP;have u: ∀b o,m.S b o->m1.S b o/\l5 w w1 b o:=c.ZL;have v: ∀r d,s1.vs r=s.vs r->s1.rows r=some d-> ∃f,s.rows r=some f/\f.sz=d.sz/\m1.ρ r=m.ρ r:=q ▸ l ▸ c.evK
 exact⟨c.Z4,c.low,c.ZT,c.sub,c.env,c.ZX,c.ZV,h.ZU,h.ZR,fun t=>(h.slot t).mono u p v,
  fun r f k=>(c.rows r f k).mono (fun b o i=>⟨i, .rfl⟩) (fun _=>ND _) (fun r d _ k=>⟨d,k,rfl,rfl⟩) rfl (fun _ _=>rfl) rfl (fun _ _ _ n=>n),c.inj,h.toS u,h.toV (s':=⟨s.f,s1.rows,s1.vs,s1.esc⟩) p,h.toK (s':=⟨s.f,s1.rows,s1.vs,s1.esc⟩) p v,NN h.ZY c.ZY,
  fun b i=>⟨(h.fix b i).1,((c.fix b (j b i)).2.1).trans (h.fix b i).2.1,fun o n=>(h.fix b i).2.2 o ((c.fix b (j b i)).2.2 o n)⟩,fun r f k g z y=>c.Z5 r f k g z (j g y)⟩
theorem dT.fewer(h:dT x s a w m)(c:Nat->Prop)(d: ∀b,c b->x.fx b):dT { x with fx:=c } s a w m:=
 ⟨h.Z4,h.low,h.ZT,h.sub,h.env,h.ZX,h.ZV,h.ZU,h.ZR,h.slot,h.rows,h.inj,h.ZL,h.ZP,h.evK,h.ZY,fun b f=>h.fix b (d b f),fun r e k g j i=>h.Z5 r e k g j (d g i)⟩
theorem dT.turned(h:dT x s a w m){b:Nat}(o:Obj)(q:x.w.heap.size<=b)(l: ∀o,¬m.S b o)(j: ¬x.fx b)(p: ∀r row,s.rows r=some row->(m.ρ r).ownBlock≠some b):dT x s a (w.putObj b o) m:=by
 have c: ∀k,k≠b->(w.putObj b o).heap[k]? =w.heap[k]? :=fun k i=>World.putObj_heap_other i;refine h.move rfl ⟨rfl,rfl,rfl,by rw[World.putObj_size];exact ND _,fun k i=>c k (by omega)⟩ (fun k o f=>⟨f, .block (c k fun e=>l o (e ▸ f))⟩) (fun _ _ f=> .inl f) (fun r row d g n=>c g fun e=>p r row d (e ▸ n)) fun k i=>c k fun e=>j (e ▸ i)
end
/-! The marks -/
def If(D:Nat):Deferred:={ target:= .collected D,args:= #[] }
structure I'(x x':ph):Prop where
 w:x'.w=x.w
 S:x'.S=x.S
 env:x'.env=x.env
 nt:x'.nt=x.nt
 le:x.fw.heap.size<=x'.fw.heap.size
 keep: ∀b,x.fx b->x'.fx b/\(b<x.fw.heap.size->x'.fw.heap[b]? =x.fw.heap[b]? /\ ∀o,x'.fm.S b o->x.fm.S b o)
 df: ∃Ds:List Nat,x'.df=Ds.map If++x.df/\Ds.Nodup/\ ∀D∈Ds,x'.fx D/\x'.fw.heap[D]? =some (.deferred (some []))/\x.w.heap.size<=D/\x.fw.heap.size<=D/\ ∀o,¬x'.fm.S D o
def I'.refl(x:ph):I' x x:=⟨rfl,rfl,rfl,rfl,ND _,fun _ h=>⟨h,fun _=>⟨rfl,fun _ h=>h⟩⟩,[],rfl, .nil,fun D h=>by cases h⟩
def I'.trans{x m f:ph}(h:I' x m)(k:I' m f):I' x f:=by
 refine⟨k.w.trans h.w,k.S.trans h.S,k.env.trans h.env,k.nt.trans h.nt,NN h.le k.le,fun b d=>⟨(k.keep b (h.keep b d).1).1,fun e=> ?_⟩,?_⟩
 ·obtain⟨s,t⟩:=(h.keep b d).2 e;obtain⟨v,w⟩:=(k.keep b (h.keep b d).1).2 (Oa e h.le);exact⟨v.trans s,fun o i=>t o (w o i)⟩
 obtain⟨n,d1,d2,d3⟩:=h.df;obtain⟨p,q,r,l⟩:=k.df;refine⟨p++n,by rw[q,d1,NC,Nj],O8.2 ⟨r,d2,fun a u b d=> ?_⟩,fun D c=> ?_⟩
 ·have:=(l a u).2.2.2.1;have:=(N5.1 (d3 b d).2.1).1;omega
 rcases N1.1 c with c|c
 ·obtain⟨j,g,p3,p4,p5⟩:=l D c;exact⟨j,g,by rw[<-h.w];exact p3,NN h.le p4,p5⟩
 obtain⟨j,g,p3,p4,p5⟩:=d3 D c;obtain⟨y,z⟩:=k.keep D j;obtain⟨A,B⟩:=z (N5.1 g).1;exact⟨y,A.trans g,p3,p4,fun o i=>p5 o (B o i)⟩
def yF(P:Program)(env:cf)(nt:Nat)(c:Code)(Q:Exit->St->Prop)(s:St):Prop:=
 ∀x:ph,x.env=env->x.nt=nt-> ∀a w m,dT x s a w m->c.wpIn (Sc none) 3 P (fun e f h=> ∃b g d,Q e b/\I' x d/\dT d b f h g) a w
section
variable {P:Program} {env:cf} {nt:Nat} {Q:Exit->St->Prop} {s:St}
theorem z7{c:Code}(h:fq P env nt c Q s):yF P env nt c Q s:=fun x f g a w m e=>PS (h none x f g a w m e) fun _ _ _ ⟨j,i,b,d⟩=>⟨j,i,x,b, .refl x,d⟩
theorem vV{c d:Code}(h:yF P env nt c (bD (yF P env nt d Q) Q) s):yF P env nt (.seq c d) Q s:=fun x l n a w m r=>by
 refine wpIn_seq (PS (h x l n a w m r) ?_);rintro e q z ⟨y,o,p,j,b,k⟩;cases e with
 |normal=>exact PS (j p (b.env.trans l) (b.nt.trans n) q z o k) fun _ _ _ ⟨g,f,i,t,u,v⟩=>⟨g,f,i,t,b.trans u,v⟩
 |_=>exact⟨y,o,p,j,b,k⟩
theorem cB{c d:Code}(h:fq P env nt c (bD (yF P env nt d Q) Q) s):yF P env nt (.seq c d) Q s:=vV (z7 h)
theorem nj{g:Nat}{c:Code}(h:yF P env nt c (ba g Q) s):yF P env nt (.block g c) Q s:=fun x n o a w m l=>by
 refine wpIn_block (PS (h x n o a w m l) ?_);rintro e p q ⟨f,j,k,b,i⟩;cases e with
 | exit d=>
   show if d=g then _ else _
   have b:if d=g then Q .normal f else Q (.exit d) f:=b
   split
   ·rename_i hid;rw[Mw hid]at b;exact⟨f,j,k,b,i⟩
   rename_i hid;rw[Mv hid]at b;exact⟨f,j,k,b,i⟩
 |_=>exact⟨f,j,k,b,i⟩
theorem IG{D:Type}{c:Code}(F:D->(Nat->Nat)->List (Nat×AV))(R:D->(Nat->Nat)->List (Nat×Row))(b:D->(Nat->Nat)->(Nat->Bool)->Prop)(k:D->Nat)(h:D)(v:b h s.vs s.esc)
 (y:cP s (F h s.vs))(z:br s (R h s.vs))
 (round: ∀d vs esc,b d vs esc->yF P env nt c (bD (fun g=> ∃f,b f g.vs g.esc/\cP g (F f g.vs)/\br g (R f g.vs)/\k f<k d) Q) (head (F d vs) (R d vs) vs esc)):yF P env nt (.loop c) Q s:=fun x A C a w m p=>by
 refine wpIn_loop_ghost (fun n a w=> ∃d vs esc m o,b d vs esc/\k d=n/\I' x o/\dT o (head (F d vs) (R d vs) vs esc) a w m) (k h) ⟨h,s.vs,s.esc,m,x,v,rfl, .refl x,p.less (dQ y z)⟩ ?_;rintro n a w ⟨d,vs,esc,m,o,B,rfl,l,p⟩;refine PS (round d vs esc B o (l.env.trans A) (l.nt.trans C) a w m p) ?_;rintro e J K ⟨q,u,j,r,i,t⟩;cases e with
 | normal=>
   obtain⟨f,E,G,H,I⟩:=r;exact⟨k f,I,f,q.vs,q.esc,u,j,E,rfl,l.trans i,t.less (dQ G H)⟩
 |_=>exact⟨q,u,j,r,l.trans i,t⟩
end
/-! At a function's end -/
def oH{P:Program}{F:Fence}{n:Nat}{fn:Func}{s:St}{a:Act}{m:lP}{R:Ending->World->Prop}{B:World}{T:Nat->Nat->Prop}(d: ∀(x:ph)(w:World),x.w=B->x.S=T->dT x s a w m-> ∃v,(results fn a.tmps).run P w= .ok v w/\R (.returned v) w):
 ∀(c:List Nat)(x:ph)(w:World),x.w=B->x.S=T->dT x s a w m->c.Nodup->(∀D∈c,x.fx D/\x.fw.heap[D]? =some (.deferred (some []))/\x.w.heap.size<=D/\ ∀o,¬x.fm.S D o)->LeavesInM F n P fn a.tmps R (c.map If) .returning w
 |[],x,w,i,j,f,_,_=>d x w i j f
 | D::c,x,w,i,j,f,g,l=>by
   obtain⟨q,H,p3,p4⟩:=l D (by simp);have g:=PN.1 g;obtain⟨K,I,J⟩:=f.fix D q;refine⟨by simp, .inl ⟨D,_,rfl,run_takeDeferred (I.trans H),?_⟩⟩;refine oH d c { x with fx:=fun b=>x.fx b/\b≠D } _ i j ((f.fewer (fun b=>x.fx b/\b≠D) fun _ h=>h.1).turned (.deferred none) p3 (fun o C=>p4 o (J o C)) (fun h=>h.2 rfl) fun r k G A=>f.Z5 r k G D A q) g.2 fun E p=> ?_;obtain⟨t,u,y,z⟩:=l E (by simp[p]);exact⟨⟨t,fun e=>g.1 (e ▸ p)⟩,u,y,z⟩
section
variable {P:Program} {env:cf} {f:FuncId} {cs:List AV} {res:AV}
theorem yf{fn:Func}{c:Code}(N:P.funcs[f]? =some fn)(L:fn.body=some c)(d: ∀(args:Array Value)(w:World),(callFunc f args).run P w= .ok (.enter f args) w)(hn:cs.length<=fn.ntmps)
 (h:yF P env fn.ntmps c (Lk P fn.results.toList res) (St.init cs)):b8 P env f cs res:=by
 refine⟨d,fun w S z s hl Q=> ?_⟩;refine Rz.1 (callsIn_of_wp_marks (n:=3) N L trivial ?_)
 have J:dT ⟨w,S,env,fn.ntmps,w,⟨S,fun _=>undef⟩,St.init cs,fun _=>False,[]⟩ (St.init cs) { tmps:=z.toArray++Array.replicate (fn.ntmps-z.toArray.size) undef,defers:=[] } w ⟨S,fun _=>undef⟩:=by
  refine⟨OY _ _,s.low,fun _ _ h=>h,fun _ _ h=> .inl h,s.env,s.low,s.inv,rfl,by simp;omega,fun t=> ?_,(fun r p j=>by cases j),(fun r r' p q j=>by cases j),(fun _ _ O=>⟨O, .rfl⟩),(fun _=>ND _),(fun r q _ j=>by cases j),ND _,(fun _ h=>h.elim),(fun r p j=>by cases j)⟩;show RL w _ _ _ (cs.getD t .any);by_cases G:t<cs.length
  ·refine .val (Q t _ _ ?_ ?_)
   ·rw[Nx,Ps (by simp;omega)];simp[show t<z.length by omega]
   simp[List.getD,G]
  have:cs.getD t .any= .any:=by simp[List.getD,NL (RH G)]
  rw[this];exact .val (.any _)
 refine PS (h _ rfl rfl _ w _ J) ?_;rintro e x l ⟨y,m',x',i,u,C⟩
 have m:Lk P fn.results.toList res .normal y->LeavesInM Fence.wide 3 P fn x.tmps (fun e l=> ∃v,e= .returned v/\Below w.heap.size w l/\ ∃k,(∀b o,S b o->k b o)/\(∀b o,k b o->S b o\/w.heap.size<=b)/\(∀b o,k b o->b<l.heap.size)/\RR k l w.heap.size v res) x.defers .returning l:=fun i=>by
  obtain⟨a,i,R⟩:=(show ∃a,(ag P y.f fn.results.toList).run y=some a/\fN a res from i);obtain⟨A,d1,d2,d3⟩:=u.df;have M:x.defers=A.map If:=by rw[C.ZU,d1];exact OM _
  rw[M];refine oH (B:=w) (T:=S) (fun x'' Z E K g=> ?_) A x' l u.w u.S C d2 fun D I=> ?_
  ·obtain⟨v,k,U,H,p3,p4,p5⟩:=vf (fn:=fn) i g;rw[E]at p3 p5;rw[K]at H p3;exact⟨v,U,v,rfl,by have:=g.Z4;rw[E]at this;exact this,k,H,p3,p4,R _ _ _ _ p5⟩
  obtain⟨V,W,X,q4,Y⟩:=d3 D I;exact⟨V,W,by rw[u.w];exact X,Y⟩
 cases e with
 |normal=>exact m i
 |ret=>exact m i
 |_=>exact i.elim
end
/-! The statement itself -/
structure Sm(P:Program)(f:FuncId)(first:Array Value)(ks:List Value)(Tab:World->Prop):Prop where
 enter: ∀(args:Array Value)(w:World),(callFunc f args).run P w= .ok (.enter f args) w
 walk: ∀(l:Nat)(J:Nat->World->Prop)(w:World),(∀i W,J i W->Tab W)->(∀i W W',J i W->Below W.heap.size W W'->J i W')->
  (∀i W k,J i W->ks[i]? =some k->YieldAt Fence.wide 1 P l #[k] W fun e W'=>e= .returned (.bool true)/\J (i+1) W')->J 0 w->
  CallsIn Fence.wide 2 P f (first++ #[.func (.yield l) #[] #[]]) w fun e W'=>(∃v,e= .returned v)/\J ks.length W'
def Sm.mono{P:Program}{f:FuncId}{first:Array Value}{ks:List Value}{b a:World->Prop}(h:Sm P f first ks b)(e: ∀W,a W->b W):Sm P f first ks a:=
 ⟨h.enter,fun l J w c=>h.walk l J w fun i W d=>e W (c i W d)⟩
section
variable {P:Program} {env:cf} {nt:Nat} {Q:Exit->St->Prop} {s:St}
theorem EX{D:Type}{g p:Nat}{assign body:Code}{f:FuncId}{first:Array Value}{ks:List Value}(R:Nat->D->(Nat->Nat)->List (Nat×Row))(A:Nat->D->(Nat->Nat)->(Nat->Bool)->Prop)(d0:D)
 (y:s.f g= .lit (.func (.func f) first #[]))(hp:p<nt)(hit:Sm P f first ks env.inv)(h0:A 0 d0 s.vs s.esc)(hR:br s (R 0 d0 s.vs))
 (round: ∀i d k vs esc,(∀r,s.vs r<=vs r)->A i d vs esc->ks[i]? =some k->
  fq P env nt assign (bD (fq P env nt body (bD (fun s1=> ∃S,A (i+1) S s1.vs s1.esc/\br s1 (R (i+1) S s1.vs)) fun _ _=>False)) fun _ _=>False) ⟨m6 s.f p (.lit k),au (R i d vs),vs,esc⟩)
 (done: ∀d vs esc,(∀r,s.vs r<=vs r)->A ks.length d vs esc->Q .normal ⟨s.f,au (R ks.length d vs),vs,esc⟩):yF P env nt (.rangeFunc (.tmp g) #[p] assign body) Q s:=fun x he hn a w m U=>by
 have hgv:a.eval (.tmp g)= .func (.func f) first #[]:=by
  have:=U.slot g;rw[y]at this;exact this.lit_
 refine wpIn_rangeFunc fun fn hfn=> ?_
 let u (st:LoopState):Obj:= .loop { state:=st,pending:=none,fn,tmps:=a.tmps,params:= #[p],assign,body,defers:=w.heap.size }
 let C:World:=(w.alloc (.deferred (some []))).alloc (u .ready)
 have hw2:Below w.heap.size w C:=((OY _ w).alloc (ND _) _).alloc (by simp) _;have hsz:C.heap.size=w.heap.size+2:=by simp[C]
 have hD2:C.heap[w.heap.size]? =some (.deferred (some [])):=by
  rw[show C.heap[w.heap.size]? =(w.alloc (.deferred (some []))).heap[w.heap.size]? from On _ _ _ (by simp)];exact RU w _
 have hl2:C.heap[w.heap.size+1]? =some (u .ready):=by
  have:=RU (w.alloc (.deferred (some []))) (u .ready);rwa [World.size_alloc]at this
 refine⟨w.heap.size+1,[If w.heap.size],C,⟨.fn (.func f) #[],first++ #[.func (.yield (w.heap.size+1)) #[] #[]]⟩,C,f,first++ #[.func (.yield (w.heap.size+1)) #[] #[]],C,?_,?_,fun _ _=>trivial,?_,fun h=>(by cases h),?_⟩
 ·rw[show (Sc none).round=none from rfl];exact run_enterLoop_outer fn a.tmps #[p] assign body
 ·have hc:a.eval (.const (.func (.yield (w.heap.size+1)) #[] #[]))= .func (.yield (w.heap.size+1)) #[] #[]:=rfl;simp[resolve,hgv,hc,Deferred.ofValue]
 ·simp[invoke,hit.enter]
 let a0:Act:={ a with defers:=[If w.heap.size]++a.defers }
 let fx0:Nat->Prop:=fun b=>x.fx b\/b=w.heap.size
 have L: ∀b o,m.S b o->b<w.heap.size:=U.low;have hblk: ∀r j,s.rows r=some j-> ∀k,(m.ρ r).ownBlock=some k->k<w.heap.size:=fun r j q k hk=>((U.rows r j q).blk hk).2;have z:dT x s a C m:=U.called hw2 (fun _ _ h=>h) (fun _ _ h=> .inl h) fun b o h=>by have:=L b o h;omega
 let G:ph:=x.again s C m fx0 ([If w.heap.size]++x.df)
 have hS0:dT G s a0 C m:=z.take (fx:=fx0) (fun b l=>by
  rcases l with l|rfl
  ·exact⟨z.fxlt l,fun r j q y=>z.Z5 r j q b y l⟩
  exact⟨by omega,fun r j q y=>by have:=hblk r j q _ y;omega⟩) rfl (by show [If w.heap.size]++a.defers=_;rw[U.ZU])
 have hM:I' x G:=by
  refine⟨rfl,rfl,rfl,rfl,?_,fun b l=>⟨.inl l,fun hlt=>⟨?_,fun o X=>(z.fix b l).2.2 o X⟩⟩,[w.heap.size],rfl,by simp,fun E hE=> ?_⟩
  ·exact z.ZY
  ·exact(z.fix b l).2.1
  obtain rfl:E=w.heap.size:=by simpa using hE
  exact⟨.inr rfl,hD2,U.Z4.size,U.ZY,fun o X=>by have:=L _ o X;omega⟩
 let st:Nat->D->(Nat->Nat)->(Nat->Bool)->St:=fun i d vs esc=>⟨s.f,au (R i d vs),vs,esc⟩
 let J:Nat->World->Prop:=fun i W=> ∃d vs esc B,A i d vs esc/\(∀r,s.vs r<=vs r)/\dT G (st i d vs esc) a0 W B/\W.heap[w.heap.size+1]? =some (u .ready)/\(∀o,¬B.S (w.heap.size+1) o)/\ ∀r j,au (R i d vs) r=some j->(B.ρ r).ownBlock≠some (w.heap.size+1)
 have hnx: ¬G.fx (w.heap.size+1):=fun l=>by
  rcases l with l|l
  ·have:=U.fxlt l;omega
  omega
 have Z:G.w.heap.size<=w.heap.size+1:=NN U.Z4.size (Nat.le_succ _);refine(hit.walk (w.heap.size+1) J C ?_ ?_ ?_ ?_).mono ?_
 ·rintro i W ⟨d,vs,esc,B,_,_,h,_⟩;have:=h.envOk.inv;rw[show G.env=env from he]at this;exact this
 ·rintro i W W' ⟨d,vs,esc,B,h1,h2,T,h4,h5,h6⟩ l;exact⟨d,vs,esc,B,h1,h2,T.called l (fun _ _ h=>h) (fun _ _ h=> .inl h) (fun b o h=>Oa (T.low b o h) l.size),(l.block _ (N5.1 h4).1).trans h4,h5,h6⟩
 ·rintro i W k ⟨d,vs,esc,B,h1,h2,T,h4,h5,h6⟩ hk;refine⟨fn,_,assign,body,run_yield h4 rfl,roundIn_of_wpIn trivial ?_⟩;have hact:(⟨(#[p].zip #[k]).foldl (fun N (t,a)=>N.setIfInBounds t a) a.tmps,[]⟩:Act)=(⟨a.tmps,[]⟩:Act).put (some p) k:=by simp[Act.put]
  show Code.wpIn _ _ _ _ _ (⟨(#[p].zip #[k]).foldl (fun N (t,a)=>N.setIfInBounds t a) a.tmps,[]⟩:Act) W;rw[hact]
  let H:Nat->Prop:=fun b=>G.fx b\/b=w.heap.size+1
  have hlW:w.heap.size+1<W.heap.size:=(N5.1 h4).1
  have hS1:dT (G.again (st i d vs esc) W B H []) (st i d vs esc) ⟨a.tmps,[]⟩ W B:=T.take (fx:=H) (fun b l=>by
   rcases l with l|rfl
   ·exact⟨T.fxlt l,fun r j q y=>T.Z5 r j q b y l⟩
   exact⟨hlW,h6⟩) rfl rfl
  have hS1':=hS1.put (some p) (fun t ht=>by cases ht;exact hn ▸ hp) (v:=k) (c:= .lit k) (.val (.lit k));have hstate:(st i d vs esc).put (some p) (.lit k)=⟨m6 s.f p (.lit k),au (R i d vs),vs,esc⟩:=rfl;rw[hstate]at hS1';refine Fa (ro:=some (w.heap.size+1)) (n:=3) (PS (round i d k vs esc h2 h1 hk (some (w.heap.size+1)) (G.again (st i d vs esc) W B H []) he hn _ W B hS1') ?_);rintro e a1 W1 ⟨s1,m1,g1,g2⟩;cases e with
  | normal=>
    obtain⟨-,K,I⟩:=g2.fix (w.heap.size+1) (.inr rfl);have K:W1.heap[w.heap.size+1]? =some (u .ready):=K.trans h4;have I: ∀o,¬m1.S (w.heap.size+1) o:=fun o X=>h5 o (I o X);have hr1: ∀r j,s1.rows r=some j->(m1.ρ r).ownBlock≠some (w.heap.size+1):=fun r j q y=>g2.Z5 r j q _ y (.inr rfl);refine⟨_,run_beginRound K rfl,?_⟩;have hU2:=(T.untake g2 (fun b l=> .inl l) rfl rfl).turned (.loop { state:= .busy,pending:=none,fn,tmps:=a.tmps,params:= #[p],assign,body,defers:=w.heap.size }) Z I hnx hr1
    have hI:=((g2.fewer G.fx fun b l=> .inl l).turned (.loop { state:= .busy,pending:=none,fn,tmps:=a.tmps,params:= #[p],assign,body,defers:=w.heap.size }) Z I hnx hr1).take (fx:=H) (fun b l=>by
     rcases l with l|rfl
     ·exact⟨hU2.fxlt l,fun r j q y=>hU2.Z5 r j q b y l⟩
     exact⟨by rw[World.putObj_size];exact(N5.1 K).1,hr1⟩) rfl g2.ZU
    refine Fa (ro:=some (w.heap.size+1)) (n:=3) (PS ((show fq P env nt body _ s1 from g1) (some (w.heap.size+1)) (G.again s1 (W1.putObj (w.heap.size+1) (.loop { state:= .busy,pending:=none,fn,tmps:=a.tmps,params:= #[p],assign,body,defers:=w.heap.size })) m1 H []) he hn _ _ m1 hI) ?_);rintro e a2 W3 ⟨O,m2,k1,k2⟩;cases e with
    | normal=>
      obtain⟨S,q1,q2⟩:=(show ∃S,A (i+1) S O.vs O.esc/\br O (R (i+1) S O.vs) from k1);obtain⟨-,Y,V⟩:=k2.fix (w.heap.size+1) (.inr rfl);have Y:W3.heap[w.heap.size+1]? =some (u .busy):=Y.trans (World.putObj_heap_same (N5.1 K).1);have V: ∀o,¬m2.S (w.heap.size+1) o:=fun o X=>I o (V o X);have hr3: ∀r j,O.rows r=some j->(m2.ρ r).ownBlock≠some (w.heap.size+1):=fun r j q y=>k2.Z5 r j q _ y (.inr rfl);have M:=(dQ (s:=O) (F:=[]) (R:=R (i+1) S O.vs) trivial q2).rows;refine⟨_,_,run_endRound none Y,rfl,S,O.vs,O.esc,m2,q1,fun r=>NN (h2 r) (NN (g2.ZP r) (k2.ZP r)),?_,World.putObj_heap_same (N5.1 Y).1,V,fun r j q y=> ?_⟩
      ·exact((hU2.untake k2 (fun b l=> .inl l) rfl rfl).turned _ Z V hnx hr3).less ⟨fun t=> .inl rfl,M,rfl,rfl⟩
      rcases M r with h|h
      ·exact hr3 r j (h.symm.trans q) y
      have h:au (R (i+1) S O.vs) r=none:=h;rw[h]at q;cases q
    |_=>exact k1.elim
  |_=>exact g1.elim
 ·have M:=(dQ (s:=s) (F:=[]) (R:=R 0 d0 s.vs) trivial hR).rows;have hless:Sn s (st 0 d0 s.vs s.esc):=⟨fun t=> .inl rfl,M,rfl,rfl⟩;refine⟨d0,s.vs,s.esc,m,h0,fun _=>ND _,hS0.less hless,hl2,fun o X=>by have:=L _ o X;omega,fun r j q y=> ?_⟩;rcases M r with h|h
  ·have:=hblk r j (h.symm.trans q) _ y;omega
  have h:au (R 0 d0 s.vs) r=none:=h;rw[h]at q;cases q
 rintro e W ⟨⟨v,rfl⟩,d,vs,esc,B,h1,h2,T,h4,h5,h6⟩;refine⟨none,_,run_endLoop h4 (by simp),?_⟩;refine⟨st ks.length d vs esc,B,G,done d vs esc h2 h1,hM,T.turned _ Z h5 hnx h6⟩
end
/-! Rows that freeze, by their contents -/
def oj(vs:Nat->Nat)(R:List (Nat×Row)):List (Nat×Nat×AV):=R.map fun p=>(p.1,vs p.1, .seq p.2.sz p.2.es)
def xO{s:St} : ∀ {R:List (Nat×Row)},br s R-> ∀p∈R,s.rows p.1=some p.2
 |[],_,p,hp=>by cases hp
 | q::R,h,p,hp=>by
   rcases NX.1 hp with rfl|hp
   ·exact h.1
   exact xO h.2 p hp
def cV{P:Program}{env:cf}{nt:Nat}{c:Code}{Q:Exit->St->Prop}{s:St}(R:List (Nat×Row))(hR:br s R)(h:fq P env nt c Q (k6 s (oj s.vs R)))(hp:(R.all fun p=>p.2.pure&&p.2.sz != 0)=true:=by rfl):fq P env nt c Q s:=
 Ju (oj s.vs R) (fun q hq=>by
  obtain⟨p,h1,rfl⟩:=NG.1 hq;have:=NB.1 hp p h1;rw[Mx,Rf]at this
  exact⟨rfl,p.2,xO hR p h1,this.2,this.1,rfl⟩) h
end
section
open Go.RowKit Go.Shelf
def sw(n:Nat):List Int:=((List.range 32).filter fun(i:Nat)=>n/2^i%2==1).map fun(i:Nat)=>(i:Int)
def oT(p q:Nat->Bool)(k:Nat)(c: ∀i,i<k->p i=false)(d:p k=true)(a: ∀i,i<=k->q i=false)(f: ∀i,k<i->p i=q i): ∀N,((k<N->(List.range N).filter p=k::(List.range N).filter q)/\(N<=k->(List.range N).filter p=[]/\(List.range N).filter q=[]))
 |0=>⟨fun h=>by omega,fun _=>⟨rfl,rfl⟩⟩
 | N+1=>by
   have b:=oT p q k c d a f N;refine⟨fun h=> ?_,fun h=> ?_⟩
   ·rw[PO,N6,N6];by_cases e:N=k
    ·subst e;have:=b.2 (ND _);rw[this.1,this.2];simp[d,a N (ND _)]
    have:=b.1 (by omega);rw[this];simp[PC,f N (by omega)]
   have:=b.2 (by omega);rw[PO,N6,N6,this.1,this.2];simp[c N (by omega),a N (by omega)]
def Sj(k m i:Nat):(2^k*(2*m+1))/2^i%2=if i<k then 0 else if i=k then 1 else(2^k*(2*m))/2^i%2:=by
 by_cases h:i<k
 ·rw[Mw h]
  have e:2^k=2^i*(2*2^(k-i-1)):=by
   rw[<-Nat.pow_succ', <-Nat.pow_add]
   congr 1
   omega
  rw[e,RJ,Qp _ (Qq (by decide)),RJ,Nat.mul_mod_right]
 rw[Mv h];by_cases a:i=k
 ·subst a;rw[Mw rfl,Qp _ (Qq (by decide))];omega
 rw[Mv a]
 have e:2^i=2^k*(2*2^(i-k-1)):=by
  rw[<-Nat.pow_succ', <-Nat.pow_add]
  congr 1
  omega
 rw[e,Nat.mul_div_mul_left _ _ (Qq (by decide)),Nat.mul_div_mul_left _ _ (Qq (by decide)), <-Nat.div_div_eq_div_mul, <-Nat.div_div_eq_div_mul]
 congr 2
 omega
def Jg(k m i:Nat)(h:i<=k):(2^k*(2*m))/2^i%2=0:=by
 have e:2^k=2^i*2^(k-i):=by
  rw[<-Nat.pow_add]
  congr 1
  omega
 rw[e,RJ,Qp _ (Qq (by decide)), <-RJ,Ph _ 2,RJ,Nat.mul_mod_right]
def G6(k m:Nat)(b:k<32):sw (2^k*(2*m+1))=(k:Int)::sw (2^k*(2*m)):=by
 unfold sw
 have:=(oT (fun i=>(2^k*(2*m+1))/2^i%2==1) (fun i=>(2^k*(2*m))/2^i%2==1) k
  (fun i a=>by simp only[Sj,Mw a];rfl) (by simp[Sj]) (fun i a=>by simp only[Jg k m i a];rfl) (fun i a=>by simp only[Sj];rw[Mv (by omega),Mv (by omega)]) 32).1 b
 rw[this];rfl
def Cz:sw 0=[]:=by decide+kernel
def ofInt_u32(a:Nat)(b:a<4294967296):(BitVec.ofInt 32 (a:Int)).toNat=a:=by
 rw[RX,BitVec.toNat_ofNat];exact RD (by omega)
def u32_and(a b:Nat)(c:a<4294967296)(d:b<4294967296):bits .and .u32 (a:Int) (b:Int)=((a&&& b:Nat):Int):=by
 have e:a&&& b<2^32:=Nat.and_lt_two_pow _ (by omega);show IntKind.u32.wrap ((BitVec.ofInt 32 (a:Int)&&& BitVec.ofInt 32 (b:Int)).toNat:Int)=_;rw[BitVec.toNat_and,ofInt_u32 a c,ofInt_u32 b d,Q9];omega
def r5(w:World):Prop:= ∀j,j<32->w.cell? ⟨10,j,none⟩=some (.int .u8 ((Lib.deBruijn32tab.getD j 0:Nat):Int))
def r5.below{w a:World}(h:r5 w)(b:Below w.heap.size w a):r5 a:=fun j c=>dk (h j c) b
def Lz(x:Nat)(h0:x≠0)(hx:x<4294967296)(w:World)(hT:r5 w):
 Calls prog 149 #[.int .u32 x] w fun e w'=>e= .returned (.int .i64 (Lib.ctz 32 x:Nat))/\w=w':=by
 obtain⟨hl,hk⟩:=Lib.lowest_bit 32 x h0 hx;obtain⟨hi,ht⟩:=Lib.deBruijn32_at _ hk;have hc:=hT _ hi;rw[ht]at hc;have e0:((x:Int)==0)=false:=by rw[Oz];omega
 have e1:IntKind.u32.wrap (-(x:Int))=((2^32-x:Nat):Int):=by rw[Q9];omega
 have e2:bits .and .u32 (x:Int) ((2^32-x:Nat):Int)=((2^Lib.ctz 32 x:Nat):Int):=by rw[u32_and _ _ hx (by omega),hl]
 generalize Lib.ctz 32 x=k at*
 have hp:2^k<=2147483648:=by
  have:2^k<=2^31:=RZ (by decide) (by omega);omega
 try clear ht hl h0 hT
 generalize 2^k=q at*
 go_enter func149,ntmps149
 go_wp2
 go_ret
 exact⟨rfl,rfl⟩
def BJ(k m:Nat)(n:k<32)(h:2^k*(2*m+1)<4294967296):bits .andNot .u32 ((2^k*(2*m+1):Nat):Int) ((2^k:Nat):Int)=((2^k*(2*m):Nat):Int):=by
 have o:0<2^k:=Qq (by decide)
 have l:2^k<4294967296:=by
  have:2^k<=2^31:=RZ (by decide) (by omega);omega
 have d:2^k*(2*m+1)=2^k*(2*m)+2^k:=by rw[Nat.mul_add,Q7]
 have b:(BitVec.ofInt 32 ((2^k*(2*m+1):Nat):Int)&&& ~~~ BitVec.ofInt 32 ((2^k:Nat):Int))=BitVec.ofNat 32 (2^k*(2*m)):=by
  apply BitVec.eq_of_getLsbD_eq;intro i c;rw[BitVec.getLsbD_and,BitVec.getLsbD_not,RX,RX,R3,R3,R3];have e:(2^k*(2*m+1)).testBit i=(decide (k<=i)&&(2*m+1).testBit (i-k)):=by rw[Ph];exact Nat.testBit_mul_two_pow _ _ _
  have f:(2^k*(2*m)).testBit i=(decide (k<=i)&&(2*m).testBit (i-k)):=by rw[Ph];exact Nat.testBit_mul_two_pow _ _ _
  rw[e,f,QI];by_cases a:k<=i
  ·by_cases g:i=k
   ·subst g;simp[c]
   obtain⟨j,rfl⟩: ∃j,i=k+(j+1):=⟨i-k-1,by omega⟩;simp[c,Nat.testBit_succ,show k+(j+1)-k=j+1 by omega,show (2*m+1)/2=m by omega]
  simp[a]
 show IntKind.u32.wrap ((BitVec.ofInt 32 ((2^k*(2*m+1):Nat):Int)&&& ~~~ BitVec.ofInt 32 ((2^k:Nat):Int)).toNat:Int)=_;rw[b,BitVec.toNat_ofNat,RD (by omega),Q9];omega
def jO(k:Nat)(a:k<32):2^k<4294967296:=by
 have:2^k<=2^31:=RZ (by decide) (by omega);omega
def EF(n:Nat)(hn:n<4294967296):Sm prog 83 #[.int .u32 n] ((sw n).map (Value.int .i64)) r5:=by
 refine⟨Ra func83 (by kernel_rfl) rfl,fun l J w hT hB hY h0=> ?_⟩;refine callsIn_of_wp func83 rfl trivial ?_ rfl;simp only[ntmps83,PE,NQ,Pp,Nat.reduceAdd,Nat.reduceSub,Array.replicate_succ,Array.replicate_zero,List.push_toArray,List.append_toArray,PY,RI]
 gi_wp2
 gi_loopw [0] (fun v0 wr=> ∃(cur i:Nat),cur<=n/\i<=(sw n).length/\v0= .int .u32 cur/\sw cur=(sw n).drop i/\J i wr) (fun v0 _=>(intOf v0).toNat)
 case atStart=>exact⟨n,0,ND _,NJ _,rfl,rfl,h0⟩
 case round=>
  obtain⟨cur,i,hc,hil,rfl,hs,hJ⟩:=hrel;by_cases hz:cur=0
  ·subst hz;rw[Cz]at hs;obtain rfl:i=(sw n).length:=Qj hil (List.drop_eq_nil_iff.1 hs.symm)
   gi_wp2
   go_end0
   exact⟨⟨_,rfl⟩,by rw[NT];exact hJ⟩
  obtain⟨m,hm,hk⟩:=Lib.ctzFrom_spec 32 cur (by omega) (by omega);have hcz:Lib.ctz 32 cur=Lib.ctzFrom 32 cur:=by simp[Lib.ctz,hz]
  rw[<-hcz]at hm hk;have hs2:=G6 (Lib.ctz 32 cur) m hk;rw[<-hm]at hs2;have hpos:0<2^Lib.ctz 32 cur:=Qq (by decide)
  have hsub:cur=2^Lib.ctz 32 cur*(2*m)+2^Lib.ctz 32 cur:=by
   have:=hm;rw[Nat.mul_add,Q7]at this;exact this
  have e0:((cur:Int) != 0)=true:=by rw[Rf];omega
  have hlen:i< (sw n).length:=by
   have:=N7 List.length (hs2.symm.trans hs);simp at this;omega
  have hki:(sw n)[i]? =some ((Lib.ctz 32 cur:Nat):Int):=by
   have:=N7 (·[0]?) (hs2.symm.trans hs);simp only[Nr,OS,PP]at this;exact this.symm
  have hs3:sw (2^Lib.ctz 32 cur*(2*m))=(sw n).drop (i+1):=by
   have:=N7 List.tail (hs2.symm.trans hs);rw[SH,List.tail_drop]at this;exact this
  have hTab:=hT i wr hJ;have hY:=hY i wr (.int .i64 ((Lib.ctz 32 cur:Nat):Int)) hJ (by rw[NE,hki];rfl);have hp2:=jO _ hk
  have e1:(2:Int)^Lib.ctz 32 cur%4294967296=((2^Lib.ctz 32 cur:Nat):Int):=by
   rw[R5];have:((2^Lib.ctz 32 cur:Nat):Int)<4294967296:=by omega
   rw[R5]at this;exact Int.emod_eq_of_lt (by exact_mod_cast NJ _) this
  have e2:bits .andNot .u32 (cur:Int) ((2^Lib.ctz 32 cur:Nat):Int)=((2^Lib.ctz 32 cur*(2*m):Nat):Int):=by
   have:=BJ (Lib.ctz 32 cur) m hk (by omega);rw[<-hm]at this;exact this
  obtain⟨fn,tmps,assign,body,hy,hR⟩:=hY;generalize hkk:Lib.ctz 32 cur=k at*;have hkk':=Nc hkk;have hsub':=Nc hsub;try clear hkk hs2 hcz hs hm hsub
  generalize 2^k*(2*m)=nx at*;generalize hq:2^k=q at*
  gi_wp2_with (first|(refine⟨trivial,?_⟩;gi_at_call 149;refine(Rz.2 (Lz cur hz (by omega) _ hTab)).mono ?_;rintro e w' ⟨rfl,rfl⟩;rw[hkk'.out]))
  refine hR.mono ?_;rintro e W3 ⟨rfl,hJ3⟩
  gi_wp2
  have hsub:=hsub'.out;exact⟨⟨nx,i+1,by omega,by omega,rfl,hs3,hJ3⟩,by show ((nx:Int)).toNat< ((cur:Int)).toNat;omega⟩
end
section
open Go.RowKit
def zg:List UInt8->Nat
 |[]=>0
 |c::r=>c.toNat+256*zg r
def T3(a:List UInt8)(at_ b:Nat):List UInt8:=(a.drop at_).take b
end
end Go.Proofs.YtfhkmjbjafeckaaGreatDoor
