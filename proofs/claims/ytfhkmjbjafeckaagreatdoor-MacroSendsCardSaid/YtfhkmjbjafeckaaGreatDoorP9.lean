/- field.Take and the document's; numbers of bytes, the lowest first. -/
import Derived.Test.YtfhkmjbjafeckaaGreatDoorP8
import Derived.Lib.TrailingZeros
import Derived.RangeFuncNested
import Derived.RangeFuncBound
import Derived.Shelf.RegionOpen
import Derived.OwnWalkIn
import Derived.LoopNIn
set_option linter.unusedSimpArgs false
set_option maxRecDepth 100000
set_option maxHeartbeats 2000000
set_option linter.defProp false
namespace Go.Proofs.YtfhkmjbjafeckaaGreatDoor
open Go.Proofs.Tryz
section
open Go.RowKit
def AV.see(g gm:Nat->Nat->Option AV):AV->AV
 | .row r ver=>(g r ver).getD (.row r ver)
 | .mp r ver=>(gm r ver).getD (.mp r ver)
 | .agg cs=> .agg (seeL g gm cs)
 | .tuple cs=> .tuple (seeL g gm cs)
 | .clo f cs=> .clo f (seeL g gm cs)
 |c=>c
where seeL (g gm:Nat->Nat->Option AV):List AV->List AV
 |[]=>[]
 |c::cs=>c.see g gm::seeL g gm cs
def ic(g gm:Nat->Nat->Option AV): ∀cs,(AV.see.seeL g gm cs).length=cs.length
 |[]=>rfl
 |c::cs=>by simp[AV.see.seeL,ic g gm cs]
def kR(g gm:Nat->Nat->Option AV): ∀(cs:List AV)(i:Nat)(c:AV),(AV.see.seeL g gm cs)[i]? =some c-> ∃a,cs[i]? =some a/\c=a.see g gm
 |[],i,c,h=>by simp[AV.see.seeL]at h
 | d::cs,i,c,h=>by
   cases i with
   |zero=>simp[AV.see.seeL]at h;exact⟨d,rfl,h.symm⟩
   | succ i=>
     obtain⟨a,b,e⟩:=kR g gm cs i c (by simpa[AV.see.seeL]using h);exact⟨a,by simpa using b,e⟩
def RV.see{S:Nat->Nat->Prop}{w:World}{v:Value}{c:AV}(g gm:Nat->Nat->Option AV)(h:RV S w v c):RV S w v (c.see g gm):=by
 induction h with
 |any v=>exact .any v
 |lit v=>exact .lit v
 | agg C s h K q e=>
   refine .agg C _ (by rw[ic];exact h) K fun i v c m a=> ?_;obtain⟨r,B,rfl⟩:=kR g gm s i c a;exact e i v r m B
 | tuple C s h q e=>
   refine .tuple C _ (by rw[ic];exact h) fun i v c m a=> ?_;obtain⟨r,B,rfl⟩:=kR g gm s i c a;exact e i v r m B
 |iface t v c h e=>exact .iface t v c h
 |seq A n j p d b o u E y D z q G e=>exact .seq A n j p d b o u E y D z q G
 |ref p d i H b o u z q G e=>exact .ref p d i H b o u z q G
 |fmap I x l d J L E z M m _ _=>exact .fmap I x l d J L E z M m
 |full A n p d h _=>exact .full A n p d h
 |news A n k j p d D h _=>exact .news A n k j p d D h
 | clo f C s h q e=>
   refine .clo f C _ (by rw[ic];exact h) fun i v c m a=> ?_;obtain⟨r,B,rfl⟩:=kR g gm s i c a;exact e i v r m B
section
variable {w:World} {m m':ld} {s s':St} {g gm:Nat->Nat->Option AV}
theorem RL.see{v:Value}{c:AV}(C: ∀b o,m.S b o->m'.S b o)(e: ∀ {v:Value}{c:AV},RL w m s v c->RL w m' s' v c)
 (E: ∀r a y,g r a=some y-> ∀v,RL w m s v (.row r a)->RL w m' s' v y)(x: ∀r a y,gm r a=some y-> ∀v,RL w m s v (.mp r a)->RL w m' s' v y)(h:RL w m s v c):RL w m' s' v (c.see g gm):=by
 induction h with
 |val h=>exact .val ((h.mono fun b o D=>⟨C b o D, .rfl⟩).see g gm)
 | agg u n h j B q=>
   refine .agg u _ (by rw[ic];exact h) j fun i v c p k=> ?_;obtain⟨l,t,rfl⟩:=kR g gm n i c k;exact q i v l p t
 | tuple u n h B q=>
   refine .tuple u _ (by rw[ic];exact h) fun i v c p k=> ?_;obtain⟨l,t,rfl⟩:=kR g gm n i c k;exact q i v l p t
 | clo f u n h B q=>
   refine .clo f u _ (by rw[ic];exact h) fun i v c p k=> ?_;obtain⟨l,t,rfl⟩:=kR g gm n i c k;exact q i v l p t
 | row r a j d h=>
   unfold AV.see;cases z:g r a with
   |none=>exact e (.row r a j d h)
   |some y=>exact E r a y z _ (.row r a j d h)
 |sub r a G j d h=>exact e (.sub r a G j d h)
 |loc r a i A j d h=>exact e (.loc r a i A j d h)
 | mp r a j d h=>
   unfold AV.see;cases z:gm r a with
   |none=>exact e (.mp r a j d h)
   |some y=>exact x r a y z _ (.mp r a j d h)
end
def Row.see(g gm:Nat->Nat->Option AV)(row:Row):Row:=if row.pure then row else { row with es:=row.es.map (·.map (AV.see g gm)) }
section
variable (g gm:Nat->Nat->Option AV) (row:Row)
theorem Row.see_sz:(row.see g gm).sz=row.sz:=by unfold Row.see;split<;>rfl
theorem Row.see_e:(row.see g gm).e=row.e:=by unfold Row.see;split<;>rfl
theorem Row.see_pure:(row.see g gm).pure=row.pure:=by unfold Row.see;split<;>rfl
theorem Row.see_len:(row.see g gm).es.length=row.es.length:=by unfold Row.see;split<;>simp
theorem Row.see_at{i j:Nat}{c:AV}(h:bs (row.see g gm).es i j=some c): ∃a,bs row.es i j=some a/\c=(if row.pure then a else a.see g gm):=by
 unfold Row.see at h;split at h
 ·rename_i d;exact⟨c,h,by rw[Mw d]⟩
 ·rename_i d;unfold bs at h |-;simp only[NB]at h;cases f:row.es[i]? with
  |none=>rw[f]at h;cases h
  | some e=>
    rw[f]at h;simp only[NT,OD,NB]at h;cases b:e[j]? with
    |none=>rw[b]at h;cases h
    |some a=>rw[b]at h;cases h;exact⟨a,b,by rw[Mt d]⟩
theorem Row.see_els{n:Nat}(b: ∀(i:Nat)(e:List AV),row.es[i]? =some e->e.length=n)(i:Nat)(e:List AV)(h:(row.see g gm).es[i]? =some e):e.length=n:=by
 unfold Row.see at h;split at h
 ·exact b i e h
 ·simp only[NB]at h;cases a:row.es[i]? with
  |none=>rw[a]at h;cases h
  |some c=>rw[a]at h;cases h;simpa using b i c a
end
def gp.see{base:Nat}{w:World}{m m':ld}{s s':St}{r:Nat}{row:Row}{g gm:Nat->Nat->Option AV}(h:gp base w m s r row)(J: ∀b o,m.S b o->m'.S b o)
 (L: ∀ {v:Value}{c:AV},RL w m s v c->RL w m' s' v (c.see g gm))(f:m'.ρ r=m.ρ r)(K:s'.esc r=s.esc r)(D: ∀d,(m.ρ r).ownBlock=some d-> ∀o,m'.S d o->m.S d o):gp base w m' s' r (row.see g gm):=by
 have l: ∀b o,m.S b o->m'.S b o/\k9 w w b o:=fun b o V=>⟨J b o V, .rfl⟩;rcases h with h|h
 ·refine .inl ⟨by rw[Row.see_sz];exact h.pos,fun i e t=>by rw[Row.see_sz];exact Row.see_els g gm row h.len i e t,?_,?_,?_,?_⟩
  ·obtain⟨X,S,T,U⟩:=h.own;refine⟨X,by rw[Row.see_e,Row.see_sz,Row.see_len,f];exact S,T,fun i j c W=> ?_⟩;obtain⟨M,z,A⟩:=Row.see_at g gm row W;obtain⟨u,B,k⟩:=U i j M z;refine⟨u,by rw[Row.see_sz];exact B,?_⟩;rw[Row.see_pure];subst A;cases p:row.pure with
   |true=>rw[p]at k;simp only[Nt]at k |-;exact k.mono l
   |false=>rw[p]at k;simp only[NU,OA]at k |-;exact L k
  ·rw[K,f,Row.see_len,Row.see_sz];exact fun e d a o E=>J d o (h.esc e d a o E)
  ·rw[f,Row.see_len,Row.see_sz];exact fun d a o E t=>h.spare d a o E (D d a o t)
  rw[K,f];exact fun e d a o t=>h.fresh e d a o (D d a o t)
 obtain⟨b,y,q,O,P,Q,R,I⟩:=h.own;refine .inr ⟨by rw[Row.see_sz];exact h.sz,⟨b,y,q,f.trans O,P,Q,by rw[Row.see_len];exact R,fun i e n=> ?_⟩,fun d a o t=>h.fresh d (by rw[<-f];exact a) o (D d (by rw[<-f];exact a) o t)⟩;unfold Row.see at n;split at n
 ·rename_i p;obtain⟨C,G,H,z,A,B,k⟩:=I i e n;rw[Mw p]at k;exact⟨C,G,H,z,A,B.mono l,by rw[Row.see_pure,Mw p];exact k.mono l⟩
 ·rename_i p;simp only[NB]at n;cases x:row.es[i]? with
  |none=>rw[x]at n;cases n
  | some N=>
    rw[x]at n;cases n;obtain⟨C,G,H,z,A,B,k⟩:=I i N x;rw[Mt p]at k;subst A;refine⟨C,G.see g gm,H.see g gm,z,rfl,(B.mono l).see g gm,?_⟩;rw[Row.see_pure,Mt p];exact L k
def dT.seen{x:py}{s s':St}{a:Act}{w:World}{m:ld}{g gm:Nat->Nat->Option AV}(S':Nat->Nat->Prop)(h:dT x s a w m)(n: ∀b o,m.S b o->S' b o)(j: ∀b o,S' b o->m.S b o\/(x.w.heap.size<=b/\b<w.heap.size))
 (p:s'.vs=s.vs)(l: ∀t,s'.f t=(s.f t).see g gm)(d: ∀r row',s'.rows r=some row'-> ∃row,s.rows r=some row/\row'=row.see g gm/\s'.esc r=s.esc r/\ ∀u,(m.ρ r).ownBlock=some u-> ∀o,S' u o->m.S u o)
 (N: ∀r f y,g r f=some y-> ∀v,RL w m s v (.row r f)->RL w ⟨S',m.ρ⟩ s' v y)(C: ∀r f y,gm r f=some y-> ∀v,RL w m s v (.mp r f)->RL w ⟨S',m.ρ⟩ s' v y)(B: ∀b,x.fx b-> ∀o,S' b o->m.S b o):dT x s' a w ⟨S',m.ρ⟩:=by
 have E: ∀r row',s'.rows r=some row'-> ∃row,s.rows r=some row/\row.sz=row'.sz/\m.ρ r=m.ρ r:=fun r row' i=>by
  obtain⟨row,q,D,_⟩:=d r row' i;exact⟨row,q,by rw[D,Row.see_sz],rfl⟩
 have G: ∀ {v:Value}{c:AV},RL w m s v c->RL w ⟨S',m.ρ⟩ s' v (c.see g gm):=fun e=>e.see (m':=⟨S',m.ρ⟩) n (fun e=>e.mono (fun b o A=>⟨n b o A, .rfl⟩) (fun r=>by rw[p];exact NC _) fun r row' _ i=>E r row' i) N C;have z: ∀b o,m.S b o->S' b o/\k9 w w b o:=fun b o A=>⟨n b o A, .rfl⟩;have H: ∀r,s.vs r<=s'.vs r:=fun r=>by rw[p];exact NC _
 refine⟨h.Z3,fun b o e=> ?_,fun b o e=>n b o (h.ZT b o e),fun b o e=> ?_,h.env,h.ZX,h.ZV,h.ZU,h.ZR,fun t=>by rw[l];exact G (h.slot t),fun r row' i=> ?_,fun r I row row' L M=> ?_,h.toS (m':=⟨S',m.ρ⟩) z,h.toV H,h.toK (m':=⟨S',m.ρ⟩) H fun r row' _ i=>E r row' i,h.ZY,fun b l=>⟨(h.fix b l).1,(h.fix b l).2.1,fun o e=>(h.fix b l).2.2 o (B b l o e)⟩,fun r row' i=> ?_⟩
 ·rcases j b o e with k|k
  ·exact h.low b o k
  exact k.2
 ·rcases j b o e with k|k
  ·exact h.sub b o k
  exact .inr k.1
 ·obtain⟨row,q,D,O,P⟩:=d r row' i;rw[D];exact(h.rows r row q).see (m':=⟨S',m.ρ⟩) n G rfl O P
 ·obtain⟨Q,J,_⟩:=d r row L;obtain⟨R,K,_⟩:=d I row' M;exact h.inj r I Q R J K
 obtain⟨row,q,_⟩:=d r row' i;exact h.Z5 r row q
/-! Rows that freeze -/
def fX:List (Nat×Nat×AV)->Nat->Nat->Option AV
 |[],_,_=>none
 |p::L,r,a=>if r=p.1/\a=p.2.1 then some p.2.2 else fX L r a
def wS{r a:Nat}{y:AV} : ∀ {L:List (Nat×Nat×AV)},fX L r a=some y->(r,a,y)∈L
 |[],h=>by cases h
 | p::L,h=>by
   unfold fX at h;split at h
   ·rename_i e;cases h;obtain⟨b,c⟩:=e;subst b c;exact QR ..
   exact O3 _ (wS h)
def rf(s:St)(L:List (Nat×Nat×AV)):Prop:= ∀p∈L,s.vs p.1=p.2.1/\ ∃a,s.rows p.1=some a/\a.sz≠0/\a.pure=true/\p.2.2= .seq a.sz a.es
def kk(s:St)(L:List (Nat×Nat×AV)):St:=⟨fun t=>(s.f t).see (fX L) fun _ _=>none,fun r=>(s.rows r).map (Row.see (fX L) fun _ _=>none),s.vs,fun r=>s.esc r||L.any fun p=>p.1==r⟩
def dT.shows{x:py}{a:Act}{w:World} : ∀(L:List (Nat×Nat×AV)){s:St}{m:ld},dT x s a w m->rf s L->
 ∃S',dT x { s with esc:=fun r=>s.esc r||L.any fun p=>p.1==r } a w ⟨S',m.ρ⟩/\(∀b o,m.S b o->S' b o)/\ ∀p∈L,RV S' w (m.ρ p.1) p.2.2
 |[],s,m,h,_=>⟨m.S,by simpa using h,fun _ _ h=>h,fun p z=>by simp at z⟩
 | p::L,s,m,h,i=>by
   obtain⟨_,g,t,u,v,y⟩:=i p (by simp);obtain⟨E,A,B,C⟩:=h.show p.1 g t u v;have d:rf (s.show p.1) L:=fun q c=>i q (O3 _ c);obtain⟨l,j,k,D⟩:=dT.shows L A d;refine⟨l,?_,fun b o f=>k b o (B b o f),fun q c=> ?_⟩
   ·have e:({ s.show p.1 with esc:=fun r=>(s.show p.1).esc r||L.any fun p=>p.1==r } :St)={ s with esc:=fun r=>s.esc r||(p::L).any fun p=>p.1==r } :=by
     simp only[St.show,St.mk.injEq,true_and]
     funext r
     simp only[QH];by_cases e:r=p.1
     ·subst e;simp[aw]
     rw[cR _ _ _ e];have:(p.1==r)=false:=by simpa using fun n=>e n.symm
     rw[this,Oj]
    rw[e]at j;exact j
   rcases NV.1 c with rfl|c
   ·rw[y];exact C.mono fun b o f=>⟨k b o f, .rfl⟩
   exact D q c
def dT.sees{x:py}{s:St}{a:Act}{w:World}{m:ld}(h:dT x s a w m)(L:List (Nat×Nat×AV))(f:rf s L): ∃S',dT x (kk s L) a w ⟨S',m.ρ⟩:=by
 obtain⟨S',o,u,p⟩:=h.shows L f;refine⟨S',dT.seen (m:=⟨S',m.ρ⟩) (s':=kk s L) (g:=fX L) (gm:=fun _ _=>none) S' o (fun _ _ h=>h) (fun _ _ h=> .inl h) rfl (fun t=>rfl) (fun r j c=> ?_) (fun r q y e v n=> ?_) (fun _ _ _ e=>by cases e) fun _ _ _ h=>h⟩
 ·simp only[kk]at c;cases d:s.rows r with
  |none=>rw[d]at c;cases c
  | some b=>
    rw[d]at c;cases c;exact⟨b,by first|exact d|rfl,rfl,rfl,fun _ _ _ h=>h⟩
 have i:=wS e;obtain⟨k,b,l,_⟩:=f _ i;have:=n.row_.2 k b l;rw[this];exact .val (p _ i)
def Jn{P:Program}{env:b8}{nt:Nat}{c:Code}{Q:Exit->St->Prop}{s:St}(L:List (Nat×Nat×AV))(b:rf s L)(h:fp P env nt c Q (kk s L)):fp P env nt c Q s:=fun g x f e a w m d=>by
 obtain⟨i,k⟩:=d.sees L b;exact h g x f e a w _ k
/-! Maps that freeze -/
def zc(s:St)(r:Nat)(y:AV):St:=⟨fun t=>(s.f t).see (fun _ _=>none) fun b a=>if b=r/\a=s.vs r then some y else none,fun k=>if k=r then none else(s.rows k).map (Row.see (fun _ _=>none) fun b a=>if b=r/\a=s.vs r then some y else none),s.vs,s.esc⟩
def dT.mapSee{x:py}{s:St}{a:Act}{w:World}{m:ld}(h:dT x s a w m)(r:Nat)(row:Row)(M:s.rows r=some row)(S:row.sz=0)(hb:row.es.all (·.all AV.bare)=true): ∃S',dT x (zc s r (.fmap row.es)) a w ⟨S',m.ρ⟩:=by
 have k:=(h.rows r row M).map S;obtain⟨H,G,C,e1,e2,X,e4,N⟩:=k.own;have u:(m.ρ r).ownBlock=some H:=by rw[e1];rfl
 have P:H<w.heap.size:=(N2.1 X).1;obtain⟨S',n⟩: ∃S':Nat->Nat->Prop,S'=fun b o=>m.S b o\/(b=H/\o=0):=⟨_,rfl⟩;have A: ∀b o,m.S b o->S' b o:=fun b o d=>by rw[n];exact .inl d
 have f: ∀b o,m.S b o->S' b o/\k9 w w b o:=fun b o d=>⟨A b o d, .rfl⟩;have D: ∀(i:Nat)(e:List AV)(c:AV),row.es[i]? =some e->c∈e->c.bare=true:=fun i e c l j=>(Mz.1 ((Mz.1 hb) e (Mv l))) c j
 have hv:RV S' w (.map (some H)) (.fmap row.es):=by
  refine .fmap H G C row.es (by rw[n];exact .inr ⟨rfl,rfl⟩) X e4.1 (fun i e l=> ?_) (fun i Y c p j=> ?_) fun i Y c p j=> ?_
  ·obtain⟨Y,Z,vc,_,K,_⟩:=N i e l;rw[K];rfl
  ·unfold bs at j;cases l:row.es[i]? with
   |none=>rw[l]at j;cases j
   | some e=>
     rw[l]at j;obtain⟨O,Z,vc,V,K,k3,_⟩:=N i e l;rw[V]at p;cases p;subst K;cases j;exact k3.mono f
  ·unfold bs at j;cases l:row.es[i]? with
   |none=>rw[l]at j;cases j
   | some e=>
     rw[l]at j;obtain⟨O,Z,vc,V,K,_,W⟩:=N i e l;rw[V]at p;cases p;subst K;cases j;split at W
     ·exact W.mono f
     exact(W.bare (D i _ _ l (by simp))).mono f
 refine⟨S',dT.seen (g:=fun _ _=>none) (gm:=fun r' L=>if r'=r/\L=s.vs r then some (.fmap row.es) else none) S' h A (fun b o d=> ?_) rfl (fun t=>rfl) (fun q row' E=> ?_) (fun _ _ _ J=>by cases J) (fun q L y J v U=> ?_) fun b hf o d=> ?_⟩
 ·rw[n]at d;rcases d with d|⟨rfl,_⟩
  ·exact .inl d
  exact .inr ⟨e2,P⟩
 ·simp only[zc]at E;split at E
  ·cases E
  ·rename_i R;cases z:s.rows q with
   |none=>rw[z]at E;cases E
   | some B=>
     rw[z]at E;cases E;refine⟨B,by first|exact z|rfl,rfl,rfl,fun gq Q o d=> ?_⟩;rw[n]at d;rcases d with d|⟨rfl,_⟩
     ·exact d
     exact absurd u (h.inj q r B row z M R gq Q)
 ·split at J
  ·rename_i e;cases J;obtain⟨ea,eb⟩:=e;subst ea eb;obtain⟨g',I,T⟩:=U.mp_.2 rfl row M;rw[u]at I;cases I;rw[T];exact .val hv
  cases J
 rw[n]at d;rcases d with d|⟨rfl,_⟩
 ·exact d
 exact absurd hf (h.Z5 r row M b u)
/-! A row by another name, wherever it is named -/
def ob(r b r2 a:Nat)(q v:Nat):Option AV:=if q=r/\v=b then some (.row r2 a) else none
def eQ(s:St)(r r2:Nat)(row:Row):St:=⟨fun t=>(s.f t).see (ob r (s.vs r) r2 (s.vs r2+1)) fun _ _=>none,fun k=>if k=r2 then some row else if k=r then none else(s.rows k).map (Row.see (ob r (s.vs r) r2 (s.vs r2+1)) fun _ _=>none),mu s.vs r2 (s.vs r2+1),mu s.esc r2 (s.esc r)⟩
def dT.ren{x:py}{s:St}{a:Act}{w:World}{m:ld}(h:dT x s a w m)(r r2:Nat)(row:Row)(Y:r2≠r)(I:s.rows r=some row)(hr2:s.rows r2=none)(M:row.sz≠0)(Z:row.pure=true):dT x (eQ s r r2 row) a w ⟨m.S,mu m.ρ r2 (m.ρ r)⟩:=by
 have N: ∀k,s.vs k<=(eQ s r r2 row).vs k:=fun k=>by
  simp only[eQ,mu];split
  ·rename_i e;rw[e];omega
  exact NC _
 have i: ∀k d,(eQ s r r2 row).rows k=some d->(k=r2/\d=row)\/(k≠r2/\k≠r/\ ∃f,s.rows k=some f/\d=f.see (ob r (s.vs r) r2 (s.vs r2+1)) fun _ _=>none):=fun k d l=>by
  simp only[eQ]at l;split at l
  ·rename_i e;cases l;exact .inl ⟨e,rfl⟩
  rename_i e;split at l
  ·cases l
  ·rename_i u;cases B:s.rows k with
   |none=>rw[B]at l;cases l
   |some f=>rw[B]at l;cases l;exact .inr ⟨e,u,f,by first|exact B|rfl,rfl⟩
 have l: ∀k d,(eQ s r r2 row).vs k=s.vs k->(eQ s r r2 row).rows k=some d-> ∃f,s.rows k=some f/\f.sz=d.sz/\mu m.ρ r2 (m.ρ r) k=m.ρ k:=fun k d e A=>by
  rcases i k d A with⟨rfl,rfl⟩|⟨p,u,f,E,rfl⟩
  ·simp only[eQ,aw]at e;omega
  exact⟨f,E,by rw[Row.see_sz],cR _ _ _ p⟩
 have G: ∀b o,m.S b o->m.S b o/\k9 w w b o:=fun b o X=>⟨X, .rfl⟩;have k:=(h.rows r row I).cells M
 have L:(m.ρ r).oneCell'=true:=by
  obtain⟨xs,k1,_⟩:=k.own;rcases k1.2 with⟨e,_⟩|⟨g,R,S,e,_⟩<;>rw[e]<;>rfl
 have Q: ∀ {v:Value}{c:AV},RL w m s v c->RL w ⟨m.S,mu m.ρ r2 (m.ρ r)⟩ (eQ s r r2 row) v (c.see (ob r (s.vs r) r2 (s.vs r2+1)) fun _ _=>none):=fun A=>RL.see (m:=m) (m':=⟨m.S,mu m.ρ r2 (m.ρ r)⟩) (s:=s) (fun _ _ h=>h) (fun A=>RL.mono (m:=m) (m':=⟨m.S,mu m.ρ r2 (m.ρ r)⟩) A G N l) (fun q ver y D v O=>by
  unfold ob at D;split at D
  ·rename_i e;cases D;obtain⟨U,V⟩:=e;subst U V;have:=O.row_.2 rfl row I;subst this;exact .row r2 _ L (by simp[eQ,aw]) fun _ d _=>by simp[aw]
  cases D) (fun _ _ _ D=>by cases D) A
 refine⟨h.Z3,h.low,h.ZT,h.sub,h.env,h.ZX,h.ZV,h.ZU,h.ZR,fun t=>Q (h.slot t),fun q d B=> ?_,fun q K z n E P H g j=> ?_,h.toS (m':=⟨m.S,mu m.ρ r2 (m.ρ r)⟩) G,h.toV N,h.toK (m':=⟨m.S,mu m.ρ r2 (m.ρ r)⟩) N l,h.ZY,h.fix,fun q d B g j=> ?_⟩
 ·rcases i q d B with⟨rfl,rfl⟩|⟨p,u,f,E,rfl⟩
  ·have:=k.ren (r':=q) (m':=⟨m.S,mu m.ρ q (m.ρ r)⟩) (s':=eQ s r q d) (g:=fun _ _=>none) rfl (fun _ _ _ _ A=>by cases A) (by simp[aw]) (by simp[eQ,aw]);have e:d.ren (fun _ _=>none)=d:=by unfold Row.ren;rw[Mw Z]
   rw[e]at this;exact .inl this
  exact(h.rows q f E).see (m':=⟨m.S,mu m.ρ r2 (m.ρ r)⟩) (fun _ _ h=>h) Q (cR _ _ _ p) (by simp only[eQ,cR _ _ _ p]) fun _ _ _ h=>h
 ·simp only at j |-;rcases i q z E with⟨rfl,rfl⟩|⟨p,u,f,C,rfl⟩
  ·rw[aw]at j;rcases i K n P with⟨e,_⟩|⟨p,u,f,C,_⟩
   ·exact absurd e.symm H
   rw[cR _ _ _ p];exact h.inj r K z f I C (Ot u) g j
  rw[cR _ _ _ p]at j;rcases i K n P with⟨rfl,rfl⟩|⟨T,e4,J,W,_⟩
  ·rw[aw];exact h.inj q r f n C I u g j
  rw[cR _ _ _ T];exact h.inj q K f J C W H g j
 simp only at j;rcases i q d B with⟨rfl,rfl⟩|⟨p,u,f,C,_⟩
 ·rw[aw]at j;exact h.Z5 r d I g j
 rw[cR _ _ _ p]at j;exact h.Z5 q f C g j
def LR{P:Program}{env:b8}{nt:Nat}{c:Code}{Q:Exit->St->Prop}{s:St}(r r2:Nat)(row:Row)(b:r2≠r)(j:s.rows r=some row)(d:s.rows r2=none)(e:row.sz≠0)(i:row.pure=true)(h:fp P env nt c Q (eQ s r r2 row)):fp P env nt c Q s:=fun l x k g a w _ f=>
 h l x k g a w _ (f.ren r r2 row b j d e i)
end
section
open Go.RowKit
section
variable {P:Program} {ro:Option Nat} {a:Act} {w:World} {Q:Exit->Act->World->Prop}
theorem J4{k:Nat} :(Sy ro).room k:=by cases ro<;>exact room_wide _
theorem F7{n g:Nat}{c:Code}(h:c.wpIn (Sy ro) n P Q a w):c.wpIn (Sy ro) g P Q a w:=fun b k d e f _=>h b k d e f J4
end
/-! A walk taken up anew -/
def py.again(x:py)(s:St)(w:World)(m:ld)(fx:Nat->Prop)(df:List Deferred):py:={ x with fw:=w,fm:=m,e:=s,fx:=fx,df:=df }
section
variable {x:py} {s s1:St} {a a' a1:Act} {w w' w1:World} {m m1:ld} {fx:Nat->Prop} {df:List Deferred}
theorem dT.take(h:dT x s a w m)(c: ∀b,fx b->b<w.heap.size/\ ∀r row,s.rows r=some row->(m.ρ r).ownBlock≠some b)(i:a'.tmps=a.tmps)(k:a'.defers=df):dT (x.again s w m fx df) s a' w m:=
 ⟨h.Z3,h.low,h.ZT,h.sub,h.env,h.ZX,h.ZV,k,by rw[i];exact h.ZR,by rw[i];exact h.slot,h.rows,h.inj,fun _ _ e=>⟨e, .rfl⟩,fun _=>NC _,fun r d _ f=>⟨d,f,rfl,rfl⟩,NC _,
  fun b j=>⟨(c b j).1,rfl,fun _ e=>e⟩,fun r row f g n l=>(c g l).2 r row f n⟩
theorem dT.untake{e:St}(h:dT x s a w m)(c:dT (x.again e w m fx df) s1 a1 w1 m1)(j: ∀b,x.fx b->fx b)(q:e.vs=s.vs)(l:e.rows=s.rows):dT x ⟨s.f,s1.rows,s1.vs,s1.esc⟩ a w1 m1:=by
 have p: ∀r,s.vs r<=s1.vs r:=q ▸ c.ZQ;have u: ∀b o,m.S b o->m1.S b o/\k9 w w1 b o:=c.ZL;have v: ∀r d,s1.vs r=s.vs r->s1.rows r=some d-> ∃f,s.rows r=some f/\f.sz=d.sz/\m1.ρ r=m.ρ r:=q ▸ l ▸ c.evK
 exact⟨c.Z3,c.low,c.ZT,c.sub,c.env,c.ZX,c.ZV,h.ZU,h.ZR,fun t=>(h.slot t).mono u p v,
  fun r f k=>(c.rows r f k).mono (fun b o i=>⟨i, .rfl⟩) (fun _=>NC _) (fun r d _ k=>⟨d,k,rfl,rfl⟩) rfl (fun _ _=>rfl) rfl (fun _ _ _ n=>n),c.inj,h.toS u,h.toV (s':=⟨s.f,s1.rows,s1.vs,s1.esc⟩) p,h.toK (s':=⟨s.f,s1.rows,s1.vs,s1.esc⟩) p v,NK h.ZY c.ZY,
  fun b i=>⟨(h.fix b i).1,((c.fix b (j b i)).2.1).trans (h.fix b i).2.1,fun o n=>(h.fix b i).2.2 o ((c.fix b (j b i)).2.2 o n)⟩,fun r f k g z y=>c.Z5 r f k g z (j g y)⟩
theorem dT.fewer(h:dT x s a w m)(c:Nat->Prop)(d: ∀b,c b->x.fx b):dT { x with fx:=c } s a w m:=
 ⟨h.Z3,h.low,h.ZT,h.sub,h.env,h.ZX,h.ZV,h.ZU,h.ZR,h.slot,h.rows,h.inj,h.ZL,h.ZQ,h.evK,h.ZY,fun b f=>h.fix b (d b f),fun r e k g j i=>h.Z5 r e k g j (d g i)⟩
theorem dT.turned(h:dT x s a w m){b:Nat}(o:Obj)(q:x.w.heap.size<=b)(l: ∀o,¬m.S b o)(j: ¬x.fx b)(p: ∀r row,s.rows r=some row->(m.ρ r).ownBlock≠some b):dT x s a (w.putObj b o) m:=by
 have c: ∀k,k≠b->(w.putObj b o).heap[k]? =w.heap[k]? :=fun k i=>World.putObj_heap_other i;refine h.move rfl ⟨rfl,rfl,rfl,by rw[World.putObj_size];exact NC _,fun k i=>c k (by omega)⟩ (fun k o f=>⟨f, .block (c k fun e=>l o (e ▸ f))⟩) (fun _ _ f=> .inl f) (fun r row d g n=>c g fun e=>p r row d (e ▸ n)) fun k i=>c k fun e=>j (e ▸ i)
end
/-! The marks -/
def K'(D:Nat):Deferred:={ target:= .collected D,args:= #[] }
structure M'(x x':py):Prop where
 w:x'.w=x.w
 S:x'.S=x.S
 env:x'.env=x.env
 nt:x'.nt=x.nt
 le:x.fw.heap.size<=x'.fw.heap.size
 keep: ∀b,x.fx b->x'.fx b/\(b<x.fw.heap.size->x'.fw.heap[b]? =x.fw.heap[b]? /\ ∀o,x'.fm.S b o->x.fm.S b o)
 df: ∃Ds:List Nat,x'.df=Ds.map K'++x.df/\Ds.Nodup/\ ∀D∈Ds,x'.fx D/\x'.fw.heap[D]? =some (.deferred (some []))/\x.w.heap.size<=D/\x.fw.heap.size<=D/\ ∀o,¬x'.fm.S D o
def M'.refl(x:py):M' x x:=⟨rfl,rfl,rfl,rfl,NC _,fun _ h=>⟨h,fun _=>⟨rfl,fun _ h=>h⟩⟩,[],rfl, .nil,fun D h=>by cases h⟩
def M'.trans{x m f:py}(h:M' x m)(k:M' m f):M' x f:=by
 refine⟨k.w.trans h.w,k.S.trans h.S,k.env.trans h.env,k.nt.trans h.nt,NK h.le k.le,fun b d=>⟨(k.keep b (h.keep b d).1).1,fun e=> ?_⟩,?_⟩
 ·obtain⟨s,t⟩:=(h.keep b d).2 e;obtain⟨v,w⟩:=(k.keep b (h.keep b d).1).2 (Oc e h.le);exact⟨v.trans s,fun o i=>t o (w o i)⟩
 obtain⟨n,d1,d2,d3⟩:=h.df;obtain⟨p,q,r,l⟩:=k.df;refine⟨p++n,by rw[q,d1,NA,Nl],Ov.2 ⟨r,d2,fun a u b d=> ?_⟩,fun D c=> ?_⟩
 ·have:=(l a u).2.2.2.1;have:=(N2.1 (d3 b d).2.1).1;omega
 rcases NY.1 c with c|c
 ·obtain⟨j,g,p3,p4,p5⟩:=l D c;exact⟨j,g,by rw[<-h.w];exact p3,NK h.le p4,p5⟩
 obtain⟨j,g,p3,p4,p5⟩:=d3 D c;obtain⟨y,z⟩:=k.keep D j;obtain⟨A,B⟩:=z (N2.1 g).1;exact⟨y,A.trans g,p3,p4,fun o i=>p5 o (B o i)⟩
def xv(P:Program)(env:b8)(nt:Nat)(c:Code)(Q:Exit->St->Prop)(s:St):Prop:=
 ∀x:py,x.env=env->x.nt=nt-> ∀a w m,dT x s a w m->c.wpIn (Sy none) 3 P (fun e f h=> ∃b g d,Q e b/\M' x d/\dT d b f h g) a w
section
variable {P:Program} {env:b8} {nt:Nat} {Q:Exit->St->Prop} {s:St}
theorem zQ{c:Code}(h:fp P env nt c Q s):xv P env nt c Q s:=fun x f g a w m e=>PS (h none x f g a w m e) fun _ _ _ ⟨j,i,b,d⟩=>⟨j,i,x,b, .refl x,d⟩
theorem vM{c d:Code}(h:xv P env nt c (bD (xv P env nt d Q) Q) s):xv P env nt (.seq c d) Q s:=fun x l n a w m r=>by
 refine wpIn_seq (PS (h x l n a w m r) ?_);rintro e q z ⟨y,o,p,j,b,k⟩;cases e with
 |normal=>exact PS (j p (b.env.trans l) (b.nt.trans n) q z o k) fun _ _ _ ⟨g,f,i,t,u,v⟩=>⟨g,f,i,t,b.trans u,v⟩
 |_=>exact⟨y,o,p,j,b,k⟩
theorem cF{c d:Code}(h:fp P env nt c (bD (xv P env nt d Q) Q) s):xv P env nt (.seq c d) Q s:=vM (zQ h)
theorem nY{g:Nat}{c:Code}(h:xv P env nt c (be g Q) s):xv P env nt (.block g c) Q s:=fun x n o a w m l=>by
 refine wpIn_block (PS (h x n o a w m l) ?_);rintro e p q ⟨f,j,k,b,i⟩;cases e with
 | exit d=>
   show if d=g then _ else _
   have b:if d=g then Q .normal f else Q (.exit d) f:=b
   split
   ·rename_i hid;rw[Mw hid]at b;exact⟨f,j,k,b,i⟩
   rename_i hid;rw[Mt hid]at b;exact⟨f,j,k,b,i⟩
 |_=>exact⟨f,j,k,b,i⟩
theorem IF{D:Type}{c:Code}(F:D->(Nat->Nat)->List (Nat×AV))(R:D->(Nat->Nat)->List (Nat×Row))(b:D->(Nat->Nat)->(Nat->Bool)->Prop)(k:D->Nat)(h:D)(v:b h s.vs s.esc)
 (y:cV s (F h s.vs))(z:bw s (R h s.vs))
 (round: ∀d vs esc,b d vs esc->xv P env nt c (bD (fun g=> ∃f,b f g.vs g.esc/\cV g (F f g.vs)/\bw g (R f g.vs)/\k f<k d) Q) (head (F d vs) (R d vs) vs esc)):xv P env nt (.loop c) Q s:=fun x A C a w m p=>by
 refine wpIn_loop_ghost (fun n a w=> ∃d vs esc m o,b d vs esc/\k d=n/\M' x o/\dT o (head (F d vs) (R d vs) vs esc) a w m) (k h) ⟨h,s.vs,s.esc,m,x,v,rfl, .refl x,p.less (dR y z)⟩ ?_;rintro n a w ⟨d,vs,esc,m,o,B,rfl,l,p⟩;refine PS (round d vs esc B o (l.env.trans A) (l.nt.trans C) a w m p) ?_;rintro e J K ⟨q,u,j,r,i,t⟩;cases e with
 | normal=>
   obtain⟨f,E,G,H,I⟩:=r;exact⟨k f,I,f,q.vs,q.esc,u,j,E,rfl,l.trans i,t.less (dR G H)⟩
 |_=>exact⟨q,u,j,r,l.trans i,t⟩
end
/-! At a function's end -/
def nu{P:Program}{F:Fence}{n:Nat}{fn:Func}{s:St}{a:Act}{m:ld}{R:Ending->World->Prop}{B:World}{T:Nat->Nat->Prop}(d: ∀(x:py)(w:World),x.w=B->x.S=T->dT x s a w m-> ∃v,(results fn a.tmps).run P w= .ok v w/\R (.returned v) w):
 ∀(c:List Nat)(x:py)(w:World),x.w=B->x.S=T->dT x s a w m->c.Nodup->(∀D∈c,x.fx D/\x.fw.heap[D]? =some (.deferred (some []))/\x.w.heap.size<=D/\ ∀o,¬x.fm.S D o)->LeavesInM F n P fn a.tmps R (c.map K') .returning w
 |[],x,w,i,j,f,_,_=>d x w i j f
 | D::c,x,w,i,j,f,g,l=>by
   obtain⟨q,H,p3,p4⟩:=l D (by simp);have g:=PM.1 g;obtain⟨K,I,J⟩:=f.fix D q;refine⟨by simp, .inl ⟨D,_,rfl,run_takeDeferred (I.trans H),?_⟩⟩;refine nu d c { x with fx:=fun b=>x.fx b/\b≠D } _ i j ((f.fewer (fun b=>x.fx b/\b≠D) fun _ h=>h.1).turned (.deferred none) p3 (fun o C=>p4 o (J o C)) (fun h=>h.2 rfl) fun r k G A=>f.Z5 r k G D A q) g.2 fun E p=> ?_;obtain⟨t,u,y,z⟩:=l E (by simp[p]);exact⟨⟨t,fun e=>g.1 (e ▸ p)⟩,u,y,z⟩
section
variable {P:Program} {env:b8} {f:FuncId} {cs:List AV} {res:AV}
theorem y7{fn:Func}{c:Code}(N:P.funcs[f]? =some fn)(L:fn.body=some c)(d: ∀(args:Array Value)(w:World),(callFunc f args).run P w= .ok (.enter f args) w)(hn:cs.length<=fn.ntmps)
 (h:xv P env fn.ntmps c (L9 P fn.results.toList res) (St.init cs)):b7 P env f cs res:=by
 refine⟨d,fun w S z s hl Q=> ?_⟩;refine Ry.1 (callsIn_of_wp_marks (n:=3) N L trivial ?_)
 have J:dT ⟨w,S,env,fn.ntmps,w,⟨S,fun _=>undef⟩,St.init cs,fun _=>False,[]⟩ (St.init cs) { tmps:=z.toArray++Array.replicate (fn.ntmps-z.toArray.size) undef,defers:=[] } w ⟨S,fun _=>undef⟩:=by
  refine⟨O1 _ _,s.low,fun _ _ h=>h,fun _ _ h=> .inl h,s.env,s.low,s.inv,rfl,by simp;omega,fun t=> ?_,(fun r p j=>by cases j),(fun r r' p q j=>by cases j),(fun _ _ O=>⟨O, .rfl⟩),(fun _=>NC _),(fun r q _ j=>by cases j),NC _,(fun _ h=>h.elim),(fun r p j=>by cases j)⟩;show RL w _ _ _ (cs.getD t .any);by_cases G:t<cs.length
  ·refine .val (Q t _ _ ?_ ?_)
   ·rw[Nw,Pt (by simp;omega)];simp[show t<z.length by omega]
   simp[List.getD,G]
  have:cs.getD t .any= .any:=by simp[List.getD,NI (RO G)]
  rw[this];exact .val (.any _)
 refine PS (h _ rfl rfl _ w _ J) ?_;rintro e x l ⟨y,m',x',i,u,C⟩
 have m:L9 P fn.results.toList res .normal y->LeavesInM Fence.wide 3 P fn x.tmps (fun e l=> ∃v,e= .returned v/\Below w.heap.size w l/\ ∃k,(∀b o,S b o->k b o)/\(∀b o,k b o->S b o\/w.heap.size<=b)/\(∀b o,k b o->b<l.heap.size)/\RR k l w.heap.size v res) x.defers .returning l:=fun i=>by
  obtain⟨a,i,R⟩:=(show ∃a,(aj P y.f fn.results.toList).run y=some a/\gA a res from i);obtain⟨A,d1,d2,d3⟩:=u.df;have M:x.defers=A.map K':=by rw[C.ZU,d1];exact OP _
  rw[M];refine nu (B:=w) (T:=S) (fun x'' Z E K g=> ?_) A x' l u.w u.S C d2 fun D I=> ?_
  ·obtain⟨v,k,U,H,p3,p4,p5⟩:=vX (fn:=fn) i g;rw[E]at p3 p5;rw[K]at H p3;exact⟨v,U,v,rfl,by have:=g.Z3;rw[E]at this;exact this,k,H,p3,p4,R _ _ _ _ p5⟩
  obtain⟨V,W,X,q4,Y⟩:=d3 D I;exact⟨V,W,by rw[u.w];exact X,Y⟩
 cases e with
 |normal=>exact m i
 |ret=>exact m i
 |_=>exact i.elim
end
/-! The statement itself -/
structure Sz(P:Program)(f:FuncId)(first:Array Value)(ks:List Value)(Tab:World->Prop):Prop where
 enter: ∀(args:Array Value)(w:World),(callFunc f args).run P w= .ok (.enter f args) w
 walk: ∀(l:Nat)(J:Nat->World->Prop)(w:World),(∀i W,J i W->Tab W)->(∀i W W',J i W->Below W.heap.size W W'->J i W')->
  (∀i W k,J i W->ks[i]? =some k->YieldAt Fence.wide 1 P l #[k] W fun e W'=>e= .returned (.bool true)/\J (i+1) W')->J 0 w->
  CallsIn Fence.wide 2 P f (first++ #[.func (.yield l) #[] #[]]) w fun e W'=>(∃v,e= .returned v)/\J ks.length W'
def Sz.mono{P:Program}{f:FuncId}{first:Array Value}{ks:List Value}{b a:World->Prop}(h:Sz P f first ks b)(e: ∀W,a W->b W):Sz P f first ks a:=
 ⟨h.enter,fun l J w c=>h.walk l J w fun i W d=>e W (c i W d)⟩
section
variable {P:Program} {env:b8} {nt:Nat} {Q:Exit->St->Prop} {s:St}
theorem EU{D:Type}{g p:Nat}{assign body:Code}{f:FuncId}{first:Array Value}{ks:List Value}(R:Nat->D->(Nat->Nat)->List (Nat×Row))(A:Nat->D->(Nat->Nat)->(Nat->Bool)->Prop)(d0:D)
 (y:s.f g= .lit (.func (.func f) first #[]))(hp:p<nt)(hit:Sz P f first ks env.inv)(h0:A 0 d0 s.vs s.esc)(hR:bw s (R 0 d0 s.vs))
 (round: ∀i d k vs esc,(∀r,s.vs r<=vs r)->A i d vs esc->ks[i]? =some k->
  fp P env nt assign (bD (fp P env nt body (bD (fun s1=> ∃S,A (i+1) S s1.vs s1.esc/\bw s1 (R (i+1) S s1.vs)) fun _ _=>False)) fun _ _=>False) ⟨mu s.f p (.lit k),ap (R i d vs),vs,esc⟩)
 (done: ∀d vs esc,(∀r,s.vs r<=vs r)->A ks.length d vs esc->Q .normal ⟨s.f,ap (R ks.length d vs),vs,esc⟩):xv P env nt (.rangeFunc (.tmp g) #[p] assign body) Q s:=fun x he hn a w m U=>by
 have hgv:a.eval (.tmp g)= .func (.func f) first #[]:=by
  have:=U.slot g;rw[y]at this;exact this.lit_
 refine wpIn_rangeFunc fun fn hfn=> ?_
 let u (st:LoopState):Obj:= .loop { state:=st,pending:=none,fn,tmps:=a.tmps,params:= #[p],assign,body,defers:=w.heap.size }
 let C:World:=(w.alloc (.deferred (some []))).alloc (u .ready)
 have hw2:Below w.heap.size w C:=((O1 _ w).alloc (NC _) _).alloc (by simp) _;have hsz:C.heap.size=w.heap.size+2:=by simp[C]
 have hD2:C.heap[w.heap.size]? =some (.deferred (some [])):=by
  rw[show C.heap[w.heap.size]? =(w.alloc (.deferred (some []))).heap[w.heap.size]? from Oo _ _ _ (by simp)];exact RZ w _
 have hl2:C.heap[w.heap.size+1]? =some (u .ready):=by
  have:=RZ (w.alloc (.deferred (some []))) (u .ready);rwa [World.size_alloc]at this
 refine⟨w.heap.size+1,[K' w.heap.size],C,⟨.fn (.func f) #[],first++ #[.func (.yield (w.heap.size+1)) #[] #[]]⟩,C,f,first++ #[.func (.yield (w.heap.size+1)) #[] #[]],C,?_,?_,fun _ _=>trivial,?_,fun h=>(by cases h),?_⟩
 ·rw[show (Sy none).round=none from rfl];exact run_enterLoop_outer fn a.tmps #[p] assign body
 ·have hc:a.eval (.const (.func (.yield (w.heap.size+1)) #[] #[]))= .func (.yield (w.heap.size+1)) #[] #[]:=rfl;simp[resolve,hgv,hc,Deferred.ofValue]
 ·simp[invoke,hit.enter]
 let a0:Act:={ a with defers:=[K' w.heap.size]++a.defers }
 let fx0:Nat->Prop:=fun b=>x.fx b\/b=w.heap.size
 have L: ∀b o,m.S b o->b<w.heap.size:=U.low;have hblk: ∀r j,s.rows r=some j-> ∀k,(m.ρ r).ownBlock=some k->k<w.heap.size:=fun r j q k hk=>((U.rows r j q).blk hk).2;have z:dT x s a C m:=U.called hw2 (fun _ _ h=>h) (fun _ _ h=> .inl h) fun b o h=>by have:=L b o h;omega
 let G:py:=x.again s C m fx0 ([K' w.heap.size]++x.df)
 have hS0:dT G s a0 C m:=z.take (fx:=fx0) (fun b l=>by
  rcases l with l|rfl
  ·exact⟨z.fxlt l,fun r j q y=>z.Z5 r j q b y l⟩
  exact⟨by omega,fun r j q y=>by have:=hblk r j q _ y;omega⟩) rfl (by show [K' w.heap.size]++a.defers=_;rw[U.ZU])
 have hM:M' x G:=by
  refine⟨rfl,rfl,rfl,rfl,?_,fun b l=>⟨.inl l,fun hlt=>⟨?_,fun o X=>(z.fix b l).2.2 o X⟩⟩,[w.heap.size],rfl,by simp,fun E hE=> ?_⟩
  ·exact z.ZY
  ·exact(z.fix b l).2.1
  obtain rfl:E=w.heap.size:=by simpa using hE
  exact⟨.inr rfl,hD2,U.Z3.size,U.ZY,fun o X=>by have:=L _ o X;omega⟩
 let st:Nat->D->(Nat->Nat)->(Nat->Bool)->St:=fun i d vs esc=>⟨s.f,ap (R i d vs),vs,esc⟩
 let J:Nat->World->Prop:=fun i W=> ∃d vs esc B,A i d vs esc/\(∀r,s.vs r<=vs r)/\dT G (st i d vs esc) a0 W B/\W.heap[w.heap.size+1]? =some (u .ready)/\(∀o,¬B.S (w.heap.size+1) o)/\ ∀r j,ap (R i d vs) r=some j->(B.ρ r).ownBlock≠some (w.heap.size+1)
 have hnx: ¬G.fx (w.heap.size+1):=fun l=>by
  rcases l with l|l
  ·have:=U.fxlt l;omega
  omega
 have Z:G.w.heap.size<=w.heap.size+1:=NK U.Z3.size (Nat.le_succ _);refine(hit.walk (w.heap.size+1) J C ?_ ?_ ?_ ?_).mono ?_
 ·rintro i W ⟨d,vs,esc,B,_,_,h,_⟩;have:=h.envOk.inv;rw[show G.env=env from he]at this;exact this
 ·rintro i W W' ⟨d,vs,esc,B,h1,h2,T,h4,h5,h6⟩ l;exact⟨d,vs,esc,B,h1,h2,T.called l (fun _ _ h=>h) (fun _ _ h=> .inl h) (fun b o h=>Oc (T.low b o h) l.size),(l.block _ (N2.1 h4).1).trans h4,h5,h6⟩
 ·rintro i W k ⟨d,vs,esc,B,h1,h2,T,h4,h5,h6⟩ hk;refine⟨fn,_,assign,body,run_yield h4 rfl,roundIn_of_wpIn trivial ?_⟩;have hact:(⟨(#[p].zip #[k]).foldl (fun N (t,a)=>N.setIfInBounds t a) a.tmps,[]⟩:Act)=(⟨a.tmps,[]⟩:Act).put (some p) k:=by simp[Act.put]
  show Code.wpIn _ _ _ _ _ (⟨(#[p].zip #[k]).foldl (fun N (t,a)=>N.setIfInBounds t a) a.tmps,[]⟩:Act) W;rw[hact]
  let H:Nat->Prop:=fun b=>G.fx b\/b=w.heap.size+1
  have hlW:w.heap.size+1<W.heap.size:=(N2.1 h4).1
  have hS1:dT (G.again (st i d vs esc) W B H []) (st i d vs esc) ⟨a.tmps,[]⟩ W B:=T.take (fx:=H) (fun b l=>by
   rcases l with l|rfl
   ·exact⟨T.fxlt l,fun r j q y=>T.Z5 r j q b y l⟩
   exact⟨hlW,h6⟩) rfl rfl
  have hS1':=hS1.put (some p) (fun t ht=>by cases ht;exact hn ▸ hp) (v:=k) (c:= .lit k) (.val (.lit k));have hstate:(st i d vs esc).put (some p) (.lit k)=⟨mu s.f p (.lit k),ap (R i d vs),vs,esc⟩:=rfl;rw[hstate]at hS1';refine F7 (ro:=some (w.heap.size+1)) (n:=3) (PS (round i d k vs esc h2 h1 hk (some (w.heap.size+1)) (G.again (st i d vs esc) W B H []) he hn _ W B hS1') ?_);rintro e a1 W1 ⟨s1,m1,g1,g2⟩;cases e with
  | normal=>
    obtain⟨-,K,I⟩:=g2.fix (w.heap.size+1) (.inr rfl);have K:W1.heap[w.heap.size+1]? =some (u .ready):=K.trans h4;have I: ∀o,¬m1.S (w.heap.size+1) o:=fun o X=>h5 o (I o X);have hr1: ∀r j,s1.rows r=some j->(m1.ρ r).ownBlock≠some (w.heap.size+1):=fun r j q y=>g2.Z5 r j q _ y (.inr rfl);refine⟨_,run_beginRound K rfl,?_⟩;have hU2:=(T.untake g2 (fun b l=> .inl l) rfl rfl).turned (.loop { state:= .busy,pending:=none,fn,tmps:=a.tmps,params:= #[p],assign,body,defers:=w.heap.size }) Z I hnx hr1
    have hI:=((g2.fewer G.fx fun b l=> .inl l).turned (.loop { state:= .busy,pending:=none,fn,tmps:=a.tmps,params:= #[p],assign,body,defers:=w.heap.size }) Z I hnx hr1).take (fx:=H) (fun b l=>by
     rcases l with l|rfl
     ·exact⟨hU2.fxlt l,fun r j q y=>hU2.Z5 r j q b y l⟩
     exact⟨by rw[World.putObj_size];exact(N2.1 K).1,hr1⟩) rfl g2.ZU
    refine F7 (ro:=some (w.heap.size+1)) (n:=3) (PS ((show fp P env nt body _ s1 from g1) (some (w.heap.size+1)) (G.again s1 (W1.putObj (w.heap.size+1) (.loop { state:= .busy,pending:=none,fn,tmps:=a.tmps,params:= #[p],assign,body,defers:=w.heap.size })) m1 H []) he hn _ _ m1 hI) ?_);rintro e a2 W3 ⟨O,m2,k1,k2⟩;cases e with
    | normal=>
      obtain⟨S,q1,q2⟩:=(show ∃S,A (i+1) S O.vs O.esc/\bw O (R (i+1) S O.vs) from k1);obtain⟨-,Y,V⟩:=k2.fix (w.heap.size+1) (.inr rfl);have Y:W3.heap[w.heap.size+1]? =some (u .busy):=Y.trans (World.putObj_heap_same (N2.1 K).1);have V: ∀o,¬m2.S (w.heap.size+1) o:=fun o X=>I o (V o X);have hr3: ∀r j,O.rows r=some j->(m2.ρ r).ownBlock≠some (w.heap.size+1):=fun r j q y=>k2.Z5 r j q _ y (.inr rfl);have M:=(dR (s:=O) (F:=[]) (R:=R (i+1) S O.vs) trivial q2).rows;refine⟨_,_,run_endRound none Y,rfl,S,O.vs,O.esc,m2,q1,fun r=>NK (h2 r) (NK (g2.ZQ r) (k2.ZQ r)),?_,World.putObj_heap_same (N2.1 Y).1,V,fun r j q y=> ?_⟩
      ·exact((hU2.untake k2 (fun b l=> .inl l) rfl rfl).turned _ Z V hnx hr3).less ⟨fun t=> .inl rfl,M,rfl,rfl⟩
      rcases M r with h|h
      ·exact hr3 r j (h.symm.trans q) y
      have h:ap (R (i+1) S O.vs) r=none:=h;rw[h]at q;cases q
    |_=>exact k1.elim
  |_=>exact g1.elim
 ·have M:=(dR (s:=s) (F:=[]) (R:=R 0 d0 s.vs) trivial hR).rows;have hless:SM s (st 0 d0 s.vs s.esc):=⟨fun t=> .inl rfl,M,rfl,rfl⟩;refine⟨d0,s.vs,s.esc,m,h0,fun _=>NC _,hS0.less hless,hl2,fun o X=>by have:=L _ o X;omega,fun r j q y=> ?_⟩;rcases M r with h|h
  ·have:=hblk r j (h.symm.trans q) _ y;omega
  have h:ap (R 0 d0 s.vs) r=none:=h;rw[h]at q;cases q
 rintro e W ⟨⟨v,rfl⟩,d,vs,esc,B,h1,h2,T,h4,h5,h6⟩;refine⟨none,_,run_endLoop h4 (by simp),?_⟩;refine⟨st ks.length d vs esc,B,G,done d vs esc h2 h1,hM,T.turned _ Z h5 hnx h6⟩
end
/-! Rows that freeze, by their contents -/
def n7(vs:Nat->Nat)(R:List (Nat×Row)):List (Nat×Nat×AV):=R.map fun p=>(p.1,vs p.1, .seq p.2.sz p.2.es)
def xI{s:St} : ∀ {R:List (Nat×Row)},bw s R-> ∀p∈R,s.rows p.1=some p.2
 |[],_,p,hp=>by cases hp
 | q::R,h,p,hp=>by
   rcases NV.1 hp with rfl|hp
   ·exact h.1
   exact xI h.2 p hp
def bk{P:Program}{env:b8}{nt:Nat}{c:Code}{Q:Exit->St->Prop}{s:St}(R:List (Nat×Row))(hR:bw s R)(h:fp P env nt c Q (kk s (n7 s.vs R)))(hp:(R.all fun p=>p.2.pure&&p.2.sz != 0)=true:=by rfl):fp P env nt c Q s:=
 Jn (n7 s.vs R) (fun q hq=>by
  obtain⟨p,h1,rfl⟩:=NE.1 hq;have:=Mz.1 hp p h1;rw[Mu,RG]at this
  exact⟨rfl,p.2,xI hR p h1,this.2,this.1,rfl⟩) h
end
section
open Go.RowKit Go.Shelf
def sy(n:Nat):List Int:=((List.range 32).filter fun(i:Nat)=>n/2^i%2==1).map fun(i:Nat)=>(i:Int)
def oG(p q:Nat->Bool)(k:Nat)(c: ∀i,i<k->p i=false)(d:p k=true)(a: ∀i,i<=k->q i=false)(f: ∀i,k<i->p i=q i): ∀N,((k<N->(List.range N).filter p=k::(List.range N).filter q)/\(N<=k->(List.range N).filter p=[]/\(List.range N).filter q=[]))
 |0=>⟨fun h=>by omega,fun _=>⟨rfl,rfl⟩⟩
 | N+1=>by
   have b:=oG p q k c d a f N;refine⟨fun h=> ?_,fun h=> ?_⟩
   ·rw[PN,N5,N5];by_cases e:N=k
    ·subst e;have:=b.2 (NC _);rw[this.1,this.2];simp[d,a N (NC _)]
    have:=b.1 (by omega);rw[this];simp[Oz,f N (by omega)]
   have:=b.2 (by omega);rw[PN,N5,N5,this.1,this.2];simp[c N (by omega),a N (by omega)]
def Su(k m i:Nat):(2^k*(2*m+1))/2^i%2=if i<k then 0 else if i=k then 1 else(2^k*(2*m))/2^i%2:=by
 by_cases h:i<k
 ·rw[Mw h]
  have e:2^k=2^i*(2*2^(k-i-1)):=by
   rw[<-Nat.pow_succ', <-Nat.pow_add]
   congr 1
   omega
  rw[e,RP,Qr _ (Qs (by decide)),RP,Nat.mul_mod_right]
 rw[Mt h];by_cases a:i=k
 ·subst a;rw[Mw rfl,Qr _ (Qs (by decide))];omega
 rw[Mt a]
 have e:2^i=2^k*(2*2^(i-k-1)):=by
  rw[<-Nat.pow_succ', <-Nat.pow_add]
  congr 1
  omega
 rw[e,Nat.mul_div_mul_left _ _ (Qs (by decide)),Nat.mul_div_mul_left _ _ (Qs (by decide)), <-Nat.div_div_eq_div_mul, <-Nat.div_div_eq_div_mul]
 congr 2
 omega
def J9(k m i:Nat)(h:i<=k):(2^k*(2*m))/2^i%2=0:=by
 have e:2^k=2^i*2^(k-i):=by
  rw[<-Nat.pow_add]
  congr 1
  omega
 rw[e,RP,Qr _ (Qs (by decide)), <-RP,P3 _ 2,RP,Nat.mul_mod_right]
def GZ(k m:Nat)(b:k<32):sy (2^k*(2*m+1))=(k:Int)::sy (2^k*(2*m)):=by
 unfold sy
 have:=(oG (fun i=>(2^k*(2*m+1))/2^i%2==1) (fun i=>(2^k*(2*m))/2^i%2==1) k
  (fun i a=>by simp only[Su,Mw a];rfl) (by simp[Su]) (fun i a=>by simp only[J9 k m i a];rfl) (fun i a=>by simp only[Su];rw[Mt (by omega),Mt (by omega)]) 32).1 b
 rw[this];rfl
def Cu:sy 0=[]:=by decide+kernel
def ofInt_u32(a:Nat)(b:a<4294967296):(BitVec.ofInt 32 (a:Int)).toNat=a:=by
 rw[R3,BitVec.toNat_ofNat];exact RH (by omega)
def u32_and(a b:Nat)(c:a<4294967296)(d:b<4294967296):bits .and .u32 (a:Int) (b:Int)=((a&&& b:Nat):Int):=by
 have e:a&&& b<2^32:=Nat.and_lt_two_pow _ (by omega);show IntKind.u32.wrap ((BitVec.ofInt 32 (a:Int)&&& BitVec.ofInt 32 (b:Int)).toNat:Int)=_;rw[BitVec.toNat_and,ofInt_u32 a c,ofInt_u32 b d,Qa];omega
def wg(w:World):Prop:= ∀j,j<32->w.cell? ⟨10,j,none⟩=some (.int .u8 ((Lib.deBruijn32tab.getD j 0:Nat):Int))
def wg.below{w a:World}(h:wg w)(b:Below w.heap.size w a):wg a:=fun j c=>dj (h j c) b
def Lp(x:Nat)(h0:x≠0)(hx:x<4294967296)(w:World)(hT:wg w):
 Calls prog 149 #[.int .u32 x] w fun e w'=>e= .returned (.int .i64 (Lib.ctz 32 x:Nat))/\w=w':=by
 obtain⟨hl,hk⟩:=Lib.lowest_bit 32 x h0 hx;obtain⟨hi,ht⟩:=Lib.deBruijn32_at _ hk;have hc:=hT _ hi;rw[ht]at hc;have e0:((x:Int)==0)=false:=by rw[Oy];omega
 have e1:IntKind.u32.wrap (-(x:Int))=((2^32-x:Nat):Int):=by rw[Qa];omega
 have e2:bits .and .u32 (x:Int) ((2^32-x:Nat):Int)=((2^Lib.ctz 32 x:Nat):Int):=by rw[u32_and _ _ hx (by omega),hl]
 generalize Lib.ctz 32 x=k at*
 have hp:2^k<=2147483648:=by
  have:2^k<=2^31:=R4 (by decide) (by omega);omega
 try clear ht hl h0 hT
 generalize 2^k=q at*
 go_enter func149,ntmps149
 go_wp2
 go_ret
 exact⟨rfl,rfl⟩
def Az(k m:Nat)(n:k<32)(h:2^k*(2*m+1)<4294967296):bits .andNot .u32 ((2^k*(2*m+1):Nat):Int) ((2^k:Nat):Int)=((2^k*(2*m):Nat):Int):=by
 have o:0<2^k:=Qs (by decide)
 have l:2^k<4294967296:=by
  have:2^k<=2^31:=R4 (by decide) (by omega);omega
 have d:2^k*(2*m+1)=2^k*(2*m)+2^k:=by rw[Nat.mul_add,Q7]
 have b:(BitVec.ofInt 32 ((2^k*(2*m+1):Nat):Int)&&& ~~~ BitVec.ofInt 32 ((2^k:Nat):Int))=BitVec.ofNat 32 (2^k*(2*m)):=by
  apply BitVec.eq_of_getLsbD_eq;intro i c;rw[BitVec.getLsbD_and,BitVec.getLsbD_not,R3,R3,R5,R5,R5];have e:(2^k*(2*m+1)).testBit i=(decide (k<=i)&&(2*m+1).testBit (i-k)):=by rw[P3];exact Nat.testBit_mul_two_pow _ _ _
  have f:(2^k*(2*m)).testBit i=(decide (k<=i)&&(2*m).testBit (i-k)):=by rw[P3];exact Nat.testBit_mul_two_pow _ _ _
  rw[e,f,QI];by_cases a:k<=i
  ·by_cases g:i=k
   ·subst g;simp[c]
   obtain⟨j,rfl⟩: ∃j,i=k+(j+1):=⟨i-k-1,by omega⟩;simp[c,Nat.testBit_succ,show k+(j+1)-k=j+1 by omega,show (2*m+1)/2=m by omega]
  simp[a]
 show IntKind.u32.wrap ((BitVec.ofInt 32 ((2^k*(2*m+1):Nat):Int)&&& ~~~ BitVec.ofInt 32 ((2^k:Nat):Int)).toNat:Int)=_;rw[b,BitVec.toNat_ofNat,RH (by omega),Qa];omega
def jQ(k:Nat)(a:k<32):2^k<4294967296:=by
 have:2^k<=2^31:=R4 (by decide) (by omega);omega
def ED(n:Nat)(hn:n<4294967296):Sz prog 83 #[.int .u32 n] ((sy n).map (Value.int .i64)) wg:=by
 refine⟨Rb func83 (by kernel_rfl) rfl,fun l J w hT hB hY h0=> ?_⟩;refine callsIn_of_wp func83 rfl trivial ?_ rfl;simp only[ntmps83,PD,NN,Pq,Nat.reduceAdd,Nat.reduceSub,Array.replicate_succ,Array.replicate_zero,List.push_toArray,List.append_toArray,PX,Rw]
 gi_wp2
 gi_loopw [0] (fun v0 wr=> ∃(cur i:Nat),cur<=n/\i<=(sy n).length/\v0= .int .u32 cur/\sy cur=(sy n).drop i/\J i wr) (fun v0 _=>(intOf v0).toNat)
 case atStart=>exact⟨n,0,NC _,NG _,rfl,rfl,h0⟩
 case round=>
  obtain⟨cur,i,hc,hil,rfl,hs,hJ⟩:=hrel;by_cases hz:cur=0
  ·subst hz;rw[Cu]at hs;obtain rfl:i=(sy n).length:=Qk hil (List.drop_eq_nil_iff.1 hs.symm)
   gi_wp2
   go_end0
   exact⟨⟨_,rfl⟩,by rw[NQ];exact hJ⟩
  obtain⟨m,hm,hk⟩:=Lib.ctzFrom_spec 32 cur (by omega) (by omega);have hcz:Lib.ctz 32 cur=Lib.ctzFrom 32 cur:=by simp[Lib.ctz,hz]
  rw[<-hcz]at hm hk;have hs2:=GZ (Lib.ctz 32 cur) m hk;rw[<-hm]at hs2;have hpos:0<2^Lib.ctz 32 cur:=Qs (by decide)
  have hsub:cur=2^Lib.ctz 32 cur*(2*m)+2^Lib.ctz 32 cur:=by
   have:=hm;rw[Nat.mul_add,Q7]at this;exact this
  have e0:((cur:Int) != 0)=true:=by rw[RG];omega
  have hlen:i< (sy n).length:=by
   have:=N6 List.length (hs2.symm.trans hs);simp at this;omega
  have hki:(sy n)[i]? =some ((Lib.ctz 32 cur:Nat):Int):=by
   have:=N6 (·[0]?) (hs2.symm.trans hs);simp only[Nr,OL,PY]at this;exact this.symm
  have hs3:sy (2^Lib.ctz 32 cur*(2*m))=(sy n).drop (i+1):=by
   have:=N6 List.tail (hs2.symm.trans hs);rw[SH,List.tail_drop]at this;exact this
  have hTab:=hT i wr hJ;have hY:=hY i wr (.int .i64 ((Lib.ctz 32 cur:Nat):Int)) hJ (by rw[NB,hki];rfl);have hp2:=jQ _ hk
  have e1:(2:Int)^Lib.ctz 32 cur%4294967296=((2^Lib.ctz 32 cur:Nat):Int):=by
   rw[R7];have:((2^Lib.ctz 32 cur:Nat):Int)<4294967296:=by omega
   rw[R7]at this;exact Int.emod_eq_of_lt (by exact_mod_cast NG _) this
  have e2:bits .andNot .u32 (cur:Int) ((2^Lib.ctz 32 cur:Nat):Int)=((2^Lib.ctz 32 cur*(2*m):Nat):Int):=by
   have:=Az (Lib.ctz 32 cur) m hk (by omega);rw[<-hm]at this;exact this
  obtain⟨fn,tmps,assign,body,hy,hR⟩:=hY;generalize hkk:Lib.ctz 32 cur=k at*;have hkk':=N9 hkk;have hsub':=N9 hsub;try clear hkk hs2 hcz hs hm hsub
  generalize 2^k*(2*m)=nx at*;generalize hq:2^k=q at*
  gi_wp2_with (first|(refine⟨trivial,?_⟩;gi_at_call 149;refine(Ry.2 (Lp cur hz (by omega) _ hTab)).mono ?_;rintro e w' ⟨rfl,rfl⟩;rw[hkk'.out]))
  refine hR.mono ?_;rintro e W3 ⟨rfl,hJ3⟩
  gi_wp2
  have hsub:=hsub'.out;exact⟨⟨nx,i+1,by omega,by omega,rfl,hs3,hJ3⟩,by show ((nx:Int)).toNat< ((cur:Int)).toNat;omega⟩
end
section
open Go.RowKit
def zX:List UInt8->Nat
 |[]=>0
 |c::r=>c.toNat+256*zX r
def T6(a:List UInt8)(at_ b:Nat):List UInt8:=(a.drop at_).take b
end
end Go.Proofs.YtfhkmjbjafeckaaGreatDoor
