/- Contracts of the small functions on numbers and of errors that are made. -/
import Derived.Test.YtfcdkaolcdglmaaGreatDoorP8
import Derived.Lib.TrailingZeros
import Derived.RangeFuncNested
import Derived.RangeFuncBound
import Derived.Shelf.RegionOpen
import Derived.OwnWalkIn
import Derived.LoopNIn
set_option linter.unusedSimpArgs false
set_option maxRecDepth 100000
set_option maxHeartbeats 2000000
set_option linter.defProp false
namespace Go.Proofs.YtfcdkaolcdglmaaGreatDoor
open Go.Proofs.Tryz
section
open Go.RowKit
def AV.see(g gm:Nat->Nat->Option AV):AV->AV
 | .row r ver=>(g r ver).getD (.row r ver)
 | .mp r ver=>(gm r ver).getD (.mp r ver)
 | .agg cs=> .agg (seeL g gm cs)
 | .tuple cs=> .tuple (seeL g gm cs)
 | .clo f cs=> .clo f (seeL g gm cs)
 |c=>c
where seeL (g gm:Nat->Nat->Option AV):List AV->List AV
 |[]=>[]
 |c::cs=>c.see g gm::seeL g gm cs
def iQ(g gm:Nat->Nat->Option AV): ∀cs,(AV.see.seeL g gm cs).length=cs.length
 |[]=>rfl
 |c::cs=>by simp[AV.see.seeL,iQ g gm cs]
def kV(g gm:Nat->Nat->Option AV): ∀(cs:List AV)(i:Nat)(c:AV),(AV.see.seeL g gm cs)[i]? =some c-> ∃a,cs[i]? =some a/\c=a.see g gm
 |[],i,c,h=>by simp[AV.see.seeL]at h
 | d::cs,i,c,h=>by
   cases i with
   |zero=>simp[AV.see.seeL]at h;exact⟨d,rfl,h.symm⟩
   | succ i=>
     obtain⟨a,b,e⟩:=kV g gm cs i c (by simpa[AV.see.seeL]using h);exact⟨a,by simpa using b,e⟩
def RV.see{S:Nat->Nat->Prop}{w:World}{v:Value}{c:AV}(g gm:Nat->Nat->Option AV)(h:RV S w v c):RV S w v (c.see g gm):=by
 induction h with
 |any v=>exact .any v
 |lit v=>exact .lit v
 | agg C s h J q e=>
   refine .agg C _ (by rw[iQ];exact h) J fun i v c m a=> ?_;obtain⟨r,B,rfl⟩:=kV g gm s i c a;exact e i v r m B
 | tuple C s h q e=>
   refine .tuple C _ (by rw[iQ];exact h) fun i v c m a=> ?_;obtain⟨r,B,rfl⟩:=kV g gm s i c a;exact e i v r m B
 |iface t v c h e=>exact .iface t v c h
 |seq A n j p d b o u E y D z q G e=>exact .seq A n j p d b o u E y D z q G
 |ref p d i off b o u z q G e=>exact .ref p d i off b o u z q G
 |fmap H x l d I K E z L m _ _=>exact .fmap H x l d I K E z L m
 |full A n p d h _=>exact .full A n p d h
 |news A n k j p d D h _=>exact .news A n k j p d D h
 | clo f C s h q e=>
   refine .clo f C _ (by rw[iQ];exact h) fun i v c m a=> ?_;obtain⟨r,B,rfl⟩:=kV g gm s i c a;exact e i v r m B
section
variable {w:World} {m m':k9} {s s':St} {g gm:Nat->Nat->Option AV}
theorem RL.see{v:Value}{c:AV}(B: ∀b o,m.S b o->m'.S b o)(e: ∀ {v:Value}{c:AV},RL w m s v c->RL w m' s' v c)
 (D: ∀r a y,g r a=some y-> ∀v,RL w m s v (.row r a)->RL w m' s' v y)(x: ∀r a y,gm r a=some y-> ∀v,RL w m s v (.mp r a)->RL w m' s' v y)(h:RL w m s v c):RL w m' s' v (c.see g gm):=by
 induction h with
 |val h=>exact .val ((h.mono fun b o C=>⟨B b o C, .rfl⟩).see g gm)
 | agg u n h j A q=>
   refine .agg u _ (by rw[iQ];exact h) j fun i v c p k=> ?_;obtain⟨l,t,rfl⟩:=kV g gm n i c k;exact q i v l p t
 | tuple u n h A q=>
   refine .tuple u _ (by rw[iQ];exact h) fun i v c p k=> ?_;obtain⟨l,t,rfl⟩:=kV g gm n i c k;exact q i v l p t
 | clo f u n h A q=>
   refine .clo f u _ (by rw[iQ];exact h) fun i v c p k=> ?_;obtain⟨l,t,rfl⟩:=kV g gm n i c k;exact q i v l p t
 | row r a j d h=>
   unfold AV.see;cases z:g r a with
   |none=>exact e (.row r a j d h)
   |some y=>exact D r a y z _ (.row r a j d h)
 |sub r a E j d h=>exact e (.sub r a E j d h)
 |loc r a i off j d h=>exact e (.loc r a i off j d h)
 | mp r a j d h=>
   unfold AV.see;cases z:gm r a with
   |none=>exact e (.mp r a j d h)
   |some y=>exact x r a y z _ (.mp r a j d h)
end
def Row.see(g gm:Nat->Nat->Option AV)(row:Row):Row:=if row.pure then row else { row with es:=row.es.map (·.map (AV.see g gm)) }
section
variable (g gm:Nat->Nat->Option AV) (row:Row)
theorem Row.see_sz:(row.see g gm).sz=row.sz:=by unfold Row.see;split<;>rfl
theorem Row.see_e:(row.see g gm).e=row.e:=by unfold Row.see;split<;>rfl
theorem Row.see_pure:(row.see g gm).pure=row.pure:=by unfold Row.see;split<;>rfl
theorem Row.see_len:(row.see g gm).es.length=row.es.length:=by unfold Row.see;split<;>simp
theorem Row.see_at{i j:Nat}{c:AV}(h:bt (row.see g gm).es i j=some c): ∃a,bt row.es i j=some a/\c=(if row.pure then a else a.see g gm):=by
 unfold Row.see at h;split at h
 ·rename_i d;exact⟨c,h,by rw[OL d]⟩
 ·rename_i d;unfold bt at h |-;simp only[OS]at h;cases f:row.es[i]? with
  |none=>rw[f]at h;cases h
  | some e=>
    rw[f]at h;simp only[O0,Oo,OS]at h;cases b:e[j]? with
    |none=>rw[b]at h;cases h
    |some a=>rw[b]at h;cases h;exact⟨a,b,by rw[OK d]⟩
theorem Row.see_els{n:Nat}(b: ∀(i:Nat)(e:List AV),row.es[i]? =some e->e.length=n)(i:Nat)(e:List AV)(h:(row.see g gm).es[i]? =some e):e.length=n:=by
 unfold Row.see at h;split at h
 ·exact b i e h
 ·simp only[OS]at h;cases a:row.es[i]? with
  |none=>rw[a]at h;cases h
  |some c=>rw[a]at h;cases h;simpa using b i c a
end
def gX.see{base:Nat}{w:World}{m m':k9}{s s':St}{r:Nat}{row:Row}{g gm:Nat->Nat->Option AV}(h:gX base w m s r row)(J: ∀b o,m.S b o->m'.S b o)
 (L: ∀ {v:Value}{c:AV},RL w m s v c->RL w m' s' v (c.see g gm))(f:m'.ρ r=m.ρ r)(K:s'.esc r=s.esc r)(D: ∀d,(m.ρ r).ownBlock=some d-> ∀o,m'.S d o->m.S d o):gX base w m' s' r (row.see g gm):=by
 have l: ∀b o,m.S b o->m'.S b o/\k0 w w b o:=fun b o V=>⟨J b o V, .rfl⟩;rcases h with h|h
 ·refine .inl ⟨by rw[Row.see_sz];exact h.pos,fun i e t=>by rw[Row.see_sz];exact Row.see_els g gm row h.len i e t,?_,?_,?_,?_⟩
  ·obtain⟨X,S,T,U⟩:=h.own;refine⟨X,by rw[Row.see_e,Row.see_sz,Row.see_len,f];exact S,T,fun i j c W=> ?_⟩;obtain⟨M,z,A⟩:=Row.see_at g gm row W;obtain⟨u,B,k⟩:=U i j M z;refine⟨u,by rw[Row.see_sz];exact B,?_⟩;rw[Row.see_pure];subst A;cases p:row.pure with
   |true=>rw[p]at k;simp only[PW]at k |-;exact k.mono l
   |false=>rw[p]at k;simp only[On,P8]at k |-;exact L k
  ·rw[K,f,Row.see_len,Row.see_sz];exact fun e d a o E=>J d o (h.esc e d a o E)
  ·rw[f,Row.see_len,Row.see_sz];exact fun d a o E t=>h.spare d a o E (D d a o t)
  rw[K,f];exact fun e d a o t=>h.fresh e d a o (D d a o t)
 obtain⟨b,y,q,O,P,Q,R,I⟩:=h.own;refine .inr ⟨by rw[Row.see_sz];exact h.sz,⟨b,y,q,f.trans O,P,Q,by rw[Row.see_len];exact R,fun i e n=> ?_⟩,fun d a o t=>h.fresh d (by rw[<-f];exact a) o (D d (by rw[<-f];exact a) o t)⟩;unfold Row.see at n;split at n
 ·rename_i p;obtain⟨C,G,H,z,A,B,k⟩:=I i e n;rw[OL p]at k;exact⟨C,G,H,z,A,B.mono l,by rw[Row.see_pure,OL p];exact k.mono l⟩
 ·rename_i p;simp only[OS]at n;cases x:row.es[i]? with
  |none=>rw[x]at n;cases n
  | some N=>
    rw[x]at n;cases n;obtain⟨C,G,H,z,A,B,k⟩:=I i N x;rw[OK p]at k;subst A;refine⟨C,G.see g gm,H.see g gm,z,rfl,(B.mono l).see g gm,?_⟩;rw[Row.see_pure,OK p];exact L k
def dk.seen{x:rk}{s s':St}{a:Act}{w:World}{m:k9}{g gm:Nat->Nat->Option AV}(S':Nat->Nat->Prop)(h:dk x s a w m)(n: ∀b o,m.S b o->S' b o)(j: ∀b o,S' b o->m.S b o\/(x.w.heap.size<=b/\b<w.heap.size))
 (p:s'.vs=s.vs)(l: ∀t,s'.f t=(s.f t).see g gm)(d: ∀r row',s'.rows r=some row'-> ∃row,s.rows r=some row/\row'=row.see g gm/\s'.esc r=s.esc r/\ ∀u,(m.ρ r).ownBlock=some u-> ∀o,S' u o->m.S u o)
 (N: ∀r f y,g r f=some y-> ∀v,RL w m s v (.row r f)->RL w ⟨S',m.ρ⟩ s' v y)(C: ∀r f y,gm r f=some y-> ∀v,RL w m s v (.mp r f)->RL w ⟨S',m.ρ⟩ s' v y)(B: ∀b,x.fx b-> ∀o,S' b o->m.S b o):dk x s' a w ⟨S',m.ρ⟩:=by
 have E: ∀r row',s'.rows r=some row'-> ∃row,s.rows r=some row/\row.sz=row'.sz/\m.ρ r=m.ρ r:=fun r row' i=>by
  obtain⟨row,q,D,_⟩:=d r row' i;exact⟨row,q,by rw[D,Row.see_sz],rfl⟩
 have G: ∀ {v:Value}{c:AV},RL w m s v c->RL w ⟨S',m.ρ⟩ s' v (c.see g gm):=fun e=>e.see (m':=⟨S',m.ρ⟩) n (fun e=>e.mono (fun b o A=>⟨n b o A, .rfl⟩) (fun r=>by rw[p];exact OO _) fun r row' _ i=>E r row' i) N C;have z: ∀b o,m.S b o->S' b o/\k0 w w b o:=fun b o A=>⟨n b o A, .rfl⟩;have H: ∀r,s.vs r<=s'.vs r:=fun r=>by rw[p];exact OO _
 refine⟨h.bel,fun b o e=> ?_,fun b o e=>n b o (h.ZR b o e),fun b o e=> ?_,h.env,h.ZV,h.ZU,h.ZT,h.ZP,fun t=>by rw[l];exact G (h.slot t),fun r row' i=> ?_,fun r I row row' L M=> ?_,h.toS (m':=⟨S',m.ρ⟩) z,h.toV H,h.toK (m':=⟨S',m.ρ⟩) H fun r row' _ i=>E r row' i,h.ZX,fun b l=>⟨(h.fix b l).1,(h.fix b l).2.1,fun o e=>(h.fix b l).2.2 o (B b l o e)⟩,fun r row' i=> ?_⟩
 ·rcases j b o e with k|k
  ·exact h.low b o k
  exact k.2
 ·rcases j b o e with k|k
  ·exact h.sub b o k
  exact .inr k.1
 ·obtain⟨row,q,D,O,P⟩:=d r row' i;rw[D];exact(h.rows r row q).see (m':=⟨S',m.ρ⟩) n G rfl O P
 ·obtain⟨Q,J,_⟩:=d r row L;obtain⟨R,K,_⟩:=d I row' M;exact h.inj r I Q R J K
 obtain⟨row,q,_⟩:=d r row' i;exact h.Z3 r row q
/-! Rows that freeze -/
def iE:List (Nat×Nat×AV)->Nat->Nat->Option AV
 |[],_,_=>none
 |p::L,r,a=>if r=p.1/\a=p.2.1 then some p.2.2 else iE L r a
def vl{r a:Nat}{y:AV} : ∀ {L:List (Nat×Nat×AV)},iE L r a=some y->(r,a,y)∈L
 |[],h=>by cases h
 | p::L,h=>by
   unfold iE at h;split at h
   ·rename_i e;cases h;obtain⟨b,c⟩:=e;subst b c;exact Rh ..
   exact Pi _ (vl h)
def rU(s:St)(L:List (Nat×Nat×AV)):Prop:= ∀p∈L,s.vs p.1=p.2.1/\ ∃row,s.rows p.1=some row/\row.sz≠0/\row.pure=true/\p.2.2= .seq row.sz row.es
def l5(s:St)(L:List (Nat×Nat×AV)):St:=⟨fun t=>(s.f t).see (iE L) fun _ _=>none,fun r=>(s.rows r).map (Row.see (iE L) fun _ _=>none),s.vs,fun r=>s.esc r||L.any fun p=>p.1==r⟩
def dk.shows{x:rk}{a:Act}{w:World} : ∀(L:List (Nat×Nat×AV)){s:St}{m:k9},dk x s a w m->rU s L->
 ∃S',dk x { s with esc:=fun r=>s.esc r||L.any fun p=>p.1==r } a w ⟨S',m.ρ⟩/\(∀b o,m.S b o->S' b o)/\ ∀p∈L,RV S' w (m.ρ p.1) p.2.2
 |[],s,m,h,_=>⟨m.S,by simpa using h,fun _ _ h=>h,fun p y=>by simp at y⟩
 | p::L,s,m,h,g=>by
   obtain⟨_,row,n,t,u,v⟩:=g p (by simp);obtain⟨D,z,A,B⟩:=h.show p.1 row n t u;have d:rU (s.show p.1) L:=fun q c=>g q (Pi _ c);obtain⟨k,i,j,C⟩:=dk.shows L z d;refine⟨k,?_,fun b o f=>j b o (A b o f),fun q c=> ?_⟩
   ·have e:({ s.show p.1 with esc:=fun r=>(s.show p.1).esc r||L.any fun p=>p.1==r } :St)={ s with esc:=fun r=>s.esc r||(p::L).any fun p=>p.1==r } :=by
     simp only[St.show,St.mk.injEq,true_and]
     funext r
     simp only[Sd];by_cases e:r=p.1
     ·subst e;simp[aE]
     rw[ct _ _ _ e];have:(p.1==r)=false:=by simpa using fun l=>e l.symm
     rw[this,Qq]
    rw[e]at i;exact i
   rcases O7.1 c with rfl|c
   ·rw[v];exact B.mono fun b o f=>⟨j b o f, .rfl⟩
   exact C q c
def dk.sees{x:rk}{s:St}{a:Act}{w:World}{m:k9}(h:dk x s a w m)(L:List (Nat×Nat×AV))(e:rU s L): ∃S',dk x (l5 s L) a w ⟨S',m.ρ⟩:=by
 obtain⟨S',n,q,o⟩:=h.shows L e;refine⟨S',dk.seen (m:=⟨S',m.ρ⟩) (s':=l5 s L) (g:=iE L) (gm:=fun _ _=>none) S' n (fun _ _ h=>h) (fun _ _ h=> .inl h) rfl (fun t=>rfl) (fun r i b=> ?_) (fun r p y d v l=> ?_) (fun _ _ _ d=>by cases d) fun _ _ _ h=>h⟩
 ·simp only[l5]at b;cases c:s.rows r with
  |none=>rw[c]at b;cases b
  | some row=>
    rw[c]at b;cases b;exact⟨row,by first|exact c|rfl,rfl,rfl,fun _ _ _ h=>h⟩
 have f:=vl d;obtain⟨j,row,k,_⟩:=e _ f;have:=l.row_.2 j row k;rw[this];exact .val (o _ f)
def KZ{P:Program}{env:b7}{nt:Nat}{c:Code}{Q:Exit->St->Prop}{s:St}(L:List (Nat×Nat×AV))(b:rU s L)(h:gu P env nt c Q (l5 s L)):gu P env nt c Q s:=fun g x f e a w m d=>by
 obtain⟨i,k⟩:=d.sees L b;exact h g x f e a w _ k
/-! Maps that freeze -/
def zA(s:St)(r:Nat)(y:AV):St:=⟨fun t=>(s.f t).see (fun _ _=>none) fun b a=>if b=r/\a=s.vs r then some y else none,fun k=>if k=r then none else(s.rows k).map (Row.see (fun _ _=>none) fun b a=>if b=r/\a=s.vs r then some y else none),s.vs,s.esc⟩
def dk.mapSee{x:rk}{s:St}{a:Act}{w:World}{m:k9}(h:dk x s a w m)(r:Nat)(row:Row)(M:s.rows r=some row)(S:row.sz=0)(hb:row.es.all (·.all AV.bare)=true): ∃S',dk x (zA s r (.fmap row.es)) a w ⟨S',m.ρ⟩:=by
 have k:=(h.rows r row M).map S;obtain⟨H,G,C,e1,e2,X,e4,N⟩:=k.own;have u:(m.ρ r).ownBlock=some H:=by rw[e1];rfl
 have P:H<w.heap.size:=(Od.1 X).1;obtain⟨S',n⟩: ∃S':Nat->Nat->Prop,S'=fun b o=>m.S b o\/(b=H/\o=0):=⟨_,rfl⟩;have A: ∀b o,m.S b o->S' b o:=fun b o d=>by rw[n];exact .inl d
 have f: ∀b o,m.S b o->S' b o/\k0 w w b o:=fun b o d=>⟨A b o d, .rfl⟩;have D: ∀(i:Nat)(e:List AV)(c:AV),row.es[i]? =some e->c∈e->c.bare=true:=fun i e c l j=>(OP.1 ((OP.1 hb) e (OM l))) c j
 have hv:RV S' w (.map (some H)) (.fmap row.es):=by
  refine .fmap H G C row.es (by rw[n];exact .inr ⟨rfl,rfl⟩) X e4.1 (fun i e l=> ?_) (fun i Y c p j=> ?_) fun i Y c p j=> ?_
  ·obtain⟨Y,Z,vc,_,K,_⟩:=N i e l;rw[K];rfl
  ·unfold bt at j;cases l:row.es[i]? with
   |none=>rw[l]at j;cases j
   | some e=>
     rw[l]at j;obtain⟨O,Z,vc,V,K,k3,_⟩:=N i e l;rw[V]at p;cases p;subst K;cases j;exact k3.mono f
  ·unfold bt at j;cases l:row.es[i]? with
   |none=>rw[l]at j;cases j
   | some e=>
     rw[l]at j;obtain⟨O,Z,vc,V,K,_,W⟩:=N i e l;rw[V]at p;cases p;subst K;cases j;split at W
     ·exact W.mono f
     exact(W.bare (D i _ _ l (by simp))).mono f
 refine⟨S',dk.seen (g:=fun _ _=>none) (gm:=fun r' L=>if r'=r/\L=s.vs r then some (.fmap row.es) else none) S' h A (fun b o d=> ?_) rfl (fun t=>rfl) (fun q row' E=> ?_) (fun _ _ _ J=>by cases J) (fun q L y J v U=> ?_) fun b hf o d=> ?_⟩
 ·rw[n]at d;rcases d with d|⟨rfl,_⟩
  ·exact .inl d
  exact .inr ⟨e2,P⟩
 ·simp only[zA]at E;split at E
  ·cases E
  ·rename_i R;cases z:s.rows q with
   |none=>rw[z]at E;cases E
   | some B=>
     rw[z]at E;cases E;refine⟨B,by first|exact z|rfl,rfl,rfl,fun gq Q o d=> ?_⟩;rw[n]at d;rcases d with d|⟨rfl,_⟩
     ·exact d
     exact absurd u (h.inj q r B row z M R gq Q)
 ·split at J
  ·rename_i e;cases J;obtain⟨ea,eb⟩:=e;subst ea eb;obtain⟨g',I,T⟩:=U.mp_.2 rfl row M;rw[u]at I;cases I;rw[T];exact .val hv
  cases J
 rw[n]at d;rcases d with d|⟨rfl,_⟩
 ·exact d
 exact absurd hf (h.Z3 r row M b u)
/-! A row by another name, wherever it is named -/
def ob(r b r2 a:Nat)(q v:Nat):Option AV:=if q=r/\v=b then some (.row r2 a) else none
def eN(s:St)(r r2:Nat)(row:Row):St:=⟨fun t=>(s.f t).see (ob r (s.vs r) r2 (s.vs r2+1)) fun _ _=>none,fun k=>if k=r2 then some row else if k=r then none else(s.rows k).map (Row.see (ob r (s.vs r) r2 (s.vs r2+1)) fun _ _=>none),na s.vs r2 (s.vs r2+1),na s.esc r2 (s.esc r)⟩
def dk.ren{x:rk}{s:St}{a:Act}{w:World}{m:k9}(h:dk x s a w m)(r r2:Nat)(row:Row)(Y:r2≠r)(I:s.rows r=some row)(hr2:s.rows r2=none)(M:row.sz≠0)(Z:row.pure=true):dk x (eN s r r2 row) a w ⟨m.S,na m.ρ r2 (m.ρ r)⟩:=by
 have N: ∀k,s.vs k<=(eN s r r2 row).vs k:=fun k=>by
  simp only[eN,na];split
  ·rename_i e;rw[e];omega
  exact OO _
 have i: ∀k d,(eN s r r2 row).rows k=some d->(k=r2/\d=row)\/(k≠r2/\k≠r/\ ∃f,s.rows k=some f/\d=f.see (ob r (s.vs r) r2 (s.vs r2+1)) fun _ _=>none):=fun k d l=>by
  simp only[eN]at l;split at l
  ·rename_i e;cases l;exact .inl ⟨e,rfl⟩
  rename_i e;split at l
  ·cases l
  ·rename_i u;cases B:s.rows k with
   |none=>rw[B]at l;cases l
   |some f=>rw[B]at l;cases l;exact .inr ⟨e,u,f,by first|exact B|rfl,rfl⟩
 have l: ∀k d,(eN s r r2 row).vs k=s.vs k->(eN s r r2 row).rows k=some d-> ∃f,s.rows k=some f/\f.sz=d.sz/\na m.ρ r2 (m.ρ r) k=m.ρ k:=fun k d e A=>by
  rcases i k d A with⟨rfl,rfl⟩|⟨p,u,f,E,rfl⟩
  ·simp only[eN,aE]at e;omega
  exact⟨f,E,by rw[Row.see_sz],ct _ _ _ p⟩
 have G: ∀b o,m.S b o->m.S b o/\k0 w w b o:=fun b o X=>⟨X, .rfl⟩;have k:=(h.rows r row I).cells M
 have L:(m.ρ r).oneCell'=true:=by
  obtain⟨xs,k1,_⟩:=k.own;rcases k1.2 with⟨e,_⟩|⟨g,R,S,e,_⟩<;>rw[e]<;>rfl
 have Q: ∀ {v:Value}{c:AV},RL w m s v c->RL w ⟨m.S,na m.ρ r2 (m.ρ r)⟩ (eN s r r2 row) v (c.see (ob r (s.vs r) r2 (s.vs r2+1)) fun _ _=>none):=fun A=>RL.see (m:=m) (m':=⟨m.S,na m.ρ r2 (m.ρ r)⟩) (s:=s) (fun _ _ h=>h) (fun A=>RL.mono (m:=m) (m':=⟨m.S,na m.ρ r2 (m.ρ r)⟩) A G N l) (fun q ver y D v O=>by
  unfold ob at D;split at D
  ·rename_i e;cases D;obtain⟨U,V⟩:=e;subst U V;have:=O.row_.2 rfl row I;subst this;exact .row r2 _ L (by simp[eN,aE]) fun _ d _=>by simp[aE]
  cases D) (fun _ _ _ D=>by cases D) A
 refine⟨h.bel,h.low,h.ZR,h.sub,h.env,h.ZV,h.ZU,h.ZT,h.ZP,fun t=>Q (h.slot t),fun q d B=> ?_,fun q K z n E P H g j=> ?_,h.toS (m':=⟨m.S,na m.ρ r2 (m.ρ r)⟩) G,h.toV N,h.toK (m':=⟨m.S,na m.ρ r2 (m.ρ r)⟩) N l,h.ZX,h.fix,fun q d B g j=> ?_⟩
 ·rcases i q d B with⟨rfl,rfl⟩|⟨p,u,f,E,rfl⟩
  ·have:=k.ren (r':=q) (m':=⟨m.S,na m.ρ q (m.ρ r)⟩) (s':=eN s r q d) (g:=fun _ _=>none) rfl (fun _ _ _ _ A=>by cases A) (by simp[aE]) (by simp[eN,aE]);have e:d.ren (fun _ _=>none)=d:=by unfold Row.ren;rw[OL Z]
   rw[e]at this;exact .inl this
  exact(h.rows q f E).see (m':=⟨m.S,na m.ρ r2 (m.ρ r)⟩) (fun _ _ h=>h) Q (ct _ _ _ p) (by simp only[eN,ct _ _ _ p]) fun _ _ _ h=>h
 ·simp only at j |-;rcases i q z E with⟨rfl,rfl⟩|⟨p,u,f,C,rfl⟩
  ·rw[aE]at j;rcases i K n P with⟨e,_⟩|⟨p,u,f,C,_⟩
   ·exact absurd e.symm H
   rw[ct _ _ _ p];exact h.inj r K z f I C (Py u) g j
  rw[ct _ _ _ p]at j;rcases i K n P with⟨rfl,rfl⟩|⟨T,e4,J,W,_⟩
  ·rw[aE];exact h.inj q r f n C I u g j
  rw[ct _ _ _ T];exact h.inj q K f J C W H g j
 simp only at j;rcases i q d B with⟨rfl,rfl⟩|⟨p,u,f,C,_⟩
 ·rw[aE]at j;exact h.Z3 r d I g j
 rw[ct _ _ _ p]at j;exact h.Z3 q f C g j
def MX{P:Program}{env:b7}{nt:Nat}{c:Code}{Q:Exit->St->Prop}{s:St}(r r2:Nat)(row:Row)(b:r2≠r)(j:s.rows r=some row)(d:s.rows r2=none)(e:row.sz≠0)(i:row.pure=true)(h:gu P env nt c Q (eN s r r2 row)):gu P env nt c Q s:=fun l x k g a w _ f=>
 h l x k g a w _ (f.ren r r2 row b j d e i)
end
section
open Go.RowKit
section
variable {P:Program} {ro:Option Nat} {a:Act} {w:World} {Q:Exit->Act->World->Prop}
theorem Jy{k:Nat} :(UX ro).room k:=by cases ro<;>exact room_wide _
theorem FP{n g:Nat}{c:Code}(h:c.wpIn (UX ro) n P Q a w):c.wpIn (UX ro) g P Q a w:=fun b k d e f _=>h b k d e f Jy
end
/-! A walk taken up anew -/
def rk.again(x:rk)(s:St)(w:World)(m:k9)(fx:Nat->Prop)(df:List Deferred):rk:={ x with fw:=w,fm:=m,e:=s,fx:=fx,df:=df }
section
variable {x:rk} {s s1:St} {a a' a1:Act} {w w' w1:World} {m m1:k9} {fx:Nat->Prop} {df:List Deferred}
theorem dk.take(h:dk x s a w m)(c: ∀b,fx b->b<w.heap.size/\ ∀r row,s.rows r=some row->(m.ρ r).ownBlock≠some b)(i:a'.tmps=a.tmps)(k:a'.defers=df):dk (x.again s w m fx df) s a' w m:=
 ⟨h.bel,h.low,h.ZR,h.sub,h.env,h.ZV,h.ZU,k,by rw[i];exact h.ZP,by rw[i];exact h.slot,h.rows,h.inj,fun _ _ e=>⟨e, .rfl⟩,fun _=>OO _,fun r d _ f=>⟨d,f,rfl,rfl⟩,OO _,
  fun b j=>⟨(c b j).1,rfl,fun _ e=>e⟩,fun r row f g n l=>(c g l).2 r row f n⟩
theorem dk.untake{e:St}(h:dk x s a w m)(c:dk (x.again e w m fx df) s1 a1 w1 m1)(i: ∀b,x.fx b->fx b)(p:e.vs=s.vs)(k:e.rows=s.rows):dk x ⟨s.f,s1.rows,s1.vs,s1.esc⟩ a w1 m1:=by
 have n: ∀r,s.vs r<=s1.vs r:=p ▸ c.ZK;have q: ∀b o,m.S b o->m1.S b o/\k0 w w1 b o:=c.ZG;have u: ∀r d,s1.vs r=s.vs r->s1.rows r=some d-> ∃row,s.rows r=some row/\row.sz=d.sz/\m1.ρ r=m.ρ r:=p ▸ k ▸ c.evK
 exact⟨c.bel,c.low,c.ZR,c.sub,c.env,c.ZV,c.ZU,h.ZT,h.ZP,fun t=>(h.slot t).mono q n u,
  fun r row j=>(c.rows r row j).mono (fun b o f=>⟨f, .rfl⟩) (fun _=>OO _) (fun r d _ j=>⟨d,j,rfl,rfl⟩) rfl (fun _ _=>rfl) rfl (fun _ _ _ l=>l),c.inj,h.toS q,h.toV (s':=⟨s.f,s1.rows,s1.vs,s1.esc⟩) n,h.toK (s':=⟨s.f,s1.rows,s1.vs,s1.esc⟩) n u,O3 h.ZX c.ZX,
  fun b f=>⟨(h.fix b f).1,((c.fix b (i b f)).2.1).trans (h.fix b f).2.1,fun o l=>(h.fix b f).2.2 o ((c.fix b (i b f)).2.2 o l)⟩,fun r row j g y v=>c.Z3 r row j g y (i g v)⟩
theorem dk.fewer(h:dk x s a w m)(c:Nat->Prop)(d: ∀b,c b->x.fx b):dk { x with fx:=c } s a w m:=
 ⟨h.bel,h.low,h.ZR,h.sub,h.env,h.ZV,h.ZU,h.ZT,h.ZP,h.slot,h.rows,h.inj,h.ZG,h.ZK,h.evK,h.ZX,fun b e=>h.fix b (d b e),fun r row j g i f=>h.Z3 r row j g i (d g f)⟩
theorem dk.turned(h:dk x s a w m){b:Nat}(o:Obj)(q:x.w.heap.size<=b)(l: ∀o,¬m.S b o)(j: ¬x.fx b)(p: ∀r row,s.rows r=some row->(m.ρ r).ownBlock≠some b):dk x s a (w.putObj b o) m:=by
 have c: ∀k,k≠b->(w.putObj b o).heap[k]? =w.heap[k]? :=fun k i=>World.putObj_heap_other i;refine h.move rfl ⟨rfl,rfl,rfl,by rw[World.putObj_size];exact OO _,fun k i=>c k (by omega)⟩ (fun k o f=>⟨f, .block (c k fun e=>l o (e ▸ f))⟩) (fun _ _ f=> .inl f) (fun r row d g n=>c g fun e=>p r row d (e ▸ n)) fun k i=>c k fun e=>j (e ▸ i)
end
/-! The marks -/
def Ts(D:Nat):Deferred:={ target:= .collected D,args:= #[] }
structure Tx(x x':rk):Prop where
 w:x'.w=x.w
 S:x'.S=x.S
 env:x'.env=x.env
 nt:x'.nt=x.nt
 le:x.fw.heap.size<=x'.fw.heap.size
 keep: ∀b,x.fx b->x'.fx b/\(b<x.fw.heap.size->x'.fw.heap[b]? =x.fw.heap[b]? /\ ∀o,x'.fm.S b o->x.fm.S b o)
 df: ∃Ds:List Nat,x'.df=Ds.map Ts++x.df/\Ds.Nodup/\ ∀D∈Ds,x'.fx D/\x'.fw.heap[D]? =some (.deferred (some []))/\x.w.heap.size<=D/\x.fw.heap.size<=D/\ ∀o,¬x'.fm.S D o
def Tx.refl(x:rk):Tx x x:=⟨rfl,rfl,rfl,rfl,OO _,fun _ h=>⟨h,fun _=>⟨rfl,fun _ h=>h⟩⟩,[],rfl, .nil,fun D h=>by cases h⟩
def Tx.trans{x m f:rk}(h:Tx x m)(k:Tx m f):Tx x f:=by
 refine⟨k.w.trans h.w,k.S.trans h.S,k.env.trans h.env,k.nt.trans h.nt,O3 h.le k.le,fun b d=>⟨(k.keep b (h.keep b d).1).1,fun e=> ?_⟩,?_⟩
 ·obtain⟨s,t⟩:=(h.keep b d).2 e;obtain⟨v,w⟩:=(k.keep b (h.keep b d).1).2 (PX e h.le);exact⟨v.trans s,fun o i=>t o (w o i)⟩
 obtain⟨n,d1,d2,d3⟩:=h.df;obtain⟨p,q,r,l⟩:=k.df;refine⟨p++n,by rw[q,d1,Oa,O1],QJ.2 ⟨r,d2,fun a u b d=> ?_⟩,fun D c=> ?_⟩
 ·have:=(l a u).2.2.2.1;have:=(Od.1 (d3 b d).2.1).1;omega
 rcases Of.1 c with c|c
 ·obtain⟨j,g,p3,p4,p5⟩:=l D c;exact⟨j,g,by rw[<-h.w];exact p3,O3 h.le p4,p5⟩
 obtain⟨j,g,p3,p4,p5⟩:=d3 D c;obtain⟨y,z⟩:=k.keep D j;obtain⟨A,B⟩:=z (Od.1 g).1;exact⟨y,A.trans g,p3,p4,fun o i=>p5 o (B o i)⟩
def xO(P:Program)(env:b7)(nt:Nat)(c:Code)(Q:Exit->St->Prop)(s:St):Prop:=
 ∀x:rk,x.env=env->x.nt=nt-> ∀a w m,dk x s a w m->c.wpIn (UX none) 3 P (fun e f h=> ∃b g d,Q e b/\Tx x d/\dk d b f h g) a w
section
variable {P:Program} {env:b7} {nt:Nat} {Q:Exit->St->Prop} {s:St}
theorem yl{c:Code}(h:gu P env nt c Q s):xO P env nt c Q s:=fun x f g a w m e=>Ql (h none x f g a w m e) fun _ _ _ ⟨j,i,b,d⟩=>⟨j,i,x,b, .refl x,d⟩
theorem ui{c d:Code}(h:xO P env nt c (bR (xO P env nt d Q) Q) s):xO P env nt (.seq c d) Q s:=fun x l n a w m r=>by
 refine wpIn_seq (Ql (h x l n a w m r) ?_);rintro e q z ⟨y,o,p,j,b,k⟩;cases e with
 |normal=>exact Ql (j p (b.env.trans l) (b.nt.trans n) q z o k) fun _ _ _ ⟨g,f,i,t,u,v⟩=>⟨g,f,i,t,b.trans u,v⟩
 |_=>exact⟨y,o,p,j,b,k⟩
theorem bn{c d:Code}(h:gu P env nt c (bR (xO P env nt d Q) Q) s):xO P env nt (.seq c d) Q s:=ui (yl h)
theorem nU{g:Nat}{c:Code}(h:xO P env nt c (bf g Q) s):xO P env nt (.block g c) Q s:=fun x n o a w m l=>by
 refine wpIn_block (Ql (h x n o a w m l) ?_);rintro e p q ⟨f,j,k,b,i⟩;cases e with
 | exit d=>
   show if d=g then _ else _
   have b:if d=g then Q .normal f else Q (.exit d) f:=b
   split
   ·rename_i hid;rw[OL hid]at b;exact⟨f,j,k,b,i⟩
   rename_i hid;rw[OK hid]at b;exact⟨f,j,k,b,i⟩
 |_=>exact⟨f,j,k,b,i⟩
theorem IK{D:Type}{c:Code}(F:D->(Nat->Nat)->List (Nat×AV))(R:D->(Nat->Nat)->List (Nat×Row))(b:D->(Nat->Nat)->(Nat->Bool)->Prop)(k:D->Nat)(h:D)(v:b h s.vs s.esc)
 (y:dK s (F h s.vs))(z:cn s (R h s.vs))
 (round: ∀d vs esc,b d vs esc->xO P env nt c (bR (fun g=> ∃f,b f g.vs g.esc/\dK g (F f g.vs)/\cn g (R f g.vs)/\k f<k d) Q) (head (F d vs) (R d vs) vs esc)):xO P env nt (.loop c) Q s:=fun x A C a w m p=>by
 refine wpIn_loop_ghost (fun n a w=> ∃d vs esc m o,b d vs esc/\k d=n/\Tx x o/\dk o (head (F d vs) (R d vs) vs esc) a w m) (k h) ⟨h,s.vs,s.esc,m,x,v,rfl, .refl x,p.less (dQ y z)⟩ ?_;rintro n a w ⟨d,vs,esc,m,o,B,rfl,l,p⟩;refine Ql (round d vs esc B o (l.env.trans A) (l.nt.trans C) a w m p) ?_;rintro e J K ⟨q,u,j,r,i,t⟩;cases e with
 | normal=>
   obtain⟨f,E,G,H,I⟩:=r;exact⟨k f,I,f,q.vs,q.esc,u,j,E,rfl,l.trans i,t.less (dQ G H)⟩
 |_=>exact⟨q,u,j,r,l.trans i,t⟩
end
/-! At a function's end -/
def nu{P:Program}{F:Fence}{n:Nat}{fn:Func}{s:St}{a:Act}{m:k9}{R:Ending->World->Prop}{B:World}{T:Nat->Nat->Prop}(d: ∀(x:rk)(w:World),x.w=B->x.S=T->dk x s a w m-> ∃v,(results fn a.tmps).run P w= .ok v w/\R (.returned v) w):
 ∀(c:List Nat)(x:rk)(w:World),x.w=B->x.S=T->dk x s a w m->c.Nodup->(∀D∈c,x.fx D/\x.fw.heap[D]? =some (.deferred (some []))/\x.w.heap.size<=D/\ ∀o,¬x.fm.S D o)->LeavesInM F n P fn a.tmps R (c.map Ts) .returning w
 |[],x,w,i,j,f,_,_=>d x w i j f
 | D::c,x,w,i,j,f,g,k=>by
   obtain⟨p,G,p3,p4⟩:=k D (by simp);have g:=QZ.1 g;obtain⟨J,H,I⟩:=f.fix D p;refine⟨by simp, .inl ⟨D,_,rfl,run_takeDeferred (H.trans G),?_⟩⟩;refine nu d c { x with fx:=fun b=>x.fx b/\b≠D } _ i j ((f.fewer (fun b=>x.fx b/\b≠D) fun _ h=>h.1).turned (.deferred none) p3 (fun o A=>p4 o (I o A)) (fun h=>h.2 rfl) fun r row C z=>f.Z3 r row C D z p) g.2 fun E l=> ?_;obtain⟨q,t,u,y⟩:=k E (by simp[l]);exact⟨⟨q,fun e=>g.1 (e ▸ l)⟩,t,u,y⟩
section
variable {P:Program} {env:b7} {f:FuncId} {cs:List AV} {res:AV}
theorem xl{fn:Func}{c:Code}(M:P.funcs[f]? =some fn)(K:fn.body=some c)(d: ∀(args:Array Value)(w:World),(callFunc f args).run P w= .ok (.enter f args) w)(hn:cs.length<=fn.ntmps)
 (h:xO P env fn.ntmps c (Me P fn.results.toList res) (St.init cs)):cy P env f cs res:=by
 refine⟨d,fun w S y q hl O=> ?_⟩;refine TV.1 (callsIn_of_wp_marks (n:=3) M K trivial ?_)
 have I:dk ⟨w,S,env,fn.ntmps,w,⟨S,fun _=>undef⟩,St.init cs,fun _=>False,[]⟩ (St.init cs) { tmps:=y.toArray++Array.replicate (fn.ntmps-y.toArray.size) undef,defers:=[] } w ⟨S,fun _=>undef⟩:=by
  refine⟨Oy _ _,q.low,fun _ _ h=>h,fun _ _ h=> .inl h,q.env,q.low,q.inv,rfl,by simp;omega,fun t=> ?_,(fun r row j=>by cases j),(fun r r' row p j=>by cases j),(fun _ _ N=>⟨N, .rfl⟩),(fun _=>OO _),(fun r p _ j=>by cases j),OO _,(fun _ h=>h.elim),(fun r row j=>by cases j)⟩;show RL w _ _ _ (cs.getD t .any);by_cases E:t<cs.length
  ·refine .val (O t _ _ ?_ ?_)
   ·rw[PO,Qy (by simp;omega)];simp[show t<y.length by omega]
   simp[List.getD,E]
  have:cs.getD t .any= .any:=by simp[List.getD,OT (Sb E)]
  rw[this];exact .val (.any _)
 refine Ql (h _ rfl rfl _ w _ I) ?_;rintro e u l ⟨x,m',Z,i,s,A⟩
 have m:Me P fn.results.toList res .normal x->LeavesInM Fence.wide 3 P fn u.tmps (fun e l=> ∃v,e= .returned v/\Below w.heap.size w l/\ ∃k,(∀b o,S b o->k b o)/\(∀b o,k b o->S b o\/w.heap.size<=b)/\(∀b o,k b o->b<l.heap.size)/\RR k l w.heap.size v res) u.defers .returning l:=fun i=>by
  obtain⟨a,i,Q⟩:=(show ∃a,(au P x.f fn.results.toList).run x=some a/\i8 a res from i);obtain⟨z,d1,d2,d3⟩:=s.df;have L:u.defers=z.map Ts:=by rw[A.ZT,d1];exact P9 _
  rw[L];refine nu (B:=w) (T:=S) (fun x'' Y C J g=> ?_) z Z l s.w s.S A d2 fun D H=> ?_
  ·obtain⟨v,k,R,G,p3,p4,p5⟩:=ux (fn:=fn) i g;rw[C]at p3 p5;rw[J]at G p3;exact⟨v,R,v,rfl,by have:=g.bel;rw[C]at this;exact this,k,G,p3,p4,Q _ _ _ _ p5⟩
  obtain⟨U,V,W,q4,X⟩:=d3 D H;exact⟨U,V,by rw[s.w];exact W,X⟩
 cases e with
 |normal=>exact m i
 |ret=>exact m i
 |_=>exact i.elim
end
/-! The statement itself -/
structure UY(P:Program)(f:FuncId)(first:Array Value)(ks:List Value)(Tab:World->Prop):Prop where
 enter: ∀(args:Array Value)(w:World),(callFunc f args).run P w= .ok (.enter f args) w
 walk: ∀(l:Nat)(J:Nat->World->Prop)(w:World),(∀i W,J i W->Tab W)->(∀i W W',J i W->Below W.heap.size W W'->J i W')->
  (∀i W k,J i W->ks[i]? =some k->YieldAt Fence.wide 1 P l #[k] W fun e W'=>e= .returned (.bool true)/\J (i+1) W')->J 0 w->
  CallsIn Fence.wide 2 P f (first++ #[.func (.yield l) #[] #[]]) w fun e W'=>(∃v,e= .returned v)/\J ks.length W'
def UY.mono{P:Program}{f:FuncId}{first:Array Value}{ks:List Value}{b a:World->Prop}(h:UY P f first ks b)(e: ∀W,a W->b W):UY P f first ks a:=
 ⟨h.enter,fun l J w c=>h.walk l J w fun i W d=>e W (c i W d)⟩
section
variable {P:Program} {env:b7} {nt:Nat} {Q:Exit->St->Prop} {s:St}
theorem EB{D:Type}{g p:Nat}{assign body:Code}{f:FuncId}{first:Array Value}{ks:List Value}(R:Nat->D->(Nat->Nat)->List (Nat×Row))(y:Nat->D->(Nat->Nat)->(Nat->Bool)->Prop)(d0:D)
 (q:s.f g= .lit (.func (.func f) first #[]))(hp:p<nt)(hit:UY P f first ks env.inv)(h0:y 0 d0 s.vs s.esc)(hR:cn s (R 0 d0 s.vs))
 (round: ∀i d k vs esc,(∀r,s.vs r<=vs r)->y i d vs esc->ks[i]? =some k->
  gu P env nt assign (bR (gu P env nt body (bR (fun s1=> ∃N,y (i+1) N s1.vs s1.esc/\cn s1 (R (i+1) N s1.vs)) fun _ _=>False)) fun _ _=>False) ⟨na s.f p (.lit k),an (R i d vs),vs,esc⟩)
 (done: ∀d vs esc,(∀r,s.vs r<=vs r)->y ks.length d vs esc->Q .normal ⟨s.f,an (R ks.length d vs),vs,esc⟩):xO P env nt (.rangeFunc (.tmp g) #[p] assign body) Q s:=fun x he hn a w m S=>by
 have hgv:a.eval (.tmp g)= .func (.func f) first #[]:=by
  have:=S.slot g;rw[q]at this;exact this.lit_
 refine wpIn_rangeFunc fun fn hfn=> ?_
 let l (st:LoopState):Obj:= .loop { state:=st,pending:=none,fn,tmps:=a.tmps,params:= #[p],assign,body,defers:=w.heap.size }
 let A:World:=(w.alloc (.deferred (some []))).alloc (l .ready)
 have hw2:Below w.heap.size w A:=((Oy _ w).alloc (OO _) _).alloc (by simp) _;have hsz:A.heap.size=w.heap.size+2:=by simp[A]
 have hD2:A.heap[w.heap.size]? =some (.deferred (some [])):=by
  rw[show A.heap[w.heap.size]? =(w.alloc (.deferred (some []))).heap[w.heap.size]? from Pj _ _ _ (by simp)];exact Sj w _
 have hl2:A.heap[w.heap.size+1]? =some (l .ready):=by
  have:=Sj (w.alloc (.deferred (some []))) (l .ready);rwa [QQ]at this
 refine⟨w.heap.size+1,[Ts w.heap.size],A,⟨.fn (.func f) #[],first++ #[.func (.yield (w.heap.size+1)) #[] #[]]⟩,A,f,first++ #[.func (.yield (w.heap.size+1)) #[] #[]],A,?_,?_,fun _ _=>trivial,?_,fun h=>(by cases h),?_⟩
 ·rw[show (UX none).round=none from rfl];exact run_enterLoop_outer fn a.tmps #[p] assign body
 ·have hc:a.eval (.const (.func (.yield (w.heap.size+1)) #[] #[]))= .func (.yield (w.heap.size+1)) #[] #[]:=rfl;simp[resolve,hgv,hc,Deferred.ofValue]
 ·simp[invoke,hit.enter]
 let a0:Act:={ a with defers:=[Ts w.heap.size]++a.defers }
 let fx0:Nat->Prop:=fun b=>x.fx b\/b=w.heap.size
 have I: ∀b o,m.S b o->b<w.heap.size:=S.low;have hblk: ∀r row,s.rows r=some row-> ∀k,(m.ρ r).ownBlock=some k->k<w.heap.size:=fun r row j k hk=>((S.rows r row j).blk hk).2;have u:dk x s a A m:=S.called hw2 (fun _ _ h=>h) (fun _ _ h=> .inl h) fun b o h=>by have:=I b o h;omega
 let B:rk:=x.again s A m fx0 ([Ts w.heap.size]++x.df)
 have hS0:dk B s a0 A m:=u.take (fx:=fx0) (fun b hb=>by
  rcases hb with hb|rfl
  ·exact⟨u.fxlt hb,fun r row j q=>u.Z3 r row j b q hb⟩
  exact⟨by omega,fun r row j q=>by have:=hblk r row j _ q;omega⟩) rfl (by show [Ts w.heap.size]++a.defers=_;rw[S.ZT])
 have hM:Tx x B:=by
  refine⟨rfl,rfl,rfl,rfl,?_,fun b hb=>⟨.inl hb,fun hlt=>⟨?_,fun o U=>(u.fix b hb).2.2 o U⟩⟩,[w.heap.size],rfl,by simp,fun E hE=> ?_⟩
  ·exact u.ZX
  ·exact(u.fix b hb).2.1
  obtain rfl:E=w.heap.size:=by simpa using hE
  exact⟨.inr rfl,hD2,S.bel.size,S.ZX,fun o U=>by have:=I _ o U;omega⟩
 let st:Nat->D->(Nat->Nat)->(Nat->Bool)->St:=fun i d vs esc=>⟨s.f,an (R i d vs),vs,esc⟩
 let J:Nat->World->Prop:=fun i W=> ∃d vs esc z,y i d vs esc/\(∀r,s.vs r<=vs r)/\dk B (st i d vs esc) a0 W z/\W.heap[w.heap.size+1]? =some (l .ready)/\(∀o,¬z.S (w.heap.size+1) o)/\ ∀r row,an (R i d vs) r=some row->(z.ρ r).ownBlock≠some (w.heap.size+1)
 have Y: ¬B.fx (w.heap.size+1):=fun hb=>by
  rcases hb with hb|hb
  ·have:=S.fxlt hb;omega
  omega
 have X:B.w.heap.size<=w.heap.size+1:=O3 S.bel.size (Nat.le_succ _);refine(hit.walk (w.heap.size+1) J A ?_ ?_ ?_ ?_).mono ?_
 ·rintro i W ⟨d,vs,esc,z,_,_,h,_⟩;have:=h.envOk.inv;rw[show B.env=env from he]at this;exact this
 ·rintro i W W' ⟨d,vs,esc,z,h1,h2,O,h4,h5,h6⟩ hb;exact⟨d,vs,esc,z,h1,h2,O.called hb (fun _ _ h=>h) (fun _ _ h=> .inl h) (fun b o h=>PX (O.low b o h) hb.size),(hb.block _ (Od.1 h4).1).trans h4,h5,h6⟩
 ·rintro i W k ⟨d,vs,esc,z,h1,h2,O,h4,h5,h6⟩ hk;refine⟨fn,_,assign,body,run_yield h4 rfl,roundIn_of_wpIn trivial ?_⟩;have hact:(⟨(#[p].zip #[k]).foldl (fun L (t,a)=>L.setIfInBounds t a) a.tmps,[]⟩:Act)=(⟨a.tmps,[]⟩:Act).put (some p) k:=by simp[Act.put]
  show Code.wpIn _ _ _ _ _ (⟨(#[p].zip #[k]).foldl (fun L (t,a)=>L.setIfInBounds t a) a.tmps,[]⟩:Act) W;rw[hact]
  let C:Nat->Prop:=fun b=>B.fx b\/b=w.heap.size+1
  have hlW:w.heap.size+1<W.heap.size:=(Od.1 h4).1
  have hS1:dk (B.again (st i d vs esc) W z C []) (st i d vs esc) ⟨a.tmps,[]⟩ W z:=O.take (fx:=C) (fun b hb=>by
   rcases hb with hb|rfl
   ·exact⟨O.fxlt hb,fun r row j q=>O.Z3 r row j b q hb⟩
   exact⟨hlW,h6⟩) rfl rfl
  have hS1':=hS1.put (some p) (fun t ht=>by cases ht;exact hn ▸ hp) (v:=k) (c:= .lit k) (.val (.lit k));have Z:(st i d vs esc).put (some p) (.lit k)=⟨na s.f p (.lit k),an (R i d vs),vs,esc⟩:=rfl;rw[Z]at hS1';refine FP (ro:=some (w.heap.size+1)) (n:=3) (Ql (round i d k vs esc h2 h1 hk (some (w.heap.size+1)) (B.again (st i d vs esc) W z C []) he hn _ W z hS1') ?_);rintro e a1 W1 ⟨s1,m1,g1,g2⟩;cases e with
  | normal=>
    obtain⟨-,H,G⟩:=g2.fix (w.heap.size+1) (.inr rfl);have H:W1.heap[w.heap.size+1]? =some (l .ready):=H.trans h4;have G: ∀o,¬m1.S (w.heap.size+1) o:=fun o U=>h5 o (G o U);have hr1: ∀r row,s1.rows r=some row->(m1.ρ r).ownBlock≠some (w.heap.size+1):=fun r row j q=>g2.Z3 r row j _ q (.inr rfl);refine⟨_,run_beginRound H rfl,?_⟩;have hU2:=(O.untake g2 (fun b hb=> .inl hb) rfl rfl).turned (.loop { state:= .busy,pending:=none,fn,tmps:=a.tmps,params:= #[p],assign,body,defers:=w.heap.size }) X G Y hr1
    have hI:=((g2.fewer B.fx fun b hb=> .inl hb).turned (.loop { state:= .busy,pending:=none,fn,tmps:=a.tmps,params:= #[p],assign,body,defers:=w.heap.size }) X G Y hr1).take (fx:=C) (fun b hb=>by
     rcases hb with hb|rfl
     ·exact⟨hU2.fxlt hb,fun r row j q=>hU2.Z3 r row j b q hb⟩
     exact⟨by rw[World.putObj_size];exact(Od.1 H).1,hr1⟩) rfl g2.ZT
    refine FP (ro:=some (w.heap.size+1)) (n:=3) (Ql ((show gu P env nt body _ s1 from g1) (some (w.heap.size+1)) (B.again s1 (W1.putObj (w.heap.size+1) (.loop { state:= .busy,pending:=none,fn,tmps:=a.tmps,params:= #[p],assign,body,defers:=w.heap.size })) m1 C []) he hn _ _ m1 hI) ?_);rintro e a2 W3 ⟨M,m2,k1,k2⟩;cases e with
    | normal=>
      obtain⟨N,q1,q2⟩:=(show ∃N,y (i+1) N M.vs M.esc/\cn M (R (i+1) N M.vs) from k1);obtain⟨-,V,T⟩:=k2.fix (w.heap.size+1) (.inr rfl);have V:W3.heap[w.heap.size+1]? =some (l .busy):=V.trans (World.putObj_heap_same (Od.1 H).1);have T: ∀o,¬m2.S (w.heap.size+1) o:=fun o U=>G o (T o U);have hr3: ∀r row,M.rows r=some row->(m2.ρ r).ownBlock≠some (w.heap.size+1):=fun r row j q=>k2.Z3 r row j _ q (.inr rfl);have K:=(dQ (s:=M) (F:=[]) (R:=R (i+1) N M.vs) trivial q2).rows;refine⟨_,_,run_endRound none V,rfl,N,M.vs,M.esc,m2,q1,fun r=>O3 (h2 r) (O3 (g2.ZK r) (k2.ZK r)),?_,World.putObj_heap_same (Od.1 V).1,T,fun r row j q=> ?_⟩
      ·exact((hU2.untake k2 (fun b hb=> .inl hb) rfl rfl).turned _ X T Y hr3).less ⟨fun t=> .inl rfl,K,rfl,rfl⟩
      rcases K r with h|h
      ·exact hr3 r row (h.symm.trans j) q
      have h:an (R (i+1) N M.vs) r=none:=h;rw[h]at j;cases j
    |_=>exact k1.elim
  |_=>exact g1.elim
 ·have K:=(dQ (s:=s) (F:=[]) (R:=R 0 d0 s.vs) trivial hR).rows;have hless:UZ s (st 0 d0 s.vs s.esc):=⟨fun t=> .inl rfl,K,rfl,rfl⟩;refine⟨d0,s.vs,s.esc,m,h0,fun _=>OO _,hS0.less hless,hl2,fun o U=>by have:=I _ o U;omega,fun r row j q=> ?_⟩;rcases K r with h|h
  ·have:=hblk r row (h.symm.trans j) _ q;omega
  have h:an (R 0 d0 s.vs) r=none:=h;rw[h]at j;cases j
 rintro e W ⟨⟨v,rfl⟩,d,vs,esc,z,h1,h2,O,h4,h5,h6⟩;refine⟨none,_,run_endLoop h4 (by simp),?_⟩;refine⟨st ks.length d vs esc,z,B,done d vs esc h2 h1,hM,O.turned _ X h5 Y h6⟩
end
/-! Rows that freeze, by their contents -/
def th(vs:Nat->Nat)(R:List (Nat×Row)):List (Nat×Nat×AV):=R.map fun p=>(p.1,vs p.1, .seq p.2.sz p.2.es)
def wT{s:St} : ∀ {R:List (Nat×Row)},cn s R-> ∀p∈R,s.rows p.1=some p.2
 |[],_,p,hp=>by cases hp
 | q::R,h,p,hp=>by
   rcases O7.1 hp with rfl|hp
   ·exact h.1
   exact wT h.2 p hp
def dH{P:Program}{env:b7}{nt:Nat}{c:Code}{Q:Exit->St->Prop}{s:St}(R:List (Nat×Row))(hR:cn s R)(h:gu P env nt c Q (l5 s (th s.vs R)))(hp:(R.all fun p=>p.2.pure&&p.2.sz != 0)=true:=by rfl):gu P env nt c Q s:=
 KZ (th s.vs R) (fun q hq=>by
  obtain⟨p,h1,rfl⟩:=OW.1 hq;have:=OP.1 hp p h1;rw[OJ,RX]at this
  exact⟨rfl,p.2,wT hR p h1,this.2,this.1,rfl⟩) h
end
section
open Go.RowKit Go.Shelf
def i'(n:Nat):List Int:=((List.range 32).filter fun(i:Nat)=>n/2^i%2==1).map fun(i:Nat)=>(i:Int)
def oG(p q:Nat->Bool)(k:Nat)(c: ∀i,i<k->p i=false)(d:p k=true)(a: ∀i,i<=k->q i=false)(f: ∀i,k<i->p i=q i): ∀N,((k<N->(List.range N).filter p=k::(List.range N).filter q)/\(N<=k->(List.range N).filter p=[]/\(List.range N).filter q=[]))
 |0=>⟨fun h=>by omega,fun _=>⟨rfl,rfl⟩⟩
 | N+1=>by
   have b:=oG p q k c d a f N;refine⟨fun h=> ?_,fun h=> ?_⟩
   ·rw[Qe,PH,PH];by_cases e:N=k
    ·subst e;have:=b.2 (OO _);rw[this.1,this.2];simp[d,a N (OO _)]
    have:=b.1 (by omega);rw[this];simp[QH,f N (by omega)]
   have:=b.2 (by omega);rw[Qe,PH,PH,this.1,this.2];simp[c N (by omega),a N (by omega)]
def UP(k m i:Nat):(2^k*(2*m+1))/2^i%2=if i<k then 0 else if i=k then 1 else(2^k*(2*m))/2^i%2:=by
 by_cases h:i<k
 ·rw[OL h]
  have e:2^k=2^i*(2*2^(k-i-1)):=by
   rw[<-TL, <-Tb]
   congr 1
   omega
  rw[e,Se,SO _ (Qg (by decide)),Se,Nat.mul_mod_right]
 rw[OK h];by_cases a:i=k
 ·subst a;rw[OL rfl,SO _ (Qg (by decide))];omega
 rw[OK a]
 have e:2^i=2^k*(2*2^(i-k-1)):=by
  rw[<-TL, <-Tb]
  congr 1
  omega
 rw[e,Nat.mul_div_mul_left _ _ (Qg (by decide)),Nat.mul_div_mul_left _ _ (Qg (by decide)), <-Ri, <-Ri]
 congr 2
 omega
def KH(k m i:Nat)(h:i<=k):(2^k*(2*m))/2^i%2=0:=by
 have e:2^k=2^i*2^(k-i):=by
  rw[<-Tb]
  congr 1
  omega
 rw[e,Se,SO _ (Qg (by decide)), <-Se,QU _ 2,Se,Nat.mul_mod_right]
def vj(k m:Nat)(b:k<32):i' (2^k*(2*m+1))=(k:Int)::i' (2^k*(2*m)):=by
 unfold i'
 have:=(oG (fun i=>(2^k*(2*m+1))/2^i%2==1) (fun i=>(2^k*(2*m))/2^i%2==1) k
  (fun i a=>by simp only[UP,OL a];rfl) (by simp[UP]) (fun i a=>by simp only[KH k m i a];rfl) (fun i a=>by simp only[UP];rw[OK (by omega),OK (by omega)]) 32).1 b
 rw[this];rfl
def K6(k m:Nat):(2^k*(2*m+1))&&& (2^k*(2*m+1)-1)=2^k*(2*m):=by
 have g:0<2^k:=Qg (by decide);have e:2^k*(2*m+1)-1=2^k*(2*m)+(2^k-1):=by rw[Tc];omega
 rw[e];apply Nat.eq_of_testBit_eq;intro i;rw[Nat.testBit_and];have a:(2^k*(2*m+1)).testBit i=(decide (k<=i)&&(2*m+1).testBit (i-k)):=by rw[QU];exact Ra _ _ _
 have b:(2^k*(2*m)+(2^k-1)).testBit i=if i<k then(2^k-1).testBit i else(2*m).testBit (i-k):=Nat.testBit_two_pow_mul_add _ (by omega) _
 have c:(2^k*(2*m)).testBit i=(decide (k<=i)&&(2*m).testBit (i-k)):=by rw[QU];exact Ra _ _ _
 rw[a,b,c];by_cases h:i<k
 ·simp[show ¬k<=i by omega]
 rw[OK h];simp only[show k<=i by omega,decide_true,PQ];by_cases d:i-k=0
 ·rw[d];simp
 obtain⟨j,f⟩: ∃j,i-k=j+1:=⟨i-k-1,by omega⟩;rw[f,TS,TS,show (2*m+1)/2=m by omega,show 2*m/2=m by omega];simp
def sI:i' 0=[]:=by decide+kernel
def ofInt_u32(a:Nat)(b:a<4294967296):(BitVec.ofInt 32 (a:Int)).toNat=a:=by
 rw[Qt,Rj];exact Qw (by omega)
def u32_and(a b:Nat)(c:a<4294967296)(d:b<4294967296):bits .and .u32 (a:Int) (b:Int)=((a&&& b:Nat):Int):=by
 have e:a&&& b<2^32:=Nat.and_lt_two_pow _ (by omega);show IntKind.u32.wrap ((BitVec.ofInt 32 (a:Int)&&& BitVec.ofInt 32 (b:Int)).toNat:Int)=_;rw[BitVec.toNat_and,ofInt_u32 a c,ofInt_u32 b d,Rx];omega
def sy(w:World):Prop:= ∀j,j<32->w.cell? ⟨4,j,none⟩=some (.int .u8 ((Lib.deBruijn32tab.getD j 0:Nat):Int))
def sy.below{w w':World}(h:sy w)(a:Below w.heap.size w w'):sy w':=fun j b=>hH (h j b) a
def Kf(x:Nat)(h0:x≠0)(hx:x<4294967296)(w:World)(hT:sy w):
 Calls prog 102 #[.int .u32 x] w fun e w'=>e= .returned (.int .i64 (Lib.ctz 32 x:Nat))/\w=w':=by
 obtain⟨hl,hk⟩:=Lib.lowest_bit 32 x h0 hx;obtain⟨hi,ht⟩:=Lib.deBruijn32_at _ hk;have hc:=hT _ hi;rw[ht]at hc;have e0:((x:Int)==0)=false:=by rw[R4];omega
 have e1:IntKind.u32.wrap (-(x:Int))=((2^32-x:Nat):Int):=by rw[Rx];omega
 have e2:bits .and .u32 (x:Int) ((2^32-x:Nat):Int)=((2^Lib.ctz 32 x:Nat):Int):=by rw[u32_and _ _ hx (by omega),hl]
 generalize Lib.ctz 32 x=k at*
 have hp:2^k<=2147483648:=by
  have:2^k<=2^31:=Pz (by decide) (by omega);omega
 try clear ht hl h0 hT
 generalize 2^k=q at*
 go_enter func102,ntmps102
 go_wp2
 go_ret
 exact⟨rfl,rfl⟩
def Ab(k m:Nat)(n:k<32)(h:2^k*(2*m+1)<4294967296):bits .andNot .u32 ((2^k*(2*m+1):Nat):Int) ((2^k:Nat):Int)=((2^k*(2*m):Nat):Int):=by
 have o:0<2^k:=Qg (by decide)
 have l:2^k<4294967296:=by
  have:2^k<=2^31:=Pz (by decide) (by omega);omega
 have d:2^k*(2*m+1)=2^k*(2*m)+2^k:=by rw[Tc,RJ]
 have b:(BitVec.ofInt 32 ((2^k*(2*m+1):Nat):Int)&&& ~~~ BitVec.ofInt 32 ((2^k:Nat):Int))=BitVec.ofNat 32 (2^k*(2*m)):=by
  apply BitVec.eq_of_getLsbD_eq;intro i c;rw[BitVec.getLsbD_and,BitVec.getLsbD_not,Qt,Qt,Sk,Sk,Sk];have e:(2^k*(2*m+1)).testBit i=(decide (k<=i)&&(2*m+1).testBit (i-k)):=by rw[QU];exact Ra _ _ _
  have f:(2^k*(2*m)).testBit i=(decide (k<=i)&&(2*m).testBit (i-k)):=by rw[QU];exact Ra _ _ _
  rw[e,f,RZ];by_cases a:k<=i
  ·by_cases g:i=k
   ·subst g;simp[c]
   obtain⟨j,rfl⟩: ∃j,i=k+(j+1):=⟨i-k-1,by omega⟩;simp[c,TS,show k+(j+1)-k=j+1 by omega,show (2*m+1)/2=m by omega]
  simp[a]
 show IntKind.u32.wrap ((BitVec.ofInt 32 ((2^k*(2*m+1):Nat):Int)&&& ~~~ BitVec.ofInt 32 ((2^k:Nat):Int)).toNat:Int)=_;rw[b,Rj,Qw (by omega),Rx];omega
def jI(k:Nat)(a:k<32):2^k<4294967296:=by
 have:2^k<=2^31:=Pz (by decide) (by omega);omega
def Dg(n:Nat)(hn:n<4294967296):UY prog 43 #[.int .u32 n] ((i' n).map (Value.int .i64)) sy:=by
 refine⟨Sv func43 (by kernel_rfl) rfl,fun l J w hT hB hY h0=> ?_⟩;refine callsIn_of_wp func43 rfl trivial ?_ rfl;simp only[ntmps43,QI,OU,Q0,Nat.reduceAdd,Nat.reduceSub,Array.replicate_succ,Array.replicate_zero,List.push_toArray,List.append_toArray,QE,TQ]
 gi_wp2
 gi_loopw [0] (fun v0 wr=> ∃(cur i:Nat),cur<=n/\i<=(i' n).length/\v0= .int .u32 cur/\i' cur=(i' n).drop i/\J i wr) (fun v0 _=>(intOf v0).toNat)
 case atStart=>exact⟨n,0,OO _,O6 _,rfl,rfl,h0⟩
 case round=>
  obtain⟨cur,i,hc,hil,rfl,hs,hJ⟩:=hrel;by_cases hz:cur=0
  ·subst hz;rw[sI]at hs;obtain rfl:i=(i' n).length:=SG hil (List.drop_eq_nil_iff.1 hs.symm)
   gi_wp2
   go_end0
   exact⟨⟨_,rfl⟩,by rw[O4];exact hJ⟩
  obtain⟨m,hm,hk⟩:=Lib.ctzFrom_spec 32 cur (by omega) (by omega);have hcz:Lib.ctz 32 cur=Lib.ctzFrom 32 cur:=by simp[Lib.ctz,hz]
  rw[<-hcz]at hm hk;have hs2:=vj (Lib.ctz 32 cur) m hk;rw[<-hm]at hs2;have hpos:0<2^Lib.ctz 32 cur:=Qg (by decide)
  have hsub:cur=2^Lib.ctz 32 cur*(2*m)+2^Lib.ctz 32 cur:=by
   have:=hm;rw[Tc,RJ]at this;exact this
  have e0:((cur:Int) != 0)=true:=by rw[RX];omega
  have hlen:i< (i' n).length:=by
   have:=Oj List.length (hs2.symm.trans hs);simp at this;omega
  have hki:(i' n)[i]? =some ((Lib.ctz 32 cur:Nat):Int):=by
   have:=Oj (·[0]?) (hs2.symm.trans hs);simp only[PK,PY,QT]at this;exact this.symm
  have hs3:i' (2^Lib.ctz 32 cur*(2*m))=(i' n).drop (i+1):=by
   have:=Oj List.tail (hs2.symm.trans hs);rw[List.tail_cons,List.tail_drop]at this;exact this
  have hTab:=hT i wr hJ;have hY:=hY i wr (.int .i64 ((Lib.ctz 32 cur:Nat):Int)) hJ (by rw[OS,hki];rfl);have hp2:=jI _ hk
  have e1:(2:Int)^Lib.ctz 32 cur%4294967296=((2^Lib.ctz 32 cur:Nat):Int):=by
   rw[Sn];have:((2^Lib.ctz 32 cur:Nat):Int)<4294967296:=by omega
   rw[Sn]at this;exact Int.emod_eq_of_lt (by exact_mod_cast O6 _) this
  have e2:bits .andNot .u32 (cur:Int) ((2^Lib.ctz 32 cur:Nat):Int)=((2^Lib.ctz 32 cur*(2*m):Nat):Int):=by
   have:=Ab (Lib.ctz 32 cur) m hk (by omega);rw[<-hm]at this;exact this
  obtain⟨fn,tmps,assign,body,hy,hR⟩:=hY;generalize hkk:Lib.ctz 32 cur=k at*;have hkk':=OI hkk;have hsub':=OI hsub;try clear hkk hs2 hcz hs hm hsub
  generalize 2^k*(2*m)=nx at*;generalize hq:2^k=q at*
  gi_wp2_with (first|(refine⟨trivial,?_⟩;gi_at_call 102;refine(TV.2 (Kf cur hz (by omega) _ hTab)).mono ?_;rintro e w' ⟨rfl,rfl⟩;rw[hkk'.out]))
  refine hR.mono ?_;rintro e W3 ⟨rfl,hJ3⟩
  gi_wp2
  have hsub:=hsub'.out;exact⟨⟨nx,i+1,by omega,by omega,rfl,hs3,hJ3⟩,by show ((nx:Int)).toNat< ((cur:Int)).toNat;omega⟩
end
section
open Go.RowKit
def eE(s:ByteArray)(t:TypeId)(v:Value)(w:World):Calls prog 29 #[.string s, .iface t v] w fun e w'=>e= .returned (.iface 120 (.pointer (some ⟨w.heap.size,0,none⟩)))/\w.alloc (.cells #[.string s, .int .i64 (-1), .iface t v] 122)=w':=by
 go_enter func29,ntmps29
 go_wp2
 go_ret
 exact⟨rfl,rfl⟩
def Ir(k:Nat):(2:Int)^(8*k)=((256^k:Nat):Int):=by
 rw[show (256:Nat)=2^8 from rfl, <-Nat.pow_mul];simp
end
end Go.Proofs.YtfcdkaolcdglmaaGreatDoor
