/- Walking without memory: rows that are not there, rows seen. No program is named here. -/
import Derived.Test.YtbjldjekgepopaaGreatDoorT5
set_option linter.unusedSimpArgs false
namespace Go.Proofs.YtbjldjekgepopaaGreatDoor
open Go.RowKit
section
def AV.ren (g:Nat->Nat->Option (Nat×Nat)):AV->AV
 | .row r ver=>match g r ver with
   |some q=> .row q.1 q.2
   |none=> .any
 | .loc r ver i off=>match g r ver with
   |some q=> .loc q.1 q.2 i off
   |none=> .any
 | .mp r ver=>match g r ver with
   |some q=> .mp q.1 q.2
   |none=> .any
 | .sub r ver lo=>match g r ver with
   |some q=> .sub q.1 q.2 lo
   |none=> .any
 | .agg cs=> .agg (renL g cs)
 | .tuple cs=> .tuple (renL g cs)
 | .clo f cs=> .clo f (renL g cs)
 |c=>c
where renL (g:Nat->Nat->Option (Nat×Nat)):List AV->List AV
 |[]=>[]
 |c::cs=>c.ren g::renL g cs
theorem dL (g:Nat->Nat->Option (Nat×Nat)): ∀cs,(AV.ren.renL g cs).length=cs.length
 |[]=>rfl
 |c::cs=>by simp[AV.ren.renL,dL g cs]
theorem ig (g:Nat->Nat->Option (Nat×Nat)): ∀(cs:List AV) (i:Nat) (c:AV),(AV.ren.renL g cs)[i]? =some c-> ∃c',cs[i]? =some c'/\c=c'.ren g
 |[],i,c,h=>by simp[AV.ren.renL]at h
 | d::cs,i,c,h=>by
   cases i with
   |zero=>simp[AV.ren.renL]at h;exact⟨d,rfl,h.symm⟩
   | succ i=>
     obtain⟨c',h1,h2⟩:=ig g cs i c (by simpa[AV.ren.renL]using h);exact⟨c',by simpa using h1,h2⟩
theorem RV.ren {S:Nat->Nat->Prop} {w:World} {v:Value} {c:AV} (g:Nat->Nat->Option (Nat×Nat)) (h:RV S w v c):RV S w v (c.ren g):=by
 induction h with
 |any v=>exact .any v
 |lit v=>exact .lit v
 | agg vs cs h h1 hc ih=>
   refine .agg vs _ (by rw[dL];exact h) h1 fun i v c hv hcc=> ?_;obtain⟨c',k1,rfl⟩:=ig g cs i c hcc;exact ih i v c' hv k1
 | tuple vs cs h hc ih=>
   refine .tuple vs _ (by rw[dL];exact h) fun i v c hv hcc=> ?_;obtain⟨c',k1,rfl⟩:=ig g cs i c hcc;exact ih i v c' hv k1
 |iface t v c h ih=>exact .iface t v c h
 |seq A n cap sz es b o u hn hcap hA hz hc hr ih=>exact .seq A n cap sz es b o u hn hcap hA hz hc hr
 |ref sz es i off b o u hz hc hr ih=>exact .ref sz es i off b o u hz hc hr
 |fmap g' ents clock es h0 hg hn hz hk hv _ _=>exact .fmap g' ents clock es h0 hg hn hz hk hv
 |full A n sz es h _=>exact .full A n sz es h
 |news A n k cap sz es hA h _=>exact .news A n k cap sz es hA h
 | clo f vs cs h hc ih=>
   refine .clo f vs _ (by rw[dL];exact h) fun i v c hv hcc=> ?_;obtain⟨c',k1,rfl⟩:=ig g cs i c hcc;exact ih i v c' hv k1
def Names (s:St) (m:Mem) (s':St) (m':Mem) (g:Nat->Nat->Option (Nat×Nat)):Prop:= ∀r ver r' ver',g r ver=some (r',ver')->ver<=s.vs r->
 ver'<=s'.vs r'/\(s'.vs r'=ver'-> ∀row',s'.rows r'=some row'->s.vs r=ver/\ ∃row,s.rows r=some row/\row.sz=row'.sz/\m'.ρ r'=m.ρ r)
theorem RL.ren {w w':World} {m m':Mem} {s s':St} {v:Value} {c:AV} {g:Nat->Nat->Option (Nat×Nat)} (hS: ∀b o,m.S b o->m'.S b o/\Stay w w' b o) (hg:Names s m s' m' g) (h:RL w m s v c):RL w' m' s' v (c.ren g):=by
 induction h with
 |val h=>exact .val ((h.mono hS).ren g)
 | agg vs cs h h1 hc ih=>
   refine .agg vs _ (by rw[dL];exact h) h1 fun i v c hv hcc=> ?_;obtain⟨c',k1,rfl⟩:=ig g cs i c hcc;exact ih i v c' hv k1
 | tuple vs cs h hc ih=>
   refine .tuple vs _ (by rw[dL];exact h) fun i v c hv hcc=> ?_;obtain⟨c',k1,rfl⟩:=ig g cs i c hcc;exact ih i v c' hv k1
 | clo f vs cs h hc ih=>
   refine .clo f vs _ (by rw[dL];exact h) fun i v c hv hcc=> ?_;obtain⟨c',k1,rfl⟩:=ig g cs i c hcc;exact ih i v c' hv k1
 | row r ver h1 hle h=>
   unfold AV.ren;cases hq:g r ver with
   |none=>exact .val (.any _)
   | some q=>
     obtain⟨k1,k2⟩:=hg r ver q.1 q.2 hq hle;refine .row q.1 q.2 h1 k1 fun e row' hr=> ?_;obtain⟨k3,row,k4,_,k5⟩:=k2 e row' hr;rw[k5];exact h k3 row k4
 | sub r ver lo h1 hle h=>
   unfold AV.ren;cases hq:g r ver with
   |none=>exact .val (.any _)
   | some q=>
     obtain⟨k1,k2⟩:=hg r ver q.1 q.2 hq hle;refine .sub q.1 q.2 lo h1 k1 fun e row' hr=> ?_;obtain⟨k3,row,k4,k6,k5⟩:=k2 e row' hr;rw[k5, <-k6];exact h k3 row k4
 | loc r ver i off h1 hle h=>
   unfold AV.ren;cases hq:g r ver with
   |none=>exact .val (.any _)
   | some q=>
     obtain⟨k1,k2⟩:=hg r ver q.1 q.2 hq hle;refine .loc q.1 q.2 i off h1 k1 fun e row' hr=> ?_;obtain⟨k3,row,k4,k5,k6⟩:=k2 e row' hr;rw[k6, <-k5];exact h k3 row k4
 | mp r ver h1 hle h=>
   unfold AV.ren;cases hq:g r ver with
   |none=>exact .val (.any _)
   | some q=>
     obtain⟨k1,k2⟩:=hg r ver q.1 q.2 hq hle;refine .mp q.1 q.2 h1 k1 fun e row' hr=> ?_;obtain⟨k3,row,k4,_,k6⟩:=k2 e row' hr;rw[k6];exact h k3 row k4
def Row.ren (g:Nat->Nat->Option (Nat×Nat)) (row:Row):Row:=if row.pure then row else { row with es:=row.es.map (·.map (AV.ren g)) }
theorem Row.ren_sz (g:Nat->Nat->Option (Nat×Nat)) (row:Row):(row.ren g).sz=row.sz:=by unfold Row.ren;split<;>rfl
theorem Row.ren_e (g:Nat->Nat->Option (Nat×Nat)) (row:Row):(row.ren g).e=row.e:=by unfold Row.ren;split<;>rfl
theorem Row.ren_pure (g:Nat->Nat->Option (Nat×Nat)) (row:Row):(row.ren g).pure=row.pure:=by unfold Row.ren;split<;>rfl
theorem Row.ren_len (g:Nat->Nat->Option (Nat×Nat)) (row:Row):(row.ren g).es.length=row.es.length:=by unfold Row.ren;split<;>simp
theorem Row.ren_at (g:Nat->Nat->Option (Nat×Nat)) (row:Row) {i j:Nat} {c:AV} (h:cellAt (row.ren g).es i j=some c): ∃c',cellAt row.es i j=some c'/\c=(if row.pure then c' else c'.ren g):=by
 unfold Row.ren at h;split at h
 ·rename_i hp;exact⟨c,h,by rw[K0 hp]⟩
 ·rename_i hp;unfold cellAt at h |-;simp only[K5]at h;cases hi:row.es[i]? with
  |none=>rw[hi]at h;cases h
  | some e=>
    rw[hi]at h;simp only[Kg,LX,K5]at h;cases hj:e[j]? with
    |none=>rw[hj]at h;cases h
    | some c'=>
      rw[hj]at h;cases h;exact⟨c',hj,by rw[KZ hp]⟩
theorem Row.ren_els (g:Nat->Nat->Option (Nat×Nat)) (row:Row) (n:Nat) (h: ∀(i:Nat) (e:List AV),row.es[i]? =some e->e.length=n) (i:Nat) (e:List AV) (he:(row.ren g).es[i]? =some e):e.length=n:=by
 unfold Row.ren at he;split at he
 ·exact h i e he
 ·simp only[K5]at he;cases hi:row.es[i]? with
  |none=>rw[hi]at he;cases he
  |some e'=>rw[hi]at he;cases he;simpa using h i e' hi
theorem CellsOk.ren {base:Nat} {w:World} {m m':Mem} {s s':St} {r r':Nat} {row:Row} {g:Nat->Nat->Option (Nat×Nat)} (h:CellsOk base w m s r row) (hS:m'.S=m.S) (hg:Names s m s' m' g) (hρ:m'.ρ r'=m.ρ r) (he:s'.esc r'=s.esc r):CellsOk base w m' s' r' (row.ren g):=by
 refine⟨by rw[Row.ren_sz];exact h.pos,fun i e hh=>by rw[Row.ren_sz];exact Row.ren_els g row _ h.len i e hh,?_,?_,?_,?_⟩
 ·obtain⟨xs,h1,h2,h3⟩:=h.own;refine⟨xs,by rw[Row.ren_e,Row.ren_sz,Row.ren_len,hρ];exact h1,h2,fun i j c hc=> ?_⟩;obtain⟨c',k1,k2⟩:=Row.ren_at g row hc;obtain⟨u,k3,k4⟩:=h3 i j c' k1;refine⟨u,by rw[Row.ren_sz];exact k3,?_⟩;rw[Row.ren_pure];subst k2;cases hp:row.pure with
  |true=>rw[hp]at k4;simp only[L4]at k4 |-;rw[hS];exact k4
  | false=>
    rw[hp]at k4;simp only[LA,Lf]at k4 |-;exact RL.ren (fun b o hb=>⟨by rw[hS];exact hb, .rfl⟩) hg k4
 ·rw[he,hρ,hS,Row.ren_len,Row.ren_sz];exact h.esc
 ·rw[hρ,hS,Row.ren_len,Row.ren_sz];exact h.spare
 ·rw[he,hρ,hS];exact h.fresh
theorem gB.ren {base:Nat} {w:World} {m m':Mem} {s s':St} {r r':Nat} {row:Row} {g:Nat->Nat->Option (Nat×Nat)} (h:gB base w m s r row) (hS:m'.S=m.S) (hg:Names s m s' m' g) (hρ:m'.ρ r'=m.ρ r) (he:s'.esc r'=s.esc r):gB base w m' s' r' (row.ren g):=by
 rcases h with h|h
 ·exact .inl (h.ren hS hg hρ he)
 ·obtain⟨b,ents,clock,e1,e2,e3,e4,e5⟩:=h.own;refine .inr ⟨by rw[Row.ren_sz];exact h.sz,⟨b,ents,clock,hρ.trans e1,e2,e3,by rw[Row.ren_len];exact e4,fun i e hi=> ?_⟩,by rw[hρ,hS];exact h.fresh⟩;unfold Row.ren at hi;split at hi
  ·rename_i hp;obtain⟨en,kc,vc,k1,k2,k3,k4⟩:=e5 i e hi;rw[K0 hp]at k4;exact⟨en,kc,vc,k1,k2,by rw[hS];exact k3,by rw[Row.ren_pure,K0 hp,hS];exact k4⟩
  ·rename_i hp;simp only[K5]at hi;cases hi0:row.es[i]? with
   |none=>rw[hi0]at hi;cases hi
   | some e0=>
     rw[hi0]at hi;cases hi;obtain⟨en,kc,vc,k1,k2,k3,k4⟩:=e5 i e0 hi0;rw[KZ hp]at k4;subst k2;refine⟨en,kc.ren g,vc.ren g,k1,rfl,by rw[hS];exact k3.ren g,?_⟩;rw[Row.ren_pure,KZ hp];exact RL.ren (fun b o hb=>⟨by rw[hS];exact hb, .rfl⟩) hg k4
end
section
section
variable (toR toK:Nat->Option Nat)
def gin (toK:Nat->Option Nat) (r ver:Nat):Option (Nat×Nat):=(toK r).map fun k=>(k,ver)
def lG (s:St) (cs:List AV):St:=⟨fun t=>(cs.getD t .any).ren (gin toK),fun k=>(toR k).bind fun r=>(s.rows r).map (Row.ren (gin toK)),fun k=>match toR k with|some r=>s.vs r|none=>0,fun k=>match toR k with|some r=>s.esc r|none=>false⟩
def uJ (m:Mem):Mem:=⟨m.S,fun k=>match toR k with|some r=>m.ρ r|none=>undef⟩
def inCtx (x:Ctx) (s:St) (cs:List AV) (w:World) (m:Mem) (nt:Nat):Ctx:=
 { x with df:=[],nt:=nt,fw:=w,fm:=uJ toR m,e:=lG toR toK s cs,fx:=fun b=>x.fx b\/ ∃r row,s.rows r=some row/\toK r=none/\(m.ρ r).ownBlock=some b }
end
section
variable {toR toK:Nat->Option Nat} {x:Ctx} {s:St} {a:Act} {w:World} {m:Mem}
theorem G4 (hinv: ∀k r,toR k=some r↔toK r=some k) (cs:List AV):Names s m (lG toR toK s cs) (uJ toR m) (gin toK):=fun r ver k ver' hg hle=>by
 unfold gin at hg;cases hk:toK r with
 |none=>rw[hk]at hg;cases hg
 | some k'=>
   rw[hk]at hg;simp only[Kg,KX,NP]at hg;obtain⟨rfl,rfl⟩:=hg;have hr:=(hinv k' r).2 hk;have e1:(lG toR toK s cs).vs k'=s.vs r:=by simp only[lG,hr]
   refine⟨by rw[e1];exact hle,fun e row' hrow=>⟨by rw[<-e1];exact e,?_⟩⟩;have e2:(lG toR toK s cs).rows k'=(s.rows r).map (Row.ren (gin toK)):=by simp only[lG,hr,LX]
   rw[e2]at hrow;cases hs:s.rows r with
   |none=>rw[hs]at hrow;cases hrow
   | some row=>
     rw[hs]at hrow;simp only[Kg,KX]at hrow;subst hrow;exact⟨row,rfl,(Row.ren_sz _ _).symm,by simp only[uJ,hr]⟩
theorem Sim.enter (h:Sim x s a w m) (hinv: ∀k r,toR k=some r↔toK r=some k) {nt:Nat} {cs:List AV} {vs:List Value} (hlen:vs.length=cs.length) (hnt:cs.length<=nt) (hv: ∀(i:Nat) (v:Value) (c:AV),vs[i]? =some v->cs[i]? =some c->RL w m s v c):
 Sim (inCtx toR toK x s cs w m nt) (lG toR toK s cs) { tmps:=vs.toArray++Array.replicate (nt-vs.toArray.size) undef,defers:=[] } w (uJ toR m):=by
 have hN:=G4 (m:=m) (s:=s) hinv cs
 have hrows: ∀k row',(lG toR toK s cs).rows k=some row'-> ∃r row,toR k=some r/\s.rows r=some row/\row'=row.ren (gin toK):=fun k row' hr=>by
  simp only[lG]at hr;cases hk:toR k with
  |none=>rw[hk]at hr;cases hr
  | some r=>
    rw[hk]at hr;simp only[LX]at hr;cases hs:s.rows r with
    |none=>rw[hs]at hr;cases hr
    |some row=>rw[hs]at hr;cases hr;exact⟨r,row,rfl,hs,rfl⟩
 have hρ: ∀k r,toR k=some r->(uJ toR m).ρ k=m.ρ r:=fun k r hk=>by simp only[uJ,hk]
 refine⟨h.bel,h.low,h.sup,h.sub,h.env,h.env0,h.einv,rfl,by simp[inCtx];omega,fun t=> ?_,fun k row' hr=> ?_,fun k k' row1 row2 h1 h2 hne g hg=> ?_,fun _ _ hh=>⟨hh, .rfl⟩,fun _=>K8 _,fun r row' _ hr=>⟨row',hr,rfl,rfl⟩,K8 _,fun b hb=>⟨?_,rfl,fun _ hh=>hh⟩,fun k row' hr g hg=> ?_⟩
 ·show RL w _ _ _ ((cs.getD t .any).ren (gin toK));by_cases ht:t<cs.length
  ·refine RL.ren (m:=m) (s:=s) (fun b o hb=>⟨hb, .rfl⟩) hN (hv t _ _ ?_ ?_)
   ·rw[LS,NF (by simp;omega)];simp[show t<vs.length by omega]
   ·simp[List.getD,ht]
  ·have:cs.getD t .any= .any:=by simp[List.getD,K7 (OR ht)]
   rw[this];exact .val (.any _)
 ·obtain⟨r,row,h1,h2,rfl⟩:=hrows k row' hr;exact(h.rows r row h2).ren rfl hN (hρ k r h1) (by simp only[lG,h1])
 ·obtain⟨r,row,p1,p2,_⟩:=hrows k row1 h1;obtain⟨r',row',q1,q2,_⟩:=hrows k' row2 h2;rw[hρ k r p1]at hg;rw[hρ k' r' q1]
  have hrr:r≠r':=fun e=>hne (by
   subst e;have e1:=(hinv k r).1 p1;have e2:=(hinv k' r).1 q1;rw[e1]at e2
   exact Lo e2)
  exact h.inj r r' row row' p2 q2 hrr g hg
 ·rcases hb with hb|⟨r,row,h1,_,h2⟩
  ·exact h.fxlt hb
  ·exact((h.rows r row h1).blk h2).2
 ·obtain⟨r,row,p1,p2,_⟩:=hrows k row' hr;rw[hρ k r p1]at hg;rintro(hb|⟨r',row2,q1,q2,q3⟩)
  ·exact h.nofx r row p2 g hg hb
  ·have hrr:r≠r':=fun e=>by
    subst e;rw[(hinv k r).1 p1]at q2;cases q2
   exact h.inj r r' row row2 p2 q1 hrr g hg q3
def gout (toR:Nat->Option Nat) (o n:Nat->Nat) (k ver:Nat):Option (Nat×Nat):=(toR k).bind fun r=>if ver=o k then some (r,n r) else none
def ji (toK:Nat->Option Nat) (grown:Nat->Bool) (s:St) (r:Nat):Nat:=if (toK r).isSome&&grown r then s.vs r+1 else s.vs r
def iN (toR toK:Nat->Option Nat) (grown:Nat->Bool) (s s2:St):St:=⟨s.f,fun r=>match toK r with|some k=>(s2.rows k).map (Row.ren (gout toR s2.vs (ji toK grown s)))|none=>s.rows r,ji toK grown s,fun r=>match toK r with|some k=>s2.esc k|none=>s.esc r⟩
def gJ (toK:Nat->Option Nat) (m m2:Mem):Mem:=⟨m2.S,fun r=>match toK r with|some k=>m2.ρ k|none=>m.ρ r⟩
theorem Ej (hinv: ∀k r,toR k=some r↔toK r=some k) (grown:Nat->Bool) (s s2:St) (m m2:Mem):Names s2 m2 (iN toR toK grown s s2) (gJ toK m m2) (gout toR s2.vs (ji toK grown s)):=fun k ver r ver' hg _=>by
 unfold gout at hg;cases hk:toR k with
 |none=>rw[hk]at hg;cases hg
 | some r'=>
   rw[hk]at hg;simp only[LX]at hg;split at hg
   ·rename_i hver;simp only[KX,NP]at hg;obtain⟨rfl,rfl⟩:=hg;have hr:=(hinv k r').1 hk;refine⟨K8 _,fun _ row' hrow=>⟨hver.symm,?_⟩⟩;simp only[iN,hr]at hrow;cases hs:s2.rows k with
    |none=>rw[hs]at hrow;cases hrow
    | some row=>
      rw[hs]at hrow;simp only[Kg,KX]at hrow;subst hrow;exact⟨row,rfl,(Row.ren_sz _ _).symm,by simp only[gJ,hr]⟩
   ·cases hg
theorem Sim.back {cs:List AV} {nt:Nat} {s2:St} {a2:Act} {w2:World} {m2:Mem} (h:Sim x s a w m) (h2:Sim (inCtx toR toK x s cs w m nt) s2 a2 w2 m2) (hinv: ∀k r,toR k=some r↔toK r=some k) (grown:Nat->Bool) (hset: ∀k r,toR k=some r->grown r=false->s2.vs k=s.vs r):
 Sim x (iN toR toK grown s s2) a w2 (gJ toK m m2)/\ ∀v c,RL w2 m2 s2 v c->RL w2 (gJ toK m m2) (iN toR toK grown s s2) v (c.ren (gout toR s2.vs (ji toK grown s))):=by
 have hN:=Ej hinv grown s s2 m m2;have hS: ∀b o,m.S b o->(gJ toK m m2).S b o/\Stay w w2 b o:=h2.evS
 have hv: ∀r,s.vs r<=(iN toR toK grown s s2).vs r:=fun r=>by
  show s.vs r<=ji toK grown s r;unfold ji;split<;>omega
 have hk: ∀r row',(iN toR toK grown s s2).vs r=s.vs r->(iN toR toK grown s s2).rows r=some row'-> ∃row,s.rows r=some row/\row.sz=row'.sz/\(gJ toK m m2).ρ r=m.ρ r:=fun r row' e hr=>by
  cases hkr:toK r with
  | none=>
    simp only[iN,hkr]at hr;exact⟨row',hr,rfl,by simp only[gJ,hkr]⟩
  | some k=>
    have hrk:=(hinv k r).2 hkr;have e:ji toK grown s r=s.vs r:=e
    have hgr:grown r=false:=by
     cases hgr:grown r with
     |false=>rfl
     |true=>simp[ji,hkr,hgr]at e
    simp only[iN,hkr]at hr;cases hs:s2.rows k with
    |none=>rw[hs]at hr;cases hr
    | some row2=>
      rw[hs]at hr;simp only[Kg,KX]at hr;subst hr
      have hvk:s2.vs k=(inCtx toR toK x s cs w m nt).e.vs k:=by
       rw[hset k r hrk hgr];simp only[inCtx,lG,hrk]
      obtain⟨row0,q1,q2,q3⟩:=h2.evK k row2 hvk hs;simp only[inCtx,lG,hrk,LX]at q1;cases hs0:s.rows r with
      |none=>rw[hs0]at q1;cases q1
      | some row=>
        rw[hs0]at q1;simp only[Kg,KX]at q1;subst q1;refine⟨row,rfl,?_,?_⟩
        ·rw[Row.ren_sz, <-q2,Row.ren_sz]
        ·simp only[gJ,hkr];rw[q3];simp only[inCtx,uJ,hrk]
 have hfx: ∀r row,s.rows r=some row->toK r=none-> ∀g,(m.ρ r).ownBlock=some g->(inCtx toR toK x s cs w m nt).fx g:=fun r row h1 h3 g hg=> .inr ⟨r,row,h1,h3,hg⟩
 have hrows: ∀r row',(iN toR toK grown s s2).rows r=some row'->(toK r=none/\s.rows r=some row'/\(gJ toK m m2).ρ r=m.ρ r)\/ ∃k row2,toK r=some k/\s2.rows k=some row2/\row'=row2.ren (gout toR s2.vs (ji toK grown s))/\(gJ toK m m2).ρ r=m2.ρ k:=fun r row' hr=>by
  cases hkr:toK r with
  | none=>
    simp only[iN,hkr]at hr;exact .inl ⟨rfl,hr,by simp only[gJ,hkr]⟩
  | some k=>
    simp only[iN,hkr]at hr;cases hs:s2.rows k with
    |none=>rw[hs]at hr;cases hr
    | some row2=>
      rw[hs]at hr;simp only[Kg,KX]at hr;exact .inr ⟨k,row2,rfl,hs,hr.symm,by simp only[gJ,hkr]⟩
 refine⟨⟨h2.bel,h2.low,h2.sup,h2.sub,h.env,h.env0,h.einv,h.dfs,h.siz,fun t=>(h.slot t).mono hS hv hk,fun r row' hr=> ?_,fun r r' row1 row2 h1 h3 hne g hg=> ?_,h.toS hS,h.toV hv,h.toK hv hk,Kh h.fwle h2.fwle,fun b hb=>⟨(h.fix b hb).1,(h2.fix b (.inl hb)).2.1.trans (h.fix b hb).2.1,fun o ho=>(h.fix b hb).2.2 o ((h2.fix b (.inl hb)).2.2 o ho)⟩,fun r row' hr g hg hb=> ?_⟩,fun v c hc=>RL.ren (m:=m2) (s:=s2) (fun b o hb=>⟨hb, .rfl⟩) hN hc⟩
 ·rcases hrows r row' hr with⟨p1,p2,p3⟩|⟨k,row2,p1,p2,rfl,p3⟩
  ·refine(h.rows r row' p2).mono hS hv hk p3 (fun g hg=>(h2.fix g (hfx r row' p2 p1 g hg)).2.1) (by simp only[iN,p1]) fun g hg o ho=>(h2.fix g (hfx r row' p2 p1 g hg)).2.2 o ho
  ·exact(h2.rows k row2 p2).ren rfl hN p3 (by simp only[iN,p1])
 ·rcases hrows r row1 h1 with⟨p1,p2,p3⟩|⟨k,q,p1,p2,_,p3⟩<;>rcases hrows r' row2 h3 with⟨p1',p2',p3'⟩|⟨k',q',p1',p2',_,p3'⟩<;>rw[p3]at hg<;>rw[p3']
  ·exact h.inj r r' row1 row2 p2 p2' hne g hg
  ·exact fun hg'=>h2.nofx k' q' p2' g hg' (hfx r row1 p2 p1 g hg)
  ·exact fun hg'=>h2.nofx k q p2 g hg (hfx r' row2 p2' p1' g hg')
  ·refine h2.inj k k' q q' p2 p2' (fun e=>hne ?_) g hg;subst e;have e1:=(hinv k r).2 p1;have e2:=(hinv k r').2 p1';rw[e1]at e2;exact Lo e2
 ·rcases hrows r row' hr with⟨p1,p2,p3⟩|⟨k,q,p1,p2,_,p3⟩<;>rw[p3]at hg
  ·exact h.nofx r row' p2 g hg hb
  ·exact h2.nofx k q p2 g hg (.inl hb)
end
end
section
/-! Contracts of bodies that are handed rows -/
def xn (P:Program) (t:TypeId) (c:AV):Rd Out:=match c with
 | .loc r ver i off=>Rd.row r ver fun row=>eE P t row.es[i]? off
 |_=> .fail
def Ax (P:Program) (s:St):ResultVar->AV->Prop
 | .tmp t,c=>s.f t=c
 | .cell p t,c=>(xn P t (s.f p)).run s=some ⟨c,[]⟩
def ng (P:Program) (s:St):List ResultVar->List AV->Prop
 |[],[]=>True
 |r::rs,c::cs=>Ax P s r c/\ng P s rs cs
 |_,_=>False
def Hb (P:Program) (s:St):List ResultVar->AV->Prop
 |[],c=>c= .lit (.tuple #[])
 |[r],c=>Ax P s r c
 |rs,c=> ∃cs,c= .tuple cs/\rs.length≠1/\ng P s rs cs
section
variable {P:Program} {x:Ctx} {s:St} {a:Act} {w:World} {m:Mem}
theorem zH {r:ResultVar} {c:AV} (hS:Sim x s a w m) (h:Ax P s r c): ∃v,(resultSem a.tmps r).run P w= .ok v w/\RL w m s v c:=by
 cases r with
 | tmp t=>
   have h:s.f t=c:=h;exact⟨_,rfl,h ▸ hS.slot t⟩
 | cell p t=>
   have h1:(xn P t (s.f p)).run s=some ⟨c,[]⟩:=h;unfold xn at h1;have hp:=hS.slot p;split at h1
   ·rename_i r ver i off e;rw[e]at hp;obtain⟨row,hrow,hver,hrz,h1⟩:=dV h1;obtain⟨g,hg,hv⟩:=hp.loc_.2 hver row hrow;obtain⟨xs,k1,k2,k3⟩:=((hS.rows r row hrow).cells hrz).own;cases he:row.es[i]? with
    | none=>
      rw[he]at h1;unfold eE at h1;cases hd:tyD P t with
      |none=>rw[hd]at h1;simp[Rd.run]at h1
      |some d=>rw[hd]at h1;obtain⟨k,n,z⟩:=d;cases k<;>simp[Rd.run]at h1
    | some cs=>
      rw[he]at h1
      obtain⟨v,p1,p2,p3⟩:=kY (P:=P) (t:=t) (w:=w) (m:=m) (s:=s) (b:=g) (p:=i*row.sz) (fun j=>xs.getD (i*row.sz+j) undef) (fun j c hj=>by
       have hca:cellAt row.es i j=some c:=by unfold cellAt;rw[he];exact hj
       obtain⟨u,q1,q2⟩:=k3 i j c hca;have hu:xs.getD (i*row.sz+j) undef=u:=by simp[List.getD,q1]
       rw[hu];refine⟨gp k1 hg _ u q1,k2 u (K1 q1),?_⟩;split at q2
       ·exact .val q2
       ·exact q2) h1
      refine⟨v,?_,p2⟩;simp only[resultSem,hv,asAddr,Ks,LO,Kc];simpa[Instr.loadAt,Instr.sureAddr]using p1
   ·simp[Rd.run]at h1
theorem Cq (hS:Sim x s a w m): ∀ {rs:List ResultVar} {cs:List AV},ng P s rs cs-> ∃vs:List Value,(rs.mapM (resultSem a.tmps)).run P w= .ok vs w/\vs.length=rs.length/\vs.length=cs.length/\ ∀(i:Nat) (v:Value) (c:AV),vs[i]? =some v->cs[i]? =some c->RL w m s v c
 |[],[],_=>⟨[],by simp,rfl,rfl,fun i v c h _=>by simp at h⟩
 | r::rs,c::cs,⟨h1,h⟩=>by
   obtain⟨vs,k1,k2,k3,k4⟩:=Cq hS h;obtain⟨v0,e1,e2⟩:=zH hS h1;refine⟨v0::vs,by simp[N8,e1,k1],by simp[k2],by simp[k3],fun i v c' hvi hci=> ?_⟩;cases i with
   | zero=>
     simp only[LM,KX]at hvi hci;subst hvi hci;exact e2
   |succ i=>exact k4 i v c' (by simpa using hvi) (by simpa using hci)
 |_::_,[],h=>h.elim
 |[],_::_,h=>h.elim
theorem IR {fn:Func} {c:AV} (hS:Sim x s a w m) (h:Hb P s fn.results.toList c): ∃v,(results fn a.tmps).run P w= .ok v w/\RL w m s v c:=by
 generalize hrs:fn.results.toList=rs at h
 match rs,h with
 | [],h=>
   have h:c= .lit (.tuple #[]):=h;refine⟨.tuple #[],?_,by rw[h];exact .val (.lit _)⟩;have ha:fn.results= #[]:=by rw[<-LU (xs:=fn.results),hrs]
   rw[gU,ha];simp
 | [r],h=>
   have h:Ax P s r c:=h;have ha:fn.results= #[r]:=by rw[<-LU (xs:=fn.results),hrs]
   obtain⟨v,e1,e2⟩:=zH hS h;refine⟨v,?_,e2⟩;rw[gU,ha];simp[e1]
 | r::r'::rs,h=>
   obtain⟨cs,hc,hne,ht⟩: ∃cs,c= .tuple cs/\(r::r'::rs).length≠1/\ng P s (r::r'::rs) cs:=h;obtain⟨vs,k1,k2,k3,k4⟩:=Cq (P:=P) hS ht;refine⟨.tuple vs.toArray,?_,by rw[hc];exact .tuple vs cs k3 k4⟩;rw[gU]
   have:(fn.results.mapM (resultSem a.tmps)).run P w= .ok vs.toArray w:=by
    rw[Array.mapM_eq_mapM_toList,hrs];try clear hne ht k2
    generalize r::r'::rs=L at k1 |-;simp[k1]
   have hne': ¬vs.length=1:=by rw[k2];exact hne
   simp[this,hne']
end
def Ha (P:Program) (rs:List ResultVar) (ids:List Nat) (grown:Nat->Bool) (vs0:Nat->Nat) (post:(Nat->Nat)->List (Nat×Row)) (res:(Nat->Nat)->AV):Exit->St->Prop
 | .normal,s | .ret,s=>(∀k∈ids,(s.rows k=ag (post s.vs) k/\s.esc k=false)/\(grown k=false->s.vs k=vs0 k))/\Hb P s rs (res s.vs)
 |_,_=>False
structure ConI (P:Program) (env:Env) (f:FuncId) (ids:List Nat) (grown:Nat->Bool) (cs:(Nat->Nat)->List AV) (pre post:(Nat->Nat)->List (Nat×Row)) (res:(Nat->Nat)->AV):Prop where
 enter: ∀(args:Array Value) (w:World),(callFunc f args).run P w= .ok (.enter f args) w
 body: ∃fn c,P.funcs[f]? =some fn/\fn.body=some c/\(∀vs,(cs vs).length<=fn.ntmps)/\ ∀vs esc,(∀k∈ids,esc k=false)->awp P env fn.ntmps c (Ha P fn.results.toList ids grown vs post res) ⟨fun t=>(cs vs).getD t .any,ag (pre vs),vs,esc⟩
def dS:List (Nat×Nat)->Nat->Option Nat
 |[],_=>none
 |p::L,k=>if p.1=k then some p.2 else dS L k
def eW:List (Nat×Nat)->Nat->Option Nat
 |[],_=>none
 |p::L,r=>if p.2=r then some p.1 else eW L r
theorem jJ: ∀ {L:List (Nat×Nat)} {k r:Nat},(L.map (·.1)).Nodup->(dS L k=some r↔(k,r)∈L)
 |[],k,r,_=>by simp[dS]
 | p::L,k,r,h=>by
   obtain⟨h1,h2⟩:=M1.1 (by simpa using h:(p.1::L.map (·.1)).Nodup);have ih:=jJ (L:=L) (k:=k) (r:=r) h2;unfold dS;by_cases e:p.1=k
   ·subst e;rw[K0 rfl];simp only[KX,Kk];constructor
    ·rintro rfl;exact .inl rfl
    ·rintro(h|h)
     ·rw[<-h]
     ·exact absurd (K9.2 ⟨_,h,rfl⟩) h1
   ·rw[KZ e,ih];simp only[Kk];constructor
    ·exact .inr
    ·rintro(h|h)
     ·exact absurd (by rw[<-h]) e
     ·exact h
theorem gl: ∀ {L:List (Nat×Nat)} {k r:Nat},(L.map (·.2)).Nodup->(eW L r=some k↔(k,r)∈L)
 |[],k,r,_=>by simp[eW]
 | p::L,k,r,h=>by
   obtain⟨h1,h2⟩:=M1.1 (by simpa using h:(p.2::L.map (·.2)).Nodup);have ih:=gl (L:=L) (k:=k) (r:=r) h2;unfold eW;by_cases e:p.2=r
   ·subst e;rw[K0 rfl];simp only[KX,Kk];constructor
    ·rintro rfl;exact .inl rfl
    ·rintro(h|h)
     ·rw[<-h]
     ·exact absurd (K9.2 ⟨_,h,rfl⟩) h1
   ·rw[KZ e,ih];simp only[Kk];constructor
    ·exact .inr
    ·rintro(h|h)
     ·exact absurd (by rw[<-h]) e
     ·exact h
def fo (L:List (Nat×Nat)) (grown:Nat->Bool) (r:Nat):Bool:=match eW L r with|some k=>grown k|none=>false
def vin (L:List (Nat×Nat)) (vsv:Nat->Nat) (k:Nat):Nat:=match dS L k with|some r=>vsv r|none=>0
def nout (L:List (Nat×Nat)) (grown:Nat->Bool) (vsv:Nat->Nat) (r:Nat):Nat:=if (eW L r).isSome&&fo L grown r then vsv r+1 else vsv r
def lay (grown:Nat->Bool) (R':Nat->Row) (p:Nat×Nat):Eff:=if grown p.1 then .renew p.2 (R' p.2) else .set p.2 (R' p.2)
theorem lay_all (L0:List (Nat×Nat)) (grown:Nat->Bool) (R':Nat->Row): ∀(L:List (Nat×Nat)) (s:St),(L.map (·.2)).Nodup->(∀p∈L,fo L0 grown p.2=grown p.1)->(∀p∈L,s.esc p.2=false)->
 (apps (L.map (lay grown R')) s).f=s.f/\(∀r,(apps (L.map (lay grown R')) s).rows r=if r∈L.map (·.2) then some (R' r) else s.rows r)/\
 (∀r,(apps (L.map (lay grown R')) s).vs r=if r∈L.map (·.2)/\fo L0 grown r=true then s.vs r+1 else s.vs r)/\(∀r,(apps (L.map (lay grown R')) s).esc r=s.esc r)
 |[],s,_,_,_=>⟨rfl,fun r=>by simp[apps],fun r=>by simp[apps],fun r=>by simp[apps]⟩
 | p::L,s,h,hg,he=>by
   obtain⟨h1,h2⟩:=M1.1 (by simpa using h:(p.2::L.map (·.2)).Nodup);have hgp:=hg p (by simp);have hep:=he p (by simp);have hpL: ∀q∈L,q.2≠p.2:=fun q hq e=>h1 (by rw[<-e];exact K9.2 ⟨q,hq,rfl⟩)
   have key: ∀s1:St,s1.f=s.f->(∀r,s1.rows r=if r=p.2 then some (R' p.2) else s.rows r)->(∀r,s1.vs r=if r=p.2/\grown p.1=true then s.vs r+1 else s.vs r)->(∀r,s1.esc r=s.esc r)->(lay grown R' p).app s=s1->
    _:=fun s1 e1 e2 e3 e4 e5=>by
    obtain⟨k1,k2,k3,k4⟩:=lay_all L0 grown R' L s1 h2 (fun q hq=>hg q (by simp[hq])) (fun q hq=>by rw[e4];exact he q (by simp[hq]));have e0:apps ((p::L).map (lay grown R')) s=apps (L.map (lay grown R')) s1:=by rw[LI,apps,e5]
    show (apps ((p::L).map (lay grown R')) s).f=s.f/\(∀r,(apps ((p::L).map (lay grown R')) s).rows r=if r∈(p::L).map (·.2) then some (R' r) else s.rows r)/\
     (∀r,(apps ((p::L).map (lay grown R')) s).vs r=if r∈(p::L).map (·.2)/\fo L0 grown r=true then s.vs r+1 else s.vs r)/\(∀r,(apps ((p::L).map (lay grown R')) s).esc r=s.esc r)
    rw[e0];refine⟨k1.trans e1,fun r=> ?_,fun r=> ?_,fun r=>(k4 r).trans (e4 r)⟩
    ·rw[k2,e2];simp only[LI,Kk];by_cases hr:r∈L.map (·.2)
     ·rw[K0 hr,K0 (.inr hr)]
     ·rw[KZ hr];by_cases hp:r=p.2
      ·rw[K0 hp,K0 (.inl hp),hp]
      ·rw[KZ hp,KZ (by rintro(h|h)<;>contradiction)]
    ·rw[k3,e3];simp only[LI,Kk];by_cases hr:r∈L.map (·.2)
     ·have hrp:r≠p.2:=fun e=>h1 (e ▸ hr);simp[hr,hrp]
     ·by_cases hp:r=p.2
      ·subst hp;simp[hr,hgp]
      ·simp[hr,hp]
   cases hgv:grown p.1 with
   | true=>
     refine key (s.renew p.2 (R' p.2) false) rfl (fun r=>by simp only[St.renew,upd]) (fun r=> ?_) (fun r=> ?_) (by simp only[lay,hgv,L4,Eff.app])
     ·simp only[St.renew,upd,hgv,Ol];split
      ·rename_i e;rw[e]
      ·rfl
     ·simp only[St.renew,upd];split
      ·rename_i e;rw[e,hep]
      ·rfl
   |false=>exact key (s.setRow p.2 (R' p.2)) rfl (fun r=>by simp only[St.setRow,upd]) (fun r=>by simp[St.setRow,hgv]) (fun r=>rfl) (by simp only[lay,hgv,LA,Lf,Eff.app])
theorem JB {P:Program} {env:Env} {f:FuncId} {L:List (Nat×Nat)} {grown:Nat->Bool} {cs:(Nat->Nat)->List AV} {pre post:(Nat->Nat)->List (Nat×Row)} {res:(Nat->Nat)->AV} (hcon:ConI P env f (L.map (·.1)) grown cs pre post res)
 (hk:(L.map (·.1)).Nodup) (hr:(L.map (·.2)).Nodup) {ccs:List AV} {rows:Nat->Option Row} {vsv:Nat->Nat} {R':Nat->Row} {val:AV}
 (h1:AV.ren.renL (gin (eW L)) ccs=cs (vin L vsv))
 (h2: ∀k row,ag (pre (vin L vsv)) k=some row-> ∃r row0,dS L k=some r/\rows r=some row0/\row0.ren (gin (eW L))=row)
 (h3: ∀o:Nat->Nat,(∀p∈L,grown p.1=false->o p.1=vsv p.2)-> ∀p∈L,(ag (post o) p.1).map (Row.ren (gout (dS L) o (nout L grown vsv)))=some (R' p.2))
 (h4: ∀o:Nat->Nat,(∀p∈L,grown p.1=false->o p.1=vsv p.2)->(res o).ren (gout (dS L) o (nout L grown vsv))=val):
 Acts P env f ccs (L.map (·.2)) rows vsv ⟨val,L.map (lay grown R')⟩:=by
 refine⟨hcon.enter,fun x s a w m vs hx hS hrow hl hv=> ?_⟩;obtain⟨fn,c,hf,hb,hn,hbody⟩:=hcon.body;have hinv: ∀k r,dS L k=some r↔eW L r=some k:=fun k r=>(jJ hk).trans (gl hr).symm;have hids: ∀ {k r},dS L k=some r->r∈L.map (·.2):=fun {k r} h=>K9.2 ⟨(k,r),(jJ hk).1 h,rfl⟩
 have hvin:(lG (dS L) (eW L) s ccs).vs=vin L vsv:=by
  funext k
  simp only[lG,vin];cases hk':dS L k with
  |none=>rfl
  |some r=>exact(hrow r (hids hk')).2.1
 have hlen:ccs.length=(cs (vin L vsv)).length:=by rw[<-h1,dL]
 have hE:=hS.enter (toR:=dS L) (toK:=eW L) hinv (nt:=fn.ntmps) hl (by rw[hlen];exact hn _) hv;refine calls_of_wp hf hb ?_
 have hless:Less (lG (dS L) (eW L) s ccs) ⟨fun t=>(cs (vin L vsv)).getD t .any,ag (pre (vin L vsv)),vin L vsv,(lG (dS L) (eW L) s ccs).esc⟩:=by
  refine⟨fun t=> .inl ?_,fun k=> ?_,hvin.symm,rfl⟩
  ·show (cs (vin L vsv)).getD t .any=(ccs.getD t .any).ren (gin (eW L));rw[<-h1];by_cases ht:t<ccs.length
   ·obtain⟨c',k1,k2⟩:=ig (gin (eW L)) ccs t _ (KV (by rw[dL];exact ht));simp only[List.getD,KV (show t< (AV.ren.renL (gin (eW L)) ccs).length by rw[dL];exact ht),k1,Ls,k2]
   ·simp only[List.getD,K7 (show ccs.length<=t by omega),K7 (show (AV.ren.renL (gin (eW L)) ccs).length<=t by rw[dL];omega),NS];rfl
  ·show ag (pre (vin L vsv)) k=(lG (dS L) (eW L) s ccs).rows k\/ag (pre (vin L vsv)) k=none;cases hh:ag (pre (vin L vsv)) k with
   |none=>exact .inr rfl
   | some row=>
     obtain⟨r,row0,q1,q2,q3⟩:=h2 k row hh;left;simp only[lG,q1,LX,(hrow r (hids q1)).1,q2,Kg,q3]
 have hesc: ∀k∈L.map (·.1),(lG (dS L) (eW L) s ccs).esc k=false:=fun k hkm=>by
  obtain⟨p,hp,rfl⟩:=K9.1 hkm;have hp':dS L p.1=some p.2:=(jJ hk).2 hp;simp only[lG,hp'];exact(hrow p.2 (hids hp')).2.2
 have hxe:(inCtx (dS L) (eW L) x s ccs w m fn.ntmps).env=env:=hx;refine wpIn_wide.1 (Mo (hbody (vin L vsv) _ hesc none _ hxe rfl _ w _ (hE.less hless)) ?_);rintro e a' w' ⟨s2,m2,q1,q2⟩
 have fin:(∀k∈L.map (·.1),(s2.rows k=ag (post s2.vs) k/\s2.esc k=false)/\(grown k=false->s2.vs k=vin L vsv k))/\Hb P s2 fn.results.toList (res s2.vs)->
  ∃v,(results fn a'.tmps).run P w'= .ok v w'/\ ∃v' m',Ending.returned v= .returned v'/\Sim x (apps (L.map (lay grown R')) s) a w' m'/\RL w' m' (apps (L.map (lay grown R')) s) v' val:=fun⟨p1,p2⟩=>by
  obtain⟨v,r1,r2⟩:=IR (P:=P) q2 p2
  have ho: ∀p∈L,grown p.1=false->s2.vs p.1=vsv p.2:=fun p hp hg=>by
   have:=(p1 p.1 (K9.2 ⟨p,hp,rfl⟩)).2 hg;rw[this];simp only[vin,(jJ hk).2 hp]
  have hset: ∀k r,dS L k=some r->fo L grown r=false->s2.vs k=s.vs r:=fun k r hkr hg=>by
   have hg':grown k=false:=by simpa only[fo,(hinv k r).1 hkr]using hg
   rw[(hrow r (hids hkr)).2.1];exact ho (k,r) ((jJ hk).1 hkr) hg'
  obtain⟨b1,b2⟩:=hS.back q2 hinv (fo L grown) hset;have hnout:ji (eW L) (fo L grown) s=fun r=>if (eW L r).isSome&&fo L grown r then s.vs r+1 else s.vs r:=rfl
  have hgo:gout (dS L) s2.vs (ji (eW L) (fo L grown) s)=gout (dS L) s2.vs (nout L grown vsv):=by
   funext k ver
   unfold gout;cases hkr:dS L k with
   |none=>rfl
   | some r=>
     have hv1:=(hrow r (hids hkr)).2.1;simp only[LX,ji,nout,hv1]
  obtain⟨l1,l2,l3,l4⟩:=lay_all L grown R' L s hr (fun p hp=>by simp only[fo,(gl hr).2 hp]) (fun p hp=>(hrow p.2 (K9.2 ⟨p,hp,rfl⟩)).2.2)
  have hst:iN (dS L) (eW L) (fo L grown) s s2=apps (L.map (lay grown R')) s:=by
   generalize apps (L.map (lay grown R')) s=T at l1 l2 l3 l4;obtain⟨Tf,Trows,Tvs,Tesc⟩:=T;simp only at l1 l2 l3 l4;subst l1
   have hmem: ∀r,r∈L.map (·.2)↔(eW L r).isSome:=fun r=>by
    constructor
    ·intro h;obtain⟨p,hp,rfl⟩:=K9.1 h;rw[(gl hr).2 hp];rfl
    ·intro h;obtain⟨k,hk'⟩:=Mb.1 h;exact K9.2 ⟨(k,r),(gl hr).1 hk',rfl⟩
   simp only[iN,St.mk.injEq,true_and];refine⟨funext fun r=> ?_,funext fun r=> ?_,funext fun r=> ?_⟩
   ·rw[l2];cases hkr:eW L r with
    |none=>rw[KZ (by rw[hmem,hkr];simp)]
    | some k=>
      have hp:=(gl hr).1 hkr;rw[K0 (by rw[hmem,hkr];rfl)];simp only;rw[(p1 k (K9.2 ⟨_,hp,rfl⟩)).1.1,hgo];exact h3 s2.vs ho (k,r) hp
   ·rw[l3];simp only[ji,hmem,KY]
   ·rw[l4];cases hkr:eW L r with
    |none=>rfl
    | some k=>
      have hp:=(gl hr).1 hkr;simp only;rw[(p1 k (K9.2 ⟨_,hp,rfl⟩)).1.2,(hrow r (K9.2 ⟨_,hp,rfl⟩)).2.2]
  rw[hst,hgo]at b2;rw[hst]at b1;have b3:=b2 v _ r2;rw[h4 s2.vs ho]at b3;exact⟨v,r1,v,_,rfl,b1,b3⟩
 cases e with
 | normal=>
   obtain⟨v,r1,r2⟩:=fin q1;exact⟨q2.dfs,v,r1,r2⟩
 | ret=>
   obtain⟨v,r1,r2⟩:=fin q1;exact⟨q2.dfs,v,r1,r2⟩
 |_=>exact q1.elim
/-! As scripts use it -/
def CX (s:St) (vs0:Nat->Nat) (grown:Nat->Bool) (post:List (Nat×Row)):List Nat->Prop
 |[]=>True
 |k::ks=>((s.rows k=ag post k/\s.esc k=false)/\(grown k=false->s.vs k=vs0 k))/\CX s vs0 grown post ks
theorem su {s:St} {vs0:Nat->Nat} {grown:Nat->Bool} {post:List (Nat×Row)} : ∀ {ids:List Nat},CX s vs0 grown post ids-> ∀k∈ids,(s.rows k=ag post k/\s.esc k=false)/\(grown k=false->s.vs k=vs0 k)
 |[],_,k,hk=>by simp at hk
 | i::ids,h,k,hk=>by
   rcases Kk.1 hk with rfl|hk
   ·exact h.1
   ·exact su h.2 k hk
theorem qv {P:Program} {rs:List ResultVar} {ids:List Nat} {grown:Nat->Bool} {vs0:Nat->Nat} {post:(Nat->Nat)->List (Nat×Row)} {res:(Nat->Nat)->AV} {s:St} (h1:CX s vs0 grown (post s.vs) ids) (h2:Hb P s rs (res s.vs)):Ha P rs ids grown vs0 post res .ret s:=⟨su h1,h2⟩
theorem GN {P:Program} {rs:List ResultVar} {ids:List Nat} {grown:Nat->Bool} {vs0:Nat->Nat} {post:(Nat->Nat)->List (Nat×Row)} {res:(Nat->Nat)->AV} {s:St} (h1:CX s vs0 grown (post s.vs) ids) (h2:Hb P s rs (res s.vs)):Ha P rs ids grown vs0 post res .normal s:=⟨su h1,h2⟩
def xu (L:List (Nat×Nat)) (rows:Nat->Option Row):List (Nat×Row)->Prop
 |[]=>True
 |p::ps=>((dS L p.1).bind fun r=>(rows r).map (Row.ren (gin (eW L))))=some p.2/\xu L rows ps
theorem zO {L:List (Nat×Nat)} {rows:Nat->Option Row} : ∀ {ps:List (Nat×Row)},xu L rows ps-> ∀k row,ag ps k=some row-> ∃r row0,dS L k=some r/\rows r=some row0/\row0.ren (gin (eW L))=row
 |[],_,k,row,h=>by simp[ag]at h
 | p::ps,⟨h1,h2⟩,k,row,h=>by
   obtain⟨i,q⟩:=p;unfold ag at h;split at h
   ·rename_i e;simp only[KX]at h;subst h e;cases hr:dS L k with
    |none=>rw[show dS L (k,q).1=none from hr]at h1;cases h1
    | some r=>
      rw[show dS L (k,q).1=some r from hr]at h1;simp only[LX]at h1;cases hq:rows r with
      |none=>rw[hq]at h1;cases h1
      | some row0=>
        rw[hq]at h1;simp only[Kg,KX]at h1;exact⟨r,row0,rfl,hq,h1⟩
   ·exact zO h2 k row h
instance:Inhabited Row:=⟨⟨1,[],0,true⟩⟩
def behind (L:List (Nat×Nat)) (grown:Nat->Bool) (vsv:Nat->Nat) (post:List (Nat×Row)) (r:Nat):Row:=(((eW L r).bind (ag post)).map (Row.ren (gout (dS L) (fun _=>0) (nout L grown vsv)))).getD default
def qJ (L:List (Nat×Nat)) (grown:Nat->Bool) (vsv:Nat->Nat) (o:Nat->Nat) (post post0:List (Nat×Row)):List (Nat×Nat)->Prop
 |[]=>True
 |p::ps=>(ag post p.1).map (Row.ren (gout (dS L) o (nout L grown vsv)))=some (behind L grown vsv post0 p.2)/\qJ L grown vsv o post post0 ps
theorem ua {L:List (Nat×Nat)} {grown:Nat->Bool} {vsv:Nat->Nat} {o:Nat->Nat} {post post0:List (Nat×Row)} : ∀ {ps:List (Nat×Nat)},qJ L grown vsv o post post0 ps-> ∀p∈ps,(ag post p.1).map (Row.ren (gout (dS L) o (nout L grown vsv)))=some (behind L grown vsv post0 p.2)
 |[],_,p,hp=>by simp at hp
 | q::ps,⟨h1,h2⟩,p,hp=>by
   rcases Kk.1 hp with rfl|hp
   ·exact h1
   ·exact ua h2 p hp
def xv (s:St):List (Nat×Nat)->Prop
 |[]=>True
 |p::ps=>s.esc p.2=false/\xv s ps
theorem AJ {s:St} : ∀ {L:List (Nat×Nat)},xv s L-> ∀r∈L.map (·.2),s.esc r=false
 |[],_,r,hr=>by simp at hr
 | p::L,⟨h1,h2⟩,r,hr=>by
   rcases Kk.1 (show r∈p.2::L.map (·.2) from hr) with rfl|hr
   ·exact h1
   ·exact AJ h2 r hr
section
variable {P:Program} {env:Env} {s:St}
theorem iC {o:Oper} {f:FuncId} {args:List AV} {rest:List Stp} {s1:St} {ft:Foot} {K:St->List Foot->Prop} {grown:Nat->Bool} {cs:(Nat->Nat)->List AV} {pre post:(Nat->Nat)->List (Nat×Row)} {res:(Nat->Nat)->AV} (L:List (Nat×Nat)) (hc:bB env s.f o=some (f,args))
 (hcon:ConI P env f (L.map (·.1)) grown cs pre post res) (hk:(L.map (·.1)).Nodup) (hr:(L.map (·.2)).Nodup)
 (h1:AV.ren.renL (gin (eW L)) args=cs (vin L s.vs)) (h2:xu L s.rows (pre (vin L s.vs))) (he:xv s L)
 (h3: ∀o:Nat->Nat,qJ L grown s.vs o (post o) (post fun _=>0) L) (h4: ∀o:Nat->Nat,(res o).ren (gout (dS L) o (nout L grown s.vs))=(res fun _=>0).ren (gout (dS L) (fun _=>0) (nout L grown s.vs)))
 (h5:Is ((⟨(res fun _=>0).ren (gout (dS L) (fun _=>0) (nout L grown s.vs)),L.map (lay grown (behind L grown s.vs (post fun _=>0)))⟩:Out).app o.dst s) s1) (h6:Is (⟨L.map (·.2),L.map (·.2),wrs (L.map (lay grown (behind L grown s.vs (post fun _=>0)))),wes (L.map (lay grown (behind L grown s.vs (post fun _=>0))))⟩:Foot) ft)
 (k:aops P env rest s1 fun s2 fts=>K s2 (ft::fts)):aops P env (⟨o, .always⟩::rest) s K:=by
 have hA:=JB (rows:=s.rows) (vsv:=s.vs) hcon hk hr h1 (zO h2) (fun o _ p hp=>ua (h3 o) p hp) (fun o _=>h4 o);unfold Is at h6;subst h6;exact ol hc rfl hA (AJ he) h5 k
end
section
variable {P:Program} {env:Env} {f:Nat->AV} {d:Option Nat} {ty:TypeId} {ps:String} {af:Array Edge} {g:Option (Nat×Bool)}
def JJ (x:AV):Rd Out:=match x with
 | .ref sz es i off=>val (.ref sz es i off)
 | .loc r ver i off=>Rd.row r ver fun _=>val (.loc r ver i off)
 |_=> .fail
theorem yc {y:Operand} :aT P env f ⟨d, .nilCheck y,ty,ps,af,g⟩=JJ (gt env f y):=rfl
end
end
section
attribute [go_sem] JJ yc ng Hb Ax xn CX dS eW gin gout nout vin fo lay AV.ren AV.ren.renL Row.ren ag Option.bind_some Option.bind_none Option.isSome_some Option.isSome_none Option.getD_some Bool.true_eq_false xu qJ xv wrs wes List.cons.injEq Prod.mk.injEq forall_const
end
section
theorem Sim.tell {x:Ctx} {s:St} {a:Act} {w:World} {m:Mem} (h:Sim x s a w m) (t:Nat) (c:AV) (hc:RL w m s (a.tmps.getD t undef) c):Sim x (s.put (some t) c) a w m:=by
 refine { h with dfs:=h.dfs,siz:=h.siz,slot:=fun t'=> ?_,rows:=fun r' row' hr'=> ?_ }
 ·have key:RL w m s (a.tmps.getD t' undef) (upd s.f t c t'):=by
   by_cases e1:t'=t
   ·subst e1;rw[upd_same];exact hc
   ·rw[upd_ne _ _ _ e1];exact h.slot t'
  exact RL.put key (some t) _
 ·exact(h.rows r' row' hr').mono (s':=s.put (some t) c) (fun b o hb=>⟨hb, .rfl⟩) (fun _=>K8 _) (fun r row' _ hr=>⟨row',hr,rfl,rfl⟩) rfl (fun _ _=>rfl) rfl (fun _ _ _ hh=>hh)
section
variable {P:Program} {env:Env} {nt:Nat} {Q:Exit->St->Prop} {s:St}
end
theorem Sim.nilCell {x:Ctx} {s:St} {a:Act} {w:World} {m:Mem} (h:Sim x s a w m) (r r2 i j:Nat) (row:Row) (e:List AV) (ty:TypeId) (sz:Nat) (hne:r2≠r) (hsz:0<sz) (hr:s.rows r=some row) (hrz:row.sz≠0) (hp:row.pure=false) (hi:row.es[i]? =some e) (hj:e[j]? =some (.lit (.slice none 0 0))):
 Sim x ((s.renew r2 ⟨sz,[],ty,true⟩ false).setRow r { row with es:=row.es.set i (e.set j (.row r2 (s.vs r2+1))) }) a w ⟨m.S,upd m.ρ r2 (.slice none 0 0)⟩:=by
 have h1:=h.renew r2 ⟨sz,[],ty,true⟩ false (.slice none 0 0) m.S (MM _ _) (fun b o hh=>⟨hh, .rfl⟩) (fun b o hh=> .inl hh) (fun k row' hk hr g hg=>⟨rfl,by simp[Value.ownBlock],fun o hh=>hh⟩)
  (.inl ⟨hsz,fun i e' he=>by simp at he,⟨[],by simp only[upd_same];exact N5 _ _ _ _,by simp,fun i j c hc=>by simp[cellAt]at hc⟩,(fun he=>by simp[St.renew,upd_same]at he),(fun g hg=>by simp[upd_same,Value.ownBlock]at hg),(fun _ g hg=>by simp[upd_same,Value.ownBlock]at hg)⟩) (fun b _=>⟨rfl,fun _ hh=>hh,by simp[Value.ownBlock]⟩)
 have hr1:(s.renew r2 ⟨sz,[],ty,true⟩ false).rows r=some row:=by simpa only[St.renew,upd_ne _ _ _ (MJ hne)]using hr
 have k:=(h1.rows r row hr1).cells hrz;have hil:i<row.es.length:=(KW.1 hi).1
 have hz': ∀(p:Nat) (e':List AV),(row.es.set i (e.set j (.row r2 (s.vs r2+1))))[p]? =some e'->e'.length=row.sz:=fun p e' hpe=>by
  rw[Ln]at hpe;by_cases ep:i=p
  ·rw[K0 ep,K0 hil]at hpe;cases hpe;rw[MV];exact k.len i e hi
  ·rw[KZ ep]at hpe;exact k.len p e' hpe
 have hk: ∀q row2,(({ s.renew r2 ⟨sz,[],ty,true⟩ false with } :St).setRow r { row with es:=row.es.set i (e.set j (.row r2 (s.vs r2+1))) }).vs q=(s.renew r2 ⟨sz,[],ty,true⟩ false).vs q->((s.renew r2 ⟨sz,[],ty,true⟩ false).setRow r { row with es:=row.es.set i (e.set j (.row r2 (s.vs r2+1))) }).rows q=some row2-> ∃row0,(s.renew r2 ⟨sz,[],ty,true⟩ false).rows q=some row0/\row0.sz=row2.sz/\(upd m.ρ r2 (.slice none 0 0)) q=(upd m.ρ r2 (.slice none 0 0)) q:=fun q row2 _ hq=>by
  by_cases eq:q=r
  ·subst eq;simp only[St.setRow,upd_same,KX]at hq;subst hq;exact⟨row,hr1,rfl,rfl⟩
  ·simp only[St.setRow,upd_ne _ _ _ eq]at hq;exact⟨row2,hq,rfl,rfl⟩
 refine h1.reset r row { row with es:=row.es.set i (e.set j (.row r2 (s.vs r2+1))) } hr1 rfl (MM _ _) (fun _ _ _=> .rfl) (fun _ _ _ _ _ _=>rfl) (.inl ⟨k.pos,hz',?_,fun he g hg o ho=> ?_,fun g hg o ho=> ?_,fun he g hg o=> ?_⟩) (fun _ _=>rfl)
 ·obtain⟨xs,k1,k2,k3⟩:=k.own;refine⟨xs,by simpa only[MV]using k1,k2,fun p q c hc=> ?_⟩;show ∃u,xs[p*row.sz+q]? =some u/\if row.pure=true then _ else _
  have old: ∀c',cellAt row.es p q=some c'->c'=c-> ∃u,xs[p*row.sz+q]? =some u/\(if row.pure=true then RV m.S w u c else RL w ⟨m.S,upd m.ρ r2 (.slice none 0 0)⟩ ((s.renew r2 ⟨sz,[],ty,true⟩ false).setRow r { row with es:=row.es.set i (e.set j (.row r2 (s.vs r2+1))) }) u c):=fun c' hc' ec=>by
   subst ec;obtain⟨u,u1,u2⟩:=k3 p q c' hc';refine⟨u,u1,?_⟩;rw[KZ (by simp[hp])]at u2 |-;exact u2.mono (fun b o hb=>⟨hb, .rfl⟩) (fun _=>K8 _) hk
  unfold cellAt at hc;rw[Ln]at hc;by_cases ep:i=p
  ·subst ep;rw[K0 rfl,K0 hil]at hc;simp only[LX,Ln]at hc;by_cases eq:j=q
   ·subst eq;have hjl:j<e.length:=(KW.1 hj).1;rw[K0 rfl,K0 hjl]at hc;cases hc;obtain⟨u,u1,u2⟩:=k3 i j (.lit (.slice none 0 0)) (by unfold cellAt;rw[hi];exact hj);refine⟨u,u1,?_⟩;rw[KZ (by simp[hp])]at u2 |-;rw[u2.lit_];exact .row r2 (s.vs r2+1) rfl (by simp[St.setRow,St.renew,upd_same]) fun _ row _=>by simp[upd_same]
   ·rw[KZ eq]at hc;exact old c (by unfold cellAt;rw[hi];exact hc) rfl
  ·rw[KZ ep]at hc;exact old c hc rfl
 ·simp only[MV]at ho;exact k.esc he g hg o ho
 ·simp only[MV]at ho;exact k.spare g hg o ho
 ·exact k.fresh he g hg o
section
variable {P:Program} {env:Env} {nt:Nat} {Q:Exit->St->Prop} {s:St}
theorem pa {c:Code} {s1:St} (r r2 i j:Nat) (row:Row) (e:List AV) (ty:TypeId) (sz:Nat) (hne:r2≠r) (hsz:0<sz) (hrz:row.sz≠0) (hp:row.pure=false) (hi:row.es[i]? =some e) (hj:e[j]? =some (.lit (.slice none 0 0))) (hr:Is (s.rows r) (some row))
 (h1:Is ((s.renew r2 ⟨sz,[],ty,true⟩ false).setRow r { row with es:=row.es.set i (e.set j (.row r2 (s.vs r2+1))) }) s1) (h:awp P env nt c Q s1):awp P env nt c Q s:=
 fun ro x he hn a w _ hS=>h ro x he hn a w _ (by
  have:=hS.nilCell r r2 i j row e ty sz hne hsz hr hrz hp hi hj;rw[show _=s1 from h1]at this
  exact this)
end
theorem Con.empty {P:Program} {env:Env} {f:FuncId} {sz:Nat} {res:AV} (h: ∀A cap,Con P env f [.lit (.slice A 0 cap)] res):Con P env f [.seq sz []] res:=by
 refine⟨(h none 0).enter,fun w S vs hE hl hv=> ?_⟩
 match vs,hl with
 | [v],_=>
   have h0:RV S w v (.seq sz []):=hv 0 v _ rfl rfl
   have hx: ∃A cap,v= .slice A 0 cap:=by
    generalize he:([]:List (List AV))=es at h0;cases h0 with
    | seq A n cap sz es b o u hn=>
      subst he;simp only[NH]at hn;subst hn;exact⟨A,cap,rfl⟩
   obtain⟨A,cap,rfl⟩:=hx;refine(h A cap).calls w S [.slice A 0 cap] hE rfl fun i v c h1 h2=> ?_
   match i,h1,h2 with
   |0,h1,h2=>cases h1;cases h2;exact .lit _
end
section
theorem Sim.clean {x:Ctx} {s:St} {a:Act} {w:World} {m:Mem} (h:Sim x s a w m) (r:Nat) (hr:s.rows r=none):Sim x { s with esc:=upd s.esc r false } a w m:=by
 have hk: ∀k row',s.vs k=s.vs k->s.rows k=some row'-> ∃row,s.rows k=some row/\row.sz=row'.sz/\m.ρ k=m.ρ k:=fun k row' _ hh=>⟨row',hh,rfl,rfl⟩;refine { h with slot:=fun t=>(h.slot t).mono (s':={ s with esc:=upd s.esc r false }) (fun b o hb=>⟨hb, .rfl⟩) (fun _=>K8 _) hk,rows:=fun k row hh=> ?_ };have hne:k≠r:=fun e=>by rw[e]at hh;exact absurd (hr.symm.trans hh) (by simp)
 exact(h.rows k row hh).mono (s':={ s with esc:=upd s.esc r false }) (fun b o hb=>⟨hb, .rfl⟩) (fun _=>K8 _) hk rfl (fun _ _=>rfl) (upd_ne _ _ _ hne) (fun _ _ _ hh=>hh)
theorem vl {P:Program} {env:Env} {nt:Nat} {c:Code} {Q:Exit->St->Prop} {s:St} (r:Nat) (hr:s.rows r=none) (h:awp P env nt c Q { s with esc:=upd s.esc r false }):awp P env nt c Q s:=
 fun ro x hx hn a w m hS=>h ro x hx hn a w m (hS.clean r hr)
end

end Go.Proofs.YtbjldjekgepopaaGreatDoor