/- field.Take and the document's; numbers of bytes, the lowest first. -/
import Derived.Test.YtbjldjekgepopaaGreatDoorT8
import Derived.Lib.TrailingZeros
import Derived.RangeFuncNested
import Derived.RangeFuncBound
import Derived.Shelf.RegionOpen
import Derived.OwnWalkIn
import Derived.LoopNIn
set_option linter.unusedSimpArgs false
set_option maxRecDepth 100000
set_option maxHeartbeats 2000000
namespace Go.Proofs.YtbjldjekgepopaaGreatDoor
open Go.Proofs.Tryz
section
open Go.RowKit
def AV.see (g gm:Nat->Nat->Option AV):AV->AV
 | .row r ver=>(g r ver).getD (.row r ver)
 | .mp r ver=>(gm r ver).getD (.mp r ver)
 | .agg cs=> .agg (seeL g gm cs)
 | .tuple cs=> .tuple (seeL g gm cs)
 | .clo f cs=> .clo f (seeL g gm cs)
 |c=>c
where seeL (g gm:Nat->Nat->Option AV):List AV->List AV
 |[]=>[]
 |c::cs=>c.see g gm::seeL g gm cs
theorem gn (g gm:Nat->Nat->Option AV): ∀cs,(AV.see.seeL g gm cs).length=cs.length
 |[]=>rfl
 |c::cs=>by simp[AV.see.seeL,gn g gm cs]
theorem jd (g gm:Nat->Nat->Option AV): ∀(cs:List AV) (i:Nat) (c:AV),(AV.see.seeL g gm cs)[i]? =some c-> ∃c',cs[i]? =some c'/\c=c'.see g gm
 |[],i,c,h=>by simp[AV.see.seeL]at h
 | d::cs,i,c,h=>by
   cases i with
   |zero=>simp[AV.see.seeL]at h;exact⟨d,rfl,h.symm⟩
   | succ i=>
     obtain⟨c',h1,h2⟩:=jd g gm cs i c (by simpa[AV.see.seeL]using h);exact⟨c',by simpa using h1,h2⟩
theorem RV.see {S:Nat->Nat->Prop} {w:World} {v:Value} {c:AV} (g gm:Nat->Nat->Option AV) (h:RV S w v c):RV S w v (c.see g gm):=by
 induction h with
 |any v=>exact .any v
 |lit v=>exact .lit v
 | agg vs cs h h1 hc ih=>
   refine .agg vs _ (by rw[gn];exact h) h1 fun i v c hv hcc=> ?_;obtain⟨c',k1,rfl⟩:=jd g gm cs i c hcc;exact ih i v c' hv k1
 | tuple vs cs h hc ih=>
   refine .tuple vs _ (by rw[gn];exact h) fun i v c hv hcc=> ?_;obtain⟨c',k1,rfl⟩:=jd g gm cs i c hcc;exact ih i v c' hv k1
 |iface t v c h ih=>exact .iface t v c h
 |seq A n cap sz es b o u hn hcap hA hz hc hr ih=>exact .seq A n cap sz es b o u hn hcap hA hz hc hr
 |ref sz es i off b o u hz hc hr ih=>exact .ref sz es i off b o u hz hc hr
 |fmap g' ents clock es h0 hg hn hz hk hv _ _=>exact .fmap g' ents clock es h0 hg hn hz hk hv
 |full A n sz es h _=>exact .full A n sz es h
 |news A n k cap sz es hA h _=>exact .news A n k cap sz es hA h
 | clo f vs cs h hc ih=>
   refine .clo f vs _ (by rw[gn];exact h) fun i v c hv hcc=> ?_;obtain⟨c',k1,rfl⟩:=jd g gm cs i c hcc;exact ih i v c' hv k1
section
variable {w:World} {m m':Mem} {s s':St} {g gm:Nat->Nat->Option AV}
theorem RL.see {v:Value} {c:AV} (hS: ∀b o,m.S b o->m'.S b o) (keep: ∀ {v:Value} {c:AV},RL w m s v c->RL w m' s' v c)
 (hg: ∀r ver y,g r ver=some y-> ∀v,RL w m s v (.row r ver)->RL w m' s' v y) (hgm: ∀r ver y,gm r ver=some y-> ∀v,RL w m s v (.mp r ver)->RL w m' s' v y) (h:RL w m s v c):RL w m' s' v (c.see g gm):=by
 induction h with
 |val h=>exact .val ((h.mono fun b o hb=>⟨hS b o hb, .rfl⟩).see g gm)
 | agg vs cs h h1 hc ih=>
   refine .agg vs _ (by rw[gn];exact h) h1 fun i v c hv hcc=> ?_;obtain⟨c',k1,rfl⟩:=jd g gm cs i c hcc;exact ih i v c' hv k1
 | tuple vs cs h hc ih=>
   refine .tuple vs _ (by rw[gn];exact h) fun i v c hv hcc=> ?_;obtain⟨c',k1,rfl⟩:=jd g gm cs i c hcc;exact ih i v c' hv k1
 | clo f vs cs h hc ih=>
   refine .clo f vs _ (by rw[gn];exact h) fun i v c hv hcc=> ?_;obtain⟨c',k1,rfl⟩:=jd g gm cs i c hcc;exact ih i v c' hv k1
 | row r ver h1 hle h=>
   unfold AV.see;cases hq:g r ver with
   |none=>exact keep (.row r ver h1 hle h)
   |some y=>exact hg r ver y hq _ (.row r ver h1 hle h)
 |sub r ver lo h1 hle h=>exact keep (.sub r ver lo h1 hle h)
 |loc r ver i off h1 hle h=>exact keep (.loc r ver i off h1 hle h)
 | mp r ver h1 hle h=>
   unfold AV.see;cases hq:gm r ver with
   |none=>exact keep (.mp r ver h1 hle h)
   |some y=>exact hgm r ver y hq _ (.mp r ver h1 hle h)
end
def Row.see (g gm:Nat->Nat->Option AV) (row:Row):Row:=if row.pure then row else { row with es:=row.es.map (·.map (AV.see g gm)) }
section
variable (g gm:Nat->Nat->Option AV) (row:Row)
theorem Row.see_sz:(row.see g gm).sz=row.sz:=by unfold Row.see;split<;>rfl
theorem Row.see_e:(row.see g gm).e=row.e:=by unfold Row.see;split<;>rfl
theorem Row.see_pure:(row.see g gm).pure=row.pure:=by unfold Row.see;split<;>rfl
theorem Row.see_len:(row.see g gm).es.length=row.es.length:=by unfold Row.see;split<;>simp
theorem Row.see_at {i j:Nat} {c:AV} (h:cellAt (row.see g gm).es i j=some c): ∃c',cellAt row.es i j=some c'/\c=(if row.pure then c' else c'.see g gm):=by
 unfold Row.see at h;split at h
 ·rename_i hp;exact⟨c,h,by rw[K0 hp]⟩
 ·rename_i hp;unfold cellAt at h |-;simp only[K5]at h;cases hi:row.es[i]? with
  |none=>rw[hi]at h;cases h
  | some e=>
    rw[hi]at h;simp only[Kg,LX,K5]at h;cases hj:e[j]? with
    |none=>rw[hj]at h;cases h
    |some c'=>rw[hj]at h;cases h;exact⟨c',hj,by rw[KZ hp]⟩
theorem Row.see_els {n:Nat} (hl: ∀(i:Nat) (e:List AV),row.es[i]? =some e->e.length=n) (i:Nat) (e:List AV) (h:(row.see g gm).es[i]? =some e):e.length=n:=by
 unfold Row.see at h;split at h
 ·exact hl i e h
 ·simp only[K5]at h;cases hi:row.es[i]? with
  |none=>rw[hi]at h;cases h
  |some e'=>rw[hi]at h;cases h;simpa using hl i e' hi
end
theorem gB.see {base:Nat} {w:World} {m m':Mem} {s s':St} {r:Nat} {row:Row} {g gm:Nat->Nat->Option AV} (h:gB base w m s r row) (hS: ∀b o,m.S b o->m'.S b o)
 (hl: ∀ {v:Value} {c:AV},RL w m s v c->RL w m' s' v (c.see g gm)) (hρ:m'.ρ r=m.ρ r) (he:s'.esc r=s.esc r) (hn: ∀gb,(m.ρ r).ownBlock=some gb-> ∀o,m'.S gb o->m.S gb o):gB base w m' s' r (row.see g gm):=by
 have hS2: ∀b o,m.S b o->m'.S b o/\Stay w w b o:=fun b o hb=>⟨hS b o hb, .rfl⟩;rcases h with h|h
 ·refine .inl ⟨by rw[Row.see_sz];exact h.pos,fun i e hh=>by rw[Row.see_sz];exact Row.see_els g gm row h.len i e hh,?_,?_,?_,?_⟩
  ·obtain⟨xs,h1,h2,h3⟩:=h.own;refine⟨xs,by rw[Row.see_e,Row.see_sz,Row.see_len,hρ];exact h1,h2,fun i j c hc=> ?_⟩;obtain⟨c',k1,k2⟩:=Row.see_at g gm row hc;obtain⟨u,k3,k4⟩:=h3 i j c' k1;refine⟨u,by rw[Row.see_sz];exact k3,?_⟩;rw[Row.see_pure];subst k2;cases hp:row.pure with
   |true=>rw[hp]at k4;simp only[L4]at k4 |-;exact k4.mono hS2
   |false=>rw[hp]at k4;simp only[LA,Lf]at k4 |-;exact hl k4
  ·rw[he,hρ,Row.see_len,Row.see_sz];exact fun e gb hgb o ho=>hS gb o (h.esc e gb hgb o ho)
  ·rw[hρ,Row.see_len,Row.see_sz];exact fun gb hgb o ho hh=>h.spare gb hgb o ho (hn gb hgb o hh)
  ·rw[he,hρ];exact fun e gb hgb o hh=>h.fresh e gb hgb o (hn gb hgb o hh)
 ·obtain⟨b,ents,clock,e1,e2,e3,e4,e5⟩:=h.own;refine .inr ⟨by rw[Row.see_sz];exact h.sz,⟨b,ents,clock,hρ.trans e1,e2,e3,by rw[Row.see_len];exact e4,fun i e hi=> ?_⟩,fun gb hgb o hh=>h.fresh gb (by rw[<-hρ];exact hgb) o (hn gb (by rw[<-hρ];exact hgb) o hh)⟩;unfold Row.see at hi;split at hi
  ·rename_i hp;obtain⟨en,kc,vc,k1,k2,k3,k4⟩:=e5 i e hi;rw[K0 hp]at k4;exact⟨en,kc,vc,k1,k2,k3.mono hS2,by rw[Row.see_pure,K0 hp];exact k4.mono hS2⟩
  ·rename_i hp;simp only[K5]at hi;cases hi0:row.es[i]? with
   |none=>rw[hi0]at hi;cases hi
   | some e0=>
     rw[hi0]at hi;cases hi;obtain⟨en,kc,vc,k1,k2,k3,k4⟩:=e5 i e0 hi0;rw[KZ hp]at k4;subst k2;refine⟨en,kc.see g gm,vc.see g gm,k1,rfl,(k3.mono hS2).see g gm,?_⟩;rw[Row.see_pure,KZ hp];exact hl k4
theorem Sim.seen {x:Ctx} {s s':St} {a:Act} {w:World} {m:Mem} {g gm:Nat->Nat->Option AV} (S':Nat->Nat->Prop) (h:Sim x s a w m) (hS: ∀b o,m.S b o->S' b o) (hnew: ∀b o,S' b o->m.S b o\/(x.w.heap.size<=b/\b<w.heap.size))
 (hvs:s'.vs=s.vs) (hf: ∀t,s'.f t=(s.f t).see g gm) (hrow: ∀r row',s'.rows r=some row'-> ∃row,s.rows r=some row/\row'=row.see g gm/\s'.esc r=s.esc r/\ ∀gb,(m.ρ r).ownBlock=some gb-> ∀o,S' gb o->m.S gb o)
 (hg: ∀r ver y,g r ver=some y-> ∀v,RL w m s v (.row r ver)->RL w ⟨S',m.ρ⟩ s' v y) (hgm: ∀r ver y,gm r ver=some y-> ∀v,RL w m s v (.mp r ver)->RL w ⟨S',m.ρ⟩ s' v y) (hfx: ∀b,x.fx b-> ∀o,S' b o->m.S b o):Sim x s' a w ⟨S',m.ρ⟩:=by
 have hk: ∀r row',s'.rows r=some row'-> ∃row,s.rows r=some row/\row.sz=row'.sz/\m.ρ r=m.ρ r:=fun r row' hr=>by
  obtain⟨row,k1,k2,_⟩:=hrow r row' hr;exact⟨row,k1,by rw[k2,Row.see_sz],rfl⟩
 have hl: ∀ {v:Value} {c:AV},RL w m s v c->RL w ⟨S',m.ρ⟩ s' v (c.see g gm):=fun hh=>hh.see (m':=⟨S',m.ρ⟩) hS (fun hh=>hh.mono (fun b o hb=>⟨hS b o hb, .rfl⟩) (fun r=>by rw[hvs];exact K8 _) fun r row' _ hr=>hk r row' hr) hg hgm;have hS2: ∀b o,m.S b o->S' b o/\Stay w w b o:=fun b o hb=>⟨hS b o hb, .rfl⟩;have hv: ∀r,s.vs r<=s'.vs r:=fun r=>by rw[hvs];exact K8 _
 refine⟨h.bel,fun b o hh=> ?_,fun b o hh=>hS b o (h.sup b o hh),fun b o hh=> ?_,h.env,h.env0,h.einv,h.dfs,h.siz,fun t=>by rw[hf];exact hl (h.slot t),fun r row' hr=> ?_,fun r r' row row' h1 h2=> ?_,h.toS (m':=⟨S',m.ρ⟩) hS2,h.toV hv,h.toK (m':=⟨S',m.ρ⟩) hv fun r row' _ hr=>hk r row' hr,h.fwle,fun b hf=>⟨(h.fix b hf).1,(h.fix b hf).2.1,fun o hh=>(h.fix b hf).2.2 o (hfx b hf o hh)⟩,fun r row' hr=> ?_⟩
 ·rcases hnew b o hh with k|k
  ·exact h.low b o k
  ·exact k.2
 ·rcases hnew b o hh with k|k
  ·exact h.sub b o k
  ·exact .inr k.1
 ·obtain⟨row,k1,k2,k3,k4⟩:=hrow r row' hr;rw[k2];exact(h.rows r row k1).see (m':=⟨S',m.ρ⟩) hS hl rfl k3 k4
 ·obtain⟨q1,e1,_⟩:=hrow r row h1;obtain⟨q2,e2,_⟩:=hrow r' row' h2;exact h.inj r r' q1 q2 e1 e2
 ·obtain⟨row,k1,_⟩:=hrow r row' hr;exact h.nofx r row k1
/-! Rows that freeze -/
def gS:List (Nat×Nat×AV)->Nat->Nat->Option AV
 |[],_,_=>none
 |p::L,r,ver=>if r=p.1/\ver=p.2.1 then some p.2.2 else gS L r ver
theorem uY {r ver:Nat} {y:AV} : ∀ {L:List (Nat×Nat×AV)},gS L r ver=some y->(r,ver,y)∈L
 |[],h=>by cases h
 | p::L,h=>by
   unfold gS at h;split at h
   ·rename_i e;cases h;obtain⟨e1,e2⟩:=e;subst e1 e2;exact NW ..
   ·exact Lq _ (uY h)
def qI (s:St) (L:List (Nat×Nat×AV)):Prop:= ∀p∈L,s.vs p.1=p.2.1/\ ∃row,s.rows p.1=some row/\row.sz≠0/\row.pure=true/\p.2.2= .seq row.sz row.es
def seenSt (s:St) (L:List (Nat×Nat×AV)):St:=⟨fun t=>(s.f t).see (gS L) fun _ _=>none,fun r=>(s.rows r).map (Row.see (gS L) fun _ _=>none),s.vs,fun r=>s.esc r||L.any fun p=>p.1==r⟩
theorem Sim.shows {x:Ctx} {a:Act} {w:World} : ∀(L:List (Nat×Nat×AV)) {s:St} {m:Mem},Sim x s a w m->qI s L->
 ∃S',Sim x { s with esc:=fun r=>s.esc r||L.any fun p=>p.1==r } a w ⟨S',m.ρ⟩/\(∀b o,m.S b o->S' b o)/\ ∀p∈L,RV S' w (m.ρ p.1) p.2.2
 |[],s,m,h,_=>⟨m.S,by simpa using h,fun _ _ h=>h,fun p hp=>by simp at hp⟩
 | p::L,s,m,h,hL=>by
   obtain⟨_,row,h1,h2,h3,h4⟩:=hL p (by simp);obtain⟨S1,k1,k2,k3⟩:=h.show p.1 row h1 h2 h3;have hL':qI (s.show p.1) L:=fun q hq=>hL q (Lq _ hq);obtain⟨S2,q1,q2,q3⟩:=Sim.shows L k1 hL';refine⟨S2,?_,fun b o hb=>q2 b o (k2 b o hb),fun q hq=> ?_⟩
   ·have e:({ s.show p.1 with esc:=fun r=>(s.show p.1).esc r||L.any fun p=>p.1==r } :St)={ s with esc:=fun r=>s.esc r||(p::L).any fun p=>p.1==r } :=by
     simp only[St.show,St.mk.injEq,true_and]
     funext r
     simp only[Mv];by_cases e:r=p.1
     ·subst e;simp[upd_same]
     ·rw[upd_ne _ _ _ e];have:(p.1==r)=false:=by simpa using fun e2=>e e2.symm
      rw[this,Lu]
    rw[e]at q1;exact q1
   ·rcases Kk.1 hq with rfl|hq
    ·rw[h4];exact k3.mono fun b o hb=>⟨q2 b o hb, .rfl⟩
    ·exact q3 q hq
theorem Sim.sees {x:Ctx} {s:St} {a:Act} {w:World} {m:Mem} (h:Sim x s a w m) (L:List (Nat×Nat×AV)) (hL:qI s L): ∃S',Sim x (seenSt s L) a w ⟨S',m.ρ⟩:=by
 obtain⟨S',k1,k2,k3⟩:=h.shows L hL;refine⟨S',Sim.seen (m:=⟨S',m.ρ⟩) (s':=seenSt s L) (g:=gS L) (gm:=fun _ _=>none) S' k1 (fun _ _ h=>h) (fun _ _ h=> .inl h) rfl (fun t=>rfl) (fun r row' hr=> ?_) (fun r ver y hy v hv=> ?_) (fun _ _ _ hy=>by cases hy) fun _ _ _ h=>h⟩
 ·simp only[seenSt]at hr;cases hq:s.rows r with
  |none=>rw[hq]at hr;cases hr
  | some row=>
    rw[hq]at hr;cases hr;exact⟨row,by first|exact hq|rfl,rfl,rfl,fun _ _ _ h=>h⟩
 ·have hm:=uY hy;obtain⟨e1,row,e2,_⟩:=hL _ hm;have:=hv.row_.2 e1 row e2;rw[this];exact .val (k3 _ hm)
theorem HU {P:Program} {env:Env} {nt:Nat} {c:Code} {Q:Exit->St->Prop} {s:St} (L:List (Nat×Nat×AV)) (hL:qI s L) (h:awp P env nt c Q (seenSt s L)):awp P env nt c Q s:=fun ro x hx hn a w m hS=>by
 obtain⟨S',k⟩:=hS.sees L hL;exact h ro x hx hn a w _ k
/-! Maps that freeze -/
def xd (s:St) (r:Nat) (y:AV):St:=⟨fun t=>(s.f t).see (fun _ _=>none) fun r' ver=>if r'=r/\ver=s.vs r then some y else none,fun k=>if k=r then none else(s.rows k).map (Row.see (fun _ _=>none) fun r' ver=>if r'=r/\ver=s.vs r then some y else none),s.vs,s.esc⟩
theorem Sim.mapSee {x:Ctx} {s:St} {a:Act} {w:World} {m:Mem} (h:Sim x s a w m) (r:Nat) (row:Row) (hr:s.rows r=some row) (hsz:row.sz=0) (hb:row.es.all (·.all AV.bare)=true): ∃S',Sim x (xd s r (.fmap row.es)) a w ⟨S',m.ρ⟩:=by
 have k:=(h.rows r row hr).map hsz;obtain⟨gb,ents,clock,e1,e2,e3,e4,e5⟩:=k.own;have hown:(m.ρ r).ownBlock=some gb:=by rw[e1];rfl
 have hgl:gb<w.heap.size:=(Kq.1 e3).1;obtain⟨S',hS'⟩: ∃S':Nat->Nat->Prop,S'=fun b o=>m.S b o\/(b=gb/\o=0):=⟨_,rfl⟩;have hsup: ∀b o,m.S b o->S' b o:=fun b o hh=>by rw[hS'];exact .inl hh
 have hsup2: ∀b o,m.S b o->S' b o/\Stay w w b o:=fun b o hh=>⟨hsup b o hh, .rfl⟩;have hbare: ∀(i:Nat) (e:List AV) (c:AV),row.es[i]? =some e->c∈e->c.bare=true:=fun i e c hi hc=>(K2.1 ((K2.1 hb) e (K1 hi))) c hc
 have hv:RV S' w (.map (some gb)) (.fmap row.es):=by
  refine .fmap gb ents clock row.es (by rw[hS'];exact .inr ⟨rfl,rfl⟩) e3 e4.1 (fun i e hi=> ?_) (fun i en c hen hc=> ?_) fun i en c hen hc=> ?_
  ·obtain⟨en,kc,vc,_,k2,_⟩:=e5 i e hi;rw[k2];rfl
  ·unfold cellAt at hc;cases hi:row.es[i]? with
   |none=>rw[hi]at hc;cases hc
   | some e=>
     rw[hi]at hc;obtain⟨en',kc,vc,k1,k2,k3,_⟩:=e5 i e hi;rw[k1]at hen;cases hen;subst k2;cases hc;exact k3.mono hsup2
  ·unfold cellAt at hc;cases hi:row.es[i]? with
   |none=>rw[hi]at hc;cases hc
   | some e=>
     rw[hi]at hc;obtain⟨en',kc,vc,k1,k2,_,k4⟩:=e5 i e hi;rw[k1]at hen;cases hen;subst k2;cases hc;split at k4
     ·exact k4.mono hsup2
     ·exact(k4.bare (hbare i _ _ hi (by simp))).mono hsup2
 refine⟨S',Sim.seen (g:=fun _ _=>none) (gm:=fun r' ver=>if r'=r/\ver=s.vs r then some (.fmap row.es) else none) S' h hsup (fun b o hh=> ?_) rfl (fun t=>rfl) (fun q row' hq=> ?_) (fun _ _ _ hy=>by cases hy) (fun q ver y hy v hvv=> ?_) fun b hf o hh=> ?_⟩
 ·rw[hS']at hh;rcases hh with hh|⟨rfl,_⟩
  ·exact .inl hh
  ·exact .inr ⟨e2,hgl⟩
 ·simp only[xd]at hq;split at hq
  ·cases hq
  ·rename_i hne;cases hq0:s.rows q with
   |none=>rw[hq0]at hq;cases hq
   | some row0=>
     rw[hq0]at hq;cases hq;refine⟨row0,by first|exact hq0|rfl,rfl,rfl,fun gq hgq o hh=> ?_⟩;rw[hS']at hh;rcases hh with hh|⟨rfl,_⟩
     ·exact hh
     ·exact absurd hown (h.inj q r row0 row hq0 hr hne gq hgq)
 ·split at hy
  ·rename_i e;cases hy;obtain⟨ea,eb⟩:=e;subst ea eb;obtain⟨g',hg',hv'⟩:=hvv.mp_.2 rfl row hr;rw[hown]at hg';cases hg';rw[hv'];exact .val hv
  ·cases hy
 ·rw[hS']at hh;rcases hh with hh|⟨rfl,_⟩
  ·exact hh
  ·exact absurd hf (h.nofx r row hr b hown)
/-! A row by another name, wherever it is named -/
def nD (r ver r2 ver2:Nat) (q v:Nat):Option AV:=if q=r/\v=ver then some (.row r2 ver2) else none
def dv (s:St) (r r2:Nat) (row:Row):St:=⟨fun t=>(s.f t).see (nD r (s.vs r) r2 (s.vs r2+1)) fun _ _=>none,fun k=>if k=r2 then some row else if k=r then none else(s.rows k).map (Row.see (nD r (s.vs r) r2 (s.vs r2+1)) fun _ _=>none),upd s.vs r2 (s.vs r2+1),upd s.esc r2 (s.esc r)⟩
theorem Sim.ren {x:Ctx} {s:St} {a:Act} {w:World} {m:Mem} (h:Sim x s a w m) (r r2:Nat) (row:Row) (hne:r2≠r) (hr:s.rows r=some row) (hr2:s.rows r2=none) (hrz:row.sz≠0) (hp:row.pure=true):Sim x (dv s r r2 row) a w ⟨m.S,upd m.ρ r2 (m.ρ r)⟩:=by
 have hv: ∀k,s.vs k<=(dv s r r2 row).vs k:=fun k=>by
  simp only[dv,upd];split
  ·rename_i e;rw[e];omega
  ·exact K8 _
 have hrow: ∀k row',(dv s r r2 row).rows k=some row'->(k=r2/\row'=row)\/(k≠r2/\k≠r/\ ∃row0,s.rows k=some row0/\row'=row0.see (nD r (s.vs r) r2 (s.vs r2+1)) fun _ _=>none):=fun k row' hk=>by
  simp only[dv]at hk;split at hk
  ·rename_i e;cases hk;exact .inl ⟨e,rfl⟩
  ·rename_i e;split at hk
   ·cases hk
   ·rename_i e2;cases hq:s.rows k with
    |none=>rw[hq]at hk;cases hk
    |some row0=>rw[hq]at hk;cases hk;exact .inr ⟨e,e2,row0,by first|exact hq|rfl,rfl⟩
 have hk: ∀k row',(dv s r r2 row).vs k=s.vs k->(dv s r r2 row).rows k=some row'-> ∃row0,s.rows k=some row0/\row0.sz=row'.sz/\upd m.ρ r2 (m.ρ r) k=m.ρ k:=fun k row' e hh=>by
  rcases hrow k row' hh with⟨rfl,rfl⟩|⟨e1,e2,row0,h1,rfl⟩
  ·simp only[dv,upd_same]at e;omega
  ·exact⟨row0,h1,by rw[Row.see_sz],upd_ne _ _ _ e1⟩
 have hS2: ∀b o,m.S b o->m.S b o/\Stay w w b o:=fun b o hb=>⟨hb, .rfl⟩;have k:=(h.rows r row hr).cells hrz
 have h1c:(m.ρ r).oneCell'=true:=by
  obtain⟨xs,k1,_⟩:=k.own;rcases k1.2 with⟨e,_⟩|⟨g,cap,cur,e,_⟩<;>rw[e]<;>rfl
 have hl: ∀ {v:Value} {c:AV},RL w m s v c->RL w ⟨m.S,upd m.ρ r2 (m.ρ r)⟩ (dv s r r2 row) v (c.see (nD r (s.vs r) r2 (s.vs r2+1)) fun _ _=>none):=fun hh=>RL.see (m:=m) (m':=⟨m.S,upd m.ρ r2 (m.ρ r)⟩) (s:=s) (fun _ _ h=>h) (fun hh=>RL.mono (m:=m) (m':=⟨m.S,upd m.ρ r2 (m.ρ r)⟩) hh hS2 hv hk) (fun q ver y hy v hvv=>by
  unfold nD at hy;split at hy
  ·rename_i e;cases hy;obtain⟨ea,eb⟩:=e;subst ea eb;have:=hvv.row_.2 rfl row hr;subst this;exact .row r2 _ h1c (by simp[dv,upd_same]) fun _ row' _=>by simp[upd_same]
  ·cases hy) (fun _ _ _ hy=>by cases hy) hh
 refine⟨h.bel,h.low,h.sup,h.sub,h.env,h.env0,h.einv,h.dfs,h.siz,fun t=>hl (h.slot t),fun q row' hq=> ?_,fun q q' row1 row2 h1 h2 hqq g hg=> ?_,h.toS (m':=⟨m.S,upd m.ρ r2 (m.ρ r)⟩) hS2,h.toV hv,h.toK (m':=⟨m.S,upd m.ρ r2 (m.ρ r)⟩) hv hk,h.fwle,h.fix,fun q row' hq g hg=> ?_⟩
 ·rcases hrow q row' hq with⟨rfl,rfl⟩|⟨e1,e2,row0,h1,rfl⟩
  ·have:=k.ren (r':=q) (m':=⟨m.S,upd m.ρ q (m.ρ r)⟩) (s':=dv s r q row') (g:=fun _ _=>none) rfl (fun _ _ _ _ hh=>by cases hh) (by simp[upd_same]) (by simp[dv,upd_same]);have e:row'.ren (fun _ _=>none)=row':=by unfold Row.ren;rw[K0 hp]
   rw[e]at this;exact .inl this
  ·exact(h.rows q row0 h1).see (m':=⟨m.S,upd m.ρ r2 (m.ρ r)⟩) (fun _ _ h=>h) hl (upd_ne _ _ _ e1) (by simp only[dv,upd_ne _ _ _ e1]) fun _ _ _ h=>h
 ·simp only at hg |-;rcases hrow q row1 h1 with⟨rfl,rfl⟩|⟨e1,e2,row0,h3,rfl⟩
  ·rw[upd_same]at hg;rcases hrow q' row2 h2 with⟨e,_⟩|⟨e1,e2,row0,h3,_⟩
   ·exact absurd e.symm hqq
   ·rw[upd_ne _ _ _ e1];exact h.inj r q' row1 row0 hr h3 (MJ e2) g hg
  ·rw[upd_ne _ _ _ e1]at hg;rcases hrow q' row2 h2 with⟨rfl,rfl⟩|⟨e3,e4,row3,h5,_⟩
   ·rw[upd_same];exact h.inj q r row0 row2 h3 hr e2 g hg
   ·rw[upd_ne _ _ _ e3];exact h.inj q q' row0 row3 h3 h5 hqq g hg
 ·simp only at hg;rcases hrow q row' hq with⟨rfl,rfl⟩|⟨e1,e2,row0,h3,_⟩
  ·rw[upd_same]at hg;exact h.nofx r row' hr g hg
  ·rw[upd_ne _ _ _ e1]at hg;exact h.nofx q row0 h3 g hg
theorem Ix {P:Program} {env:Env} {nt:Nat} {c:Code} {Q:Exit->St->Prop} {s:St} (r r2:Nat) (row:Row) (hne:r2≠r) (hr:s.rows r=some row) (hr2:s.rows r2=none) (hrz:row.sz≠0) (hp:row.pure=true) (h:awp P env nt c Q (dv s r r2 row)):awp P env nt c Q s:=fun ro x hx hn a w _ hS=>
 h ro x hx hn a w _ (hS.ren r r2 row hne hr hr2 hrz hp)
end
section
open Go.RowKit
section
variable {P:Program} {ro:Option Nat} {a:Act} {w:World} {Q:Exit->Act->World->Prop}
theorem Gw {k:Nat} :(fen ro).room k:=by cases ro<;>exact room_wide _
theorem D4 {n n':Nat} {c:Code} (h:c.wpIn (fen ro) n P Q a w):c.wpIn (fen ro) n' P Q a w:=fun b k cs h1 h2 _=>h b k cs h1 h2 Gw
end
/-! A walk taken up anew -/
def Ctx.again (x:Ctx) (s:St) (w:World) (m:Mem) (fx:Nat->Prop) (df:List Deferred):Ctx:={ x with fw:=w,fm:=m,e:=s,fx:=fx,df:=df }
section
variable {x:Ctx} {s s1:St} {a a' a1:Act} {w w' w1:World} {m m1:Mem} {fx:Nat->Prop} {df:List Deferred}
theorem Sim.take (h:Sim x s a w m) (hfx: ∀b,fx b->b<w.heap.size/\ ∀r row,s.rows r=some row->(m.ρ r).ownBlock≠some b) (ht:a'.tmps=a.tmps) (hd:a'.defers=df):Sim (x.again s w m fx df) s a' w m:=
 ⟨h.bel,h.low,h.sup,h.sub,h.env,h.env0,h.einv,hd,by rw[ht];exact h.siz,by rw[ht];exact h.slot,h.rows,h.inj,fun _ _ hh=>⟨hh, .rfl⟩,fun _=>K8 _,fun r row' _ hr=>⟨row',hr,rfl,rfl⟩,K8 _,
  fun b hb=>⟨(hfx b hb).1,rfl,fun _ hh=>hh⟩,fun r row hr g hg hf=>(hfx g hf).2 r row hr hg⟩
theorem Sim.untake {e:St} (h:Sim x s a w m) (h2:Sim (x.again e w m fx df) s1 a1 w1 m1) (hfx: ∀b,x.fx b->fx b) (h1:e.vs=s.vs) (h1':e.rows=s.rows):Sim x ⟨s.f,s1.rows,s1.vs,s1.esc⟩ a w1 m1:=by
 have hv: ∀r,s.vs r<=s1.vs r:=h1 ▸ h2.evV;have hS: ∀b o,m.S b o->m1.S b o/\Stay w w1 b o:=h2.evS;have hk: ∀r row',s1.vs r=s.vs r->s1.rows r=some row'-> ∃row,s.rows r=some row/\row.sz=row'.sz/\m1.ρ r=m.ρ r:=h1 ▸ h1' ▸ h2.evK
 exact⟨h2.bel,h2.low,h2.sup,h2.sub,h2.env,h2.env0,h2.einv,h.dfs,h.siz,fun t=>(h.slot t).mono hS hv hk,
  fun r row hr=>(h2.rows r row hr).mono (fun b o hb=>⟨hb, .rfl⟩) (fun _=>K8 _) (fun r row' _ hr=>⟨row',hr,rfl,rfl⟩) rfl (fun _ _=>rfl) rfl (fun _ _ _ hh=>hh),h2.inj,h.toS hS,h.toV (s':=⟨s.f,s1.rows,s1.vs,s1.esc⟩) hv,h.toK (s':=⟨s.f,s1.rows,s1.vs,s1.esc⟩) hv hk,Kh h.fwle h2.fwle,
  fun b hb=>⟨(h.fix b hb).1,((h2.fix b (hfx b hb)).2.1).trans (h.fix b hb).2.1,fun o hh=>(h.fix b hb).2.2 o ((h2.fix b (hfx b hb)).2.2 o hh)⟩,fun r row hr g hg hf=>h2.nofx r row hr g hg (hfx g hf)⟩
theorem Sim.fewer (h:Sim x s a w m) (fx':Nat->Prop) (hfx: ∀b,fx' b->x.fx b):Sim { x with fx:=fx' } s a w m:=
 ⟨h.bel,h.low,h.sup,h.sub,h.env,h.env0,h.einv,h.dfs,h.siz,h.slot,h.rows,h.inj,h.evS,h.evV,h.evK,h.fwle,fun b hb=>h.fix b (hfx b hb),fun r row hr g hg hf=>h.nofx r row hr g hg (hfx g hf)⟩
theorem Sim.turned (h:Sim x s a w m) {b:Nat} (o:Obj) (hb:x.w.heap.size<=b) (hS: ∀o,¬m.S b o) (hfx: ¬x.fx b) (hr: ∀r row,s.rows r=some row->(m.ρ r).ownBlock≠some b):Sim x s a (w.putObj b o) m:=by
 have hne: ∀k,k≠b->(w.putObj b o).heap[k]? =w.heap[k]? :=fun k hk=>World.putObj_heap_other hk;refine h.move rfl ⟨rfl,rfl,rfl,by rw[World.putObj_size];exact K8 _,fun k hk=>hne k (by omega)⟩ (fun k o hh=>⟨hh, .block (hne k fun e=>hS o (e ▸ hh))⟩) (fun _ _ hh=> .inl hh) (fun r row hrow g hg=>hne g fun e=>hr r row hrow (e ▸ hg)) fun k hk=>hne k fun e=>hfx (e ▸ hk)
end
/-! The marks -/
def markOf (D:Nat):Deferred:={ target:= .collected D,args:= #[] }
structure Marks (x x':Ctx):Prop where
 w:x'.w=x.w
 S:x'.S=x.S
 env:x'.env=x.env
 nt:x'.nt=x.nt
 le:x.fw.heap.size<=x'.fw.heap.size
 keep: ∀b,x.fx b->x'.fx b/\(b<x.fw.heap.size->x'.fw.heap[b]? =x.fw.heap[b]? /\ ∀o,x'.fm.S b o->x.fm.S b o)
 df: ∃Ds:List Nat,x'.df=Ds.map markOf++x.df/\Ds.Nodup/\ ∀D∈Ds,x'.fx D/\x'.fw.heap[D]? =some (.deferred (some []))/\x.w.heap.size<=D/\x.fw.heap.size<=D/\ ∀o,¬x'.fm.S D o
theorem Marks.refl (x:Ctx):Marks x x:=⟨rfl,rfl,rfl,rfl,K8 _,fun _ h=>⟨h,fun _=>⟨rfl,fun _ h=>h⟩⟩,[],rfl, .nil,fun D h=>by cases h⟩
theorem Marks.trans {x x' x'':Ctx} (h:Marks x x') (k:Marks x' x''):Marks x x'':=by
 refine⟨k.w.trans h.w,k.S.trans h.S,k.env.trans h.env,k.nt.trans h.nt,Kh h.le k.le,fun b hb=>⟨(k.keep b (h.keep b hb).1).1,fun hlt=> ?_⟩,?_⟩
 ·obtain⟨h1,h2⟩:=(h.keep b hb).2 hlt;obtain⟨k1,k2⟩:=(k.keep b (h.keep b hb).1).2 (Lz hlt h.le);exact⟨k1.trans h1,fun o hh=>h2 o (k2 o hh)⟩
 ·obtain⟨Ds,d1,d2,d3⟩:=h.df;obtain⟨Es,e1,e2,e3⟩:=k.df;refine⟨Es++Ds,by rw[e1,d1,Ki,LV],ML.2 ⟨e2,d2,fun a ha b hb=> ?_⟩,fun D hD=> ?_⟩
  ·have:=(e3 a ha).2.2.2.1;have:=(Kq.1 (d3 b hb).2.1).1;omega
  ·rcases Kt.1 hD with hD|hD
   ·obtain⟨p1,p2,p3,p4,p5⟩:=e3 D hD;exact⟨p1,p2,by rw[<-h.w];exact p3,Kh h.le p4,p5⟩
   ·obtain⟨p1,p2,p3,p4,p5⟩:=d3 D hD;obtain⟨q1,q2⟩:=k.keep D p1;obtain⟨q3,q4⟩:=q2 (Kq.1 p2).1;exact⟨q1,q3.trans p2,p3,p4,fun o hh=>p5 o (q4 o hh)⟩
def vm (P:Program) (env:Env) (nt:Nat) (c:Code) (Q:Exit->St->Prop) (s:St):Prop:=
 ∀x:Ctx,x.env=env->x.nt=nt-> ∀a w m,Sim x s a w m->c.wpIn (fen none) 3 P (fun e a' w'=> ∃s' m' x',Q e s'/\Marks x x'/\Sim x' s' a' w' m') a w
section
variable {P:Program} {env:Env} {nt:Nat} {Q:Exit->St->Prop} {s:St}
theorem xQ {c:Code} (h:awp P env nt c Q s):vm P env nt c Q s:=fun x he hn a w m hS=>Mo (h none x he hn a w m hS) fun _ _ _ ⟨s',m',h1,h2⟩=>⟨s',m',x,h1, .refl x,h2⟩
theorem tM {c d:Code} (h:vm P env nt c (bJ (vm P env nt d Q) Q) s):vm P env nt (.seq c d) Q s:=fun x he hn a w m hS=>by
 refine wpIn_seq (Mo (h x he hn a w m hS) ?_);rintro e a' w' ⟨s',m',x',h1,hM,h2⟩;cases e with
 |normal=>exact Mo (h1 x' (hM.env.trans he) (hM.nt.trans hn) a' w' m' h2) fun _ _ _ ⟨s'',m'',x'',k1,k2,k3⟩=>⟨s'',m'',x'',k1,hM.trans k2,k3⟩
 |_=>exact⟨s',m',x',h1,hM,h2⟩
theorem bf {c d:Code} (h:awp P env nt c (bJ (vm P env nt d Q) Q) s):vm P env nt (.seq c d) Q s:=tM (xQ h)
theorem mF {id:Nat} {c:Code} (h:vm P env nt c (ba id Q) s):vm P env nt (.block id c) Q s:=fun x he hn a w m hS=>by
 refine wpIn_block (Mo (h x he hn a w m hS) ?_);rintro e a' w' ⟨s',m',x',h1,h2⟩;cases e with
 | exit id'=>
   show if id'=id then _ else _
   have h1:if id'=id then Q .normal s' else Q (.exit id') s':=h1
   split
   ·rename_i hid;rw[K0 hid]at h1;exact⟨s',m',x',h1,h2⟩
   ·rename_i hid;rw[KZ hid]at h1;exact⟨s',m',x',h1,h2⟩
 |_=>exact⟨s',m',x',h1,h2⟩
theorem Fb {D:Type} {c:Code} (F:D->(Nat->Nat)->List (Nat×AV)) (R:D->(Nat->Nat)->List (Nat×Row)) (inv:D->(Nat->Nat)->(Nat->Bool)->Prop) (μ:D->Nat) (d0:D) (h0:inv d0 s.vs s.esc)
 (hF:cr s (F d0 s.vs)) (hR:cP s (R d0 s.vs))
 (round: ∀d vs esc,inv d vs esc->vm P env nt c (bJ (fun s1=> ∃d',inv d' s1.vs s1.esc/\cr s1 (F d' s1.vs)/\cP s1 (R d' s1.vs)/\μ d'<μ d) Q) (head (F d vs) (R d vs) vs esc)):vm P env nt (.loop c) Q s:=fun x he hn a w m hS=>by
 refine wpIn_loop_ghost (fun n a w=> ∃d vs esc m x',inv d vs esc/\μ d=n/\Marks x x'/\Sim x' (head (F d vs) (R d vs) vs esc) a w m) (μ d0) ⟨d0,s.vs,s.esc,m,x,h0,rfl, .refl x,hS.less (dA hF hR)⟩ ?_;rintro n a w ⟨d,vs,esc,m,x',hi,rfl,hM,hS⟩;refine Mo (round d vs esc hi x' (hM.env.trans he) (hM.nt.trans hn) a w m hS) ?_;rintro e a' w' ⟨s',m',x'',h1,hM',h2⟩;cases e with
 | normal=>
   obtain⟨d',q1,q2,q3,q4⟩:=h1;exact⟨μ d',q4,d',s'.vs,s'.esc,m',x'',q1,rfl,hM.trans hM',h2.less (dA q2 q3)⟩
 |_=>exact⟨s',m',x'',h1,hM.trans hM',h2⟩
end
/-! At a function's end -/
theorem mS {P:Program} {F:Fence} {n:Nat} {fn:Func} {s:St} {a:Act} {m:Mem} {R:Ending->World->Prop} {B:World} {T:Nat->Nat->Prop} (fin: ∀(x:Ctx) (w:World),x.w=B->x.S=T->Sim x s a w m-> ∃v,(results fn a.tmps).run P w= .ok v w/\R (.returned v) w):
 ∀(Ds:List Nat) (x:Ctx) (w:World),x.w=B->x.S=T->Sim x s a w m->Ds.Nodup->(∀D∈Ds,x.fx D/\x.fw.heap[D]? =some (.deferred (some []))/\x.w.heap.size<=D/\ ∀o,¬x.fm.S D o)->LeavesInM F n P fn a.tmps R (Ds.map markOf) .returning w
 |[],x,w,hB,hT,hS,_,_=>fin x w hB hT hS
 | D::Ds,x,w,hB,hT,hS,hn,hD=>by
   obtain⟨p1,p2,p3,p4⟩:=hD D (by simp);have hn:=M1.1 hn;obtain⟨q1,q2,q3⟩:=hS.fix D p1;refine⟨by simp, .inl ⟨D,_,rfl,run_takeDeferred (q2.trans p2),?_⟩⟩;refine mS fin Ds { x with fx:=fun b=>x.fx b/\b≠D } _ hB hT ((hS.fewer (fun b=>x.fx b/\b≠D) fun _ h=>h.1).turned (.deferred none) p3 (fun o hh=>p4 o (q3 o hh)) (fun h=>h.2 rfl) fun r row hr hg=>hS.nofx r row hr D hg p1) hn.2 fun E hE=> ?_;obtain⟨e1,e2,e3,e4⟩:=hD E (by simp[hE]);exact⟨⟨e1,fun e=>hn.1 (e ▸ hE)⟩,e2,e3,e4⟩
section
variable {P:Program} {env:Env} {f:FuncId} {cs:List AV} {res:AV}
theorem wN {fn:Func} {c:Code} (hf:P.funcs[f]? =some fn) (hb:fn.body=some c) (henter: ∀(args:Array Value) (w:World),(callFunc f args).run P w= .ok (.enter f args) w) (hn:cs.length<=fn.ntmps)
 (h:vm P env fn.ntmps c (JF P fn.results.toList res) (St.init cs)):Con P env f cs res:=by
 refine⟨henter,fun w S vs hE hl hv=> ?_⟩;refine Ox.1 (callsIn_of_wp_marks (n:=3) hf hb trivial ?_)
 have hS:Sim ⟨w,S,env,fn.ntmps,w,⟨S,fun _=>undef⟩,St.init cs,fun _=>False,[]⟩ (St.init cs) { tmps:=vs.toArray++Array.replicate (fn.ntmps-vs.toArray.size) undef,defers:=[] } w ⟨S,fun _=>undef⟩:=by
  refine⟨MM _ _,hE.low,fun _ _ h=>h,fun _ _ h=> .inl h,hE.env,hE.low,hE.inv,rfl,by simp;omega,fun t=> ?_,(fun r row hr=>by cases hr),(fun r r' row row' hr=>by cases hr),(fun _ _ hh=>⟨hh, .rfl⟩),(fun _=>K8 _),(fun r row' _ hr=>by cases hr),K8 _,(fun _ h=>h.elim),(fun r row hr=>by cases hr)⟩;show RL w _ _ _ (cs.getD t .any);by_cases ht:t<cs.length
  ·refine .val (hv t _ _ ?_ ?_)
   ·rw[LS,NF (by simp;omega)];simp[show t<vs.length by omega]
   ·simp[List.getD,ht]
  ·have:cs.getD t .any= .any:=by simp[List.getD,K7 (OR ht)]
   rw[this];exact .val (.any _)
 refine Mo (h _ rfl rfl _ w _ hS) ?_;rintro e a' w' ⟨s',m',x',h1,hM,h2⟩
 have key:JF P fn.results.toList res .normal s'->LeavesInM Fence.wide 3 P fn a'.tmps (fun e w'=> ∃v,e= .returned v/\Below w.heap.size w w'/\ ∃S',(∀b o,S b o->S' b o)/\(∀b o,S' b o->S b o\/w.heap.size<=b)/\(∀b o,S' b o->b<w'.heap.size)/\RR S' w' w.heap.size v res) a'.defers .returning w':=fun h1=>by
  obtain⟨res',h1,hw⟩:=(show ∃res',(an P s'.f fn.results.toList).run s'=some res'/\ge res' res from h1);obtain⟨Ds,d1,d2,d3⟩:=hM.df;have hd:a'.defers=Ds.map markOf:=by rw[h2.dfs,d1];exact Lm _
  rw[hd];refine mS (B:=w) (T:=S) (fun x'' w'' hB hT hS''=> ?_) Ds x' w' hM.w hM.S h2 d2 fun D hD=> ?_
  ·obtain⟨v,S',p1,p2,p3,p4,p5⟩:=tZ (fn:=fn) h1 hS'';rw[hB]at p3 p5;rw[hT]at p2 p3;exact⟨v,p1,v,rfl,by have:=hS''.bel;rw[hB]at this;exact this,S',p2,p3,p4,hw _ _ _ _ p5⟩
  ·obtain⟨q1,q2,q3,q4,q5⟩:=d3 D hD;exact⟨q1,q2,by rw[hM.w];exact q3,q5⟩
 cases e with
 |normal=>exact key h1
 |ret=>exact key h1
 |_=>exact h1.elim
end
/-! The statement itself -/
structure Iters (P:Program) (f:FuncId) (first:Array Value) (ks:List Value) (Tab:World->Prop):Prop where
 enter: ∀(args:Array Value) (w:World),(callFunc f args).run P w= .ok (.enter f args) w
 walk: ∀(l:Nat) (J:Nat->World->Prop) (w:World),(∀i W,J i W->Tab W)->(∀i W W',J i W->Below W.heap.size W W'->J i W')->
  (∀i W k,J i W->ks[i]? =some k->YieldAt Fence.wide 1 P l #[k] W fun e W'=>e= .returned (.bool true)/\J (i+1) W')->J 0 w->
  CallsIn Fence.wide 2 P f (first++ #[.func (.yield l) #[] #[]]) w fun e W'=>(∃v,e= .returned v)/\J ks.length W'
theorem Iters.mono {P:Program} {f:FuncId} {first:Array Value} {ks:List Value} {Tab Tab':World->Prop} (h:Iters P f first ks Tab) (ht: ∀W,Tab' W->Tab W):Iters P f first ks Tab':=
 ⟨h.enter,fun l J w h1=>h.walk l J w fun i W hj=>ht W (h1 i W hj)⟩
section
variable {P:Program} {env:Env} {nt:Nat} {Q:Exit->St->Prop} {s:St}
theorem CQ {D:Type} {g p:Nat} {assign body:Code} {f:FuncId} {first:Array Value} {ks:List Value} (R:Nat->D->(Nat->Nat)->List (Nat×Row)) (inv:Nat->D->(Nat->Nat)->(Nat->Bool)->Prop) (d0:D)
 (hg:s.f g= .lit (.func (.func f) first #[])) (hp:p<nt) (hit:Iters P f first ks env.inv) (h0:inv 0 d0 s.vs s.esc) (hR:cP s (R 0 d0 s.vs))
 (round: ∀i d k vs esc,(∀r,s.vs r<=vs r)->inv i d vs esc->ks[i]? =some k->
  awp P env nt assign (bJ (awp P env nt body (bJ (fun s1=> ∃d',inv (i+1) d' s1.vs s1.esc/\cP s1 (R (i+1) d' s1.vs)) fun _ _=>False)) fun _ _=>False) ⟨upd s.f p (.lit k),ag (R i d vs),vs,esc⟩)
 (done: ∀d vs esc,(∀r,s.vs r<=vs r)->inv ks.length d vs esc->Q .normal ⟨s.f,ag (R ks.length d vs),vs,esc⟩):vm P env nt (.rangeFunc (.tmp g) #[p] assign body) Q s:=fun x he hn a w m hS=>by
 have hgv:a.eval (.tmp g)= .func (.func f) first #[]:=by
  have:=hS.slot g;rw[hg]at this;exact this.lit_
 refine wpIn_rangeFunc fun fn hfn=> ?_
 let rec_ (st:LoopState):Obj:= .loop { state:=st,pending:=none,fn,tmps:=a.tmps,params:= #[p],assign,body,defers:=w.heap.size }
 let w2:World:=(w.alloc (.deferred (some []))).alloc (rec_ .ready)
 have hw2:Below w.heap.size w w2:=((MM _ w).alloc (K8 _) _).alloc (by simp) _;have hsz:w2.heap.size=w.heap.size+2:=by simp[w2]
 have hD2:w2.heap[w.heap.size]? =some (.deferred (some [])):=by
  rw[show w2.heap[w.heap.size]? =(w.alloc (.deferred (some []))).heap[w.heap.size]? from MH _ _ _ (by simp)];exact OW w _
 have hl2:w2.heap[w.heap.size+1]? =some (rec_ .ready):=by
  have:=OW (w.alloc (.deferred (some []))) (rec_ .ready);rwa [World.size_alloc]at this
 refine⟨w.heap.size+1,[markOf w.heap.size],w2,⟨.fn (.func f) #[],first++ #[.func (.yield (w.heap.size+1)) #[] #[]]⟩,w2,f,first++ #[.func (.yield (w.heap.size+1)) #[] #[]],w2,?_,?_,fun _ _=>trivial,?_,fun h=>(by cases h),?_⟩
 ·rw[show (fen none).round=none from rfl];exact run_enterLoop_outer fn a.tmps #[p] assign body
 ·have hc:a.eval (.const (.func (.yield (w.heap.size+1)) #[] #[]))= .func (.yield (w.heap.size+1)) #[] #[]:=rfl;simp[resolve,hgv,hc,Deferred.ofValue]
 ·simp[invoke,hit.enter]
 let a0:Act:={ a with defers:=[markOf w.heap.size]++a.defers }
 let fx0:Nat->Prop:=fun b=>x.fx b\/b=w.heap.size
 have hlow: ∀b o,m.S b o->b<w.heap.size:=hS.low;have hblk: ∀r row,s.rows r=some row-> ∀k,(m.ρ r).ownBlock=some k->k<w.heap.size:=fun r row hr k hk=>((hS.rows r row hr).blk hk).2;have hS2:Sim x s a w2 m:=hS.called hw2 (fun _ _ h=>h) (fun _ _ h=> .inl h) fun b o h=>by have:=hlow b o h;omega
 let x0:Ctx:=x.again s w2 m fx0 ([markOf w.heap.size]++x.df)
 have hS0:Sim x0 s a0 w2 m:=hS2.take (fx:=fx0) (fun b hb=>by
  rcases hb with hb|rfl
  ·exact⟨hS2.fxlt hb,fun r row hr hg=>hS2.nofx r row hr b hg hb⟩
  ·exact⟨by omega,fun r row hr hg=>by have:=hblk r row hr _ hg;omega⟩) rfl (by show [markOf w.heap.size]++a.defers=_;rw[hS.dfs])
 have hM:Marks x x0:=by
  refine⟨rfl,rfl,rfl,rfl,?_,fun b hb=>⟨.inl hb,fun hlt=>⟨?_,fun o hh=>(hS2.fix b hb).2.2 o hh⟩⟩,[w.heap.size],rfl,by simp,fun E hE=> ?_⟩
  ·exact hS2.fwle
  ·exact(hS2.fix b hb).2.1
  ·obtain rfl:E=w.heap.size:=by simpa using hE
   exact⟨.inr rfl,hD2,hS.bel.size,hS.fwle,fun o hh=>by have:=hlow _ o hh;omega⟩
 let st:Nat->D->(Nat->Nat)->(Nat->Bool)->St:=fun i d vs esc=>⟨s.f,ag (R i d vs),vs,esc⟩
 let J:Nat->World->Prop:=fun i W=> ∃d vs esc m',inv i d vs esc/\(∀r,s.vs r<=vs r)/\Sim x0 (st i d vs esc) a0 W m'/\W.heap[w.heap.size+1]? =some (rec_ .ready)/\(∀o,¬m'.S (w.heap.size+1) o)/\ ∀r row,ag (R i d vs) r=some row->(m'.ρ r).ownBlock≠some (w.heap.size+1)
 have hnx: ¬x0.fx (w.heap.size+1):=fun hb=>by
  rcases hb with hb|hb
  ·have:=hS.fxlt hb;omega
  ·omega
 have hlx:x0.w.heap.size<=w.heap.size+1:=Kh hS.bel.size (Nat.le_succ _);refine(hit.walk (w.heap.size+1) J w2 ?_ ?_ ?_ ?_).mono ?_
 ·rintro i W ⟨d,vs,esc,m',_,_,h,_⟩;have:=h.envOk.inv;rw[show x0.env=env from he]at this;exact this
 ·rintro i W W' ⟨d,vs,esc,m',h1,h2,h3,h4,h5,h6⟩ hb;exact⟨d,vs,esc,m',h1,h2,h3.called hb (fun _ _ h=>h) (fun _ _ h=> .inl h) (fun b o h=>Lz (h3.low b o h) hb.size),(hb.block _ (Kq.1 h4).1).trans h4,h5,h6⟩
 ·rintro i W k ⟨d,vs,esc,m',h1,h2,h3,h4,h5,h6⟩ hk;refine⟨fn,_,assign,body,run_yield h4 rfl,roundIn_of_wpIn trivial ?_⟩;have hact:(⟨(#[p].zip #[k]).foldl (fun tmps (t,a)=>tmps.setIfInBounds t a) a.tmps,[]⟩:Act)=(⟨a.tmps,[]⟩:Act).put (some p) k:=by simp[Act.put]
  show Code.wpIn _ _ _ _ _ (⟨(#[p].zip #[k]).foldl (fun tmps (t,a)=>tmps.setIfInBounds t a) a.tmps,[]⟩:Act) W;rw[hact]
  let fx1:Nat->Prop:=fun b=>x0.fx b\/b=w.heap.size+1
  have hlW:w.heap.size+1<W.heap.size:=(Kq.1 h4).1
  have hS1:Sim (x0.again (st i d vs esc) W m' fx1 []) (st i d vs esc) ⟨a.tmps,[]⟩ W m':=h3.take (fx:=fx1) (fun b hb=>by
   rcases hb with hb|rfl
   ·exact⟨h3.fxlt hb,fun r row hr hg=>h3.nofx r row hr b hg hb⟩
   ·exact⟨hlW,h6⟩) rfl rfl
  have hS1':=hS1.put (some p) (fun t ht=>by cases ht;exact hn ▸ hp) (v:=k) (c:= .lit k) (.val (.lit k));have hstate:(st i d vs esc).put (some p) (.lit k)=⟨upd s.f p (.lit k),ag (R i d vs),vs,esc⟩:=rfl;rw[hstate]at hS1';refine D4 (ro:=some (w.heap.size+1)) (n:=3) (Mo (round i d k vs esc h2 h1 hk (some (w.heap.size+1)) (x0.again (st i d vs esc) W m' fx1 []) he hn _ W m' hS1') ?_);rintro e a1 W1 ⟨s1,m1,g1,g2⟩;cases e with
  | normal=>
    obtain⟨-,hl1,hf1⟩:=g2.fix (w.heap.size+1) (.inr rfl);have hl1:W1.heap[w.heap.size+1]? =some (rec_ .ready):=hl1.trans h4;have hf1: ∀o,¬m1.S (w.heap.size+1) o:=fun o hh=>h5 o (hf1 o hh);have hr1: ∀r row,s1.rows r=some row->(m1.ρ r).ownBlock≠some (w.heap.size+1):=fun r row hr hg=>g2.nofx r row hr _ hg (.inr rfl);refine⟨_,run_beginRound hl1 rfl,?_⟩;have hU2:=(h3.untake g2 (fun b hb=> .inl hb) rfl rfl).turned (.loop { state:= .busy,pending:=none,fn,tmps:=a.tmps,params:= #[p],assign,body,defers:=w.heap.size }) hlx hf1 hnx hr1
    have hI:=((g2.fewer x0.fx fun b hb=> .inl hb).turned (.loop { state:= .busy,pending:=none,fn,tmps:=a.tmps,params:= #[p],assign,body,defers:=w.heap.size }) hlx hf1 hnx hr1).take (fx:=fx1) (fun b hb=>by
     rcases hb with hb|rfl
     ·exact⟨hU2.fxlt hb,fun r row hr hg=>hU2.nofx r row hr b hg hb⟩
     ·exact⟨by rw[World.putObj_size];exact(Kq.1 hl1).1,hr1⟩) rfl g2.dfs
    refine D4 (ro:=some (w.heap.size+1)) (n:=3) (Mo ((show awp P env nt body _ s1 from g1) (some (w.heap.size+1)) (x0.again s1 (W1.putObj (w.heap.size+1) (.loop { state:= .busy,pending:=none,fn,tmps:=a.tmps,params:= #[p],assign,body,defers:=w.heap.size })) m1 fx1 []) he hn _ _ m1 hI) ?_);rintro e a2 W3 ⟨s2,m2,k1,k2⟩;cases e with
    | normal=>
      obtain⟨d',q1,q2⟩:=(show ∃d',inv (i+1) d' s2.vs s2.esc/\cP s2 (R (i+1) d' s2.vs) from k1);obtain⟨-,hl3,hf3⟩:=k2.fix (w.heap.size+1) (.inr rfl);have hl3:W3.heap[w.heap.size+1]? =some (rec_ .busy):=hl3.trans (World.putObj_heap_same (Kq.1 hl1).1);have hf3: ∀o,¬m2.S (w.heap.size+1) o:=fun o hh=>hf1 o (hf3 o hh);have hr3: ∀r row,s2.rows r=some row->(m2.ρ r).ownBlock≠some (w.heap.size+1):=fun r row hr hg=>k2.nofx r row hr _ hg (.inr rfl);have hls:=(dA (s:=s2) (F:=[]) (R:=R (i+1) d' s2.vs) trivial q2).rows;refine⟨_,_,run_endRound none hl3,rfl,d',s2.vs,s2.esc,m2,q1,fun r=>Kh (h2 r) (Kh (g2.evV r) (k2.evV r)),?_,World.putObj_heap_same (Kq.1 hl3).1,hf3,fun r row hr hg=> ?_⟩
      ·exact((hU2.untake k2 (fun b hb=> .inl hb) rfl rfl).turned _ hlx hf3 hnx hr3).less ⟨fun t=> .inl rfl,hls,rfl,rfl⟩
      ·rcases hls r with h|h
       ·exact hr3 r row (h.symm.trans hr) hg
       ·have h:ag (R (i+1) d' s2.vs) r=none:=h;rw[h]at hr;cases hr
    |_=>exact k1.elim
  |_=>exact g1.elim
 ·have hls:=(dA (s:=s) (F:=[]) (R:=R 0 d0 s.vs) trivial hR).rows;have hless:Less s (st 0 d0 s.vs s.esc):=⟨fun t=> .inl rfl,hls,rfl,rfl⟩;refine⟨d0,s.vs,s.esc,m,h0,fun _=>K8 _,hS0.less hless,hl2,fun o hh=>by have:=hlow _ o hh;omega,fun r row hr hg=> ?_⟩;rcases hls r with h|h
  ·have:=hblk r row (h.symm.trans hr) _ hg;omega
  ·have h:ag (R 0 d0 s.vs) r=none:=h;rw[h]at hr;cases hr
 ·rintro e W ⟨⟨v,rfl⟩,d,vs,esc,m',h1,h2,h3,h4,h5,h6⟩;refine⟨none,_,run_endLoop h4 (by simp),?_⟩;refine⟨st ks.length d vs esc,m',x0,done d vs esc h2 h1,hM,h3.turned _ hlx h5 hnx h6⟩
end
/-! Rows that freeze, by their contents -/
def seesR (vs:Nat->Nat) (R:List (Nat×Row)):List (Nat×Nat×AV):=R.map fun p=>(p.1,vs p.1, .seq p.2.sz p.2.es)
theorem uz {s:St} : ∀ {R:List (Nat×Row)},cP s R-> ∀p∈R,s.rows p.1=some p.2
 |[],_,p,hp=>by cases hp
 | q::R,h,p,hp=>by
   rcases Kk.1 hp with rfl|hp
   ·exact h.1
   ·exact uz h.2 p hp
theorem be {P:Program} {env:Env} {nt:Nat} {c:Code} {Q:Exit->St->Prop} {s:St} (R:List (Nat×Row)) (hR:cP s R) (h:awp P env nt c Q (seenSt s (seesR s.vs R))) (hp:(R.all fun p=>p.2.pure&&p.2.sz != 0)=true:=by rfl):awp P env nt c Q s:=
 HU (seesR s.vs R) (fun q hq=>by
  obtain⟨p,h1,rfl⟩:=K9.1 hq;have:=K2.1 hp p h1;rw[KY,PO]at this
  exact⟨rfl,p.2,uz hR p h1,this.2,this.1,rfl⟩) h
end
section
open Go.RowKit Go.Shelf
def setOf (n:Nat):List Int:=((List.range 32).filter fun(i:Nat)=>n/2^i%2==1).map fun(i:Nat)=>(i:Int)
theorem mZ (p q:Nat->Bool) (k:Nat) (h0: ∀i,i<k->p i=false) (h1:p k=true) (h2: ∀i,i<=k->q i=false) (h3: ∀i,k<i->p i=q i): ∀N,((k<N->(List.range N).filter p=k::(List.range N).filter q)/\(N<=k->(List.range N).filter p=[]/\(List.range N).filter q=[]))
 |0=>⟨fun h=>by omega,fun _=>⟨rfl,rfl⟩⟩
 | N+1=>by
   have ih:=mZ p q k h0 h1 h2 h3 N;refine⟨fun h=> ?_,fun h=> ?_⟩
   ·rw[NB,LL,LL];by_cases e:N=k
    ·subst e;have:=ih.2 (K8 _);rw[this.1,this.2];simp[h1,h2 N (K8 _)]
    ·have:=ih.1 (by omega);rw[this];simp[MO,h3 N (by omega)]
   ·have:=ih.2 (by omega);rw[NB,LL,LL,this.1,this.2];simp[h0 N (by omega),h2 N (by omega)]
theorem div_bit (k m i:Nat):(2^k*(2*m+1))/2^i%2=if i<k then 0 else if i=k then 1 else(2^k*(2*m))/2^i%2:=by
 by_cases h:i<k
 ·rw[K0 h]
  have e:2^k=2^i*(2*2^(k-i-1)):=by
   rw[<-Nat.pow_succ', <-Nat.pow_add]
   congr 1
   omega
  rw[e,OT,OA _ (OB (by decide)),OT,Nat.mul_mod_right]
 ·rw[KZ h];by_cases h2:i=k
  ·subst h2;rw[K0 rfl,OA _ (OB (by decide))];omega
  ·rw[KZ h2]
   have e:2^i=2^k*(2*2^(i-k-1)):=by
    rw[<-Nat.pow_succ', <-Nat.pow_add]
    congr 1
    omega
   rw[e,Nat.mul_div_mul_left _ _ (OB (by decide)),Nat.mul_div_mul_left _ _ (OB (by decide)), <-Nat.div_div_eq_div_mul, <-Nat.div_div_eq_div_mul]
   congr 2
   omega
theorem HF (k m i:Nat) (h:i<=k):(2^k*(2*m))/2^i%2=0:=by
 have e:2^k=2^i*2^(k-i):=by
  rw[<-Nat.pow_add]
  congr 1
  omega
 rw[e,OT,OA _ (OB (by decide)), <-OT,Mf _ 2,OT,Nat.mul_mod_right]
theorem EU (k m:Nat) (hk:k<32):setOf (2^k*(2*m+1))=(k:Int)::setOf (2^k*(2*m)):=by
 unfold setOf
 have:=(mZ (fun i=>(2^k*(2*m+1))/2^i%2==1) (fun i=>(2^k*(2*m))/2^i%2==1) k
  (fun i hi=>by simp only[div_bit,K0 hi];rfl) (by simp[div_bit]) (fun i hi=>by simp only[HF k m i hi];rfl) (fun i hi=>by simp only[div_bit];rw[KZ (by omega),KZ (by omega)]) 32).1 hk
 rw[this];rfl
theorem Ar:setOf 0=[]:=by decide+kernel
theorem ofInt_u32 (a:Nat) (ha:a<4294967296):(BitVec.ofInt 32 (a:Int)).toNat=a:=by
 rw[OX,BitVec.toNat_ofNat];exact OO (by omega)
theorem u32_and (a b:Nat) (ha:a<4294967296) (hb:b<4294967296):bits .and .u32 (a:Int) (b:Int)=((a&&& b:Nat):Int):=by
 have hx:a&&& b<2^32:=Nat.and_lt_two_pow _ (by omega);show IntKind.u32.wrap ((BitVec.ofInt 32 (a:Int)&&& BitVec.ofInt 32 (b:Int)).toNat:Int)=_;rw[BitVec.toNat_and,ofInt_u32 a ha,ofInt_u32 b hb,Ng];omega
def TabAt (w:World):Prop:= ∀j,j<32->w.cell? ⟨10,j,none⟩=some (.int .u8 ((Lib.deBruijn32tab.getD j 0:Nat):Int))
theorem TabAt.below {w w':World} (h:TabAt w) (hb:Below w.heap.size w w'):TabAt w':=fun j hj=>cell_below (h j hj) hb
theorem JZ (x:Nat) (h0:x≠0) (hx:x<4294967296) (w:World) (hT:TabAt w):
 Calls prog 204 #[.int .u32 x] w fun e w'=>e= .returned (.int .i64 (Lib.ctz 32 x:Nat))/\w=w':=by
 obtain⟨hl,hk⟩:=Lib.lowest_bit 32 x h0 hx;obtain⟨hi,ht⟩:=Lib.deBruijn32_at _ hk;have hc:=hT _ hi;rw[ht]at hc;have e0:((x:Int)==0)=false:=by rw[ND];omega
 have e1:IntKind.u32.wrap (-(x:Int))=((2^32-x:Nat):Int):=by rw[Ng];omega
 have e2:bits .and .u32 (x:Int) ((2^32-x:Nat):Int)=((2^Lib.ctz 32 x:Nat):Int):=by rw[u32_and _ _ hx (by omega),hl]
 generalize Lib.ctz 32 x=k at*
 have hp:2^k<=2147483648:=by
  have:2^k<=2^31:=OY (by decide) (by omega);omega
 try clear ht hl h0 hT
 generalize 2^k=q at*
 go_enter func204,ntmps204
 go_wp2
 go_ret
 exact⟨rfl,rfl⟩
theorem yl (k m:Nat) (hk:k<32) (h:2^k*(2*m+1)<4294967296):bits .andNot .u32 ((2^k*(2*m+1):Nat):Int) ((2^k:Nat):Int)=((2^k*(2*m):Nat):Int):=by
 have hp:0<2^k:=OB (by decide)
 have h2:2^k<4294967296:=by
  have:2^k<=2^31:=OY (by decide) (by omega);omega
 have hsub:2^k*(2*m+1)=2^k*(2*m)+2^k:=by rw[Nat.mul_add,Nc]
 have key:(BitVec.ofInt 32 ((2^k*(2*m+1):Nat):Int)&&& ~~~ BitVec.ofInt 32 ((2^k:Nat):Int))=BitVec.ofNat 32 (2^k*(2*m)):=by
  apply BitVec.eq_of_getLsbD_eq;intro i hi;rw[BitVec.getLsbD_and,BitVec.getLsbD_not,OX,OX,OZ,OZ,OZ];have h1:(2^k*(2*m+1)).testBit i=(decide (k<=i)&&(2*m+1).testBit (i-k)):=by rw[Mf];exact Nat.testBit_mul_two_pow _ _ _
  have h3:(2^k*(2*m)).testBit i=(decide (k<=i)&&(2*m).testBit (i-k)):=by rw[Mf];exact Nat.testBit_mul_two_pow _ _ _
  rw[h1,h3,NQ];by_cases hik:k<=i
  ·by_cases he:i=k
   ·subst he;simp[hi]
   ·obtain⟨j,rfl⟩: ∃j,i=k+(j+1):=⟨i-k-1,by omega⟩;simp[hi,Nat.testBit_succ,show k+(j+1)-k=j+1 by omega,show (2*m+1)/2=m by omega]
  ·simp[hik]
 show IntKind.u32.wrap ((BitVec.ofInt 32 ((2^k*(2*m+1):Nat):Int)&&& ~~~ BitVec.ofInt 32 ((2^k:Nat):Int)).toNat:Int)=_;rw[key,BitVec.toNat_ofNat,OO (by omega),Ng];omega
theorem ib (k:Nat) (hk:k<32):2^k<4294967296:=by
 have:2^k<=2^31:=OY (by decide) (by omega);omega
theorem Bs (n:Nat) (hn:n<4294967296):Iters prog 118 #[.int .u32 n] ((setOf n).map (Value.int .i64)) TabAt:=by
 refine⟨O7 func118 (by kernel_rfl) rfl,fun l J w hT hB hY h0=> ?_⟩;refine callsIn_of_wp func118 rfl trivial ?_ rfl;simp only[ntmps118,MQ,Kj,NH,Nat.reduceAdd,Nat.reduceSub,Array.replicate_succ,Array.replicate_zero,List.push_toArray,List.append_toArray,Mc,Oq]
 gi_wp2
 gi_loopw [0] (fun v0 wr=> ∃(cur i:Nat),cur<=n/\i<=(setOf n).length/\v0= .int .u32 cur/\setOf cur=(setOf n).drop i/\J i wr) (fun v0 _=>(intOf v0).toNat)
 case atStart=>exact⟨n,0,K8 _,Ke _,rfl,rfl,h0⟩
 case round=>
  obtain⟨cur,i,hc,hil,rfl,hs,hJ⟩:=hrel;by_cases hz:cur=0
  ·subst hz;rw[Ar]at hs;obtain rfl:i=(setOf n).length:=Nr hil (List.drop_eq_nil_iff.1 hs.symm)
   gi_wp2
   go_end0
   exact⟨⟨_,rfl⟩,by rw[Kl];exact hJ⟩
  ·obtain⟨m,hm,hk⟩:=Lib.ctzFrom_spec 32 cur (by omega) (by omega);have hcz:Lib.ctz 32 cur=Lib.ctzFrom 32 cur:=by simp[Lib.ctz,hz]
   rw[<-hcz]at hm hk;have hs2:=EU (Lib.ctz 32 cur) m hk;rw[<-hm]at hs2;have hpos:0<2^Lib.ctz 32 cur:=OB (by decide)
   have hsub:cur=2^Lib.ctz 32 cur*(2*m)+2^Lib.ctz 32 cur:=by
    have:=hm;rw[Nat.mul_add,Nc]at this;exact this
   have e0:((cur:Int) != 0)=true:=by rw[PO];omega
   have hlen:i< (setOf n).length:=by
    have:=Kx List.length (hs2.symm.trans hs);simp at this;omega
   have hki:(setOf n)[i]? =some ((Lib.ctz 32 cur:Nat):Int):=by
    have:=Kx (·[0]?) (hs2.symm.trans hs);simp only[LM,La,Md]at this;exact this.symm
   have hs3:setOf (2^Lib.ctz 32 cur*(2*m))=(setOf n).drop (i+1):=by
    have:=Kx List.tail (hs2.symm.trans hs);rw[List.tail_cons,List.tail_drop]at this;exact this
   have hTab:=hT i wr hJ;have hY:=hY i wr (.int .i64 ((Lib.ctz 32 cur:Nat):Int)) hJ (by rw[K5,hki];rfl);have hp2:=ib _ hk
   have e1:(2:Int)^Lib.ctz 32 cur%4294967296=((2^Lib.ctz 32 cur:Nat):Int):=by
    rw[O2];have:((2^Lib.ctz 32 cur:Nat):Int)<4294967296:=by omega
    rw[O2]at this;exact Int.emod_eq_of_lt (by exact_mod_cast Ke _) this
   have e2:bits .andNot .u32 (cur:Int) ((2^Lib.ctz 32 cur:Nat):Int)=((2^Lib.ctz 32 cur*(2*m):Nat):Int):=by
    have:=yl (Lib.ctz 32 cur) m hk (by omega);rw[<-hm]at this;exact this
   obtain⟨fn,tmps,assign,body,hy,hR⟩:=hY;generalize hkk:Lib.ctz 32 cur=k at*;have hkk':=OI hkk;have hsub':=OI hsub;try clear hkk hs2 hcz hs hm hsub
   generalize 2^k*(2*m)=nx at*;generalize hq:2^k=q at*
   gi_wp2_with (first|(refine⟨trivial,?_⟩;gi_at_call 204;refine(Ox.2 (JZ cur hz (by omega) _ hTab)).mono ?_;rintro e w' ⟨rfl,rfl⟩;rw[hkk'.out]))
   refine hR.mono ?_;rintro e W3 ⟨rfl,hJ3⟩
   gi_wp2
   have hsub:=hsub'.out;exact⟨⟨nx,i+1,by omega,by omega,rfl,hs3,hJ3⟩,by show ((nx:Int)).toNat< ((cur:Int)).toNat;omega⟩
end
section
open Go.RowKit
end
section
open Go.RowKit
end
section
open Go.RowKit
end
section
open Go.RowKit
def x6:List UInt8->Nat
 |[]=>0
 |c::r=>c.toNat+256*x6 r
def cut (bs:List UInt8) (at_ wd:Nat):List UInt8:=(bs.drop at_).take wd
end

end Go.Proofs.YtbjldjekgepopaaGreatDoor