/- Trees of charts, plain: the way up, the walk, sorting by the walk. No program is named here. -/
import Derived.Test.YtnbjaghjdeicmaaGreatDoorK7
import Derived.Test.YtnbjaghjdeicmaaGreatDoorK4
import Derived.Shelf.Sort.Plain
import Derived.Shelf.Slices.CompactS
import Derived.Ground.NamesProg
import Derived.Test.YtnbjaghjdeicmaaGreatDoorProg
import Derived.Test.YtnbjaghjdeicmaaGreatDoorK5
import Derived.Test.YtnbjaghjdeicmaaGreatDoorK8
import Derived.LoopN
import Derived.Shelf.Abstract
namespace Go.Proofs.YtnbjaghjdeicmaaGreatDoor
open Go.RowKit
structure Cuts (P:Program) (f:FuncId) (e:TypeId) (sz:Nat) (ls ls':List (List Value)):Prop where
 enter: ∀(args:Array Value) (w:World),(callFunc f args).run P w= .ok (.enter f args) w
 els: ∀l∈ls',l.length=sz/\ ∀u∈l,u.oneCell'=true
 calls: ∀(w:World) (base:Nat) (v:Value),w.ownsRow base e sz v ls.length ls.flatten->
  Calls P f #[v] w fun ex w'=> ∃v',ex= .returned v'/\v'.oneCell'=true/\w.grownBy w' v.ownBlock/\(∀g,v'.ownBlock=some g->v.ownBlock=some g)/\w'.ownsRow base e sz v' ls'.length ls'.flatten
theorem zo9 {S:Nat->Nat->Prop} {w:World} {row:Row} {ls:List (List Value)} {xs:List Value} (hls: ∀l∈ls,l.length=row.sz) (hpos:0<row.sz) (hxl:xs.length=ls.length*row.sz) (e5:row.es=zaW ls)
 (k3: ∀(i j:Nat) (c:AV),cellAt row.es i j=some c-> ∃u,xs[i*row.sz+j]? =some u/\RV S w u c):xs=ls.flatten:=by
 apply List.ext_getElem?
 intro p
 have hfl:=zcw ls hls
 by_cases hp:p<ls.length*row.sz
 ·have hi:p/row.sz<ls.length:=Nat.div_lt_of_lt_mul (by rw [Nat.mul_comm]; exact hp)
  have hj:p%row.sz<row.sz:=Nat.mod_lt _ hpos
  have hpq:p/row.sz*row.sz+p%row.sz=p:=Nat.div_add_mod' p row.sz
  have hl:=hls _ (List.getElem_mem hi)
  have hju:(ls[p/row.sz])[p%row.sz]? =some ((ls[p/row.sz])[p%row.sz]'(by omega)):=List.getElem?_eq_getElem _
  have h1:=zcY ls hls _ _ _ _ (List.getElem?_eq_getElem hi) hju
  obtain⟨u,h2,h3⟩:=k3 (p/row.sz) (p%row.sz) (.lit ((ls[p/row.sz])[p%row.sz]'(by omega))) (by
   rw [e5]
   unfold cellAt zaW
   rw [List.getElem?_map,List.getElem?_eq_getElem hi]
   simp only [Option.map_some,Option.bind_some,List.getElem?_map,hju])
  rw [hpq] at h1 h2
  have:u=(ls[p/row.sz])[p%row.sz]'(by omega):=by cases h3; rfl
  rw [h1,h2,this]
 ·rw [List.getElem?_eq_none (by omega),List.getElem?_eq_none (by omega)]
theorem zrU {P:Program} {env:Env} {f:FuncId} {r ver:Nat} {row:Row} {rows:Nat->Option Row} {vsv:Nat->Nat} {ls ls':List (List Value)} (hC:Cuts P f row.e row.sz ls ls') (hr:rows r=some row) (hv:vsv r=ver) (hrz:row.sz≠0) (hp:row.pure=true) (e5:row.es=zaW ls):
 Acts P env f [.row r ver] [r] rows vsv ⟨.row r (ver+1),[.renew r { row with es:=zaW ls' }]⟩:=by
 refine⟨hC.enter,fun x s a w m vs hx hS hro hl hvs=> ?_⟩
 obtain⟨q1,q2,q3⟩:=hro r (by simp)
 rw [hr] at q1
 rw [hv] at q2
 match vs,hl with
 | [u],_=>
 have hu:u=m.ρ r:=(hvs 0 u _ rfl rfl).row_.2 q2 row q1
 subst hu
 have k:=(hS.rows r row q1).cells hrz
 obtain⟨xs,k1,k2,k3⟩:=k.own
 have hn:row.es.length=ls.length:=by rw [e5]; simp [zaW]
 have hls: ∀l∈ls,l.length=row.sz:=fun l hl=>by
  obtain⟨i,hi,rfl⟩:=List.getElem_of_mem hl
  have:=k.len i ((ls[i]).map .lit) (by rw [e5]; simp [zaW,hi])
  simpa using this
 have hxx:xs=ls.flatten:=zo9 hls k.pos (by rw [<-hn]; exact k1.1) e5 fun i j c hc=>by
  obtain⟨u,h1,h2⟩:=k3 i j c hc
  rw [if_pos hp] at h2
  exact⟨u,h1,h2⟩
 rw [hxx,hn] at k1
 refine(hC.calls w x.w.heap.size (m.ρ r) k1).mono ?_
 rintro ex w' ⟨v',rfl,h1,hg,hsub,ho⟩
 have hb:Below x.w.heap.size w w':=⟨hg.os,hg.tape,hg.output,hg.size,fun q hq=>hg.block q (Nat.lt_of_lt_of_le hq hS.bel.size) fun e=>by
  have:=(za0 k1 e.symm).1
  omega⟩
 have hnS: ∀g,(m.ρ r).ownBlock=some g-> ∀o,¬m.S g o:=k.fresh q3
 have hcell: ∀b o,m.S b o->Stay w w' b o:=fun b o hh=> .block (hg.block b (hS.low b o hh) fun e=>hnS b e.symm o hh)
 have hlow: ∀b o,m.S b o->b<w'.heap.size:=fun b o hh=>Nat.lt_of_lt_of_le (hS.low b o hh) hg.size
 have hS2:Sim x (s.renew r { row with es:=zaW ls' } false) a w' ⟨m.S,upd m.ρ r v'⟩:=by
  refine hS.renew r _ false v' m.S hb (fun b o hh=>⟨hh,hcell b o hh⟩) (fun b o hh=> .inl hh) (fun q row1 hne hq gq hgq=>⟨?_,fun e=> ?_,fun _ hh=>hh⟩) ?_ fun b hf=>⟨hg.block b (hS.fxlt hf) fun e=>hS.nofx r row q1 b e.symm hf,fun _ hh=>hh,fun e=>hS.nofx r row q1 b (hsub b e) hf⟩
  ·exact hg.block gq ((hS.rows q row1 hq).blk hgq).2 fun e=>hS.inj r q row row1 q1 hq (Ne.symm hne) gq e.symm hgq
  ·exact hS.inj r q row row1 q1 hq (Ne.symm hne) gq (hsub gq e) hgq
  ·have hel: ∀(i:Nat) (e:List AV),(zaW ls')[i]? =some e->e.length=row.sz:=fun i e he=>by
    unfold zaW at he
    rw [List.getElem?_map] at he
    cases hl:ls'[i]? with
    | none=>rw [hl] at he; cases he
    | some l=>
      rw [hl] at he
      cases he
      simpa using (hC.els l (List.mem_of_getElem? hl)).1
   have hll:(zaW ls').length=ls'.length:=by unfold zaW; rw [List.length_map]
   have hρ:(⟨m.S,upd m.ρ r v'⟩:Mem).ρ r=v':=upd_same ..
   refine .inl ⟨k.pos,hel,⟨ls'.flatten,by rw [hρ]; show w'.ownsRow _ _ _ _ (zaW ls').length _; rw [hll]; exact ho, ?_, ?_⟩,fun he=> ?_,fun g hg' o _=> ?_,fun _ g hg' o=> ?_⟩
   ·intro u hu
    obtain⟨l,hl,hul⟩:=List.mem_flatten.1 hu
    exact(hC.els l hl).2 u hul
   ·intro i j c hcc
    obtain⟨l,u,h1,h2,rfl⟩:=zl7 hcc
    refine⟨u,zcY ls' (fun l hl=>(hC.els l hl).1) i j l u h1 h2, ?_⟩
    show if row.pure=true then _ else _
    rw [if_pos hp]
    exact .lit u
   ·have he:upd s.esc r false r=true:=he
    rw [upd_same] at he
    cases he
   ·rw [hρ] at hg'; exact hnS g (hsub g hg') o
   ·rw [hρ] at hg'; exact hnS g (hsub g hg') o
 refine⟨v',_,rfl,hS2, .row r (ver+1) h1 ?_ fun _ row' _=> ?_⟩
 ·show ver+1<=upd s.vs r (s.vs r+1) r
  rw [upd_same,q2]
  exact Nat.le_refl _
 ·show v'=upd m.ρ r v' r
  rw [upd_same]
section
variable {P:Program} {env:Env} {s:St}
theorem ziY {o:Oper} {f:FuncId} {args:List AV} {rest:List Stp} {s1:St} {row:Row} {ls ls':List (List Value)} {ft:Foot} {K:St->List Foot->Prop} (r:Nat) (hc:zaT env s.f o=some (f,args)) (hC:Cuts P f row.e row.sz ls ls') (hrz:row.sz≠0) (hp:row.pure=true) (e5:row.es=zaW ls)
 (ha:Is args [.row r (s.vs r)]) (hr:Is (s.rows r) (some row)) (he:Is (s.esc r) false) (h1:Is ((⟨.row r (s.vs r+1),[.renew r { row with es:=zaW ls' }]⟩:Out).app o.dst s) s1) (h2:Is (⟨[r],[r],[r],[]⟩:Foot) ft) (k:aops P env rest s1 fun s2 fts=>K s2 (ft::fts)):aops P env (⟨o, .always⟩::rest) s K:=by
 unfold Is at h2
 subst h2
 exact zg2 hc ha (zrU hC hr rfl hrz hp e5) (fun q hq=>by rw [List.mem_singleton.1 hq]; exact he) h1 k
theorem zjT {o:Oper} {f:FuncId} {args:List AV} {rest:List Stp} {s1:St} {row:Row} {ls ls':List (List Value)} {K:St->List Foot->Prop} (r:Nat) (hc:zaT env s.f o=some (f,args)) (hT:Turns P f [] row.e row.sz ls ls') (hrz:row.sz≠0) (hp:row.pure=true) (e5:row.es=zaW ls)
 (ha:Is args [.row r (s.vs r)]) (hr:Is (s.rows r) (some row)) (he:Is (s.esc r) false) (h1:Is ((s.setRow r { row with es:=zaW ls' }).put o.dst .any) s1) (k:aops P env rest s1 fun s2 fts=>K s2 (⟨[r],[r],[r],[]⟩::fts)):aops P env (⟨o, .always⟩::rest) s K:=
 zqu (rs:=[]) r hc (show args=_ from ha) hr he hT e5 hp hrz h1 k
end
end Go.Proofs.YtnbjaghjdeicmaaGreatDoor
namespace Go.Proofs.YtnbjaghjdeicmaaGreatDoor
open Go.RowKit Go.Sort Go.Shelf Go.Lib
theorem heap_put {w:World} {g n:Nat} {os:Array Obj} {cur:Array Value} {e:TypeId} {fr:Nat×Nat} (F:Array Value) (hb:w.heap[g]? =some (.cells cur e fr)):
 (grow (putRow id (Sort.ahead w n) g 0 F) os).heap[g]? =some (.cells (putCells id 0 F cur) e fr):=by
 have hg:g<w.heap.size:=(Array.getElem?_eq_some_iff.1 hb).1
 rw [heap_grow_old _ _ (by simpa [putRow,mapBlock,Sort.ahead] using hg)]
 simp [putRow,mapBlock,Sort.ahead,Array.getElem?_modify,hb,onCells]
theorem zej {w:World} {g n:Nat} {os:Array Obj} (F:Array Value):w.grownBy (grow (putRow id (Sort.ahead w n) g 0 F) os) (some g):=by
 refine⟨rfl,rfl,rfl,by simp [putRow,mapBlock,Sort.ahead],fun k hk hne=> ?_⟩
 rw [heap_grow_old _ _ (by simpa [putRow,mapBlock,Sort.ahead] using hk)]
 have:g≠k:=fun e=>hne (by rw [e])
 simp [putRow,mapBlock,Sort.ahead,Array.getElem?_modify,this]
theorem zid (cur F:Array Value) (h:F.size<=cur.size):(putCells id 0 F cur).toList.take F.size=F.toList:=by
 apply List.ext_getElem?
 intro j
 by_cases hj:j<F.size
 ·rw [List.getElem?_take_of_lt hj,Array.getElem?_toList]
  simp [putCells,hj,show j<cur.size by omega]
 ·rw [List.getElem?_take_eq_none (by omega),List.getElem?_eq_none (by simp; omega)]
theorem zeT {P:Program} {f:FuncId} {rest:List Value} {e:TypeId} {sz:Nat} {ls ls':List (List Value)} (hne:0<ls.length) (henter: ∀(args:Array Value) (w:World),(callFunc f args).run P w= .ok (.enter f args) w)
 (hl:ls'.length=ls.length) (hls: ∀l∈ls,l.length=sz) (hel: ∀l∈ls',l.length=sz/\ ∀u∈l,u.oneCell'=true)
 (h: ∀(w:World) (g cap:Nat),Holds id w g 0 ls.flatten.toArray->g<w.heap.size->Calls P f (.slice (some ⟨g,0,none⟩) ls.length cap::rest).toArray w fun ex w'=>ex= .returned (.tuple #[])/\ ∃n os,w'=grow (putRow id (Sort.ahead w n) g 0 ls'.flatten.toArray) os):
 Turns P f rest e sz ls ls':=by
 refine⟨henter,hl,hel,fun w base v ho=> ?_⟩
 have hf:=zcw ls hls
 have hf':=zcw ls' fun l hl=>(hel l hl).1
 rcases ho.2 with⟨_,h0⟩ | ⟨g,cap,cur,rfl,hbase,hb,h1,h2,h3,h4⟩
 ·omega
 have hsz:ls.length*sz<=cur.size:=by rw [h3]; exact Nat.mul_le_mul_right _ h1
 have hg:g<w.heap.size:=(Array.getElem?_eq_some_iff.1 hb).1
 refine(h w g cap (fun j hj=>⟨?_,by simp [World.frozen?,hb]⟩) hg).mono ?_
 ·have hj':j<ls.flatten.length:=by simpa using hj
  have e1:(cur.toList.take (ls.length*sz))[j]? =ls.flatten[j]? :=by rw [h4]
  rw [List.getElem?_take_of_lt (by omega)] at e1
  simp only [World.cell?,hb,Nat.zero_add]
  simp only [Option.isSome_none,Bool.false_eq_true,if_false]
  rw [<-Array.getElem?_toList,e1,getElem!_pos _ j hj,List.getElem?_eq_getElem hj']
  rfl
 ·rintro ex w' ⟨rfl,n,os,rfl⟩
  refine⟨rfl,zej _,by rw [hf',hl], .inr ⟨g,cap,_,rfl,hbase,heap_put _ hb,h1,h2,by simp [putCells,h3], ?_⟩⟩
  have:=zid cur ls'.flatten.toArray (by simp [hf',hl]; exact hsz)
  rw [show ls'.flatten.toArray.size=ls.length*sz by simp [hf',hl]] at this
  exact this
theorem zeS {P:Program} {f:FuncId} {rest:List Value} {e:TypeId} {sz:Nat} (henter: ∀(args:Array Value) (w:World),(callFunc f args).run P w= .ok (.enter f args) w)
 (h: ∀(p:Option Addr) (cap:Nat) (w:World),Calls P f (.slice p 0 cap::rest).toArray w fun ex w'=>ex= .returned (.tuple #[])/\w'=w):Turns P f rest e sz [] []:=by
 refine⟨henter,rfl,fun l hl=>by simp at hl,fun w base v ho=> ?_⟩
 have key: ∃p cap,v= .slice p 0 cap:=by
  rcases ho.2 with⟨rfl,_⟩ | ⟨g,cap,cur,rfl,_⟩
  ·exact⟨_,_,rfl⟩
  ·exact⟨_,_,rfl⟩
 obtain⟨p,cap,rfl⟩:=key
 refine(h p cap w).mono ?_
 rintro ex w' ⟨rfl,rfl⟩
 exact⟨rfl,⟨rfl,rfl,rfl,Nat.le_refl _,fun _ _ _=>rfl⟩,ho⟩
section
variable {α:Type} [Inhabited α]
theorem zdx (enc:α->Value) (w:World) (g:Nat) (d:Array α):putRow enc w g 0 d=putRow id w g 0 (d.map enc):=by
 unfold putRow
 refine mapBlock_congr _ _ _ _ fun c _ _ _=> ?_
 apply Array.ext_getElem?
 intro k
 simp only [putCells,Array.getElem?_mapIdx,Array.size_map]
 cases c[k]? with
 | none=>rfl
 | some y=>
   simp only [Option.map_some,Nat.sub_zero,Nat.zero_add]
   by_cases hk:0<=k/\k<d.size
   ·rw [if_pos hk,if_pos hk]; simp [hk.2]
   ·rw [if_neg hk,if_neg hk]
end
end Go.Proofs.YtnbjaghjdeicmaaGreatDoor
namespace Go.Proofs
open Go.Shelf
def Tryz.sortS_ren:Go.Shelf.Ren:=⟨fun | 190=>130 | 125=>208 | 258=>207 | 128=>263 | 129=>264 | 302=>255 | 303=>256 | 304=>257 | 305=>258 | 306=>259 | 307=>260 | 308=>209 | 309=>261 | 310=>262 | 333=>293 | 329=>294 | 330=>295 | 334=>296 | 335=>297 | 336=>265 | 344=>323 | n=>n,fun | 31=>100 | 9=>9 | 3=>3 | 46=>266 | 0=>0 | 51=>187 | 53=>256 | 4=>4 | 183=>320 | 182=>319 | 131=>200 | 5=>5 | 218=>336 | 222=>340 | 228=>360 | 229=>88 | n=>n,fun | n=>n⟩
theorem Tryz.sortS:Go.Proofs.Lays.n190 Tryz.prog Tryz.sortS_ren:={
 mixed:=by kernel_rfl
 f125:=Tryz.func208.trans (congrArg some (by kernel_rfl))
 f128:=Tryz.func263.trans (congrArg some (by kernel_rfl))
 f129:=Tryz.func264.trans (congrArg some (by kernel_rfl))
 f190:=Tryz.func130.trans (congrArg some (by kernel_rfl))
 f258:=Tryz.func207.trans (congrArg some (by kernel_rfl))
 f302:=Tryz.func255.trans (congrArg some (by kernel_rfl))
 f303:=Tryz.func256.trans (congrArg some (by kernel_rfl))
 f304:=Tryz.func257.trans (congrArg some (by kernel_rfl))
 f305:=Tryz.func258.trans (congrArg some (by kernel_rfl))
 f306:=Tryz.func259.trans (congrArg some (by kernel_rfl))
 f307:=Tryz.func260.trans (congrArg some (by kernel_rfl))
 f308:=Tryz.func209.trans (congrArg some (by kernel_rfl))
 f309:=Tryz.func261.trans (congrArg some (by kernel_rfl))
 f310:=Tryz.func262.trans (congrArg some (by kernel_rfl))
 f329:=Tryz.func294.trans (congrArg some (by kernel_rfl))
 f330:=Tryz.func295.trans (congrArg some (by kernel_rfl))
 f333:=Tryz.func293.trans (congrArg some (by kernel_rfl))
 f334:=Tryz.func296.trans (congrArg some (by kernel_rfl))
 f335:=Tryz.func297.trans (congrArg some (by kernel_rfl))
 f336:=Tryz.func265.trans (congrArg some (by kernel_rfl))
 f344:=Tryz.func323.trans (congrArg some (by kernel_rfl))
 t0:=Tryz.underlying0
 a0:=Tryz.isAgg0
 z0:=Tryz.sizeOf0
 v0:=Tryz.zeroValue0
 t3:=Tryz.underlying3
 a3:=Tryz.isAgg3
 z3:=Tryz.sizeOf3
 v3:=Tryz.zeroValue3
 t4:=Tryz.underlying4
 a4:=Tryz.isAgg4
 z4:=Tryz.sizeOf4
 v4:=Tryz.zeroValue4
 t5:=Tryz.underlying5
 a5:=Tryz.isAgg5
 z5:=Tryz.sizeOf5
 v5:=Tryz.zeroValue5
 t9:=Tryz.underlying9
 a9:=Tryz.isAgg9
 z9:=Tryz.sizeOf9
 v9:=Tryz.zeroValue9
 t31:=Tryz.underlying100
 a31:=Tryz.isAgg100
 z31:=Tryz.sizeOf100
 v31:=Tryz.zeroValue100
 t46:=Tryz.underlying266
 a46:=Tryz.isAgg266
 z46:=Tryz.sizeOf266
 v46:=Tryz.zeroValue266
 t51:=Tryz.underlying187
 a51:=Tryz.isAgg187
 z51:=Tryz.sizeOf187
 v51:=Tryz.zeroValue187
 t53:=Tryz.underlying256
 a53:=Tryz.isAgg256
 z53:=Tryz.sizeOf256
 v53:=Tryz.zeroValue256
 t131:=Tryz.underlying200
 a131:=Tryz.isAgg200
 z131:=Tryz.sizeOf200
 v131:=Tryz.zeroValue200
 t182:=Tryz.underlying319
 a182:=Tryz.isAgg319
 z182:=Tryz.sizeOf319
 v182:=Tryz.zeroValue319
 t183:=Tryz.underlying320
 a183:=Tryz.isAgg320
 z183:=Tryz.sizeOf320
 v183:=Tryz.zeroValue320
 t218:=Tryz.underlying336
 a218:=Tryz.isAgg336
 z218:=Tryz.sizeOf336
 v218:=Tryz.zeroValue336
 t222:=Tryz.underlying340
 a222:=Tryz.isAgg340
 z222:=Tryz.sizeOf340
 v222:=Tryz.zeroValue340
 t228:=Tryz.underlying360
 a228:=Tryz.isAgg360
 z228:=Tryz.sizeOf360
 v228:=Tryz.zeroValue360
 t229:=Tryz.underlying88
 a229:=Tryz.isAgg88
 z229:=Tryz.sizeOf88
 v229:=Tryz.zeroValue88 }
def Tryz.sortI_ren:Go.Shelf.Ren:=⟨fun | 189=>236 | 125=>208 | 257=>282 | 128=>263 | 129=>264 | 294=>312 | 295=>313 | 296=>314 | 297=>315 | 298=>316 | 299=>317 | 216=>318 | 300=>319 | 301=>320 | 328=>331 | 329=>294 | 330=>295 | 331=>332 | 332=>333 | 215=>334 | 343=>347 | n=>n,fun | 28=>27 | 3=>3 | 46=>266 | 0=>0 | 51=>187 | 53=>256 | 4=>4 | 183=>320 | 182=>319 | 131=>200 | 5=>5 | 9=>9 | 218=>336 | 222=>340 | 228=>360 | 229=>88 | n=>n,fun | n=>n⟩
theorem Tryz.sortI:Go.Proofs.Lays.n189 Tryz.prog Tryz.sortI_ren:={
 mixed:=by kernel_rfl
 f125:=Tryz.func208.trans (congrArg some (by kernel_rfl))
 f128:=Tryz.func263.trans (congrArg some (by kernel_rfl))
 f129:=Tryz.func264.trans (congrArg some (by kernel_rfl))
 f189:=Tryz.func236.trans (congrArg some (by kernel_rfl))
 f215:=Tryz.func334.trans (congrArg some (by kernel_rfl))
 f216:=Tryz.func318.trans (congrArg some (by kernel_rfl))
 f257:=Tryz.func282.trans (congrArg some (by kernel_rfl))
 f294:=Tryz.func312.trans (congrArg some (by kernel_rfl))
 f295:=Tryz.func313.trans (congrArg some (by kernel_rfl))
 f296:=Tryz.func314.trans (congrArg some (by kernel_rfl))
 f297:=Tryz.func315.trans (congrArg some (by kernel_rfl))
 f298:=Tryz.func316.trans (congrArg some (by kernel_rfl))
 f299:=Tryz.func317.trans (congrArg some (by kernel_rfl))
 f300:=Tryz.func319.trans (congrArg some (by kernel_rfl))
 f301:=Tryz.func320.trans (congrArg some (by kernel_rfl))
 f328:=Tryz.func331.trans (congrArg some (by kernel_rfl))
 f329:=Tryz.func294.trans (congrArg some (by kernel_rfl))
 f330:=Tryz.func295.trans (congrArg some (by kernel_rfl))
 f331:=Tryz.func332.trans (congrArg some (by kernel_rfl))
 f332:=Tryz.func333.trans (congrArg some (by kernel_rfl))
 f343:=Tryz.func347.trans (congrArg some (by kernel_rfl))
 t0:=Tryz.underlying0
 a0:=Tryz.isAgg0
 z0:=Tryz.sizeOf0
 v0:=Tryz.zeroValue0
 t3:=Tryz.underlying3
 a3:=Tryz.isAgg3
 z3:=Tryz.sizeOf3
 v3:=Tryz.zeroValue3
 t4:=Tryz.underlying4
 a4:=Tryz.isAgg4
 z4:=Tryz.sizeOf4
 v4:=Tryz.zeroValue4
 t5:=Tryz.underlying5
 a5:=Tryz.isAgg5
 z5:=Tryz.sizeOf5
 v5:=Tryz.zeroValue5
 t9:=Tryz.underlying9
 a9:=Tryz.isAgg9
 z9:=Tryz.sizeOf9
 v9:=Tryz.zeroValue9
 t28:=Tryz.underlying27
 a28:=Tryz.isAgg27
 z28:=Tryz.sizeOf27
 v28:=Tryz.zeroValue27
 t46:=Tryz.underlying266
 a46:=Tryz.isAgg266
 z46:=Tryz.sizeOf266
 v46:=Tryz.zeroValue266
 t51:=Tryz.underlying187
 a51:=Tryz.isAgg187
 z51:=Tryz.sizeOf187
 v51:=Tryz.zeroValue187
 t53:=Tryz.underlying256
 a53:=Tryz.isAgg256
 z53:=Tryz.sizeOf256
 v53:=Tryz.zeroValue256
 t131:=Tryz.underlying200
 a131:=Tryz.isAgg200
 z131:=Tryz.sizeOf200
 v131:=Tryz.zeroValue200
 t182:=Tryz.underlying319
 a182:=Tryz.isAgg319
 z182:=Tryz.sizeOf319
 v182:=Tryz.zeroValue319
 t183:=Tryz.underlying320
 a183:=Tryz.isAgg320
 z183:=Tryz.sizeOf320
 v183:=Tryz.zeroValue320
 t218:=Tryz.underlying336
 a218:=Tryz.isAgg336
 z218:=Tryz.sizeOf336
 v218:=Tryz.zeroValue336
 t222:=Tryz.underlying340
 a222:=Tryz.isAgg340
 z222:=Tryz.sizeOf340
 v222:=Tryz.zeroValue340
 t228:=Tryz.underlying360
 a228:=Tryz.isAgg360
 z228:=Tryz.sizeOf360
 v228:=Tryz.zeroValue360
 t229:=Tryz.underlying88
 a229:=Tryz.isAgg88
 z229:=Tryz.sizeOf88
 v229:=Tryz.zeroValue88 }
def Tryz.compS_ren:Go.Shelf.Ren:=⟨fun | 194=>131 | n=>n,fun | 31=>100 | 9=>9 | 3=>3 | 4=>4 | 0=>0 | n=>n,fun | n=>n⟩
theorem Tryz.compS:Go.Proofs.Lays.n194 Tryz.prog Tryz.compS_ren:={
 mixed:=by kernel_rfl
 f194:=Tryz.func131.trans (congrArg some (by kernel_rfl))
 t0:=Tryz.underlying0
 a0:=Tryz.isAgg0
 z0:=Tryz.sizeOf0
 v0:=Tryz.zeroValue0
 t3:=Tryz.underlying3
 a3:=Tryz.isAgg3
 z3:=Tryz.sizeOf3
 v3:=Tryz.zeroValue3
 t4:=Tryz.underlying4
 a4:=Tryz.isAgg4
 z4:=Tryz.sizeOf4
 v4:=Tryz.zeroValue4
 t9:=Tryz.underlying9
 a9:=Tryz.isAgg9
 z9:=Tryz.sizeOf9
 v9:=Tryz.zeroValue9
 t31:=Tryz.underlying100
 a31:=Tryz.isAgg100
 z31:=Tryz.sizeOf100
 v31:=Tryz.zeroValue100 }
end Go.Proofs
namespace Go.Proofs.YtnbjaghjdeicmaaGreatDoor
open Go.RowKit Go.Sort Go.Shelf Go.Lib
set_option maxHeartbeats 4000000 in
set_option maxRecDepth 100000 in
theorem zmZ (p:Option Addr) (cap:Nat) (w:World):Calls Tryz.prog 130 #[.slice p 0 cap] w fun ex w'=>ex= .returned (.tuple #[])/\w'=w:=by
 go_enter Tryz.func130,Tryz.ntmps130
 go_wp2_with (first | go_in)
 refine wp_loop_rounds 1 ?_
 simp only [Code.rounds]
 go_wp2_with (first | go_in)
 refine wp_loop_rounds 1 ?_
 simp only [Code.rounds]
 go_wp2_with (first | go_in)
 go_end0
 exact⟨rfl,rfl⟩
def strC (s:List UInt8):List Value:=[encStr s]
theorem zbK {α:Type} (f:α->Value): ∀l:List α,(l.map fun s=>[f s]).flatten=l.map f
 | []=>rfl
 | x::l=>by simp [zbK f l]
theorem zpt {w:World} {g:Nat} {l:List (List UInt8)} (h:Holds id w g 0 (l.map encStr).toArray):Holds encStr w g 0 l.toArray:=fun j hj=>by
 have hj':j<l.length:=by simpa using hj
 have:=h j (by simpa using hj')
 rw [getElem!_pos _ j (by simpa using hj')] at this
 rw [getElem!_pos _ j hj]
 simpa using this
theorem Tryz.sortEnter: ∀(args:Array Value) (w:World),(callFunc 130 args).run Tryz.prog w= .ok (.enter 130 args) w:=enters_of Tryz.func130 (by kernel_rfl) rfl
theorem Tryz.compEnter: ∀(args:Array Value) (w:World),(callFunc 131 args).run Tryz.prog w= .ok (.enter 131 args) w:=enters_of Tryz.func131 (by kernel_rfl) rfl
def zdq (l:List (List UInt8)):List (List UInt8):=l.mergeSort fun x y=>decide (x<=y)
theorem zkS (l:List (List UInt8)) (hl:l.length<4611686018427387904):Turns Tryz.prog 130 [] 9 1 (l.map strC) ((zdq l).map strC):=by
 by_cases h0:l=[]
 ·subst h0
  rw [show zdq []=[] by simp [zdq]]
  exact zeS Tryz.sortEnter fun p cap w=>zmZ p cap w
 ·refine zeT (by rw [List.length_map]; exact List.length_pos_iff.2 h0) Tryz.sortEnter (by simp [zdq]) (fun x hx=> ?_) (fun x hx=> ?_) fun w g cap hH hg=> ?_
  ·obtain⟨y,_,rfl⟩:=List.mem_map.1 hx; rfl
  ·obtain⟨y,_,rfl⟩:=List.mem_map.1 hx
   exact⟨rfl,fun u hu=>by rw [List.mem_singleton.1 hu]; rfl⟩
  ·have hH:Holds id w g 0 (l.map encStr).toArray:=by rw [<-zbK]; exact hH
   have:=Any.slices_Sort_string Tryz.sortS g 0 cap l w (zpt hH) hg hl
   rw [List.length_map]
   refine(show Calls Tryz.prog 130 #[.slice (some ⟨g,0,none⟩) l.length cap] w _ from this).mono ?_
   rintro ex w' ⟨rfl,n,os,rfl⟩
   refine⟨rfl,n,os, ?_⟩
   rw [zdx,show ((zdq l).map strC).flatten=(zdq l).map encStr from zbK encStr _]
   simp [zdq]
theorem znK (l:List (List UInt8)) (hl:l.length<=9223372036854775807):Cuts Tryz.prog 131 9 1 (l.map strC) ((Lib.compact l).map strC):=by
 refine⟨Tryz.compEnter,fun x hx=> ?_,fun w base v ho=> ?_⟩
 ·obtain⟨y,_,rfl⟩:=List.mem_map.1 hx
  exact⟨rfl,fun u hu=>by rw [List.mem_singleton.1 hu]; rfl⟩
 rw [show (l.map strC).flatten=l.map encStr from zbK encStr _,List.length_map] at ho
 rw [show ((Lib.compact l).map strC).flatten=(Lib.compact l).map encStr from zbK encStr _,List.length_map]
 by_cases h0:l=[]
 ·subst h0
  obtain⟨p,cap,rfl⟩: ∃p cap,v= .slice p 0 cap:=by
   rcases ho.2 with⟨rfl,_⟩ | ⟨g,cap,cur,rfl,_⟩
   ·exact⟨_,_,rfl⟩
   ·exact⟨_,_,rfl⟩
  refine(show Calls Tryz.prog 131 #[.slice p 0 cap] w _ from Any.slices_Compact_string_empty Tryz.compS p cap w).mono ?_
  rintro ex w' ⟨rfl,rfl⟩
  exact⟨_,rfl,rfl,⟨rfl,rfl,rfl,Nat.le_refl _,fun _ _ _=>rfl⟩,fun _ h=>h,ho⟩
 ·rcases ho.2 with⟨_,h⟩ | ⟨g,cap,cur,rfl,hbase,hb,h1,h2,h3,h4⟩
  ·exact absurd (List.eq_nil_of_length_eq_zero h) h0
  have hg:g<w.heap.size:=(Array.getElem?_eq_some_iff.1 hb).1
  have hH:Holds encStr w g 0 l.toArray:=fun j hj=>by
   have hj':j<l.length:=by simpa using hj
   have e1:(cur.toList.take (l.length*1))[j]? =(l.map encStr)[j]? :=by rw [h4]
   rw [List.getElem?_take_of_lt (by omega),List.getElem?_map,List.getElem?_eq_getElem hj'] at e1
   refine⟨?_,by simp [World.frozen?,hb]⟩
   simp only [World.cell?,hb,Nat.zero_add,Option.isSome_none,Bool.false_eq_true,if_false]
   rw [<-Array.getElem?_toList,e1,getElem!_pos _ j hj]
   rfl
  have hcl:(Lib.compact l).length<=l.length:=by
   unfold Lib.compact Lib.compactUpTo
   rw [List.length_map]
   exact Nat.le_trans (List.length_filter_le ..) (by simp)
  refine(show Calls Tryz.prog 131 #[.slice (some ⟨g,0,none⟩) l.length cap] w _ from Any.slices_Compact_string Tryz.compS g 0 cap l w hH hl h1).mono ?_
  rintro ex w' ⟨rfl,q,rfl⟩
  rw [zdx]
  generalize hF:((Lib.compact l++List.replicate (l.length-(Lib.compact l).length) []).toArray.map encStr)=F
  have hFs:F.size=l.length:=by rw [<-hF]; simp; omega
  have hgr: ∀W:World,grow W #[]=W:=fun W=>by simp [grow]
  have e2:=heap_put (n:=q) (os:= #[]) F hb
  have e3:=zej (w:=w) (g:=g) (n:=q) (os:= #[]) F
  rw [hgr] at e2 e3
  refine⟨_,rfl,rfl,e3,fun _ h=>h,⟨by rw [List.length_map,Nat.mul_one], .inr ⟨g,cap,_,rfl,hbase,e2,Nat.le_trans hcl h1,h2,by simp [putCells,h3], ?_⟩⟩⟩
  have ht:=zid cur F (by rw [hFs,h3]; omega)
  rw [Nat.mul_one]
  have:((putCells id 0 F cur).toList.take (Lib.compact l).length)=(F.toList).take (Lib.compact l).length:=by
   rw [<-ht,List.take_take,Nat.min_eq_left (by omega)]
  rw [this, <-hF]
  simp
end Go.Proofs.YtnbjaghjdeicmaaGreatDoor
namespace Go.Proofs.YtnbjaghjdeicmaaGreatDoor
open Go.RowKit
/-! Expressions -/
def zai (k:Int):Int:=if 1<=k/\k<=4 then 0 else if k=5\/k=6 then 1 else if 7<=k/\k<=19 then 2 else -1
theorem zfl (k:Int): -1<=zai k/\zai k<=2:=by
 unfold zai
 repeat' split
 all_goals omega
def numB (o:OpD) (vs ss:Int):Bool:=if o.kind=1 then decide (0<=o.n/\o.n<=2147483647) else if o.kind=2 then decide (0<=o.n/\o.n<vs) else if o.kind=4 then decide (0<=o.n/\o.n<ss) else decide (o.n=0)
def zeu (vs ss n:Int) (o:OpD):Bool:=decide (0<=zai o.kind)&&decide (zai o.kind<=n)&&numB o vs ss
def hgt (vs ss:Int):List OpD->Int->Option Int
 | [],n=>some n
 | o::l,n=>if zeu vs ss n o then hgt vs ss l (n-zai o.kind+1) else none
def ze8 (l:List OpD) (vs ss:Int):Int:=if 32<l.length then 8 else if hgt vs ss l 0=some 1 then 0 else 1
def zaU (l:List OpD) (vs ss:Int):Bool:=ze8 l vs ss==0
theorem zmc {vs ss:Int} {l:List OpD} {k:Nat} {o:OpD} {n:Int} (h:l[k]? =some o) (hn:hgt vs ss l 0=hgt vs ss (l.drop k) n):(zeu vs ss n o=true->hgt vs ss l 0=hgt vs ss (l.drop (k+1)) (n-zai o.kind+1))/\(zeu vs ss n o=false->hgt vs ss l 0=none):=by
 have hk:k<l.length:=(List.getElem?_eq_some_iff.1 h).1
 have he:l.drop k=o::l.drop (k+1):=by
  rw [List.drop_eq_getElem_cons hk]
  congr 1
  rw [List.getElem?_eq_getElem hk] at h
  exact Option.some.inj h
 rw [he] at hn
 simp only [hgt] at hn
 exact⟨fun e=>by rw [hn,if_pos e],fun e=>by rw [hn,if_neg (by rw [e]; simp)]⟩
theorem zpv {vs ss:Int} {l:List OpD} {k:Nat} {n:Int} (h:l.length<=k) (hn:hgt vs ss l 0=hgt vs ss (l.drop k) n):hgt vs ss l 0=some n:=by
 rw [hn,List.drop_eq_nil_of_le h]
 rfl
/-! Actions, states -/
def actB (nv ns:Int) (a:ActD):Bool:=
 if a.kind=1 then decide (0<=a.n/\a.n<nv)&&(a.name == [])&&zaU a.code nv ns
 else if a.kind=2\/a.kind=4 then(a.n==0)&&zaI a.name&&zaU a.code nv ns
 else if a.kind=3 then(a.n==0)&&(a.name == [])&&zaU a.code nv ns
 else if a.kind=5 then(a.n==0)&&zaI a.name&&(a.code == [])
 else false
def zbO (nv ns:Int) (l:List ActD):Bool:=decide (l.length<=32)&&l.all (actB nv ns)
def zb2 (s:StD):Bool:=(s.kind==1)||(s.kind==2)
def zay (s:StD):Bool:=(s.kind==4)||(s.kind==5)
def zbW (c:ChD) (i:Int) (real:Bool) (k:Nat):Bool:=match c.states[k]? with
 | some s=>(s.parent==i)&&(!real|| !zay s)
 | none=>false
def za1 (c:ChD) (i:Int) (real:Bool) (n:Nat):List Nat:=(List.range n).filter (zbW c i real)
def kidsL (c:ChD) (i:Int) (real:Bool):List Nat:=za1 c i real c.states.length
theorem zgz (c:ChD) (i:Int) (real:Bool) (k:Nat):za1 c i real (k+1)=za1 c i real k++if zbW c i real k then [k] else []:=by
 unfold za1
 rw [List.range_succ,List.filter_append]
 congr 1
 simp only [List.filter_cons,List.filter_nil]
theorem za5 (c:ChD) (i:Int) (real:Bool) (k:Nat):(za1 c i real k).length<=k:=by
 have:=List.length_filter_le (zbW c i real) (List.range k)
 simpa [za1] using this
theorem zeG {c:ChD} {i:Int} {real:Bool} {k n:Nat} (h:k∈za1 c i real n):k<n/\zbW c i real k=true:=by
 simpa [za1,List.mem_filter] using h
def zcx (c:ChD) (name:List UInt8):Nat->Int
 | 0=> -1
 | k+1=>if zcx c name k= -1 then(match c.states[k]? with
   | some s=>if s.name=name then(k:Int) else -1
   | none=> -1) else zcx c name k
def zhk (c:ChD) (name:List UInt8):Int:=zcx c name c.states.length
theorem zlp (c:ChD) (name:List UInt8) {k:Nat} (h:zcx c name k≠ -1): ∀n,k<=n->zcx c name n=zcx c name k:=by
 intro n hn
 induction n with
 | zero=>obtain rfl:k=0:=by omega
         rfl
 | succ n ih=>
   by_cases e:k=n+1
   ·rw [e]
   ·have:=ih (by omega)
    simp only [zcx]
    rw [this,if_neg h]
theorem zjZ (c:ChD) (name:List UInt8) {k:Nat} (hk:k<c.states.length) (hn:zcx c name k= -1) (s:StD) (hs:c.states[k]? =some s) (he:s.name=name):zhk c name=k:=by
 have h1:zcx c name (k+1)=k:=by
  simp only [zcx,if_pos hn,hs,if_pos he]
 unfold zhk
 rw [zlp c name (k:=k+1) (by rw [h1]; omega) _ hk,h1]
theorem zgO (c:ChD) (name:List UInt8) {k:Nat} (hn:zcx c name k= -1) (s:StD) (hs:c.states[k]? =some s) (he:s.name≠name):zcx c name (k+1)= -1:=by
 simp only [zcx,if_pos hn,hs,if_neg he]
def zaE (p:Nat->Bool) (n:Nat):Option Nat:=(List.range n).find? fun k=> !p k
theorem zaD {p:Nat->Bool} {n:Nat} (h: ∀j,j<n->p j=true):zaE p n=none:=by
 unfold zaE
 rw [List.find?_eq_none]
 intro x hx
 simp [h x (by simpa using hx)]
theorem zbu {p:Nat->Bool} {n k:Nat} (hk:k<n) (h: ∀j,j<k->p j=true) (hb:p k=false):zaE p n=some k:=by
 unfold zaE
 have e:List.range n=List.range k++(k::(List.range (n-k-1)).map (k+1+ ·)):=by
  have:n=k+(n-k):=by omega
  rw [this,List.range_add]
  congr 1
  have e2:k+(n-k)-k-1+1=n-k:=by omega
  have:n-k=(n-k-1)+1:=by omega
  rw [show k+(n-k)-k-1=n-k-1 by omega,this,List.range_succ_eq_map,List.map_cons,List.map_map]
  simp only [Nat.add_zero,Nat.add_sub_cancel,List.cons.injEq,true_and]
  apply List.map_congr_left
  intro a _
  simp only [Function.comp]
  omega
 rw [e,List.find?_append]
 have h1:(List.range k).find? (fun k=> !p k)=none:=zaD h
 rw [h1]
 simp [hb]
/-! What is right -/
def at_ (c:ChD) (i:Int):Option StD:=if 0<=i then c.states[i.toNat]? else none
def zax (c:ChD) (i:Int):Bool:=match at_ c i with
 | some q=>zb2 q
 | none=>false
def zaP (c:ChD) (i:Nat) (s:StD):Bool:=(s.parent == -1)||(decide (0<=s.parent)&&decide (s.parent<i)&&zax c s.parent)
def zaO (c:ChD) (s:StD):Bool:=match at_ c s.parent with
 | some q=>q.kind==1
 | none=>false
def inL (l:List Nat) (n:Int):Bool:=l.any fun k=>(k:Int)==n
def zas (c:ChD) (i:Nat) (s:StD):Bool:=
 if s.kind=1 then(if kidsL c i true=[] then s.initial == -1 else inL (kidsL c i true) s.initial)
 else if s.kind=2 then((kidsL c i true).all fun k=>zax c k)&&decide (0< (kidsL c i true).length)&&(s.initial == -1)
 else if s.kind=3 then(kidsL c i false == [])&&((s.parent == -1)||zaO c s)&&(s.initial == -1)&&(s.out == [])
 else if s.kind=4\/s.kind=5 then(kidsL c i false == [])&&zaO c s&&inL (kidsL c s.parent true) s.initial&&(s.inn == [])&&(s.out == [])
 else false
def zav (c:ChD) (i:Nat) (s:StD):Bool:=zaI s.name&&(zhk c s.name==(i:Int))&&zaP c i s&&zas c i s&&zbO c.vars.length c.states.length s.inn&&zbO c.vars.length c.states.length s.out
def zfE (c:ChD) (i:Nat):Bool:=match c.states[i]? with
 | some s=>zav c i s
 | none=>false
def newVar (c:ChD) (name:List UInt8) (i:Nat):Bool:=(c.vars.take i).all fun x=> !(x.name==name)
def varB (c:ChD) (i:Nat) (v:VarD):Bool:=newVar c v.name i&&zaI v.name&& !(v.name == [100,97,116,97])&& !(v.name == [105,110])&&decide (-2147483647<=v.start)&&decide (v.start<=2147483647)
def zeO (c:ChD) (i:Nat):Bool:=match c.vars[i]? with
 | some v=>varB c i v
 | none=>false
def zcH (c:ChD) (t:TrD):Bool:=zax c t.src&&((t.event == [])||zaI t.event)&&((t.guard == [])||zaU t.guard c.vars.length c.states.length)&&zbO c.vars.length c.states.length t.acts&&((t.target == -1)||(decide (0<=t.target)&&decide (t.target<c.states.length)))
def ziV (c:ChD) (i:Nat):Bool:=match c.trans[i]? with
 | some t=>zcH c t
 | none=>false
def topB (c:ChD):Bool:=match at_ c c.initial with
 | some q=>(q.parent == -1)&&zb2 q
 | none=>false
def chk (c:ChD):Int×Int:=
 if 32<c.states.length\/64<c.trans.length\/8<c.vars.length then(8, -1)
 else if c.states=[]\/zaI c.name=false then(1, -1)
 else match zaE (zeO c) c.vars.length with
  | some i=>(1,2000+i)
  | none=>match zaE (zfE c) c.states.length with
    | some i=>(1,i)
    | none=>if topB c=false then(1, -1) else match zaE (ziV c) c.trans.length with
      | some i=>(1,1000+i)
      | none=>(0, -1)
end Go.Proofs.YtnbjaghjdeicmaaGreatDoor
namespace Go.Proofs.YtnbjaghjdeicmaaGreatDoor
theorem take_same {α:Type} {a b:List α} {i:Nat} {x y:α} (h:a.take i=b.take i) (hx:a[i]? =some x) (hy:b[i]? =some y) (e:x=y):a.take (i+1)=b.take (i+1):=by
 obtain⟨h1,h2⟩:=List.getElem?_eq_some_iff.1 hx
 obtain⟨h3,h4⟩:=List.getElem?_eq_some_iff.1 hy
 rw [List.take_succ_eq_append_getElem h1,List.take_succ_eq_append_getElem h3,h,h2,h4,e]
theorem zf1 {α:Type} [DecidableEq α] {a b:List α} {i:Nat} {x y:α} (hx:a[i]? =some x) (hy:b[i]? =some y) (e:x≠y):(a==b)=false:=by
 rw [beq_eq_false_iff_ne]
 intro h
 rw [h,hy] at hx
 exact e (Option.some.inj hx).symm
theorem zin {α:Type} [DecidableEq α] {a b:List α} {i:Nat} (h:a.take i=b.take i) (ha:a.length<=i) (hb:b.length<=i):(a==b)=true:=by
 rw [List.take_of_length_le ha,List.take_of_length_le hb] at h
 simpa using h
theorem zmN {α:Type} [DecidableEq α] {a b:List α} (h:a.length≠b.length):(a==b)=false:=by
 rw [beq_eq_false_iff_ne]
 intro e
 exact h (by rw [e])
theorem zan {α:Type} {l:List α} {i:Nat} (h:i<l.length): ∃x,l[i]? =some x/\x∈l:=⟨l[i],List.getElem?_eq_getElem h,List.getElem_mem h⟩
theorem ibne {a b:Nat} (h:a≠b):((a:Int)==(b:Int))=false:=by simp; omega
end Go.Proofs.YtnbjaghjdeicmaaGreatDoor
namespace Go.Proofs.YtnbjaghjdeicmaaGreatDoor
open Go.RowKit
structure Right (c:ChD):Prop where
 few:c.states.length<=32
 par: ∀(k:Nat) (s:StD),c.states[k]? =some s-> -1<=s.parent/\s.parent<k
 top: ∃(m:Nat) (q:StD),c.initial=m/\c.states[m]? =some q/\q.parent= -1
theorem zbB {p:Nat->Bool} {n:Nat} (h:zaE p n=none) (j:Nat) (hj:j<n):p j=true:=by
 unfold zaE at h
 rw [List.find?_eq_none] at h
 simpa using h j (by simpa using hj)
theorem zio {c:ChD} (h:(chk c).1=0):Right c:=by
 unfold chk at h
 split at h
 ·simp at h
 rename_i h1
 split at h
 ·simp at h
 split at h
 ·simp at h
 split at h
 ·simp at h
 rename_i h3
 split at h
 ·simp at h
 rename_i h4
 refine⟨by omega,fun k s hs=> ?_, ?_⟩
 ·have hk:k<c.states.length:=(List.getElem?_eq_some_iff.1 hs).1
  have:=zbB h3 k hk
  unfold zfE at this
  rw [hs] at this
  have hp:zaP c k s=true:=by
   simp only [zav,Bool.and_eq_true] at this
   exact this.1.1.1.2
  simp only [zaP,Bool.or_eq_true,Bool.and_eq_true,decide_eq_true_eq,beq_iff_eq] at hp
  omega
 ·have ht:topB c=true:=by simpa using h4
  unfold topB at ht
  split at ht
  ·rename_i q hq
   simp only [Bool.and_eq_true,beq_iff_eq] at ht
   unfold at_ at hq
   split at hq
   ·rename_i h0
    exact⟨c.initial.toNat,q,by omega,hq,ht.1⟩
   ·cases hq
  ·cases ht
def low (c:ChD) (n:Nat) (k:Nat):Bool:=match c.states[k]? with
 | some s=>decide (s.parent+1<n)&& !zay s
 | none=>false
theorem zr3 {c:ChD} {i:Int} {k:Nat} (h:k∈kidsL c i true): ∃s,c.states[k]? =some s/\s.parent=i/\zay s=false/\k<c.states.length:=by
 obtain⟨h1,h2⟩:=zeG h
 obtain⟨s,hs,_⟩:=zan h1
 unfold zbW at h2
 rw [hs] at h2
 simp at h2
 exact⟨s,hs,h2.1,h2.2,h1⟩
theorem ztf {c:ChD} {i:Int} {k:Nat} {s:StD} (hs:c.states[k]? =some s) (hp:s.parent=i) (hm:zay s=false):k∈kidsL c i true:=by
 have hk:k<c.states.length:=(List.getElem?_eq_some_iff.1 hs).1
 unfold kidsL za1
 rw [List.mem_filter]
 refine⟨by simpa using hk, ?_⟩
 unfold zbW
 rw [hs]
 simp [hp,hm]
end Go.Proofs.YtnbjaghjdeicmaaGreatDoor
namespace Go.Proofs.YtnbjaghjdeicmaaGreatDoor
open Go.RowKit
def inZ (c:ChD) (i:Int):Bool:=decide (0<=i)&&decide (i<c.states.length)
def parZ (c:ChD) (i:Int):Int:=match at_ c i with
 | some s=>s.parent
 | none=> -1
theorem zak {c:ChD} {i:Int} :inZ c i=true↔0<=i/\i<c.states.length:=by
 unfold inZ
 rw [Bool.and_eq_true,decide_eq_true_eq,decide_eq_true_eq]
theorem zaR {c:ChD} {k:Nat} :inZ c k=true↔k<c.states.length:=by rw [zak]; omega
theorem zbL (c:ChD) (k:Nat):at_ c k=c.states[k]? :=by unfold at_; rw [if_pos (by omega),Int.toNat_natCast]
theorem zcD {c:ChD} {i:Int} (h:inZ c i=true): ∃k s,i=(k:Nat)/\c.states[k]? =some s/\at_ c i=some s:=by
 obtain⟨h1,h2⟩:=zak.1 h
 have hk:i.toNat<c.states.length:=by omega
 refine⟨i.toNat,c.states[i.toNat],by omega,List.getElem?_eq_getElem hk, ?_⟩
 unfold at_
 rw [if_pos h1,List.getElem?_eq_getElem hk]
theorem zbP {c:ChD} (h:Right c) {i:Int} (hi:inZ c i=true): -1<=parZ c i/\parZ c i<i:=by
 obtain⟨k,s,rfl,h1,h2⟩:=zcD hi
 unfold parZ
 rw [h2]
 exact h.par k s h1
theorem zcN {c:ChD} {k:Nat} {s:StD} (h:c.states[k]? =some s):parZ c k=s.parent:=by
 unfold parZ
 rw [zbL,h]
/-! The way up -/
def upF (c:ChD):Nat->Int->List Int
 | 0,_=>[]
 | f+1,i=>if inZ c i=true then parZ c i::upF c f (parZ c i) else []
def upL (c:ChD) (i:Int):List Int:=upF c 40 i
theorem zec {c:ChD} {i:Int} (h:inZ c i=false) (f:Nat):upF c f i=[]:=by
 cases f with
 | zero=>rfl
 | succ f=>unfold upF; rw [h]; simp
theorem zog {c:ChD} (h:Right c): ∀(f g:Nat) (i:Int),i<f->i<g->upF c f i=upF c g i
 | 0,g,i,h1,h2=>by
   have:inZ c i=false:=by
    cases hh:inZ c i
    ·rfl
    ·have:=zak.1 hh; omega
   rw [zec this,zec this]
 | f+1,g,i,h1,h2=>by
   cases hh:inZ c i with
   | false=>rw [zec hh,zec hh]
   | true=>
     have h0:=(zak.1 hh).1
     obtain⟨g',rfl⟩: ∃g',g=g'+1:=⟨g-1,by omega⟩
     have:=zbP h hh
     unfold upF
     rw [hh]
     simp only [if_true]
     rw [zog h f g' (parZ c i) (by omega) (by omega)]
theorem zbC {c:ChD} {i:Int} (h:inZ c i=false):upL c i=[]:=zec h _
theorem zib {c:ChD} (h:Right c) {i:Int} (hi:inZ c i=true):upL c i=parZ c i::upL c (parZ c i):=by
 have hf:=h.few
 have h2:=zak.1 hi
 have h3:=zbP h hi
 show upF c (39+1) i=parZ c i::upF c 40 (parZ c i)
 rw [show upF c (39+1) i=if inZ c i=true then parZ c i::upF c 39 (parZ c i) else [] from rfl,if_pos hi,zog h 39 40 _ (by omega) (by omega)]
theorem zfB {c:ChD} (h:Right c): ∀(f:Nat) (i:Int) (k:Int),k∈upF c f i-> -1<=k/\k<i
 | 0,i,k,hk=>by simp [upF] at hk
 | f+1,i,k,hk=>by
   cases hh:inZ c i with
   | false=>rw [zec hh] at hk; simp at hk
   | true=>
     have:=zbP h hh
     unfold upF at hk
     rw [hh] at hk
     simp only [if_true,List.mem_cons] at hk
     rcases hk with rfl | hk
     ·exact this
     ·have:=zfB h f _ k hk
      omega
theorem zbD {c:ChD} (h:Right c) {i:Int} (hi:inZ c i=true) {k:Int} :k∈upL c i↔k=parZ c i\/k∈upL c (parZ c i):=by rw [zib h hi,List.mem_cons]
theorem zhn {c:ChD} : ∀(f:Nat) (i:Int),(upF c f i).length<=f
 | 0,i=>by simp [upF]
 | f+1,i=>by
   unfold upF
   split
   ·have:=zhn (c:=c) f (parZ c i); simp; omega
   ·simp
theorem zh9 {c:ChD} (h:Right c): ∀(n:Nat) (i:Int),inZ c i=true->i<n-> -1∈upL c i
 | 0,i,hi,hn=>by have:=zak.1 hi; omega
 | n+1,i,hi,hn=>by
   rw [zbD h hi]
   have hp:=zbP h hi
   by_cases e:parZ c i= -1
   ·exact .inl e.symm
   ·have h2:=zak.1 hi
    exact .inr (zh9 h n _ (zak.2 (by omega)) (by omega))
theorem zdN {c:ChD} (h:Right c): ∀(n:Nat) (i j k:Int),i<n->j∈upL c i->k∈upL c j->k∈upL c i
 | 0,i,j,k,hn,hj,hk=>by
   cases hh:inZ c i with
   | false=>rw [zbC hh] at hj; simp at hj
   | true=>have:=zak.1 hh; omega
 | n+1,i,j,k,hn,hj,hk=>by
   cases hh:inZ c i with
   | false=>rw [zbC hh] at hj; simp at hj
   | true=>
     rw [zbD h hh] at hj |-
     have hp:=zbP h hh
     rcases hj with rfl | hj
     ·exact .inr hk
     ·exact .inr (zdN h n _ j k (by omega) hj hk)
/-! What is above a state, as bits -/
def zo5 (c:ChD):Nat->Int->Nat
 | 0,_=>0
 | f+1,i=>if inZ c i=true then(if 0<=parZ c i then zo5 c f (parZ c i)||| 2^(parZ c i).toNat else 0) else 0
theorem ziC {c:ChD} (h:Right c): ∀(f:Nat) (i:Int) (k:Nat),(zo5 c f i).testBit k=decide ((k:Int)∈upF c f i)
 | 0,i,k=>by simp [zo5,upF]
 | f+1,i,k=>by
   unfold zo5 upF
   cases hh:inZ c i with
   | false=>simp
   | true=>
     simp only [if_true]
     have hp:=zbP h hh
     by_cases e:0<=parZ c i
     ·rw [if_pos e,Nat.testBit_or,ziC h f,Nat.testBit_two_pow]
      by_cases e2:(k:Int)=parZ c i
      ·have:(parZ c i).toNat=k:=by omega
       simp [e2,this]
      ·have: ¬(parZ c i).toNat=k:=by omega
       simp [e2,this]
     ·rw [if_neg e]
      have hm:parZ c i= -1:=by omega
      have hz:inZ c (-1)=false:=by
       cases hq:inZ c (-1)
       ·rfl
       ·have:=zak.1 hq; omega
      rw [hm,zec hz]
      simp
def mask (c:ChD) (i:Int):Nat:=zo5 c 40 i
theorem ziD {c:ChD} (h:Right c) (i:Int) (k:Nat):(mask c i).testBit k=decide ((k:Int)∈upL c i):=ziC h 40 i k
theorem ze0 {c:ChD} (h:Right c) {i:Int} (hi:i<32):mask c i<2^32:=by
 apply Nat.lt_pow_two_of_testBit
 intro k hk
 rw [ziD h]
 simp only [decide_eq_false_iff_not]
 intro hm
 have:=zfB h 40 i k hm
 omega
theorem zjA {c:ChD} (h:Right c) {i:Int} (hi:inZ c i=true):mask c i=if 0<=parZ c i then mask c (parZ c i)||| 2^(parZ c i).toNat else 0:=by
 apply Nat.eq_of_testBit_eq
 intro k
 have hp:=zbP h hi
 rw [ziD h,zib h hi]
 by_cases e:0<=parZ c i
 ·rw [if_pos e,Nat.testBit_or,ziD h,Nat.testBit_two_pow]
  by_cases e2:(k:Int)=parZ c i
  ·have:(parZ c i).toNat=k:=by omega
   simp [e2,this]
  ·have: ¬(parZ c i).toNat=k:=by omega
   simp [e2,this]
 ·rw [if_neg e]
  have hm:parZ c i= -1:=by omega
  have hz:inZ c (-1)=false:=by
   cases hq:inZ c (-1)
   ·rfl
   ·have:=zak.1 hq; omega
  rw [hm,zbC hz]
  simp
theorem zbA {α β:Type} {f g:α->List β} : ∀ {l:List α},(∀x∈l,f x=g x)->l.flatMap f=l.flatMap g
 | [],_=>rfl
 | x::l,h=>by
   simp only [List.flatMap_cons]
   rw [h x (by simp),zbA fun y hy=>h y (by simp [hy])]
/-! The walk -/
def zh7 (c:ChD):Nat->Int->List Nat
 | 0,_=>[]
 | f+1,i=>(kidsL c i false).flatMap fun k=>k::zh7 c f k
def walkL (c:ChD) (i:Int):List Nat:=zh7 c 40 i
theorem zdC {c:ChD} {i:Int} {k:Nat} :k∈kidsL c i false↔k<c.states.length/\parZ c k=i:=by
 unfold kidsL za1
 rw [List.mem_filter,List.mem_range]
 constructor
 ·rintro⟨h1,h2⟩
  obtain⟨s,hs⟩: ∃s,c.states[k]? =some s:=⟨c.states[k],List.getElem?_eq_getElem h1⟩
  refine⟨h1, ?_⟩
  unfold zbW at h2
  rw [hs] at h2
  rw [zcN hs]
  simpa using h2
 ·rintro⟨h1,h2⟩
  obtain⟨s,hs⟩: ∃s,c.states[k]? =some s:=⟨c.states[k],List.getElem?_eq_getElem h1⟩
  refine⟨h1, ?_⟩
  unfold zbW
  rw [hs]
  rw [zcN hs] at h2
  simp [h2]
theorem zbV (c:ChD) (i:Int) (real:Bool):(kidsL c i real).Nodup:=List.Nodup.sublist List.filter_sublist List.nodup_range
theorem zaV {c:ChD} {i:Int} {k:Nat} (h:k∈kidsL c i true):k∈kidsL c i false/\ ∃s,c.states[k]? =some s/\zay s=false:=by
 unfold kidsL za1 at h |-
 rw [List.mem_filter] at h |-
 obtain⟨h1,h2⟩:=h
 unfold zbW at h2 |-
 cases hs:c.states[k]? with
 | none=>rw [hs] at h2; cases h2
 | some s=>
   rw [hs] at h2
   simp at h2 |-
   exact⟨⟨by simpa using h1,h2.1⟩,h2.2⟩
theorem za9 {c:ChD} (h:Right c) {i:Int} {k:Nat} (hk:k∈kidsL c i false):i<k/\k<c.states.length:=by
 obtain⟨h1,h2⟩:=zdC.1 hk
 have:=zbP h (zaR.2 h1)
 omega
theorem zn9 {c:ChD} (h:Right c): ∀(f g:Nat) (i:Int),(c.states.length:Int)<=i+f->(c.states.length:Int)<=i+g->zh7 c f i=zh7 c g i:=by
 have none: ∀(g:Nat) (i:Int),(c.states.length:Int)<=i->zh7 c g i=[]:=fun g i hi=>by
  cases g with
  | zero=>rfl
  | succ g=>
    unfold zh7
    have:kidsL c i false=[]:=List.eq_nil_iff_forall_not_mem.2 fun k hk=>by have:=za9 h hk; omega
    rw [this]
    rfl
 intro f
 induction f with
 | zero=>intro g i h1 h2; rw [none g i (by omega)]; rfl
 | succ f ih=>
   intro g i h1 h2
   cases g with
   | zero=>rw [none (f+1) i (by omega)]; rfl
   | succ g=>
     unfold zh7
     apply zbA
     intro k hk
     have:=za9 h hk
     rw [ih g k (by omega) (by omega)]
theorem walk_eq {c:ChD} (h:Right c) {i:Int} (_hi: -1<=i):walkL c i=(kidsL c i false).flatMap fun k=>k::walkL c k:=by
 have hf:=h.few
 show (kidsL c i false).flatMap (fun k=>k::zh7 c 39 k)=_
 apply zbA
 intro k hk
 have:=za9 h hk
 rw [show zh7 c 39 k=walkL c k from zn9 h 39 40 k (by omega) (by omega)]
theorem zdM {c:ChD} (h:Right c): ∀(n:Nat) (i:Int) (m:Nat), -1<=i->(c.states.length:Int)<=i+n->(m∈walkL c i↔m<c.states.length/\i∈upL c m)
 | 0,i,m,hi,hn=>by
   rw [walk_eq h hi]
   have:kidsL c i false=[]:=List.eq_nil_iff_forall_not_mem.2 fun k hk=>by have:=za9 h hk; omega
   rw [this]
   simp only [List.flatMap_nil,List.not_mem_nil,false_iff,not_and]
   intro h1 h2
   have:=zfB h 40 m i h2
   omega
 | n+1,i,m,hi,hn=>by
   rw [walk_eq h hi,List.mem_flatMap]
   constructor
   ·rintro⟨k,hk,hm⟩
    have hg:=za9 h hk
    obtain⟨k1,k2⟩:=zdC.1 hk
    rcases List.mem_cons.1 hm with rfl | hm
    ·exact⟨k1,(zbD h (zaR.2 k1)).2 (.inl k2.symm)⟩
    ·obtain⟨m1,m2⟩:=(zdM h n k m (by omega) (by omega)).1 hm
     refine⟨m1,zdN h 40 m k i (by have:=h.few; omega) m2 ((zbD h (zaR.2 k1)).2 (.inl k2.symm))⟩
   ·rintro⟨h1,h2⟩
    have key: ∀(d:Nat) (m:Nat),m<d->m<c.states.length->i∈upL c m-> ∃k∈kidsL c i false,m=k\/(k:Int)∈upL c m:=fun d=>by
     induction d with
     | zero=>intro m hd; omega
     | succ d ih=>
       intro m hd hm hu
       have hin:=zaR.2 hm
       rcases (zbD h hin).1 hu with e | e
       ·exact⟨m,zdC.2 ⟨hm,e.symm⟩, .inl rfl⟩
       ·have hp:=zbP h hin
        have h0:0<=parZ c m:=by
         rcases Int.lt_or_le (parZ c m) 0 with q | q
         ·have hz:inZ c (parZ c m)=false:=by
           cases hq:inZ c (parZ c m)
           ·rfl
           ·have:=zak.1 hq; omega
          rw [zbC hz] at e; simp at e
         ·exact q
        obtain⟨p,hpe⟩: ∃p:Nat,parZ c m=p:=⟨(parZ c m).toNat,by omega⟩
        rw [hpe] at e hp
        obtain⟨k,hk,hk2⟩:=ih p (by omega) (by omega) e
        refine⟨k,hk, .inr ((zbD h hin).2 ?_)⟩
        rw [hpe]
        rcases hk2 with rfl | hk2
        ·exact .inl rfl
        ·exact .inr hk2
    obtain⟨k,hk,hk2⟩:=key (m+1) m (by omega) h1 h2
    have hg:=za9 h hk
    refine⟨k,hk,List.mem_cons.2 ?_⟩
    rcases hk2 with e | e
    ·exact .inl e
    ·exact .inr ((zdM h n k m (by omega) (by omega)).2 ⟨h1,e⟩)
theorem zh6 {c:ChD} (h:Right c) (m:Nat):m∈walkL c (-1)↔m<c.states.length:=by
 rw [zdM h 40 (-1) m (by omega) (by have:=h.few; omega)]
 exact⟨fun h=>h.1,fun hm=>⟨hm,zh9 h (m+1) m (zaR.2 hm) (by omega)⟩⟩
theorem zlh {c:ChD} (h:Right c) {i:Int} {k1 k2:Nat} (h1:k1∈kidsL c i false) (h2:k2∈kidsL c i false): ∀(d m:Nat),m<d->m<c.states.length->(m=k1\/(k1:Int)∈upL c m)->(m=k2\/(k2:Int)∈upL c m)->k1=k2:=by
 obtain⟨a1,b1⟩:=zdC.1 h1
 obtain⟨a2,b2⟩:=zdC.1 h2
 have no: ∀ {x y:Nat},x<c.states.length->parZ c x=i->y<c.states.length->parZ c y=i-> ¬(y:Int)∈upL c x:=fun {x y} hx px hy py hm=>by
  have q1:=zbP h (zaR.2 hx)
  have q2:=zbP h (zaR.2 hy)
  rcases (zbD h (zaR.2 hx)).1 hm with e | e
  ·omega
  ·have:=zfB h 40 _ _ e
   omega
 intro d
 induction d with
 | zero=>intro m hd; omega
 | succ d ih=>
   intro m hd hm e1 e2
   rcases e1 with rfl | e1
   ·rcases e2 with rfl | e2
    ·rfl
    ·exact absurd e2 (no a1 b1 a2 b2)
   ·rcases e2 with rfl | e2
    ·exact absurd e1 (no a2 b2 a1 b1)
    ·have hin:=zaR.2 hm
     have hp:=zbP h hin
     have h0:0<=parZ c m:=by
      rcases Int.lt_or_le (parZ c m) 0 with q | q
      ·have hz:inZ c (parZ c m)=false:=by
        cases hq:inZ c (parZ c m)
        ·rfl
        ·have:=zak.1 hq; omega
       rw [zbD h hin,zbC hz] at e1
       rcases e1 with e | e
       ·omega
       ·simp at e
      ·exact q
     obtain⟨p,hpe⟩: ∃p:Nat,parZ c m=p:=⟨(parZ c m).toNat,by omega⟩
     rw [zbD h hin,hpe] at e1 e2
     rw [hpe] at hp
     exact ih p (by omega) (by omega) (by rcases e1 with e | e; exact .inl (by omega); exact .inr e) (by rcases e2 with e | e; exact .inl (by omega); exact .inr e)
theorem zdL {c:ChD} (h:Right c): ∀(n:Nat) (i:Int), -1<=i->(c.states.length:Int)<=i+n->(walkL c i).Nodup
 | 0,i,hi,hn=>by
   rw [walk_eq h hi]
   have:kidsL c i false=[]:=List.eq_nil_iff_forall_not_mem.2 fun k hk=>by have:=za9 h hk; omega
   rw [this]
   simp
 | n+1,i,hi,hn=>by
   rw [walk_eq h hi]
   have mem: ∀k∈kidsL c i false,∀m,m∈k::walkL c k->m<c.states.length/\(m=k\/(k:Int)∈upL c m):=fun k hk m hm=>by
    have hg:=za9 h hk
    rcases List.mem_cons.1 hm with rfl | hm
    ·exact⟨hg.2, .inl rfl⟩
    ·obtain⟨q1,q2⟩:=(zdM h n k m (by omega) (by omega)).1 hm
     exact⟨q1, .inr q2⟩
   have hnd:=zbV c i false
   rw [List.nodup_iff_pairwise_ne] at hnd
   rw [List.nodup_iff_pairwise_ne,List.pairwise_flatMap]
   refine⟨fun k hk=> ?_, ?_⟩
   ·rw [<-List.nodup_iff_pairwise_ne,List.nodup_cons]
    have hg:=za9 h hk
    refine⟨fun hm=> ?_,zdL h n k (by omega) (by omega)⟩
    have:=(zdM h n k k (by omega) (by omega)).1 hm
    have:=zfB h 40 _ _ this.2
    omega
   ·refine List.Pairwise.imp_of_mem (R:=fun a b=>a≠b) ?_ hnd
    intro k1 k2 hk1 hk2 hne m1 hm1 m2 hm2 e
    subst e
    obtain⟨q1,q2⟩:=mem k1 hk1 m1 hm1
    obtain⟨_,q3⟩:=mem k2 hk2 m1 hm2
    exact hne (zlh h hk1 hk2 (m1+1) m1 (by omega) q1 q2 q3)
/-! Sorting by the walk -/
def sortL (c:ChD) (l:List Int):List Nat:=if l.all (inZ c)=true then(walkL c (-1)).filter fun k=>l.contains (k:Int) else []
theorem zmY {c:ChD} (h:Right c) (l:List Int):(sortL c l).Nodup:=by
 unfold sortL
 split
 ·exact List.Nodup.sublist List.filter_sublist (zdL h 40 (-1) (by omega) (by have:=h.few; omega))
 ·simp
end Go.Proofs.YtnbjaghjdeicmaaGreatDoor
