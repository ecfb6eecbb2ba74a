/- Sorts of the library as calls that turn a row of the call's own. No program is named here. -/
import Derived.Test.YtlmekdfleciejaaGreatDoorD5
import Derived.Test.YtlmekdfleciejaaGreatDoorD7
import Derived.Test.YtlmekdfleciejaaGreatDoorD10
import Derived.Test.YtlmekdfleciejaaGreatDoorD8
import Derived.Test.YtlmekdfleciejaaGreatDoorD4
import Derived.Shelf.Sort.Plain
import Derived.Shelf.Slices.CompactS
set_option maxRecDepth 100000
set_option maxHeartbeats 4000000
set_option linter.unusedSimpArgs false
namespace Go.Proofs.YtlmekdfleciejaaGreatDoor
section
open Go.RowKit
theorem ze0 (env:Env) (es:List (List AV)) (hl:es.length<=4096):Con Tryz.prog env 73 [.seq 1 es] (.own 3 1 es):=by
 cases es with
 | nil=>
   refine Con.empty fun A cap=> ?_
   cases A with
   | none=>
     refine zaj Tryz.func73 rfl Tryz.call73 (by rw [Tryz.ntmps73]; simp) ?_
     rw [Tryz.ntmps73,Tryz.results73]
     repeat refine st0 ?_
     (refine zak ?_; refine⟨_,(by show (zaz _ _ _).run _=some _; simp only [go_sem]; rfl), ?_⟩)
     exact RStr.own_nil _ _ (by decide)
   | some A=>
     refine zaa Tryz.func73 rfl Tryz.call73 (by rw [Tryz.ntmps73]; simp) ?_
     rw [Tryz.ntmps73,Tryz.results73]
     repeat refine st0 ?_
     exact aR0
 | cons d l=>
   have g1:Fits ((l.length+1)) 8:=zah (by simpa using hl) (by omega)
   refine zaa Tryz.func73 rfl Tryz.call73 (by rw [Tryz.ntmps73]; simp) ?_
   rw [Tryz.ntmps73,Tryz.results73]
   have F:=g1
   repeat refine st ?_
   exact aR
theorem zhj (env:Env) (es:List (List AV)) (hl:es.length<=4096):Con Tryz.prog env 126 [.seq 2 es] (.own 152 2 es):=by
 cases es with
 | nil=>
   refine Con.empty fun A cap=> ?_
   cases A with
   | none=>
     refine zaj Tryz.func126 rfl Tryz.call126 (by rw [Tryz.ntmps126]; simp) ?_
     rw [Tryz.ntmps126,Tryz.results126]
     repeat refine st0 ?_
     (refine zak ?_; refine⟨_,(by show (zaz _ _ _).run _=some _; simp only [go_sem]; rfl), ?_⟩)
     exact RStr.own_nil _ _ (by decide)
   | some A=>
     refine zaa Tryz.func126 rfl Tryz.call126 (by rw [Tryz.ntmps126]; simp) ?_
     rw [Tryz.ntmps126,Tryz.results126]
     repeat refine st0 ?_
     exact aR0
 | cons d l=>
   have g1:Fits ((l.length+1)) 16:=zah (by simpa using hl) (by omega)
   refine zaa Tryz.func126 rfl Tryz.call126 (by rw [Tryz.ntmps126]; simp) ?_
   rw [Tryz.ntmps126,Tryz.results126]
   have F:=g1
   repeat refine st ?_
   exact aR
theorem zmv (env:Env) (es:List (List AV)) (hl:es.length<=4096):Con Tryz.prog env 124 [.seq 2 es] (.own 108 2 es):=by
 cases es with
 | nil=>
   refine Con.empty fun A cap=> ?_
   cases A with
   | none=>
     refine zaj Tryz.func124 rfl Tryz.call124 (by rw [Tryz.ntmps124]; simp) ?_
     rw [Tryz.ntmps124,Tryz.results124]
     repeat refine st0 ?_
     (refine zak ?_; refine⟨_,(by show (zaz _ _ _).run _=some _; simp only [go_sem]; rfl), ?_⟩)
     exact RStr.own_nil _ _ (by decide)
   | some A=>
     refine zaa Tryz.func124 rfl Tryz.call124 (by rw [Tryz.ntmps124]; simp) ?_
     rw [Tryz.ntmps124,Tryz.results124]
     repeat refine st0 ?_
     exact aR0
 | cons d l=>
   have g1:Fits ((l.length+1)) 24:=zah (by simpa using hl) (by omega)
   refine zaa Tryz.func124 rfl Tryz.call124 (by rw [Tryz.ntmps124]; simp) ?_
   rw [Tryz.ntmps124,Tryz.results124]
   have F:=g1
   repeat refine st ?_
   exact aR
/-! Few of all -/
def few4 (l:List ActD):Prop:=l.length<=4096/\ ∀a∈l,a.code.length<=4096
structure Small (c:ChD):Prop where
 vars:c.vars.length<=4096
 sts:c.states.length<=4096
 trs:c.trans.length<=4096
 st: ∀s∈c.states,few4 s.inn/\few4 s.out
 tr: ∀t∈c.trans,t.guard.length<=4096/\few4 t.acts
theorem zjC {l:List OpD} {vs ss:Int} (h:zaK l vs ss=true):l.length<=32:=by
 unfold zaK zeZ at h
 split at h
 ·simp at h
 ·omega
theorem zgB {nv ns:Int} {l:List ActD} (h:zbE nv ns l=true):few4 l:=by
 unfold zbE at h
 rw [Bool.and_eq_true,decide_eq_true_eq,List.all_eq_true] at h
 refine⟨by omega,fun a ha=> ?_⟩
 have hb:=h.2 a ha
 unfold actB at hb
 by_cases e:a.code=[]
 ·rw [e]; simp
 ·have:zaK a.code nv ns=true:=by
   revert hb
   cases zaK a.code nv ns<;>simp [e]
  have:=zjC this
  omega
theorem zfA {c:ChD} (h:(chk c).1=0):Small c:=by
 have hr:=zkT h
 unfold chk at h
 split at h
 ·simp at h
 rename_i h1
 split at h
 ·simp at h
 split at h
 ·simp at h
 split at h
 ·simp at h
 rename_i h3
 split at h
 ·simp at h
 split at h
 ·simp at h
 rename_i h5
 refine⟨by omega,by omega,by omega,fun s hs=> ?_,fun t ht=> ?_⟩
 ·obtain⟨k,hk⟩:=List.mem_iff_getElem?.1 hs
  have:=zbQ h3 k (List.getElem?_eq_some_iff.1 hk).1
  unfold zfy at this
  rw [hk] at this
  simp only [zap,Bool.and_eq_true] at this
  exact⟨zgB this.1.2,zgB this.2⟩
 ·obtain⟨k,hk⟩:=List.mem_iff_getElem?.1 ht
  have:=zbQ h5 k (List.getElem?_eq_some_iff.1 hk).1
  unfold zh6 at this
  rw [hk] at this
  simp only [zcq,Bool.and_eq_true,Bool.or_eq_true] at this
  refine⟨?_,zgB this.1.2⟩
  rcases this.1.1.2 with e | e
  ·have:t.guard=[]:=by simpa using e
   rw [this]; simp
  ·have:=zjC e
   omega
theorem zdt (env:Env) (l:List ActD) (hl:few4 l):Con Tryz.prog env 125 [actsAV l] (.own 154 4 (l.map zaw)):=by
 have h1:=hl.1
 refine zaa Tryz.func125 rfl Tryz.call125 (by rw [Tryz.ntmps125]; simp) ?_
 rw [Tryz.ntmps125,Tryz.results125]
 repeat refine st0 ?_
 refine zbo 3 3 154 4 ?_
 refine zab (D:=Nat) (fun j vs=>[(3, .row 3 (vs 3)),(6,actsAV l),(7,I l.length),(8,I j)]) (fun j _=>[(3,⟨4,(l.take j).map zaw,154,true⟩)]) (fun j _ esc=>j<=l.length/\esc 3=false) (fun j=>l.length-j) 0 ?_ ?_ ?_ ?_
 ·exact⟨Nat.zero_le _,rfl⟩
 ·(simp only [go_sem])
 ·(simp only [go_sem])
 rintro j ws esc ⟨hj,e0⟩
 by_cases hlt:j<l.length
 ·obtain⟨a,ha⟩: ∃a,l[j]? =some a:=⟨l[j],List.getElem?_eq_getElem hlt⟩
  have g1:=nlt hlt
  have g2:=zac hlt (by omega)
  have f0:=zhj env (a.code.map opAV) (by rw [List.length_map]; exact hl.2 a (List.mem_of_getElem? ha))
  have htl:(l.take j).length=j:=by rw [List.length_take]; omega
  have hf:Fits (j+1) 56:=zah (by omega) (by omega)
  have htk:l.take (j+1)=l.take j++[a]:=by rw [List.take_add_one,ha]; rfl
  have F:=ai zaw.eq_1<|ai g1<|ai g2<|ai ha<|ai htl<|ai hf<|e0
  repeat (first | refine st ?_ | refine cC f0 ?_)
  refine⟨j+1,⟨hlt,by simp only [go_sem,e0]⟩, ?_, ?_,by omega⟩
  ·(simp only [go_sem,F])
  ·have F:=ai zaw.eq_1<|htk
   (simp only [go_sem,List.map_append,F])
 ·obtain rfl:j=l.length:=by omega
  have g1: ¬(l.length:Int)< (l.length:Int):=by omega
  have hta:l.take l.length=l:=List.take_length
  have F:=ai g1<|ai hta<|e0
  repeat refine st ?_
  exact aR
theorem ziD (env:Env) (c:ChD) (hs:Small c):Con Tryz.prog env 71 [.agg (chAV c)] (.agg (chAV c)):=by
 have hn1:=hs.sts
 have hn2:=hs.trs
 have f0:=zmv env (c.vars.map zcp) (by rw [List.length_map]; exact hs.vars)
 refine zaa Tryz.func71 rfl Tryz.call71 (by rw [Tryz.ntmps71]; simp) ?_
 rw [Tryz.ntmps71,Tryz.results71]
 have F:=chAV.eq_1
 repeat (first | refine st ?_ | refine cC f0 ?_)
 refine zbh 3 9000 0 3 ⟨5,[[Sg c.name,I c.initial, .row 14 1,nilS,nilS]],26,false⟩ [Sg c.name,I c.initial, .row 14 1,nilS,nilS] 34 6 (by decide) (by decide) (Nat.succ_ne_zero 4) rfl rfl rfl (by simp only [go_sem,F]; exact iR) (by simp only [go_sem,F]; exact iR) ?_
 refine zbh 3 9001 0 4 ⟨5,[[Sg c.name,I c.initial, .row 14 1, .row 9000 1,nilS]],26,false⟩ [Sg c.name,I c.initial, .row 14 1, .row 9000 1,nilS] 76 5 (by decide) (by decide) (Nat.succ_ne_zero 4) rfl rfl rfl (by simp only [go_sem,F]; exact iR) (by simp only [go_sem,F]; exact iR) ?_
 refine zab (D:=Nat) (fun j vs=>[(1, .loc 1 (vs 1) 0 0),(2, .loc 2 (vs 2) 0 0),(3, .loc 3 (vs 3) 0 0),(17,stsAV c.states),(18,I c.states.length),(19,I j)])
  (fun j vs=>[(1,⟨5,[chAV c],26,false⟩),(2,⟨5,[[Sg [],I 0,nilS,nilS,nilS]],26,false⟩),(3,⟨5,[[Sg c.name,I c.initial, .row 14 (vs 14), .row 9000 (vs 9000), .row 9001 (vs 9001)]],26,false⟩),(14,⟨2,c.vars.map zcp,108,true⟩),(9000,⟨6,(c.states.take j).map stAV,34,true⟩),(9001,⟨5,[],76,true⟩)])
  (fun j _ esc=>j<=c.states.length/\esc 2=false/\esc 3=false/\esc 14=false/\esc 9000=false/\esc 9001=false) (fun j=>c.states.length-j) 0 ?_ ?_ ?_ ?_
 ·refine⟨Nat.zero_le _, ?_, ?_, ?_, ?_, ?_⟩<;>simp only [go_sem]
 ·(simp only [go_sem,F])
 ·have F:=chAV.eq_1
  (simp only [go_sem,F])
 rintro j ws esc ⟨hj,e0,e1,e2,e3,e4⟩
 by_cases hlt:j<c.states.length
 ·obtain⟨s,hss⟩: ∃s,c.states[j]? =some s:=⟨c.states[j],List.getElem?_eq_getElem hlt⟩
  have g1:=nlt hlt
  have g2:=zac hlt (by omega)
  have f1:=zdt env s.inn (hs.st s (List.mem_of_getElem? hss)).1
  have f2:=zdt env s.out (hs.st s (List.mem_of_getElem? hss)).2
  have htl:(c.states.take j).length=j:=by rw [List.length_take]; omega
  have hf:Fits (j+1) 88:=zah (by omega) (by omega)
  have htk:c.states.take (j+1)=c.states.take j++[s]:=by rw [List.take_add_one,hss]; rfl
  have F:=ai chAV.eq_1<|ai stAV.eq_1<|ai g1<|ai g2<|ai hss<|ai htl<|ai hf<|ai e0<|ai e1<|ai e2<|ai e3<|e4
  repeat (first | refine st ?_ | refine cC f1 ?_ | refine cC f2 ?_)
  refine⟨j+1,⟨hlt, ?_, ?_, ?_, ?_, ?_⟩, ?_, ?_,by omega⟩
  all_goals (first | (show _=false; simp only [go_sem,e0,e1,e2,e3,e4]; done) | skip)
  ·(simp only [go_sem,F])
  ·have F:=ai chAV.eq_1<|ai stAV.eq_1<|ai htk<|ai e0<|ai e1<|ai e2<|ai e3<|e4
   (simp only [go_sem,List.map_append,F])
 obtain rfl:j=c.states.length:=by omega
 have g1: ¬(c.states.length:Int)< (c.states.length:Int):=by omega
 have hta:c.states.take c.states.length=c.states:=List.take_length
 have F:=ai chAV.eq_1<|ai g1<|ai hta<|ai e0<|ai e1<|ai e2<|ai e3<|e4
 repeat refine st ?_
 refine zab (D:=Nat) (fun j vs=>[(1, .loc 1 (vs 1) 0 0),(2, .loc 2 (vs 2) 0 0),(3, .loc 3 (vs 3) 0 0),(39,trsAV c.trans),(40,I c.trans.length),(41,I j)])
  (fun j vs=>[(1,⟨5,[chAV c],26,false⟩),(2,⟨5,[[Sg [],I 0,nilS,nilS,nilS]],26,false⟩),(3,⟨5,[[Sg c.name,I c.initial, .row 14 (vs 14), .row 9000 (vs 9000), .row 9001 (vs 9001)]],26,false⟩),(14,⟨2,c.vars.map zcp,108,true⟩),(9000,⟨6,c.states.map stAV,34,true⟩),(9001,⟨5,(c.trans.take j).map trAV,76,true⟩)])
  (fun j _ esc=>j<=c.trans.length/\esc 2=false/\esc 3=false/\esc 14=false/\esc 9000=false/\esc 9001=false) (fun j=>c.trans.length-j) 0 ?_ ?_ ?_ ?_
 ·refine⟨Nat.zero_le _, ?_, ?_, ?_, ?_, ?_⟩<;>simp only [go_sem,e0,e1,e2,e3,e4]
 ·(simp only [go_sem,F])
 ·have F:=chAV.eq_1
  (simp only [go_sem,F])
 try clear e0 e1 e2 e3 e4
 rintro j ws esc ⟨hj,e0,e1,e2,e3,e4⟩
 by_cases hlt:j<c.trans.length
 ·obtain⟨t,hss⟩: ∃s,c.trans[j]? =some s:=⟨c.trans[j],List.getElem?_eq_getElem hlt⟩
  have g1:=nlt hlt
  have g2:=zac hlt (by omega)
  have htm:=hs.tr t (List.mem_of_getElem? hss)
  have f1:=zhj env (t.guard.map opAV) (by rw [List.length_map]; exact htm.1)
  have f2:=zdt env t.acts htm.2
  have htl:(c.trans.take j).length=j:=by rw [List.length_take]; omega
  have hf:Fits (j+1) 80:=zah (by omega) (by omega)
  have htk:c.trans.take (j+1)=c.trans.take j++[t]:=by rw [List.take_add_one,hss]; rfl
  have F:=ai chAV.eq_1<|ai trAV.eq_1<|ai g1<|ai g2<|ai hss<|ai htl<|ai hf<|ai e0<|ai e1<|ai e2<|ai e3<|e4
  repeat (first | refine st ?_ | refine cC f1 ?_ | refine cC f2 ?_)
  refine⟨j+1,⟨hlt, ?_, ?_, ?_, ?_, ?_⟩, ?_, ?_,by omega⟩
  all_goals (first | (show _=false; simp only [go_sem,e0,e1,e2,e3,e4]; done) | skip)
  ·(simp only [go_sem,F])
  ·have F:=ai chAV.eq_1<|ai trAV.eq_1<|ai htk<|ai e0<|ai e1<|ai e2<|ai e3<|e4
   (simp only [go_sem,List.map_append,F])
 obtain rfl:j=c.trans.length:=by omega
 have g1: ¬(c.trans.length:Int)< (c.trans.length:Int):=by omega
 have hta:c.trans.take c.trans.length=c.trans:=List.take_length
 have F:=ai chAV.eq_1<|ai g1<|ai hta<|ai e0<|ai e1<|ai e2<|ai e3<|e4
 repeat refine st ?_
 exact aR
end
section
open Go.RowKit
structure Cuts (P:Program) (f:FuncId) (e:TypeId) (sz:Nat) (ls ls':List (List Value)):Prop where
 enter: ∀(args:Array Value) (w:World),(callFunc f args).run P w= .ok (.enter f args) w
 els: ∀l∈ls',l.length=sz/\ ∀u∈l,u.oneCell'=true
 calls: ∀(w:World) (base:Nat) (v:Value),w.ownsRow base e sz v ls.length ls.flatten->
  Calls P f #[v] w fun ex w'=> ∃v',ex= .returned v'/\v'.oneCell'=true/\w.grownBy w' v.ownBlock/\(∀g,v'.ownBlock=some g->v.ownBlock=some g)/\w'.ownsRow base e sz v' ls'.length ls'.flatten
theorem znI {S:Nat->Nat->Prop} {w:World} {row:Row} {ls:List (List Value)} {xs:List Value} (hls: ∀l∈ls,l.length=row.sz) (hpos:0<row.sz) (hxl:xs.length=ls.length*row.sz) (e5:row.es=zaS ls)
 (k3: ∀(i j:Nat) (c:AV),cellAt row.es i j=some c-> ∃u,xs[i*row.sz+j]? =some u/\RV S w u c):xs=ls.flatten:=by
 apply List.ext_getElem?
 intro p
 have hfl:=zch ls hls
 by_cases hp:p<ls.length*row.sz
 ·have hi:p/row.sz<ls.length:=Nat.div_lt_of_lt_mul (by rw [Nat.mul_comm]; exact hp)
  have hj:p%row.sz<row.sz:=Nat.mod_lt _ hpos
  have hpq:p/row.sz*row.sz+p%row.sz=p:=Nat.div_add_mod' p row.sz
  have hl:=hls _ (List.getElem_mem hi)
  have hju:(ls[p/row.sz])[p%row.sz]? =some ((ls[p/row.sz])[p%row.sz]'(by omega)):=List.getElem?_eq_getElem _
  have h1:=zcK ls hls _ _ _ _ (List.getElem?_eq_getElem hi) hju
  obtain⟨u,h2,h3⟩:=k3 (p/row.sz) (p%row.sz) (.lit ((ls[p/row.sz])[p%row.sz]'(by omega))) (by
   rw [e5]
   unfold cellAt zaS
   rw [List.getElem?_map,List.getElem?_eq_getElem hi]
   simp only [Option.map_some,Option.bind_some,List.getElem?_map,hju])
  rw [hpq] at h1 h2
  have:u=(ls[p/row.sz])[p%row.sz]'(by omega):=by cases h3; rfl
  rw [h1,h2,this]
 ·rw [List.getElem?_eq_none (by omega),List.getElem?_eq_none (by omega)]
theorem zpV {P:Program} {env:Env} {f:FuncId} {r ver:Nat} {row:Row} {rows:Nat->Option Row} {vsv:Nat->Nat} {ls ls':List (List Value)} (hC:Cuts P f row.e row.sz ls ls') (hr:rows r=some row) (hv:vsv r=ver) (hrz:row.sz≠0) (hp:row.pure=true) (e5:row.es=zaS ls):
 Acts P env f [.row r ver] [r] rows vsv ⟨.row r (ver+1),[.renew r { row with es:=zaS ls' }]⟩:=by
 refine⟨hC.enter,fun x s a w m vs hx hS hro hl hvs=> ?_⟩
 obtain⟨q1,q2,q3⟩:=hro r (by simp)
 rw [hr] at q1
 rw [hv] at q2
 match vs,hl with
 | [u],_=>
 have hu:u=m.ρ r:=(hvs 0 u _ rfl rfl).row_.2 q2 row q1
 subst hu
 have k:=(hS.rows r row q1).cells hrz
 obtain⟨xs,k1,k2,k3⟩:=k.own
 have hn:row.es.length=ls.length:=by rw [e5]; simp [zaS]
 have hls: ∀l∈ls,l.length=row.sz:=fun l hl=>by
  obtain⟨i,hi,rfl⟩:=List.getElem_of_mem hl
  have:=k.len i ((ls[i]).map .lit) (by rw [e5]; simp [zaS,hi])
  simpa using this
 have hxx:xs=ls.flatten:=znI hls k.pos (by rw [<-hn]; exact k1.1) e5 fun i j c hc=>by
  obtain⟨u,h1,h2⟩:=k3 i j c hc
  rw [if_pos hp] at h2
  exact⟨u,h1,h2⟩
 rw [hxx,hn] at k1
 refine(hC.calls w x.w.heap.size (m.ρ r) k1).mono ?_
 rintro ex w' ⟨v',rfl,h1,hg,hsub,ho⟩
 have hb:Below x.w.heap.size w w':=⟨hg.os,hg.tape,hg.output,hg.size,fun q hq=>hg.block q (Nat.lt_of_lt_of_le hq hS.bel.size) fun e=>by
  have:=(za2 k1 e.symm).1
  omega⟩
 have hnS: ∀g,(m.ρ r).ownBlock=some g-> ∀o,¬m.S g o:=k.fresh q3
 have hcell: ∀b o,m.S b o->Stay w w' b o:=fun b o hh=> .block (hg.block b (hS.low b o hh) fun e=>hnS b e.symm o hh)
 have hlow: ∀b o,m.S b o->b<w'.heap.size:=fun b o hh=>Nat.lt_of_lt_of_le (hS.low b o hh) hg.size
 have hS2:Sim x (s.renew r { row with es:=zaS ls' } false) a w' ⟨m.S,upd m.ρ r v'⟩:=by
  refine hS.renew r _ false v' m.S hb (fun b o hh=>⟨hh,hcell b o hh⟩) (fun b o hh=> .inl hh) (fun q row1 hne hq gq hgq=>⟨?_,fun e=> ?_,fun _ hh=>hh⟩) ?_ fun b hf=>⟨hg.block b (hS.fxlt hf) fun e=>hS.nofx r row q1 b e.symm hf,fun _ hh=>hh,fun e=>hS.nofx r row q1 b (hsub b e) hf⟩
  ·exact hg.block gq ((hS.rows q row1 hq).blk hgq).2 fun e=>hS.inj r q row row1 q1 hq (Ne.symm hne) gq e.symm hgq
  ·exact hS.inj r q row row1 q1 hq (Ne.symm hne) gq (hsub gq e) hgq
  ·have hel: ∀(i:Nat) (e:List AV),(zaS ls')[i]? =some e->e.length=row.sz:=fun i e he=>by
    unfold zaS at he
    rw [List.getElem?_map] at he
    cases hl:ls'[i]? with
    | none=>rw [hl] at he; cases he
    | some l=>
      rw [hl] at he
      cases he
      simpa using (hC.els l (List.mem_of_getElem? hl)).1
   have hll:(zaS ls').length=ls'.length:=by unfold zaS; rw [List.length_map]
   have hρ:(⟨m.S,upd m.ρ r v'⟩:Mem).ρ r=v':=upd_same ..
   refine .inl ⟨k.pos,hel,⟨ls'.flatten,by rw [hρ]; show w'.ownsRow _ _ _ _ (zaS ls').length _; rw [hll]; exact ho, ?_, ?_⟩,fun he=> ?_,fun g hg' o _=> ?_,fun _ g hg' o=> ?_⟩
   ·intro u hu
    obtain⟨l,hl,hul⟩:=List.mem_flatten.1 hu
    exact(hC.els l hl).2 u hul
   ·intro i j c hcc
    obtain⟨l,u,h1,h2,rfl⟩:=zk7 hcc
    refine⟨u,zcK ls' (fun l hl=>(hC.els l hl).1) i j l u h1 h2, ?_⟩
    show if row.pure=true then _ else _
    rw [if_pos hp]
    exact .lit u
   ·have he:upd s.esc r false r=true:=he
    rw [upd_same] at he
    cases he
   ·rw [hρ] at hg'; exact hnS g (hsub g hg') o
   ·rw [hρ] at hg'; exact hnS g (hsub g hg') o
 refine⟨v',_,rfl,hS2, .row r (ver+1) h1 ?_ fun _ row' _=> ?_⟩
 ·show ver+1<=upd s.vs r (s.vs r+1) r
  rw [upd_same,q2]
  exact Nat.le_refl _
 ·show v'=upd m.ρ r v' r
  rw [upd_same]
section
variable {P:Program} {env:Env} {s:St}
theorem zfP {o:Oper} {f:FuncId} {args:List AV} {rest:List Stp} {s1:St} {row:Row} {ls ls':List (List Value)} {ft:Foot} {K:St->List Foot->Prop} (r:Nat) (hc:zaN env s.f o=some (f,args)) (hC:Cuts P f row.e row.sz ls ls') (hrz:row.sz≠0) (hp:row.pure=true) (e5:row.es=zaS ls)
 (ha:Is args [.row r (s.vs r)]) (hr:Is (s.rows r) (some row)) (he:Is (s.esc r) false) (h1:Is ((⟨.row r (s.vs r+1),[.renew r { row with es:=zaS ls' }]⟩:Out).app o.dst s) s1) (h2:Is (⟨[r],[r],[r],[]⟩:Foot) ft) (k:aops P env rest s1 fun s2 fts=>K s2 (ft::fts)):aops P env (⟨o, .always⟩::rest) s K:=by
 unfold Is at h2
 subst h2
 exact zjJ hc ha (zpV hC hr rfl hrz hp e5) (fun q hq=>by rw [List.mem_singleton.1 hq]; exact he) h1 k
theorem zn9 {o:Oper} {f:FuncId} {args:List AV} {rest:List Stp} {s1:St} {row:Row} {ls ls':List (List Value)} {K:St->List Foot->Prop} (r:Nat) (hc:zaN env s.f o=some (f,args)) (hT:Turns P f [] row.e row.sz ls ls') (hrz:row.sz≠0) (hp:row.pure=true) (e5:row.es=zaS ls)
 (ha:Is args [.row r (s.vs r)]) (hr:Is (s.rows r) (some row)) (he:Is (s.esc r) false) (h1:Is ((s.setRow r { row with es:=zaS ls' }).put o.dst .any) s1) (k:aops P env rest s1 fun s2 fts=>K s2 (⟨[r],[r],[r],[]⟩::fts)):aops P env (⟨o, .always⟩::rest) s K:=
 zoT (rs:=[]) r hc (show args=_ from ha) hr he hT e5 hp hrz h1 k
end
end
section
open Go.RowKit Go.Sort Go.Shelf Go.Lib
theorem heap_put {w:World} {g n:Nat} {os:Array Obj} {cur:Array Value} {e:TypeId} {fr:Nat×Nat} (F:Array Value) (hb:w.heap[g]? =some (.cells cur e fr)):
 (grow (putRow id (Sort.ahead w n) g 0 F) os).heap[g]? =some (.cells (putCells id 0 F cur) e fr):=by
 have hg:g<w.heap.size:=(Array.getElem?_eq_some_iff.1 hb).1
 rw [heap_grow_old _ _ (by simpa [putRow,mapBlock,Sort.ahead] using hg)]
 simp [putRow,mapBlock,Sort.ahead,Array.getElem?_modify,hb,onCells]
theorem zd6 {w:World} {g n:Nat} {os:Array Obj} (F:Array Value):w.grownBy (grow (putRow id (Sort.ahead w n) g 0 F) os) (some g):=by
 refine⟨rfl,rfl,rfl,by simp [putRow,mapBlock,Sort.ahead],fun k hk hne=> ?_⟩
 rw [heap_grow_old _ _ (by simpa [putRow,mapBlock,Sort.ahead] using hk)]
 have:g≠k:=fun e=>hne (by rw [e])
 simp [putRow,mapBlock,Sort.ahead,Array.getElem?_modify,this]
theorem zhz (cur F:Array Value) (h:F.size<=cur.size):(putCells id 0 F cur).toList.take F.size=F.toList:=by
 apply List.ext_getElem?
 intro j
 by_cases hj:j<F.size
 ·rw [List.getElem?_take_of_lt hj,Array.getElem?_toList]
  simp [putCells,hj,show j<cur.size by omega]
 ·rw [List.getElem?_take_eq_none (by omega),List.getElem?_eq_none (by simp; omega)]
theorem zeJ {P:Program} {f:FuncId} {rest:List Value} {e:TypeId} {sz:Nat} {ls ls':List (List Value)} (hne:0<ls.length) (henter: ∀(args:Array Value) (w:World),(callFunc f args).run P w= .ok (.enter f args) w)
 (hl:ls'.length=ls.length) (hls: ∀l∈ls,l.length=sz) (hel: ∀l∈ls',l.length=sz/\ ∀u∈l,u.oneCell'=true)
 (h: ∀(w:World) (g cap:Nat),Holds id w g 0 ls.flatten.toArray->g<w.heap.size->Calls P f (.slice (some ⟨g,0,none⟩) ls.length cap::rest).toArray w fun ex w'=>ex= .returned (.tuple #[])/\ ∃n os,w'=grow (putRow id (Sort.ahead w n) g 0 ls'.flatten.toArray) os):
 Turns P f rest e sz ls ls':=by
 refine⟨henter,hl,hel,fun w base v ho=> ?_⟩
 have hf:=zch ls hls
 have hf':=zch ls' fun l hl=>(hel l hl).1
 rcases ho.2 with⟨_,h0⟩ | ⟨g,cap,cur,rfl,hbase,hb,h1,h2,h3,h4⟩
 ·omega
 have hsz:ls.length*sz<=cur.size:=by rw [h3]; exact Nat.mul_le_mul_right _ h1
 have hg:g<w.heap.size:=(Array.getElem?_eq_some_iff.1 hb).1
 refine(h w g cap (fun j hj=>⟨?_,by simp [World.frozen?,hb]⟩) hg).mono ?_
 ·have hj':j<ls.flatten.length:=by simpa using hj
  have e1:(cur.toList.take (ls.length*sz))[j]? =ls.flatten[j]? :=by rw [h4]
  rw [List.getElem?_take_of_lt (by omega)] at e1
  simp only [World.cell?,hb,Nat.zero_add]
  simp only [Option.isSome_none,Bool.false_eq_true,if_false]
  rw [<-Array.getElem?_toList,e1,getElem!_pos _ j hj,List.getElem?_eq_getElem hj']
  rfl
 ·rintro ex w' ⟨rfl,n,os,rfl⟩
  refine⟨rfl,zd6 _,by rw [hf',hl], .inr ⟨g,cap,_,rfl,hbase,heap_put _ hb,h1,h2,by simp [putCells,h3], ?_⟩⟩
  have:=zhz cur ls'.flatten.toArray (by simp [hf',hl]; exact hsz)
  rw [show ls'.flatten.toArray.size=ls.length*sz by simp [hf',hl]] at this
  exact this
theorem zeI {P:Program} {f:FuncId} {rest:List Value} {e:TypeId} {sz:Nat} (henter: ∀(args:Array Value) (w:World),(callFunc f args).run P w= .ok (.enter f args) w)
 (h: ∀(p:Option Addr) (cap:Nat) (w:World),Calls P f (.slice p 0 cap::rest).toArray w fun ex w'=>ex= .returned (.tuple #[])/\w'=w):Turns P f rest e sz [] []:=by
 refine⟨henter,rfl,fun l hl=>by simp at hl,fun w base v ho=> ?_⟩
 have key: ∃p cap,v= .slice p 0 cap:=by
  rcases ho.2 with⟨rfl,_⟩ | ⟨g,cap,cur,rfl,_⟩
  ·exact⟨_,_,rfl⟩
  ·exact⟨_,_,rfl⟩
 obtain⟨p,cap,rfl⟩:=key
 refine(h p cap w).mono ?_
 rintro ex w' ⟨rfl,rfl⟩
 exact⟨rfl,⟨rfl,rfl,rfl,Nat.le_refl _,fun _ _ _=>rfl⟩,ho⟩
section
variable {α:Type} [Inhabited α]
theorem zdi (enc:α->Value) (w:World) (g:Nat) (d:Array α):putRow enc w g 0 d=putRow id w g 0 (d.map enc):=by
 unfold putRow
 refine mapBlock_congr _ _ _ _ fun c _ _ _=> ?_
 apply Array.ext_getElem?
 intro k
 simp only [putCells,Array.getElem?_mapIdx,Array.size_map]
 cases c[k]? with
 | none=>rfl
 | some y=>
   simp only [Option.map_some,Nat.sub_zero,Nat.zero_add]
   by_cases hk:0<=k/\k<d.size
   ·rw [if_pos hk,if_pos hk]; simp [hk.2]
   ·rw [if_neg hk,if_neg hk]
end
end

end Go.Proofs.YtlmekdfleciejaaGreatDoor