/- Sorted numbers; what is closed. -/
import Derived.Test.YtnbjaghjdeicmaaGreatDoorG13
import Derived.Shelf.Slices.Reverse
import Derived.Shelf.Slices.CompactI
import Derived.Test.YtnbjaghjdeicmaaGreatDoorG14
import Derived.Test.YtnbjaghjdeicmaaGreatDoorG17
import Derived.Test.YtnbjaghjdeicmaaGreatDoorG18
import Derived.Test.YtnbjaghjdeicmaaGreatDoorG10
import Derived.Test.YtnbjaghjdeicmaaGreatDoorG5
import Derived.Test.YtnbjaghjdeicmaaGreatDoorG12
import Derived.Test.YtnbjaghjdeicmaaGreatDoorG8
import Derived.Test.YtnbjaghjdeicmaaGreatDoorG9
namespace Go.Proofs
def Tryz.compI_ren:Go.Shelf.Ren:=⟨fun | 20=>285 | n=>n,fun | 22=>27 | 3=>3 | 4=>4 | 0=>0 | n=>n,fun | n=>n⟩
theorem Tryz.compI:Go.Proofs.Lays2.n20 Tryz.prog Tryz.compI_ren:={
 mixed:=by kernel_rfl
 f20:=Tryz.func285.trans (congrArg some (by kernel_rfl))
 t0:=Tryz.underlying0
 a0:=Tryz.isAgg0
 z0:=Tryz.sizeOf0
 v0:=Tryz.zeroValue0
 t3:=Tryz.underlying3
 a3:=Tryz.isAgg3
 z3:=Tryz.sizeOf3
 v3:=Tryz.zeroValue3
 t4:=Tryz.underlying4
 a4:=Tryz.isAgg4
 z4:=Tryz.sizeOf4
 v4:=Tryz.zeroValue4
 t22:=Tryz.underlying27
 a22:=Tryz.isAgg27
 z22:=Tryz.sizeOf27
 v22:=Tryz.zeroValue27
 i3:=by kernel_rfl }
end Go.Proofs
namespace Go.Proofs.YtnbjaghjdeicmaaGreatDoor
open Go.RowKit Go.Sort Go.Shelf Go.Lib
theorem Tryz.compIEnter: ∀(args:Array Value) (w:World),(callFunc 285 args).run Tryz.prog w= .ok (.enter 285 args) w:=enters_of Tryz.func285 (by kernel_rfl) rfl
theorem znJ (l:List Int) (hl:l.length<=9223372036854775807):Cuts Tryz.prog 285 3 1 (l.map intC) ((Lib.compact l).map intC):=by
 refine⟨Tryz.compIEnter,fun x hx=> ?_,fun w base v ho=> ?_⟩
 ·obtain⟨y,_,rfl⟩:=List.mem_map.1 hx
  exact⟨rfl,fun u hu=>by rw [List.mem_singleton.1 hu]; rfl⟩
 rw [show (l.map intC).flatten=l.map (Value.int .i64) from zdj (Value.int .i64) _,List.length_map] at ho
 rw [show ((Lib.compact l).map intC).flatten=(Lib.compact l).map (Value.int .i64) from zdj (Value.int .i64) _,List.length_map]
 by_cases h0:l=[]
 ·subst h0
  obtain⟨p,cap,rfl⟩: ∃p cap,v= .slice p 0 cap:=by
   rcases ho.2 with⟨rfl,_⟩ | ⟨g,cap,cur,rfl,_⟩
   ·exact⟨_,_,rfl⟩
   ·exact⟨_,_,rfl⟩
  refine(show Calls Tryz.prog 285 #[.slice p 0 cap] w _ from Any.slices_Compact_int_empty Tryz.compI p cap w).mono ?_
  rintro ex w' ⟨rfl,rfl⟩
  exact⟨_,rfl,rfl,⟨rfl,rfl,rfl,Nat.le_refl _,fun _ _ _=>rfl⟩,fun _ h=>h,ho⟩
 ·rcases ho.2 with⟨_,h⟩ | ⟨g,cap,cur,rfl,hbase,hb,h1,h2,h3,h4⟩
  ·exact absurd (List.eq_nil_of_length_eq_zero h) h0
  have hg:g<w.heap.size:=(Array.getElem?_eq_some_iff.1 hb).1
  have hH:Holds (Value.int .i64) w g 0 l.toArray:=fun j hj=>by
   have hj':j<l.length:=by simpa using hj
   have e1:(cur.toList.take (l.length*1))[j]? =(l.map (Value.int .i64))[j]? :=by rw [h4]
   rw [List.getElem?_take_of_lt (by omega),List.getElem?_map,List.getElem?_eq_getElem hj'] at e1
   refine⟨?_,by simp [World.frozen?,hb]⟩
   simp only [World.cell?,hb,Nat.zero_add,Option.isSome_none,Bool.false_eq_true,if_false]
   rw [<-Array.getElem?_toList,e1,getElem!_pos _ j hj]
   rfl
  have hcl:(Lib.compact l).length<=l.length:=by
   unfold Lib.compact Lib.compactUpTo
   rw [List.length_map]
   exact Nat.le_trans (List.length_filter_le ..) (by simp)
  refine(show Calls Tryz.prog 285 #[.slice (some ⟨g,0,none⟩) l.length cap] w _ from Any.slices_Compact_int Tryz.compI g 0 cap l w hH hl h1).mono ?_
  rintro ex w' ⟨rfl,q,rfl⟩
  rw [zg2]
  generalize hF:((Lib.compact l++List.replicate (l.length-(Lib.compact l).length) 0).toArray.map (Value.int .i64))=F
  have hFs:F.size=l.length:=by rw [<-hF]; simp; omega
  have hgr: ∀W:World,grow W #[]=W:=fun W=>by simp [grow]
  have e2:=heap_put (n:=q) (os:= #[]) F hb
  have e3:=zeE (w:=w) (g:=g) (n:=q) (os:= #[]) F
  rw [hgr] at e2 e3
  refine⟨_,rfl,rfl,e3,fun _ h=>h,⟨by rw [List.length_map,Nat.mul_one], .inr ⟨g,cap,_,rfl,hbase,e2,Nat.le_trans hcl h1,h2,by simp [putCells,h3], ?_⟩⟩⟩
  have ht:=ziv cur F (by rw [hFs,h3]; omega)
  rw [Nat.mul_one]
  have:((putCells id 0 F cur).toList.take (Lib.compact l).length)=(F.toList).take (Lib.compact l).length:=by
   rw [<-ht,List.take_take,Nat.min_eq_left (by omega)]
  rw [this, <-hF]
  simp
end Go.Proofs.YtnbjaghjdeicmaaGreatDoor
namespace Go.Proofs.YtnbjaghjdeicmaaGreatDoor
open Go.RowKit
/-! Legal states -/
structure Lg (c:ChD) (act:List Int):Prop where
 rise:act.Pairwise (· < ·)
 fit: ∀x∈act,∃s,at_ c x=some s/\fitB c act x.toNat s=true
 top:manyI act (kidsL c (-1) true)=1
theorem Lg.of {c:ChD} {act:List Int} (h:Lg c act) {x:Int} (hx:x∈act): ∃s,at_ c x=some s/\inZ c x=true/\zbh s=false/\(parZ c x<0\/parZ c x∈act)/\(s.kind=1->kidsL c x true≠[]->manyI act (kidsL c x true)=1)/\(s.kind=2->manyI act (kidsL c x true)=(kidsL c x true).length):=by
 obtain⟨s,hs,hf⟩:=h.fit x hx
 have h0:0<=x/\c.states[x.toNat]? =some s:=by
  unfold at_ at hs
  split at hs
  ·exact⟨by assumption,hs⟩
  ·cases hs
 obtain⟨k,rfl⟩: ∃k:Nat,x=k:=⟨x.toNat,by omega⟩
 have hk:=(List.getElem?_eq_some_iff.1 h0.2).1
 have hp:parZ c (k:Int)=s.parent:=by unfold parZ; rw [hs]
 unfold fitB at hf
 rw [Int.toNat_natCast,Bool.and_eq_true,Bool.and_eq_true] at hf
 obtain⟨⟨f1,f2⟩,f3⟩:=hf
 refine⟨s,hs,zan.2 ⟨by omega,by simpa using hk⟩,by simpa using f1, ?_,fun e hne=> ?_,fun e=> ?_⟩
 ·rw [hp]
  rw [Bool.or_eq_true,decide_eq_true_eq] at f2
  exact f2.imp id fun f2=>by simpa using f2
 ·rw [if_pos ⟨e,hne⟩] at f3
  simpa using f3
 ·rw [if_neg (fun q=>by omega),if_pos e] at f3
  simpa using f3
theorem Lg.real {c:ChD} {act:List Int} (h:Lg c act) {x:Int} (hx:x∈act) {s:StD} (hs:at_ c x=some s):s.kind≠4/\s.kind≠5:=by
 obtain⟨s',e,_,hm,_⟩:=h.of hx
 rw [hs] at e
 cases e
 unfold zbh at hm
 simpa using hm
theorem Lg.up {c:ChD} (hr:Right c) {act:List Int} (h:Lg c act): ∀(n:Nat) (x k:Int),x<n->x∈act->k∈upL c x->0<=k->k∈act
 | 0,x,k,hn,hx,hk,h0=>by
   obtain⟨_,_,hz,_⟩:=h.of hx
   have:=zan.1 hz
   omega
 | n+1,x,k,hn,hx,hk,h0=>by
   obtain⟨_,_,hz,_,hp,_⟩:=h.of hx
   rw [zdp hr hz] at hk
   have:=zcn hr hz
   rcases hk with rfl | hk
   ·exact hp.resolve_left (by omega)
   ·rcases hp with hp | hp
    ·rw [zcw (by unfold inZ; rw [decide_eq_false (by omega),Bool.false_and])] at hk
     simp at hk
    ·exact Lg.up hr h n _ k (by omega) hp hk h0
/-! Memories in their order -/
/-! What is remembered -/
/-! As the document says -/
/-! Moves -/
end Go.Proofs.YtnbjaghjdeicmaaGreatDoor
set_option linter.unusedSimpArgs false
namespace Go.Proofs.YtnbjaghjdeicmaaGreatDoor
open Go.RowKit
set_option maxRecDepth 100000
set_option maxHeartbeats 8000000
theorem znA (env:Env) (a1 a8:Addr) (he:ChEnv env a1 a8) (s:List UInt8):Con Tryz.prog env 177 [Sg s] (errV (-1) (sentV a1)):=by
 have g1:=zhG he.e1
 have f0:=zb5 env s a1
 refine zaa Tryz.func177 rfl Tryz.call177 (by rw [Tryz.ntmps177]; simp) ?_
 rw [Tryz.ntmps177,Tryz.results177]
 have F:=g1
 repeat (first | refine st ?_ | refine cC f0 ?_)
 exact aR
end Go.Proofs.YtnbjaghjdeicmaaGreatDoor
set_option linter.unusedSimpArgs false
namespace Go.Proofs.YtnbjaghjdeicmaaGreatDoor
open Go.RowKit
set_option maxRecDepth 100000
set_option maxHeartbeats 16000000
def idxZ:List Int->Int->Nat->Option Nat
 | [],_,_=>none
 | x::l,k,n=>if k=x then some n else idxZ l k (n+1)
theorem ze5 {k:Int} : ∀ {l:List Int} {n:Nat},k∉l->idxZ l k n=none
 | [],_,_=>rfl
 | x::l,n,h=>by
   unfold idxZ
   rw [if_neg (fun e=>h (by rw [e]; exact List.mem_cons_self ..)),ze5 (fun hh=>h (List.mem_cons_of_mem _ hh))]
theorem zha {k:Int} : ∀ {l:List Int} {n:Nat},k∈l-> ∃i,idxZ l k n=some (n+i)/\l[i]? =some k
 | [],n,h=>by cases h
 | x::l,n,h=>by
   unfold idxZ
   by_cases e:k=x
   ·exact⟨0,by rw [if_pos e]; rfl,by rw [e]; rfl⟩
   ·obtain⟨i,h1,h2⟩:=zha (n:=n+1) ((List.mem_cons.1 h).resolve_left e)
    exact⟨i+1,by rw [if_neg e,h1]; congr 1; omega,by simpa using h2⟩
def zdi (l:List Int):List (List AV):=l.map fun k=>[I k,I 1]
theorem zfq (k:Int): ∀(l:List Int) (n:Nat),mfind Tryz.prog 3 (I k) (zdi l) n=some (idxZ l k n)
 | [],n=>rfl
 | x::l,n=>by
   have ih:=zfq k l (n+1)
   unfold zdi at ih |-
   unfold idxZ
   by_cases e:k=x
   ·have e1:(k==x)=true:=by simp [e]
    simp only [go_sem,zbv,zbB,List.map_cons,e1,if_pos e]
   ·have e1:(k==x)=false:=by simpa using e
    simp only [go_sem,zbv,zbB,List.map_cons,e1,if_neg e,ih]
theorem zjl (env:Env) (o:List Int) (i:Int) (ho:o.length<=4000) (te:TypeId):ConI Tryz.prog env 303 [1000,1001] (fun k=>k==1001) (fun vs=>[I i, .loc 1000 (vs 1000) 0 0]) (fun vs=>[(1000,⟨1,[[.row 1001 (vs 1001)]],te,false⟩),(1001,⟨1,o.map intAV,3,true⟩)]) (fun vs=>[(1000,⟨1,[[.row 1001 (vs 1001)]],te,false⟩),(1001,⟨1,(addU o i).map intAV,3,true⟩)]) (fun _=> .lit (.tuple #[])):=by
 have f0:=(zdm env o i (by omega)).lend rfl
 unfold addU
 cases hc:o.contains i with
 | true=>
   rw [hc] at f0
   simp only [if_true]
   refine⟨Tryz.call303,_,_,Tryz.func303,rfl,(by intro _; rw [Tryz.ntmps303]; simp), ?_⟩
   intro vs esc hesc
   rw [Tryz.ntmps303,Tryz.results303]
   have e0:=hesc 1000 (by simp)
   have e1:=hesc 1001 (by simp)
   have F:=ai e0<|e1
   repeat refine st ?_
   refine oL rfl (f0) (by simp only [go_sem,F]; exact iR) (by simp only [go_sem,F]; exact⟨rfl,rfl⟩) ?_
   repeat refine st ?_
   (refine ziD ?_ ?_<;>simp only [go_sem,F,implies_true,and_self,imp_self,false_implies,AV.tuple.injEq,exists_eq_left',ne_eq])
 | false=>
   rw [hc] at f0
   have hf:Fits (o.length+1) 8:=zar (by omega) (by omega)
   simp only [Bool.false_eq_true,if_false,List.map_append]
   refine⟨Tryz.call303,_,_,Tryz.func303,rfl,(by intro _; rw [Tryz.ntmps303]; simp), ?_⟩
   intro vs esc hesc
   rw [Tryz.ntmps303,Tryz.results303]
   have e0:=hesc 1000 (by simp)
   have e1:=hesc 1001 (by simp)
   have F:=ai e0<|ai e1<|hf
   repeat refine st ?_
   refine oL rfl (f0) (by simp only [go_sem,F]; exact iR) (by simp only [go_sem,F]; exact⟨rfl,rfl⟩) ?_
   repeat refine st ?_
   (refine ziD ?_ ?_<;>simp only [go_sem,F,implies_true,and_self,imp_self,false_implies,AV.tuple.injEq,exists_eq_left',ne_eq])
theorem zer {c:ChD} {a:List Int} (hn:a.Nodup) (hz: ∀x∈a,inZ c x=true):a.length<=c.states.length:=by
 have:=zgr (c:=c) (l:=[]) hn fun k hk=>⟨by simp,hz k hk⟩
 have:=zsl c []
 omega
theorem zn9 {c:ChD} {d:Int} {o U:List Int} {m:Nat} {k:Int} (h:U[m]? =some k):upTo c d o U (m+1)=if 0<=k/\zax c d k=true then addU (upTo c d o U m) k else upTo c d o U m:=zeg _ _ h
theorem zmT {c:ChD} {d:Int} {l:List Int} {j:Nat} {k:Int} (h:l[j]? =some k):upsTo c d l (j+1)=upTo c d (addU (upsTo c d l j) k) (upL c k) (upL c k).length:=zeg _ _ h
theorem zn6 {c:ChD} (hc:Right c) {d:Int} {l:List Int} (hz: ∀x∈l,inZ c x=true) {j:Nat} (hj:j<=l.length):(upsTo c d l j).Nodup/\(∀x∈upsTo c d l j,inZ c x=true)/\(upsTo c d l j).length<=32:=by
 obtain⟨h1,h2⟩:=zir (c:=c) (d:=d) (l:=l) j hj
 have h3: ∀x∈upsTo c d l j,inZ c x=true:=fun x hx=>by
  rcases (h2 x).1 hx with h | ⟨i,h,q1,q2,_⟩
  ·exact hz x (List.mem_of_mem_take h)
  ·exact(zgE hc q1 q2).1
 exact⟨h1,h3,Nat.le_trans (zer h1 h3) hc.few⟩
theorem zqv {c:ChD} (hc:Right c) {d i:Int} {o:List Int} (hn:o.Nodup) (hz: ∀x∈o,inZ c x=true) {m:Nat} (hm:m<=(upL c i).length):(upTo c d o (upL c i) m).Nodup/\(∀x∈upTo c d o (upL c i) m,inZ c x=true)/\(upTo c d o (upL c i) m).length<=32:=by
 obtain⟨h1,h2⟩:=zkO (c:=c) (d:=d) (U:=upL c i) m hm hn
 have h3: ∀x∈upTo c d o (upL c i) m,inZ c x=true:=fun x hx=>by
  rcases (h2 x).1 hx with h | ⟨h,q2,_⟩
  ·exact hz x h
  ·exact(zgE hc (List.mem_of_mem_take h) q2).1
 exact⟨h1,h3,Nat.le_trans (zer h1 h3) hc.few⟩
theorem zsI (env:Env) (c:ChD) (hc:Right c) (l:List Int) (hl:l.length<=1000000) (hz: ∀x∈l,inZ c x=true) (d:Int):Con Tryz.prog env 274 [zaU c, .seq 1 (l.map intAV),I d] (.own 3 1 ((upsL c l d).map intAV)):=by
 have hlen:=hc.few
 have f1:=zew env c
 unfold zaU zaw at f1
 unfold zaU
 refine zaa Tryz.func274 rfl Tryz.call274 (by rw [Tryz.ntmps274]; simp) ?_
 rw [Tryz.ntmps274,Tryz.results274]
 repeat refine st0 ?_
 refine zbH 7 9000 0 0 ⟨1,[[nilS]],27,false⟩ [nilS] 3 1 (by decide) (by decide) (Nat.succ_ne_zero 0) rfl rfl rfl (by simp only [go_sem]; exact iR) (by simp only [go_sem]; exact iR) ?_
 refine zac (D:=Nat) (fun j vs=>[(0, .ref 9 [zaF c] 0 0),(2,I d),(7, .loc 7 (vs 7) 0 0),(8, .clo 303 [.loc 7 (vs 7) 0 0]),(14, .seq 1 (l.map intAV)),(15,I l.length),(16,I j)]) (fun j vs=>[(7,⟨1,[[.row 9000 (vs 9000)]],27,false⟩),(9000,⟨1,(upsTo c d l j).map intAV,3,true⟩)]) (fun j _ esc=>j<=l.length/\esc 7=false/\esc 9000=false) (fun j=>l.length-j) 0 ?_ ?_ ?_ ?_
 ·exact⟨Nat.zero_le _,rfl,rfl⟩
 ·(simp only [go_sem])
  try rfl
 ·(simp only [go_sem])
  try rfl
 rintro j ws esc ⟨hj,e0,e1⟩
 by_cases hlt:j<l.length
 ·obtain⟨x,hx⟩: ∃x,l[j]? =some x:=⟨l[j],List.getElem?_eq_getElem hlt⟩
  have q1:=nlt hlt
  have q2:=zab hlt (by omega)
  obtain⟨n1,n2,n3⟩:=zn6 hc (d:=d) hz hj
  have hxz:=hz x (List.mem_of_getElem? hx)
  have hn:=zmT (c:=c) (d:=d) hx
  have fa:=zjl env (upsTo c d l j) x (by omega) 27
  have f2:=zsb env c hc x
  unfold zaw at f2
  have m1:=zfI n1 x
  have m2: ∀y∈addU (upsTo c d l j) x,inZ c y=true:=fun y hy=>(zjf.1 hy).elim (n2 y) fun e=>by rw [e]; exact hxz
  have hfew:=fun m hm=>zqv hc (d:=d) (i:=x) m1 m2 (m:=m) hm
  have hUl:(upL c x).length<=40:=zjk 40 x
  have hUr: ∀y∈upL c x,y<0\/inZ c y=true:=fun y hy=>by
   rcases Int.lt_or_le y 0 with h | h
   ·exact .inl h
   ·exact .inr (zgE hc hy h).1
  generalize addU (upsTo c d l j) x=o at*
  generalize upL c x=U at*
  have z0:upTo c d o U 0=o:=rfl
  have F:=ai hx<|ai q1<|ai q2<|ai e0<|e1
  repeat refine st ?_
  refine zgD [(1000,7),(1001,9000)] (zik rfl (by simp only [go_sem,F]; exact iR)) (fa) (by decide) (by decide) (by simp only [go_sem,F]<;>rfl) (by simp only [go_sem,F,and_self]<;>trivial) (by simp only [go_sem,F,and_self]<;>trivial) (by intro o; simp only [go_sem,F,behind,and_self]<;>trivial) (by intro o; simp only [go_sem,F]<;>rfl) (by simp only [go_sem,F,behind]; exact iR) (by simp only [go_sem,F,behind]; exact iR) ?_
  repeat (first | refine st ?_ | refine cC f1 ?_ | refine cC f2 ?_)
  refine zac (D:=Nat) (fun m vs=>[(0, .ref 9 [zaF c] 0 0),(2,I d),(7, .loc 7 (vs 7) 0 0),(8, .clo 303 [.loc 7 (vs 7) 0 0]),(14, .seq 1 (l.map intAV)),(15,I l.length),(16,I j),(26, .row 26 (vs 26)),(27,I U.length),(28,I m)]) (fun m vs=>[(7,⟨1,[[.row 9000 (vs 9000)]],27,false⟩),(9000,⟨1,(upTo c d o U m).map intAV,3,true⟩),(26,⟨1,U.map intAV,3,true⟩)]) (fun m _ esc=>m<=U.length/\esc 7=false/\esc 9000=false) (fun m=>U.length-m) 0 ?_ ?_ ?_ ?_
  ·exact⟨Nat.zero_le _,by simp only [go_sem,e0],by simp only [go_sem,e1]⟩
  ·(simp only [go_sem,F])
   try rfl
  ·have F:=z0
   (simp only [go_sem,F])
   try rfl
  try clear e0 e1
  rintro m vs es ⟨hm,e0,e1⟩
  obtain⟨k1,k2,k3⟩:=hfew m hm
  by_cases hml:m<U.length
  ·obtain⟨y,hy⟩: ∃y,U[m]? =some y:=⟨U[m],List.getElem?_eq_getElem hml⟩
   have p1:=nlt hml
   have p2:=zab hml (by omega)
   have hnm:=zn9 (c:=c) (d:=d) (o:=o) hy
   have fb:=zjl env (upTo c d o U m) y (by omega) 27
   have f3:=zhO env c hc d y
   unfold zaw at f3
   rcases hUr y (List.mem_of_getElem? hy) with h0 | hyz
   ·have h1: ¬0<=y:=by omega
    rw [if_neg (fun q=>h1 q.1)] at hnm
    have F:=ai hy<|ai p1<|ai p2<|ai h1<|ai e0<|e1
    repeat (first | refine st ?_ | refine cC f1 ?_ | refine cC f3 ?_)
    refine⟨m+1,⟨hml,by simp only [go_sem,e0],by simp only [go_sem,e1]⟩, ?_, ?_,by omega⟩
    ·(simp only [go_sem,F])
    ·have F:=hnm
     (simp only [go_sem,F])
   ·have h1:=(zan.1 hyz).1
    cases hab:zax c d y with
    | false=>
      rw [hab] at f3 hnm
      rw [if_neg (by simp)] at hnm
      have F:=ai hy<|ai p1<|ai p2<|ai h1<|ai e0<|e1
      repeat (first | refine st ?_ | refine cC f1 ?_ | refine cC f3 ?_)
      refine⟨m+1,⟨hml,by simp only [go_sem,e0],by simp only [go_sem,e1]⟩, ?_, ?_,by omega⟩
      ·(simp only [go_sem,F])
      ·have F:=hnm
       (simp only [go_sem,F])
    | true=>
      rw [hab] at f3 hnm
      rw [if_pos ⟨h1,rfl⟩] at hnm
      generalize upTo c d o U m=a at*
      have F:=ai hy<|ai p1<|ai p2<|ai h1<|ai e0<|e1
      repeat (first | refine st ?_ | refine cC f1 ?_ | refine cC f3 ?_)
      refine zgD [(1000,7),(1001,9000)] (zik rfl (by simp only [go_sem,F]; exact iR)) (fb) (by decide) (by decide) (by simp only [go_sem,F]<;>rfl) (by simp only [go_sem,F,and_self]<;>trivial) (by simp only [go_sem,F,and_self]<;>trivial) (by intro o; simp only [go_sem,F,behind,and_self]<;>trivial) (by intro o; simp only [go_sem,F]<;>rfl) (by simp only [go_sem,F,behind]; exact iR) (by simp only [go_sem,F,behind]; exact iR) ?_
      repeat refine st ?_
      refine⟨m+1,⟨hml,by simp only [go_sem,e0],by simp only [go_sem,e1]⟩, ?_, ?_,by omega⟩
      ·(simp only [go_sem,F])
      ·have F:=hnm
       (simp only [go_sem,F])
  ·obtain rfl:m=U.length:=by omega
   have p1: ¬(U.length:Int)< (U.length:Int):=by omega
   have F:=ai p1<|ai q2<|ai e0<|e1
   repeat refine st ?_
   refine⟨j+1,⟨hlt,by simp only [go_sem,e0],by simp only [go_sem,e1]⟩, ?_, ?_,by omega⟩
   ·(simp only [go_sem,F])
   ·have F:=hn
    (simp only [go_sem,F])
 ·obtain rfl:j=l.length:=by omega
  have q1: ¬(l.length:Int)< (l.length:Int):=by omega
  show awp _ _ _ _ _ _
  have hall:upsTo c d l l.length=upsL c l d:=rfl
  rw [hall]
  have F:=ai q1<|ai e0<|e1
  repeat refine st ?_
  exact aR
end Go.Proofs.YtnbjaghjdeicmaaGreatDoor
set_option linter.unusedSimpArgs false
namespace Go.Proofs.YtnbjaghjdeicmaaGreatDoor
open Go.RowKit
set_option maxRecDepth 100000
set_option maxHeartbeats 16000000
theorem zj7 (l:List Int) (x:Int):zdi (l++[x])=zdi l++[[I x,I 1]]:=by unfold zdi; rw [List.map_append]; rfl
def zbX (L K:List Int) (j:Nat):List Int:=(K.take j).filter fun k=> !L.contains k
theorem znX {L K:List Int} {j:Nat} {x:Int} (h:K[j]? =some x):zbX L K (j+1)=if L.contains x=true then zbX L K j else zbX L K j++[x]:=by
 unfold zbX
 rw [List.take_add_one,h,List.filter_append]
 cases hb:L.contains x<;>simp only [List.filter_cons,hb,Bool.not_true,Bool.not_false,Bool.false_eq_true,if_true,if_false,List.filter_nil,List.append_nil,Option.toList_some]
theorem zqn {L K:List Int} {j:Nat} {x:Int} :x∈zbX L K j↔x∈K.take j/\x∉L:=by
 unfold zbX
 rw [List.mem_filter]
 simp
theorem zh2 {K:List Int} (hn:K.Nodup) {j:Nat} {x:Int} (h:K[j]? =some x):x∉K.take j:=fun hh=>by
 obtain⟨k,hk,e⟩:=List.mem_take_iff_getElem.1 hh
 obtain⟨hj,e2⟩:=List.getElem?_eq_some_iff.1 h
 have:=(List.getElem_inj hn (h₀:=by omega) (h₁:=hj)).1 (e.trans e2.symm)
 omega
theorem zqg {l:List Int} {k:Int} {i:Nat} (h:l[i]? =some k):(zdi l)[i]? =some [I k,I 1]:=by unfold zdi; rw [List.getElem?_map,h]; rfl
theorem zq8 (env:Env) (c:ChD) (h:Full c) (hs:Small c) (l:List Int) (hn:l.Nodup) (hz: ∀x∈l,inZ c x=true):Con Tryz.prog env 273 [zaU c, .seq 1 (l.map intAV)] (.seq 1 ((growL c l).map intAV)):=by
 have hc:=h.toRight
 have hlen:=hc.few
 have hl32:l.length<=32:=Nat.le_trans (zer hn hz) hlen
 have f0:=zca env c hs
 have w1:IntKind.i64.wrap (0+1)=1:=rfl
 have w2: ¬(0:Int)<0:=by omega
 have w3:(0:Int)<1:=by omega
 unfold zaU at f0 |-
 refine zaa Tryz.func273 rfl Tryz.call273 (by rw [Tryz.ntmps273]; simp) ?_
 rw [Tryz.ntmps273,Tryz.results273]
 repeat refine st0 ?_
 refine zqd ?_
 have F:=chAV.eq_1
 repeat (first | refine st ?_ | refine cC f0 ?_)
 refine zac (D:=Nat) (fun j vs=>[(0, .ref 9 [zaF c] 0 0),(1, .seq 1 (l.map intAV)),(5, .loc 5 (vs 5) 0 0),(6, .mp 18 (vs 18)),(19, .seq 1 (l.map intAV)),(20,I l.length),(21,I j)]) (fun j _=>[(5,⟨5,[chAV c],26,false⟩),(18,⟨0,zdi (l.take j),345,true⟩)]) (fun j _ _=>j<=l.length) (fun j=>l.length-j) 0 ?_ ?_ ?_ ?_
 ·exact Nat.zero_le _
 ·(simp only [go_sem,F])
  try rfl
 ·have F:=chAV.eq_1
  (simp only [go_sem,F])
  try rfl
 ·rintro j ws esc hj
  by_cases hlt:j<l.length
  ·obtain⟨x,hx⟩: ∃x,l[j]? =some x:=⟨l[j],List.getElem?_eq_getElem hlt⟩
   have q1:=nlt hlt
   have q2:=zab hlt (by omega)
   have hm:=zfq x (l.take j) 0
   rw [ze5 (zh2 hn hx)] at hm
   have ht:zdi (l.take (j+1))=zdi (l.take j)++[[I x,I 1]]:=by rw [List.take_add_one,hx]; exact zj7 _ _
   have F:=ai hx<|ai q1<|ai q2<|ai hm<|w1
   repeat refine st ?_
   refine⟨j+1,hlt, ?_, ?_,by omega⟩
   ·(simp only [go_sem,F])
   ·have F:=ht
    (simp only [go_sem,F])
  obtain rfl:j=l.length:=by omega
  have q1: ¬(l.length:Int)< (l.length:Int):=by omega
  rw [List.take_length]
  have F:=q1
  repeat refine st ?_
  refine zqe ?_
  show awp _ _ _ _ _ _
  repeat refine st ?_
  refine zac (D:=List Int×List Int) (fun d vs=>[(0, .ref 9 [zaF c] 0 0),(1, .seq 1 (d.1.map intAV)),(5, .loc 5 (vs 5) 0 0),(6, .mp 18 (vs 18)),(9, .seq 1 (d.2.map intAV))]) (fun d _=>[(5,⟨5,[chAV c],26,false⟩),(18,⟨0,zdi d.1,345,true⟩)])
   (fun d _ _=>Grown c l d.1 d.2/\d.1.Nodup/\zem c (missL c d.1+d.2.length) d.1 d.2=growL c l) (fun d=>missL c d.1+d.2.length) (l,l) ?_ ?_ ?_ ?_
  ·exact⟨zhc hn,hn,rfl⟩
  ·(simp only [go_sem,F])
   try rfl
  ·(simp only [go_sem,F])
   try rfl
  try clear hj hlt q1
  rintro⟨L,T⟩ ws esc ⟨hg,hLn,hgr⟩
  simp only at hg hLn hgr
  have hLz: ∀x∈L,inZ c x=true:=fun x hx=>(hg.gr x hx).in h hz
  have hL32:L.length<=32:=Nat.le_trans (zer hLn hLz) hlen
  have hT32:T.length<=32:=Nat.le_trans (zer hg.nd fun x hx=>hLz x (hg.todo x hx)) hlen
  cases T with
  | nil=>
    have hL:growL c l=L:=by
     rw [<-hgr]
     cases missL c L+([]:List Int).length<;>rfl
    rw [hL]
    have q1: ¬(0:Int)<0:=by omega
    have F:=q1
    repeat refine st ?_
    exact aR
  | cons i r=>
  have hi:=hg.todo i (by simp)
  obtain⟨k,s,rfl,hsk,hat⟩:=zfh (hLz i hi)
  have hk:=(List.getElem?_eq_some_iff.1 hsk).1
  have q1:(0:Int)< (((k:Int)::r).length:Int):=by simp only [List.length_cons]; omega
  have q2:((k:Nat):Int)< (c.states.length:Int):=by omega
  have q3:(((k:Int)::r).drop 1).take (((k:Int)::r).length-1)=r:=by simp
  have q4:(1:Int)<=(((k:Int)::r).length:Int):=by simp only [List.length_cons]; omega
  have q5:((k:Int)::r)[0]? =some (k:Int):=rfl
  have f1:=zb0 env c h k
  rw [if_pos (.inr (hLz _ hi)), <-zlR] at f1
  unfold zaU at f1
  have hKd:zL (kidsL c (k:Int) true)=kidZ c (k:Int):=rfl
  rw [hKd] at f1
  have hpl:=zqL hsk
  have hini:iniZ c (k:Int)=s.initial:=by unfold iniZ; rw [hat]
  have hstep:=hg.step h
  have hmiss:=zgr (c:=c) (l:=L) (zcv c L k) fun x hx=>⟨(zcK h hx).1,(zcK h hx).2.1⟩
  have hgr':zem c (missL c L+r.length) (L++addK c L k) (r++addK c L k)=growL c l:=by
   rw [<-hgr,List.length_cons,show missL c L+(r.length+1)=(missL c L+r.length)+1 by omega]
   rfl
  have hmore:zem c (missL c (L++addK c L k)+(r++addK c L k).length) (L++addK c L k) (r++addK c L k)=growL c l:=by
   rw [<-hgr']
   refine zj8 h hstep ?_ ?_
   ·exact Nat.le_refl _
   ·rw [List.length_append]; omega
  have hnext:(L++addK c L k).Nodup:=by
   rw [List.nodup_append]
   exact⟨hLn,zcv c L k,fun x hx y hy e=>(zcK h hy).1 (by rw [<-e]; exact hx)⟩
  have hmu:missL c (L++addK c L k)+(r++addK c L k).length<missL c L+((k:Int)::r).length:=by
   rw [List.length_append,List.length_cons]; omega
  generalize hKK:kidZ c (k:Int)=KK at*
  have hKn:KK.Nodup:=by rw [<-hKK]; exact zh6 c k
  have hK32:KK.length<=32:=by
   rw [<-hKK,kidZ,zlQ]; exact zcr hc k true
  have fin: ∀x:Int,x∉L->mfind Tryz.prog 3 (I x) (zdi L) 0=some none:=fun x hx=>by rw [zfq,ze5 hx]
  have fyes: ∀x:Int,x∈L-> ∃p,mfind Tryz.prog 3 (I x) (zdi L) 0=some (some p)/\(zdi L)[p]? =some [I x,I 1]:=fun x hx=>by
   obtain⟨p,h1,h2⟩:=zha (n:=0) hx
   exact⟨p,by rw [zfq,h1,Nat.zero_add],zqg h2⟩
  generalize hT:(k:Int)::r=T at*
  have F:=ai q1<|ai q2<|ai q3<|ai q4<|ai q5<|ai hsk<|ai chAV.eq_1<|stAV.eq_1
  repeat (first | refine st ?_ | refine cC f1 ?_)
  refine zsz (D:=List Int) (fun K vs=>[(0, .ref 9 [zaF c] 0 0),(1, .seq 1 (L.map intAV)),(5, .loc 5 (vs 5) 0 0),(6, .mp 18 (vs 18)),(9, .seq 1 (r.map intAV)),(11, .seq 1 (K.map intAV))]) (fun _ _=>[(5,⟨5,[chAV c],26,false⟩),(18,⟨0,zdi L,345,true⟩)]) (fun K _ _=>K=newK c L k) ?_ ?_
  ·refine zja ?_
   by_cases hk1:s.kind=1
   ·have b1:(s.kind==1)=true:=by simp [hk1]
    rw [b1] at hpl
    have F:=b1
    repeat refine st ?_
    refine zac (D:=Nat) (fun j vs=>[(0, .ref 9 [zaF c] 0 0),(1, .seq 1 (L.map intAV)),(5, .loc 5 (vs 5) 0 0),(6, .mp 18 (vs 18)),(9, .seq 1 (r.map intAV)),(10,I k),(49, .row 41 (vs 41)),(50,I KK.length),(51,I j)]) (fun _ _=>[(5,⟨5,[chAV c],26,false⟩),(18,⟨0,zdi L,345,true⟩),(41,⟨1,KK.map intAV,3,true⟩)]) (fun j _ _=>j<=KK.length/\ ∀m (y:Int),m<j->KK[m]? =some y->y∉L) (fun j=>KK.length-j) 0 ?_ ?_ ?_ ?_
    ·exact⟨Nat.zero_le _,fun m y hm=>absurd hm (by omega)⟩
    ·(simp only [go_sem,F])
     try rfl
    ·have F:=chAV.eq_1
     (simp only [go_sem,F])
     try rfl
    rintro j us es ⟨hj,hno⟩
    by_cases hlt:j<KK.length
    ·obtain⟨x,hx⟩: ∃x,KK[j]? =some x:=⟨KK[j],List.getElem?_eq_getElem hlt⟩
     have p1:=nlt hlt
     have p2:=zab hlt (by omega)
     by_cases hxL:x∈L
     ·obtain⟨p,m1,m2⟩:=fyes x hxL
      have hnk:addK c L k=[]:=by
       unfold addK newK
       rw [if_pos hpl,hKK,if_pos (List.any_eq_true.2 ⟨x,List.mem_of_getElem? hx,List.contains_iff_mem.2 hxL⟩)]
       rfl
      rw [hnk,List.append_nil,List.append_nil] at hmore hmu hstep
      have F:=ai hx<|ai p1<|ai p2<|ai m1<|ai m2<|w3
      repeat refine st ?_
      refine⟨_,Turned.refl _,(L,r),⟨hstep,hLn,hmore⟩, ?_, ?_,hmu⟩
      ·(simp only [go_sem,F])
      ·have F:=chAV.eq_1
       (simp only [go_sem,F])
     ·have m1:=fin x hxL
      have F:=ai hx<|ai p1<|ai p2<|ai m1<|w2
      repeat refine st ?_
      refine⟨j+1,⟨hlt,fun m y hm hy=> ?_⟩, ?_, ?_,by omega⟩
      ·rcases Nat.lt_succ_iff_lt_or_eq.1 hm with e | e
       ·exact hno m y e hy
       ·rw [e,hx] at hy; cases hy; exact hxL
      ·(simp only [go_sem,F])
      ·have F:=chAV.eq_1
       (simp only [go_sem,F])
    ·obtain rfl:j=KK.length:=by omega
     have p1: ¬(KK.length:Int)< (KK.length:Int):=by omega
     have hany:(kidZ c (k:Int)).any (fun k=>L.contains k)=false:=by
      rw [List.any_eq_false]
      intro y hy
      rw [hKK] at hy
      obtain⟨m,hm⟩:=List.mem_iff_getElem?.1 hy
      have:=hno m y (List.getElem?_eq_some_iff.1 hm).1 hm
      simpa using this
     by_cases h0:0<=s.initial
     ·have hnew:newK c L k=[s.initial]:=by
       unfold newK
       rw [if_pos hpl,if_neg (by rw [hany]; simp),hini,if_pos h0]
      have F:=ai p1<|ai h0<|ai q2<|ai hsk<|ai chAV.eq_1<|stAV.eq_1
      repeat refine st ?_
      refine⟨_,Turned.frozen 73 11 ⟨1,[[I s.initial]],3,true⟩ rfl (Nat.succ_ne_zero 0) (by simp only [go_sem]) (by simp only [go_sem]),[s.initial],hnew.symm, ?_, ?_⟩
      ·(simp only [go_sem,F])
      ·have F:=chAV.eq_1
       (simp only [go_sem,F])
     ·have hnew:newK c L k=[]:=by
       unfold newK
       rw [if_pos hpl,if_neg (by rw [hany]; simp),hini,if_neg h0]
      have F:=ai p1<|ai h0<|ai q2<|ai hsk<|ai chAV.eq_1<|stAV.eq_1
      repeat refine st ?_
      refine⟨_,Turned.nil 11 1 (by simp only [go_sem]),[],hnew.symm, ?_, ?_⟩
      ·(simp only [go_sem,F])
      ·have F:=chAV.eq_1
       (simp only [go_sem,F])
   ·have b1:(s.kind==1)=false:=by simpa using hk1
    rw [b1] at hpl
    have hnew:newK c L k=KK:=by
     unfold newK
     rw [if_neg (by rw [hpl]; simp),hKK]
    have F:=b1
    repeat refine st ?_
    refine⟨_,Turned.frozen 41 11 ⟨1,KK.map intAV,3,true⟩ rfl (Nat.succ_ne_zero 0) (by simp only [go_sem]) (by simp only [go_sem]),KK,hnew.symm, ?_, ?_⟩
    ·(simp only [go_sem,F])
    ·have F:=chAV.eq_1
     (simp only [go_sem,F])
  ·intro K us es hK
   have hKn2:K.Nodup:=by rw [hK]; exact zh3 c L k
   have hKz: ∀x∈K,inZ c x=true:=fun x hx=>by
    rw [hK] at hx
    exact(zfu hc (zmc h hx)).1
   have hK32b:K.length<=32:=Nat.le_trans (zer hKn2 hKz) hlen
   have hadd:zbX L K K.length=addK c L k:=by unfold zbX addK; rw [List.take_length,hK]
   have hr32:r.length<=32:=by rw [<-hT,List.length_cons] at hT32; omega
   repeat (first | refine oO rfl (by simp only [go_sem,chAV]; exact⟨rfl,rfl⟩) ?_ | refine gR ?_ | refine gO ?_ | refine oZ (zaA ?_) | refine oZ ?_ | refine oS ?_ | refine gT ?_ | refine gD Tryz.mixed ?_ | refine oB ?_ | refine oK ?_ | (refine oX ?_; simp only [zao,zag, ↓reduceIte,Nat.reduceEqDiff,reduceCtorEq]) | refine oY (by simp only [go_sem,chAV]; exact iR) ?_ | refine oN (by simp only [go_sem,chAV]; exact iR) ?_)
   refine zac (D:=Nat) (fun j vs=>[(0, .ref 9 [zaF c] 0 0),(1, .seq 1 ((L++zbX L K j).map intAV)),(5, .loc 5 (vs 5) 0 0),(6, .mp 18 (vs 18)),(9, .seq 1 ((r++zbX L K j).map intAV)),(74, .seq 1 (K.map intAV)),(75,I K.length),(76,I j)]) (fun j _=>[(5,⟨5,[chAV c],26,false⟩),(18,⟨0,zdi (L++zbX L K j),345,true⟩)]) (fun j _ _=>j<=K.length) (fun j=>K.length-j) 0 ?_ ?_ ?_ ?_
   ·exact Nat.zero_le _
   ·have:zbX L K 0=[]:=rfl
    rw [this,List.append_nil,List.append_nil]
    (simp only [go_sem,chAV])
    try rfl
   ·have:zbX L K 0=[]:=rfl
    rw [this,List.append_nil]
    (simp only [go_sem,chAV])
    try rfl
   rintro j us es hj
   by_cases hlt:j<K.length
   ·obtain⟨x,hx⟩: ∃x,K[j]? =some x:=⟨K[j],List.getElem?_eq_getElem hlt⟩
    have p1:=nlt hlt
    have p2:=zab hlt (by omega)
    have hnx:=znX (L:=L) hx
    have hal:(zbX L K j).length<=32:=Nat.le_trans (List.length_filter_le ..) (by rw [List.length_take]; omega)
    refine zja ?_
    by_cases hxL:x∈L
    ·rw [if_pos (List.contains_iff_mem.2 hxL)] at hnx
     obtain⟨p,m1,m2⟩:=zha (n:=0) (show x∈L++zbX L K j from List.mem_append_left _ hxL)
     have m3:=zfq x (L++zbX L K j) 0
     rw [m1,Nat.zero_add] at m3
     have m4:=zqg m2
     have F:=ai hx<|ai p1<|ai p2<|ai m3<|m4
     repeat refine st ?_
     refine⟨_,Turned.refl _,j+1,hlt, ?_, ?_,by omega⟩
     ·have F:=hnx
      (simp only [go_sem,F])
     ·have F:=ai hnx<|chAV.eq_1
      (simp only [go_sem,F])
    ·have hxn:x∉L++zbX L K j:=fun hh=>by
      rcases List.mem_append.1 hh with hh | hh
      ·exact hxL hh
      ·exact zh2 hKn2 hx (zqn.1 hh).1
     rw [if_neg (by simpa using hxL)] at hnx
     have m3:=zfq x (L++zbX L K j) 0
     rw [ze5 hxn] at m3
     have e1:zdi (L++zbX L K (j+1))=zdi (L++zbX L K j)++[[I x,I 1]]:=by rw [hnx, <-List.append_assoc]; exact zj7 _ _
     have e2:L++zbX L K (j+1)=(L++zbX L K j)++[x]:=by rw [hnx,List.append_assoc]
     have e3:r++zbX L K (j+1)=(r++zbX L K j)++[x]:=by rw [hnx,List.append_assoc]
     have hf1:Fits ((L++zbX L K j).length+1) 8:=zar (by rw [List.length_append]; omega) (by omega)
     have hf2:Fits ((r++zbX L K j).length+1) 8:=zar (by rw [List.length_append]; omega) (by omega)
     generalize hA:L++zbX L K j=A at*
     generalize hB:r++zbX L K j=B at*
     have F:=ai hx<|ai p1<|ai p2<|ai m3<|ai w1<|ai hf1<|hf2
     repeat refine st ?_
     refine⟨_,(Turned.frozen 96 1 ⟨1,(A++[x]).map intAV,3,true⟩ rfl (Nat.succ_ne_zero 0) (by simp only [go_sem,List.map_append]) (by simp only [go_sem])).trans (Turned.frozen 105 9 ⟨1,(B++[x]).map intAV,3,true⟩ rfl (Nat.succ_ne_zero 0) (by simp only [go_sem,List.map_append]) (by simp only [go_sem])),j+1,hlt, ?_, ?_,by omega⟩
     ·have F:=ai e2<|e3
      (simp only [go_sem,F])
     ·have F:=ai e1<|chAV.eq_1
      (simp only [go_sem,F])
   ·obtain rfl:j=K.length:=by omega
    have p1: ¬(K.length:Int)< (K.length:Int):=by omega
    rw [hadd]
    have F:=p1
    repeat refine st ?_
    refine⟨(L++addK c L k,r++addK c L k),⟨hstep,hnext,hmore⟩, ?_, ?_,hmu⟩
    ·(simp only [go_sem,F])
    ·have F:=chAV.eq_1
     (simp only [go_sem,F])
end Go.Proofs.YtnbjaghjdeicmaaGreatDoor
namespace Go.Proofs.YtnbjaghjdeicmaaGreatDoor
open Go.RowKit
theorem zhw {c:ChD} {d x:Int} (h:zax c d x=true):inZ c x=true:=by
 cases hh:inZ c x with
 | true=>rfl
 | false=>unfold zax at h; rw [zcw hh] at h; simp at h
end Go.Proofs.YtnbjaghjdeicmaaGreatDoor
set_option linter.unusedSimpArgs false
namespace Go.Proofs.YtnbjaghjdeicmaaGreatDoor
open Go.RowKit
set_option maxRecDepth 100000
set_option maxHeartbeats 16000000
abbrev memsAV (l:List MemD):AV:= .seq 2 (l.map mmAV)
theorem zq7 {c:ChD} (h:Full c) {l:List Int} (hn:l.Nodup) (hz: ∀x∈l,inZ c x=true):(growL c l).length<=32:=by
 refine Nat.le_trans (zer (zeF c _ _ _ hn) fun x hx=> ?_) h.toRight.few
 exact((zef h hn).1 hx).in h hz
end Go.Proofs.YtnbjaghjdeicmaaGreatDoor
set_option linter.unusedSimpArgs false
namespace Go.Proofs.YtnbjaghjdeicmaaGreatDoor
open Go.RowKit
set_option maxRecDepth 100000
set_option maxHeartbeats 16000000
end Go.Proofs.YtnbjaghjdeicmaaGreatDoor
set_option linter.unusedSimpArgs false
namespace Go.Proofs.YtnbjaghjdeicmaaGreatDoor
open Go.RowKit
set_option maxRecDepth 100000
set_option maxHeartbeats 16000000
end Go.Proofs.YtnbjaghjdeicmaaGreatDoor
set_option linter.unusedSimpArgs false
namespace Go.Proofs.YtnbjaghjdeicmaaGreatDoor
open Go.RowKit
set_option maxRecDepth 100000
set_option maxHeartbeats 16000000
def ztl (G act:List Int):List Int:=act.filter fun i=> !G.contains i
def moved (G act:List Int) (T:List Nat):List Int:=Lib.compact (ztm (ztl G act++zL T))
end Go.Proofs.YtnbjaghjdeicmaaGreatDoor
set_option linter.unusedSimpArgs false
namespace Go.Proofs.YtnbjaghjdeicmaaGreatDoor
open Go.RowKit Go.ChangeShapes
theorem Tryz.tabArr:Tryz.prog.underlying 317=some (.array 32 5):=by kernel_rfl
theorem zsv:Tryz.prog.cellsOf 5=1:=by kernel_rfl
theorem zsJ {W:World} {g t:Nat} {cs:Array Value} {fuel:Nat} {p:List MemPlace} (hg:Tryz.prog.globalNamed "math/bits.deBruijn32tab" =some g) (ht:(Tryz.prog.globals[g]?).map (·.type)=some t) (hv:W.var? Tryz.prog "math/bits.deBruijn32tab" =some cs)
 (hd:DataW.trod (fun _=>()) Tryz.prog W 0 (fun _=>true) false fuel t cs.toList=some (Rows.laid_math_bits_deBruijn32tab,p)):TabAt W:=by
 obtain rfl:10=g:=Option.some.inj ((show Tryz.prog.globalNamed "math/bits.deBruijn32tab" =some 10 by kernel_rfl).symm.trans hg)
 obtain rfl:317=t:=Option.some.inj ((show (Tryz.prog.globals[10]?).map (·.type)=some 317 by kernel_rfl).symm.trans ht)
 obtain⟨xs,m,_,hx,_,hxl,hgx⟩:=DataW.trod_array Tryz.tabArr hd
 simp only [Prod.mk.injEq] at hx
 intro j hj
 have h1:=hgx j hj
 rw [zsv,Nat.mul_one] at h1
 have hjx:xs[j]? =some (xs[j]'(by omega)):=List.getElem?_eq_getElem _
 rw [hjx] at h1
 obtain⟨nn,e1,e2,_⟩:=DataW.trod_int Tryz.underlying5 h1
 have hcell:cs[j]? =some (.int .u8 nn):=by
  have:((cs.toList.drop j).take 1)[0]? =some (.int .u8 nn):=by rw [e1]; rfl
  rw [List.getElem?_take,if_pos (by omega),List.getElem?_drop,Nat.add_zero] at this
  simpa using this
 have hval:(Rows.laid_math_bits_deBruijn32tab:DataW Unit)= .agg (xs.map (·.1)):=hx.1
 have hlist:(xs.map (·.1))[j]? =(Lib.deBruijn32tab.map fun(k:Nat)=>DataW.lit (H:=Unit) (.int .u8 (k:Int)))[j]? :=by
  have e:(Lib.deBruijn32tab.map fun(k:Nat)=>DataW.lit (H:=Unit) (.int .u8 (k:Int)))=xs.map (·.1):=by
   have:DataW.agg (Lib.deBruijn32tab.map fun(k:Nat)=>DataW.lit (H:=Unit) (.int .u8 (k:Int)))=DataW.agg (xs.map (·.1)):=by
    rw [<-hval]
    rfl
   injection this
  rw [e]
 rw [List.getElem?_map,hjx,List.getElem?_map] at hlist
 have hdb:Lib.deBruijn32tab[j]? =some (Lib.deBruijn32tab.getD j 0):=by
  have:j<Lib.deBruijn32tab.length:=by simpa [Lib.deBruijn32tab] using hj
  simp [List.getD,List.getElem?_eq_getElem this]
 rw [hdb] at hlist
 simp only [Option.map_some,Option.some.injEq,e2] at hlist
 have hn:nn=((Lib.deBruijn32tab.getD j 0:Nat):Int):=by
  have:=hlist
  injection this with this
  injection this
 rw [World.var?_cell hg hv j,hcell,hn]
theorem zrs {P:Program} {env:Env} {f:FuncId} {cs:List AV} {u:Value} {w:World} {vs:List Value} (h:Con P env f cs (.lit u)) (hE:EnvOk env (fun b _=>b<w.heap.size) w) (hv:RAs (fun b _=>b<w.heap.size) w vs cs):
 Calls P f vs.toArray w fun e w'=>e= .returned u/\Below w.heap.size w w':=(zrt h hE (fun _ _ _=>by simp) hv).mono (by
 rintro e w' ⟨v,rfl,hb,_,hv⟩
 exact⟨by rw [hv.lit_inv],hb⟩)
end Go.Proofs.YtnbjaghjdeicmaaGreatDoor
set_option linter.unusedSimpArgs false
namespace Go.Proofs.YtnbjaghjdeicmaaGreatDoor
open Go.RowKit Go.ChangeShapes
theorem zpe {W:World} (h:laidMetH Tryz.prog [("math/bits.deBruijn32tab",Rows.laid_math_bits_deBruijn32tab),("scrinium/api.ErrForm",Rows.laid_scrinium_api_ErrForm),("scrinium/api.ErrRange",Rows.laid_scrinium_api_ErrRange),("scrinium/api.ErrFull",Rows.laid_scrinium_api_ErrFull),("scrinium/api.ErrNone",Rows.laid_scrinium_api_ErrNone),("scrinium/api.ErrCorrupt",Rows.laid_scrinium_api_ErrCorrupt),("scrinium/api.ErrFuel",Rows.laid_scrinium_api_ErrFuel),("scrinium/api.ErrState",Rows.laid_scrinium_api_ErrState),("scrinium/api.ErrLong",Rows.laid_scrinium_api_ErrLong),("scrinium/api.ErrTwice",Rows.laid_scrinium_api_ErrTwice)] W):(∃ad,Sents W ad)/\TabAt W:=by
 rw [MakeChecks.laidMetH_plain _ _ _ (by kernel_rfl)] at h
 obtain⟨ps,hv,hnd,hrows⟩:=h
 obtain⟨g0,t0,cs0,f0,p0,q0,hg0,ht0,hv0,hd0,hrest,rfl⟩:=hv
 refine⟨ziC ?_,zsJ hg0 ht0 hv0 hd0⟩
 rw [MakeChecks.laidMetH_plain _ _ _ (by kernel_rfl)]
 exact⟨q0,hrest,(List.nodup_append.1 hnd).2.1,fun b off hh=>hrows b off (List.mem_append_right _ hh)⟩
def zbZ:More:=⟨fun w=>TabAt w,fun _ _ h hb=>TabAt.below h hb⟩
theorem zq1 (ad:Nat->Addr):ChEnv (zbP ad zbZ) (ad 1) (ad 8):=⟨rfl,rfl⟩
theorem zpa (ad:Nat->Addr): ∀W,(zbP ad zbZ).inv W->TabAt W:=fun _ h=>h.2
end Go.Proofs.YtnbjaghjdeicmaaGreatDoor
set_option linter.unusedSimpArgs false
namespace Go.Proofs.YtnbjaghjdeicmaaGreatDoor
open Go.RowKit
set_option maxRecDepth 100000
set_option maxHeartbeats 8000000
end Go.Proofs.YtnbjaghjdeicmaaGreatDoor
set_option linter.unusedSimpArgs false
namespace Go.Proofs.YtnbjaghjdeicmaaGreatDoor
open Go.RowKit
set_option maxRecDepth 100000
set_option maxHeartbeats 16000000
theorem zh7 (env:Env) (x:Int):Con Tryz.prog env 334 [I x] (B false):=by
 have e1:(x==x)=true:=by simp
 refine zaa Tryz.func334 rfl Tryz.call334 (by rw [Tryz.ntmps334]; simp) ?_
 rw [Tryz.ntmps334,Tryz.results334]
 have F:=ai e1<|bneA
 repeat refine st ?_
 exact aR
theorem zpc (env:Env) (x y:Int):Con Tryz.prog env 318 [I x,I y] (B (decide (x<y))):=by
 have f0:=zh7 env x
 have f1:=zh7 env y
 by_cases h:x<y
 ·rw [decide_eq_true h]
  refine zaa Tryz.func318 rfl Tryz.call318 (by rw [Tryz.ntmps318]; simp) ?_
  rw [Tryz.ntmps318,Tryz.results318]
  have F:=h
  repeat (first | refine st ?_ | refine cC f0 ?_ | refine cC f1 ?_)
  exact aR
 ·rw [decide_eq_false h]
  refine zaa Tryz.func318 rfl Tryz.call318 (by rw [Tryz.ntmps318]; simp) ?_
  rw [Tryz.ntmps318,Tryz.results318]
  have F:=h
  repeat (first | refine st ?_ | refine cC f0 ?_ | refine cC f1 ?_)
  exact aR
theorem zk3 {l:List Int} {n:Nat} (h: ∀j,n<=j->j<l.length->zdS l j=true) (hn:n<=1):zdD l=true:=by
 unfold zdD
 rw [List.all_eq_true]
 intro j hj
 have hj:=List.mem_range.1 hj
 by_cases h0:n<=j
 ·exact h j h0 hj
 ·obtain rfl:j=0:=by omega
  rfl
theorem zm5 {l:List Int} {j:Nat} (hj:j<l.length) (h:zdS l j=false):zdD l=false:=by
 unfold zdD
 rw [List.all_eq_false]
 exact⟨j,List.mem_range.2 hj,by rw [h]; simp⟩
theorem zj0 (env:Env) (l:List Int) (hl:l.length<=9223372036854775807):Con Tryz.prog env 284 [.seq 1 (l.map intAV)] (B (zdD l)):=by
 have w0:IntKind.i64.wrap ((l.length:Int)-1)=(l.length:Int)-1:=IntWalk.i64_in _ (by omega)
 refine zaa Tryz.func284 rfl Tryz.call284 (by rw [Tryz.ntmps284]; simp) ?_
 rw [Tryz.ntmps284,Tryz.results284]
 have F:=w0
 repeat refine st ?_
 refine zac (D:=Nat) (fun j vs=>[(0, .seq 1 (l.map intAV)),(3,I ((l.length:Int)-1-(j:Int)))]) (fun _ _=>[]) (fun j _ _=>j<=l.length/\ ∀m,l.length-j<=m->m<l.length->zdS l m=true) (fun j=>l.length-j) 0 ?_ ?_ ?_ ?_
 ·exact⟨Nat.zero_le _,fun m h1 h2=>absurd h2 (by omega)⟩
 ·(simp only [go_sem,Int.sub_zero])
  try rfl
 ·(simp only [go_sem,Int.sub_zero])
  try rfl
 rintro j ws esc ⟨hj,hall⟩
 by_cases hlt:0< (l.length:Int)-1-(j:Int)
 ·have hi: ∃i:Nat,(l.length:Int)-1-(j:Int)=(i:Int)/\i+j+1=l.length:=⟨l.length-1-j,by omega,by omega⟩
  obtain⟨i,e1,e2⟩:=hi
  have h1:i<l.length:=by omega
  have h2:i-1<l.length:=by omega
  have x1:l[i]? =some (l.getD i 0):=by rw [List.getD_eq_getElem?_getD,List.getElem?_eq_getElem h1]; rfl
  have x2:l[i-1]? =some (l.getD (i-1) 0):=by rw [List.getD_eq_getElem?_getD,List.getElem?_eq_getElem h2]; rfl
  have e3:IntKind.i64.wrap ((i:Int)-1)=((i-1:Nat):Int):=by rw [IntWalk.i64_in _ (by omega)]; omega
  have q1:(0:Int)< (i:Int):=by omega
  have q2:(i:Int)< (l.length:Int):=by omega
  have q3:((i-1:Nat):Int)< (l.length:Int):=by omega
  have hd:zdS l i=decide (¬l.getD i 0<l.getD (i-1) 0):=by
   unfold zdS
   rw [show (i==0)=false by simp; omega,Bool.false_or]
  rw [e1]
  generalize hX:l.getD i 0=X at*
  generalize hY:l.getD (i-1) 0=Y at*
  have f0:=zpc env X Y
  by_cases hb:X<Y
  ·rw [decide_eq_true hb] at f0
   rw [zm5 h1 (by rw [hd,decide_eq_false (by simpa using hb)])]
   have F:=ai q1<|ai q2<|ai q3<|ai x1<|ai x2<|e3
   repeat (first | refine st ?_ | refine cC f0 ?_)
   exact aR
  ·rw [decide_eq_false hb] at f0
   have e4:(l.length:Int)-1-((j+1:Nat):Int)=((i-1:Nat):Int):=by omega
   have F:=ai q1<|ai q2<|ai q3<|ai x1<|ai x2<|e3
   repeat (first | refine st ?_ | refine cC f0 ?_)
   refine⟨j+1,⟨by omega,fun m g1 g2=> ?_⟩, ?_, ?_,by omega⟩
   ·by_cases hm:m=i
    ·rw [hm,hd,decide_eq_true hb]
    ·exact hall m (by omega) g2
   ·have F:=e4
    (simp only [go_sem,F])
   ·(simp only [go_sem,e4])
 ·rw [zk3 (n:=l.length-j) hall (by omega)]
  have F:=hlt
  repeat refine st ?_
  exact aR
theorem znM (env:Env) (c:ChD) (h:Full c) (hs:Small c) (parent:Int) (l:List Int) (hl:l.length<=1000000) (hz: ∀x∈l,inZ c x=true):Con Tryz.prog env 286 [zaU c,I parent, .seq 1 (l.map intAV)] (B (l.all (zbr c l))):=by
 have f0:=zca env c hs
 unfold zaU at f0 |-
 refine zaa Tryz.func286 rfl Tryz.call286 (by rw [Tryz.ntmps286]; simp) ?_
 rw [Tryz.ntmps286,Tryz.results286]
 have F:=chAV.eq_1
 repeat (first | refine st ?_ | refine cC f0 ?_)
 refine zac (D:=Nat) (fun j vs=>[(0, .ref 9 [zaF c] 0 0),(2, .seq 1 (l.map intAV)),(7, .loc 7 (vs 7) 0 0),(16, .seq 1 (l.map intAV)),(17,I l.length),(18,I j)]) (fun _ _=>[(7,⟨5,[chAV c],26,false⟩)]) (fun j _ _=>j<=l.length/\ ∀m (y:Int),m<j->l[m]? =some y->zbr c l y=true) (fun j=>l.length-j) 0 ?_ ?_ ?_ ?_
 ·exact⟨Nat.zero_le _,fun m y hm=>absurd hm (by omega)⟩
 ·(simp only [go_sem,F])
  try rfl
 ·have F:=chAV.eq_1
  (simp only [go_sem,F])
  try rfl
 rintro j ws esc ⟨hj,hall⟩
 by_cases hlt:j<l.length
 ·obtain⟨x,hx⟩: ∃x,l[j]? =some x:=⟨l[j],List.getElem?_eq_getElem hlt⟩
  have q1:=nlt hlt
  have q2:=zab hlt (by omega)
  have hxl:=List.mem_of_getElem? hx
  obtain⟨k,s,rfl,hsk,hat⟩:=zfh (hz x hxl)
  have hk:=(List.getElem?_eq_some_iff.1 hsk).1
  have q3:((k:Nat):Int)< (c.states.length:Int):=by omega
  have f1:=zb0 env c h k
  rw [if_pos (.inr (hz _ hxl))] at f1
  have hcv:zbr c l (k:Int)= !(((s.kind==1)&&decide (1<manyI l (kidsL c k true)))||((s.kind==4)||(s.kind==5))):=by unfold zbr; rw [hat]
  have hK:=zcr h.toRight k true
  have hlen:=h.few
  unfold zaU at f1
  generalize kidsL c (k:Int) true=K at*
  have F:=ai hx<|ai q1<|q2
  repeat (first | refine st ?_ | refine cC f1 ?_)
  refine zac (D:=Nat) (fun m vs=>[(0, .ref 9 [zaF c] 0 0),(2, .seq 1 (l.map intAV)),(7, .loc 7 (vs 7) 0 0),(9,I k),(10,I (manyI l (K.take m):Nat)),(16, .seq 1 (l.map intAV)),(17,I l.length),(18,I j),(24, .row 24 (vs 24)),(25,I K.length),(26,I m)]) (fun _ _=>[(7,⟨5,[chAV c],26,false⟩),(24,⟨1,K.map zaj,3,true⟩)]) (fun m _ _=>m<=K.length) (fun m=>K.length-m) 0 ?_ ?_ ?_ ?_
  ·exact Nat.zero_le _
  ·(simp only [go_sem,F])
   try rfl
  ·have F:=chAV.eq_1
   (simp only [go_sem,F])
   try rfl
  rintro m us es hm
  by_cases hml:m<K.length
  ·obtain⟨y,hy⟩: ∃y,K[m]? =some y:=⟨K[m],List.getElem?_eq_getElem hml⟩
   have p1:=nlt hml
   have p2:=zab hml (by omega)
   have f2:=zdm env l (y:Int) hl
   have hmt:=zln (act:=l) hy
   have hle:=zlo l (K.take m)
   rw [List.length_take] at hle
   have p3:=zab (show manyI l (K.take m)<K.length by omega) (by omega)
   cases hb:l.contains (y:Int) with
   | true=>
     rw [hb] at f2 hmt
     rw [if_pos rfl] at hmt
     have F:=ai zaj.eq_1<|ai hy<|ai p1<|ai p2<|p3
     repeat (first | refine st ?_ | refine cC f2 ?_)
     refine⟨m+1,hml, ?_, ?_,by omega⟩
     ·have F:=hmt
      (simp only [go_sem,F])
     ·have F:=chAV.eq_1
      (simp only [go_sem,F])
   | false=>
     rw [hb] at f2 hmt
     rw [if_neg Bool.false_ne_true,Nat.add_zero] at hmt
     have F:=ai zaj.eq_1<|ai hy<|ai p1<|p2
     repeat (first | refine st ?_ | refine cC f2 ?_)
     refine⟨m+1,hml, ?_, ?_,by omega⟩
     ·have F:=hmt
      (simp only [go_sem,F])
     ·have F:=chAV.eq_1
      (simp only [go_sem,F])
  ·obtain rfl:m=K.length:=by omega
   have p1: ¬(K.length:Int)< (K.length:Int):=by omega
   rw [List.take_length]
   generalize manyI l K=N at*
   cases hC:zbr c l (k:Int) with
   | false=>
     rw [show l.all (zbr c l)=false from List.all_eq_false.2 ⟨_,hxl,by rw [hC]; simp⟩]
     cases h1:(s.kind==1)<;>cases h4:(s.kind==4)<;>cases h5:(s.kind==5)<;>by_cases hn:(1:Int)< (N:Int)
     all_goals first
      |(exfalso; have hn':(1<N)=((1:Int)< (N:Int)):=(by simp; omega); simp [hcv,h1,h4,h5,hn',hn] at hC; done)
      | skip
     all_goals
      have F:=ai chAV.eq_1<|ai stAV.eq_1<|ai hsk<|ai p1<|ai q3<|ai h1<|ai h4<|ai h5<|hn
      repeat refine st ?_
      exact aR
   | true=>
     cases h1:(s.kind==1)<;>cases h4:(s.kind==4)<;>cases h5:(s.kind==5)<;>by_cases hn:(1:Int)< (N:Int)
     all_goals first
      |(exfalso; have hn':(1<N)=((1:Int)< (N:Int)):=(by simp; omega); simp [hcv,h1,h4,h5,hn',hn] at hC; done)
      | skip
     all_goals
      have F:=ai chAV.eq_1<|ai stAV.eq_1<|ai hsk<|ai p1<|ai q2<|ai q3<|ai h1<|ai h4<|ai h5<|hn
      repeat refine st ?_
      refine⟨j+1,⟨hlt,fun m y hm hy=> ?_⟩, ?_, ?_,by omega⟩
      ·rcases Nat.lt_succ_iff_lt_or_eq.1 hm with e | e
       ·exact hall m y e hy
       ·rw [e,hx] at hy; cases hy; exact hC
      ·(simp only [go_sem,F])
      ·have F:=chAV.eq_1
       (simp only [go_sem,F])
 ·obtain rfl:j=l.length:=by omega
  have q1: ¬(l.length:Int)< (l.length:Int):=by omega
  rw [show l.all (zbr c l)=true from List.all_eq_true.2 fun y hy=>by
   obtain⟨m,hm⟩:=List.mem_iff_getElem?.1 hy
   exact hall m y (List.getElem?_eq_some_iff.1 hm).1 hm]
  have F:=q1
  repeat refine st ?_
  exact aR
end Go.Proofs.YtnbjaghjdeicmaaGreatDoor
