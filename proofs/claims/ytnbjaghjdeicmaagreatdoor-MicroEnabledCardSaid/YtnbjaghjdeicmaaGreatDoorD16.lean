/- scriniumref24.State: by the walk without memory. -/
import Derived.Test.YtnbjaghjdeicmaaGreatDoorD15
import Derived.Test.YtnbjaghjdeicmaaGreatDoorD8
import Derived.Test.YtnbjaghjdeicmaaGreatDoorD6
import Derived.Test.YtnbjaghjdeicmaaGreatDoorD13
set_option maxRecDepth 100000
set_option maxHeartbeats 8000000
set_option linter.unusedSimpArgs false
namespace Go.Proofs.YtnbjaghjdeicmaaGreatDoor
open Go.RowKit
section
def zci (c:ChD) (j:Nat) (vs:Nat->Nat):List (List AV):=(keysTo c j).mapIdx fun q p=>[.agg [I p.1,I p.2], .row (q+6000) (vs (q+6000))]
def keyRows (c:ChD) (j:Nat):List Row:=(keysTo c j).map fun p=>⟨1,(zes c j p).map zad,3,true⟩
def zco (c:ChD):List (List AV):=(keysTo c c.trans.length).map fun p=>[.agg [I p.1,I p.2], .seq 1 ((zes c c.trans.length p).map zad)]
def begE (c:ChD) (j:Nat):List (List AV):=(List.range j).map fun i=>[.seq 1 ((sbL c i).map zad)]
def tabCells (c:ChD):List AV:=[Sg c.name,I c.initial,varsAV c.vars,stsAV c.states,trsAV c.trans,zaq c, .seq 1 ((evL c).map zc0), .fmap (zco c), .seq 1 (begE c c.states.length)]
def zaj (c:ChD):AV:= .ref 9 [tabCells c] 0 0
theorem zdb (c:ChD) (j:Nat) (vs:Nat->Nat):(zci c j vs).length=(keysTo c j).length:=by simp [zci]
theorem zb9 (c:ChD) (j:Nat) (vs:Nat->Nat) (q:Nat):(zci c j vs)[q]? =((keysTo c j)[q]?).map fun p=>[.agg [I p.1,I p.2], .row (q+6000) (vs (q+6000))]:=by simp [zci]
theorem zba (c:ChD) (j q:Nat):(keyRows c j)[q]? =((keysTo c j)[q]?).map fun p=>⟨1,(zes c j p).map zad,3,true⟩:=by simp [keyRows]
theorem zlX (p:Int×Int) (f:Nat->AV): ∀(l:List (Int×Int)) (i:Nat),mfind Tryz.prog 108 (.agg [I p.1,I p.2]) (l.mapIdx fun q k=>[.agg [I k.1,I k.2],f q]) i=some (idxP p l i)
 | [],i=>rfl
 |(a,b)::l,i=>by
   have ih:=zlX p (fun q=>f (q+1)) l (i+1)
   obtain⟨kn,ks⟩:=p
   rw [List.mapIdx_cons]
   by_cases h:kn=a/\ks=b
   ·obtain⟨rfl,rfl⟩:=h
    have e1:(kn==kn)=true:=by simp
    have e2:(ks==ks)=true:=by simp
    simp only [go_sem,eqFs,zby,e1,e2,idxP]
   ·have e1:(kn==a&&(ks==b))=false:=by
     rw [Bool.eq_false_iff]
     intro e
     simp only [Bool.and_eq_true,beq_iff_eq] at e
     exact h e
    have e2: ¬((kn,ks):Int×Int)=(a,b):=fun e=>h (by simpa using e)
    simp only at ih
    simp only [go_sem,eqFs,zby,e1,idxP,e2,ih]
theorem zql (c:ChD) (j:Nat) (vs:Nat->Nat) (a b:Int):mfind Tryz.prog 108 (.agg [I a,I b]) (zci c j vs) 0=some (idxP (a,b) (keysTo c j) 0):=zlX (a,b) (fun q=> .row (q+6000) (vs (q+6000))) (keysTo c j) 0
theorem zqm (c:ChD) (a b:Int):mfind Tryz.prog 108 (.agg [I a,I b]) (zco c) 0=some (idxP (a,b) (keysTo c c.trans.length) 0):=by
 have:zco c=(keysTo c c.trans.length).mapIdx fun q k=>[.agg [I k.1,I k.2],((zco c)[q]?.bind (·[1]?)).getD .any]:=by
  apply List.ext_getElem?
  intro q
  rw [List.getElem?_mapIdx]
  unfold zco
  rw [List.getElem?_map]
  cases (keysTo c c.trans.length)[q]? with
  | none=>rfl
  | some p=>rfl
 rw [this]
 exact zlX (a,b) _ _ 0
/-! The state at the head of the loop -/
def boxA (c:ChD) (g:Nat->Nat):Row:=⟨9,[[Sg c.name,I c.initial,varsAV c.vars,stsAV c.states,trsAV c.trans,zaq c, .seq 1 ((evL c).map zc0), .mp 25 (g 25),nilS]],105,false⟩
def RA (c:ChD) (j:Nat) (g:Nat->Nat):List (Nat×Row):=(1,⟨5,[chAV c],26,false⟩)::(27,boxA c g)::(25,⟨0,zci c j g,102,false⟩)::rowsAt 6000 (keyRows c j)
theorem zhB (c:ChD) (j:Nat) (q:Nat):zaI (rowsAt 6000 (keyRows c j)) (q+6000)=(keyRows c j)[q]? :=by
 rw [zf4,if_pos (by omega),show q+6000-6000=q by omega]
theorem zoA {c:ChD} {j q:Nat} {p:Int×Int} {g g':Nat->Nat} (hk:keysTo c (j+1)=keysTo c j) (hq:(keysTo c j)[q]? =some p) (h1: ∀k,k≠q->g' (k+6000)=g (k+6000)) {v:Nat} (h2:g' (q+6000)=v):(zci c j g).set q [.agg [I p.1,I p.2], .row (q+6000) v]=zci c (j+1) g':=by
 apply List.ext_getElem?
 intro k
 rw [List.getElem?_set,zb9,zb9,zdb,hk]
 by_cases e:q=k
 ·subst e
  rw [if_pos rfl,if_pos (List.getElem?_eq_some_iff.1 hq).1,hq, <-h2]
  rfl
 ·rw [if_neg e]
  cases (keysTo c j)[k]? with
  | none=>rfl
  | some p'=>simp only [Option.map_some,h1 k (Ne.symm e)]
theorem zoy {c:ChD} {j q:Nat} {p:Int×Int} {g:Nat->Nat} (hq:(keysTo c j)[q]? =some p):(zci c j g).set q [.agg [I p.1,I p.2], .row (q+6000) (g (q+6000))]=zci c j g:=by
 apply List.ext_getElem?
 intro k
 rw [List.getElem?_set,zb9,zdb]
 by_cases e:q=k
 ·subst e
  rw [if_pos rfl,if_pos (List.getElem?_eq_some_iff.1 hq).1,hq]
  rfl
 ·rw [if_neg e]
theorem zoz {c:ChD} {j:Nat} {g g':Nat->Nat} (hk:keysTo c (j+1)=keysTo c j++[zb5 c j]) (h1: ∀k,k< (keysTo c j).length->g' (k+6000)=g (k+6000)) {v:Nat} (h2:g' ((keysTo c j).length+6000)=v):zci c j g++[[.agg [I (zb5 c j).1,I (zb5 c j).2], .row ((keysTo c j).length+6000) v]]=zci c (j+1) g':=by
 apply List.ext_getElem?
 intro k
 rw [zb9,hk]
 by_cases hlt:k< (keysTo c j).length
 ·rw [List.getElem?_append_left (by rw [zdb]; exact hlt),List.getElem?_append_left hlt,zb9,List.getElem?_eq_getElem hlt]
  simp only [Option.map_some,h1 k hlt]
 ·rw [List.getElem?_append_right (by rw [zdb]; omega),List.getElem?_append_right (by omega),zdb]
  by_cases e:k=(keysTo c j).length
  ·subst e
   simp [h2]
  ·rw [List.getElem?_eq_none (by simp; omega),List.getElem?_eq_none (by simp; omega)]
   rfl
theorem zkw {c:ChD} {j q:Nat} {p:Int×Int} (hk:keysTo c (j+1)=keysTo c j) (hp:zb5 c j=p) (hn:(keysTo c j).Nodup) (hq:(keysTo c j)[q]? =some p) (k:Nat):(keyRows c (j+1))[k]? =if k=q then some ⟨1,(zes c j p).map zad++[[I j]],3,true⟩ else(keyRows c j)[k]? :=by
 rw [zba,zba,hk]
 by_cases e:k=q
 ·subst e
  rw [if_pos rfl,hq]
  simp only [Option.map_some,zgl,hp,if_true,List.map_append,List.map_cons,List.map_nil,zad]
 ·rw [if_neg e]
  cases hk2:(keysTo c j)[k]? with
  | none=>rfl
  | some p'=>
    have hne: ¬p=p':=fun e2=>by
     subst e2
     obtain⟨a1,b1⟩:=List.getElem?_eq_some_iff.1 hq
     obtain⟨a2,b2⟩:=List.getElem?_eq_some_iff.1 hk2
     have hpw:=List.pairwise_iff_getElem.1 (List.nodup_iff_pairwise_ne.1 hn)
     rcases Nat.lt_trichotomy k q with hlt | hlt | hlt
     ·exact hpw k q a2 a1 hlt (b2.trans b1.symm)
     ·exact e hlt
     ·exact hpw q k a1 a2 hlt (b1.trans b2.symm)
    simp only [Option.map_some,zgl,hp,if_neg hne]
theorem zkv {c:ChD} {j:Nat} (hk:keysTo c (j+1)=keysTo c j++[zb5 c j]) (hno:zb5 c j∉keysTo c j) (k:Nat):(keyRows c (j+1))[k]? =if k=(keysTo c j).length then some ⟨1,[[I j]],3,true⟩ else(keyRows c j)[k]? :=by
 rw [zba,zba,hk]
 by_cases e:k=(keysTo c j).length
 ·subst e
  simp only [if_true,List.getElem?_append_right (Nat.le_refl _),Nat.sub_self,List.getElem?_cons_zero,Option.map_some,zgl,ziR hno,List.nil_append,List.map_cons,List.map_nil,zad]
 ·rw [if_neg e]
  by_cases hlt:k< (keysTo c j).length
  ·rw [List.getElem?_append_left hlt,List.getElem?_eq_getElem hlt]
   have hne: ¬zb5 c j=(keysTo c j)[k]:=fun e2=>hno (e2 ▸ List.getElem_mem hlt)
   simp only [Option.map_some,zgl,if_neg hne]
  ·rw [List.getElem?_eq_none (by simp; omega),List.getElem?_eq_none (by omega)]
   rfl
def FA (c:ChD) (j:Nat) (g:Nat->Nat):List (Nat×AV):=[(1, .loc 1 (g 1) 0 0),(2, .lit (.pointer none)),(3, .lit .nilIface),(4,zaq c),(6, .loc 27 (g 27) 0 0),(32,trsAV c.trans),(33,I c.trans.length),(34,I j)]
def RN (c:ChD) (j:Nat) (g:Nat->Nat):List (Nat×Row):=(1,⟨5,[chAV c],26,false⟩)::(27,boxA c g)::(25,⟨0,zci c j g++[[.agg [I (zb5 c j).1,I (zb5 c j).2], .row 55 (g 55)]],102,false⟩)::(55,⟨1,[[I j]],3,true⟩)::rowsAt 6000 (keyRows c j)
theorem zqp (c:ChD) (j:Nat) (vs:Nat->Nat) {g gm:Nat->Nat->Option AV} (h: ∀q v,g (q+6000) v=none):(zci c j vs).map (·.map (AV.see g gm))=zci c j vs:=by
 apply List.ext_getElem?
 intro q
 rw [List.getElem?_map,zb9]
 cases (keysTo c j)[q]? with
 | none=>rfl
 | some p=>simp only [Option.map_some,List.map_cons,List.map_nil,AV.see,AV.see.seeL,h,Option.getD_none]
theorem znG (c:ChD) (vs:Nat->Nat) {g gm:Nat->Nat->Option AV} (h: ∀v,gm 25 v=none):(boxA c vs).see g gm=boxA c vs:=by
 simp only [Row.see,boxA,List.map_cons,List.map_nil,AV.see,AV.see.seeL,h,Option.getD_none,zaq,Bool.false_eq_true,if_false]
theorem zrq (c:ChD) {g gm:Nat->Nat->Option AV} :(chAV c).map (AV.see g gm)=chAV c:=rfl
theorem ze3 {s:St} {r r2:Nat} {row:Row} {k:Nat} :(zc7 s r r2 row).rows k=if k=r2 then some row else if k=r then none else(s.rows k).map (Row.see (ziU r (s.vs r) r2 (s.vs r2+1)) fun _ _=>none):=rfl
theorem zpT (v n v2 q w:Nat):ziU 55 v n v2 (q+6000) w=none:=by unfold ziU; rw [if_neg (by omega)]
theorem ztQ {c:ChD} {j:Nat} (hk:keysTo c (j+1)=keysTo c j++[zb5 c j]) (hno:zb5 c j∉keysTo c j) (F:Nat) {g:Nat->Nat} {e:Nat->Bool} (he:e 27=false): ∃g' e',e' 27=false/\Turned (head (FA c F g) (RN c j g) g e) (head (FA c F g') (RA c (j+1) g') g' e'):=by
 generalize hn:(keysTo c j).length=n at*
 have hr0:(keyRows c j)[n]? =none:=by rw [zba,List.getElem?_eq_none (by omega)]; rfl
 have hrow:(head (FA c F g) (RN c j g) g e).rows 55=some ⟨1,[[I j]],3,true⟩:=by simp [head,RN,zaI]
 have hfree:(head (FA c F g) (RN c j g) g e).rows (n+6000)=none:=by
  have:=zhB c j n
  rw [hr0] at this
  simp only [head,RN,zaI]
  rw [if_neg (by omega),if_neg (by omega),if_neg (by omega),if_neg (by omega),this]
 have t1:=Turned.ren (s:=head (FA c F g) (RN c j g) g e) 55 (n+6000) ⟨1,[[I j]],3,true⟩ (by omega) hrow hfree (Nat.succ_ne_zero 0) rfl
 have hg: ∀t,t≠n+6000->upd g (n+6000) (g (n+6000)+1) t=g t:=fun t ht=>upd_ne _ _ _ ht
 refine⟨upd g (n+6000) (g (n+6000)+1),upd e (n+6000) (e 55),by rw [upd_ne _ _ _ (by omega)]; exact he,t1.trans (Turned.head ?_ ?_)⟩
 ·simp only [zd8,FA,zc7,head,zhe,AV.see,zaq,hg 1 (by omega),hg 27 (by omega),if_true,Nat.reduceEqDiff,if_false,and_self,reduceCtorEq]
 ·refine⟨?_, ?_, ?_,holdR_rowsAt fun q r hq=> ?_⟩
  ·show (zc7 _ _ _ _).rows 1=some _
   rw [ze3,if_neg (by omega),if_neg (by omega)]
   simp only [head,RN,zaI,if_true,Option.map_some,Row.see,List.map_cons,List.map_nil,zrq,Bool.false_eq_true,if_false]
  ·show (zc7 _ _ _ _).rows 27=some _
   rw [ze3,if_neg (by omega),if_neg (by omega)]
   simp only [head,RN,zaI,if_true,Option.map_some,Nat.reduceEqDiff,if_false]
   rw [znG _ _ fun _=>rfl]
   simp only [boxA,hg 25 (by omega)]
  ·show (zc7 _ _ _ _).rows 25=some _
   rw [ze3,if_neg (by omega),if_neg (by omega)]
   simp only [head,RN,zaI,if_true,Option.map_some,Nat.reduceEqDiff,if_false,Row.see,Bool.false_eq_true,List.map_append,List.map_cons,List.map_nil]
   rw [zqp _ _ _ fun q v=>zpT ..]
   have:=zoz (c:=c) (j:=j) (g:=g) (g':=upd g (n+6000) (g (n+6000)+1)) hk (fun k hk=>hg _ (by omega)) (v:=g (n+6000)+1) (by rw [hn,upd_same])
   rw [hn] at this
   rw [<-this]
   simp [AV.see,AV.see.seeL,ziU]
  ·rw [zkv hk hno,hn] at hq
   show (zc7 _ _ _ _).rows (q+6000)=some _
   rw [ze3]
   by_cases e0:q=n
   ·subst e0
    rw [if_pos rfl] at hq |-
    exact hq
   ·rw [if_neg e0] at hq
    rw [if_neg (by omega),if_neg (by omega)]
    simp only [head,RN,zaI]
    rw [if_neg (by omega),if_neg (by omega),if_neg (by omega),if_neg (by omega),zhB,hq]
    have hpu:r.pure=true:=by
     rw [zba] at hq
     obtain⟨p,_,rfl⟩:=Option.map_eq_some_iff.1 hq
     rfl
    simp only [Option.map_some,Row.see,hpu,if_true]
/-! The map, frozen -/
theorem zfx {g:Nat->Nat} {r v:Nat} : ∀ {l:List Row} {b:Nat},zcq (seesR g (rowsAt b l)) r v=if b<=r/\v=g r then(l[r-b]?).map fun row=> .seq row.sz row.es else none
 | [],b=>by simp [rowsAt,seesR,zcq]
 | x::l,b=>by
   have ih:=zfx (g:=g) (r:=r) (v:=v) (l:=l) (b:=b+1)
   simp only [seesR] at ih
   simp only [rowsAt,seesR,List.map_cons,zcq,ih]
   by_cases h:r=b
   ·subst h
    by_cases hv:v=g r
    ·subst hv; simp
    ·simp [hv]
   ·rw [if_neg fun e=>h e.1]
    by_cases h2:b+1<=r
    ·by_cases hv:v=g r
     ·rw [if_pos ⟨h2,hv⟩,if_pos ⟨by omega,hv⟩,show r-b=(r-(b+1))+1 by omega,List.getElem?_cons_succ]
     ·rw [if_neg fun e=>hv e.2,if_neg fun e=>hv e.2]
    ·rw [if_neg fun e=>h2 e.1,if_neg fun e=>by omega]
def boxF (c:ChD):Row:=⟨9,[[Sg c.name,I c.initial,varsAV c.vars,stsAV c.states,trsAV c.trans,zaq c, .seq 1 ((evL c).map zc0), .fmap (zco c),nilS]],105,false⟩
theorem zoJ {c:ChD} (F:Nat) {g:Nat->Nat} {e:Nat->Bool} (he:e 27=false): ∃e',e' 27=false/\Turned (head (FA c F g) (RA c c.trans.length g) g e) (head (FA c F g) [(1,⟨5,[chAV c],26,false⟩),(27,boxF c)] g e'):=by
 generalize hn:c.trans.length=n at*
 have hL:ziw (head (FA c F g) (RA c n g) g e) (seesR g (rowsAt 6000 (keyRows c n))):=by
  intro p hp
  obtain⟨x,hx,rfl⟩:=List.mem_map.1 hp
  obtain⟨q,h1,h2⟩:=zfz hx
  refine⟨rfl,x.2, ?_, ?_, ?_,rfl⟩
  ·simp only [head,RA,zaI,h2]
   rw [if_neg (by omega),if_neg (by omega),if_neg (by omega),zhB]
   exact h1
  ·rw [zba] at h1
   obtain⟨p,_,e0⟩:=Option.map_eq_some_iff.1 h1
   rw [<-e0]
   exact Nat.succ_ne_zero 0
  ·rw [zba] at h1
   obtain⟨p,_,e0⟩:=Option.map_eq_some_iff.1 h1
   rw [<-e0]
 have t1:=Turned.sees _ hL
 have hes:(zci c n g).map (·.map (AV.see (zcq (seesR g (rowsAt 6000 (keyRows c n)))) fun _ _=>none))=zco c:=by
  apply List.ext_getElem?
  intro q
  unfold zco
  rw [hn,List.getElem?_map,zb9,List.getElem?_map]
  cases hq:(keysTo c n)[q]? with
  | none=>rfl
  | some p=>
    have hs:zcq (seesR g (rowsAt 6000 (keyRows c n))) (q+6000) (g (q+6000))=some (.seq 1 ((zes c n p).map zad)):=by
     rw [zfx,if_pos ⟨by omega,rfl⟩,show q+6000-6000=q by omega,zba,hq]
     rfl
    simp only [Option.map_some,List.map_cons,List.map_nil,AV.see,AV.see.seeL,hs,Option.getD_some]
 have hlow: ∀r v,r<6000->zcq (seesR g (rowsAt 6000 (keyRows c n))) r v=none:=fun r v h=>by
  rw [zfx,if_neg fun e=>by omega]
 generalize hG:zcq (seesR g (rowsAt 6000 (keyRows c n)))=G at*
 have t2:Turned (seenSt (head (FA c F g) (RA c n g) g e) (seesR g (rowsAt 6000 (keyRows c n)))) (head (FA c F g) [(1,⟨5,[chAV c],26,false⟩),(27,boxA c g),(25,⟨0,zco c,102,false⟩)] g _):=Turned.head (s:=seenSt (head (FA c F g) (RA c n g) g e) (seesR g (rowsAt 6000 (keyRows c n)))) (by
  simp only [zd8,FA,seenSt,head,zhe,AV.see,zaq,if_true,Nat.reduceEqDiff,if_false,and_self,reduceCtorEq]) (by
  refine⟨?_, ?_, ?_,trivial⟩
  ·simp only [seenSt,hG,head,RA,zaI,if_true,Option.map_some,Row.see,List.map_cons,List.map_nil,zrq,Bool.false_eq_true,if_false]
  ·simp only [seenSt,hG,head,RA,zaI,if_true,Option.map_some,Nat.reduceEqDiff,if_false]
   rw [znG _ _ fun _=>rfl]
  ·simp only [seenSt,hG,head,RA,zaI,if_true,Option.map_some,Nat.reduceEqDiff,if_false,Row.see,Bool.false_eq_true,hes])
 have hesc:(seenSt (head (FA c F g) (RA c n g) g e) (seesR g (rowsAt 6000 (keyRows c n)))).esc 27=false:=by
  show (e 27||_)=false
  rw [he,Bool.false_or,List.any_eq_false]
  intro p hp
  obtain⟨x,hx,rfl⟩:=List.mem_map.1 hp
  obtain⟨q,_,h2⟩:=zfz hx
  simp
  omega
 have t3:=t1.trans t2
 generalize (seenSt (head (FA c F g) (RA c n g) g e) (seesR g (rowsAt 6000 (keyRows c n)))).esc=e2 at t3 hesc
 have t4:=t3.trans (Turned.mapSee 25 ⟨0,zco c,102,false⟩ (by simp [head,zaI]) rfl (by
  rw [List.all_eq_true]
  intro x hx
  unfold zco at hx
  obtain⟨p,_,rfl⟩:=List.mem_map.1 hx
  rfl))
 refine⟨e2,hesc,t4.trans (Turned.head ?_ ?_)⟩
 ·simp only [zd8,FA,zow,head,zhe,AV.see,zaq,if_true,Nat.reduceEqDiff,if_false,and_self,reduceCtorEq]
 ·refine⟨?_, ?_,trivial⟩
  ·simp only [zow,head,zaI,if_true,Option.map_some,Nat.reduceEqDiff,if_false,Row.see,List.map_cons,List.map_nil,zrq,Bool.false_eq_true]
  ·simp only [zow,head,zaI,if_true,Option.map_some,Nat.reduceEqDiff,if_false,Row.see,boxA,boxF,List.map_cons,List.map_nil,AV.see,zaq,Bool.false_eq_true,and_self,Option.getD_some]
end
section
theorem zdC (c:ChD):(zaq c).plain=true:=rfl
theorem zuh (l:List Nat):l.map zad=(zL l).map intAV:=by simp [zad,zL]
theorem zox (c:ChD) (vs:Nat->Nat):zci c 0 vs=[]:=rfl
theorem zku (c:ChD):keyRows c 0=[]:=rfl
theorem zlZ {c:ChD} {j:Nat} {g g':Nat->Nat} (h: ∀k,g (k+6000)=g' (k+6000)):zci c j g=zci c j g':=by
 apply List.ext_getElem?
 intro q
 rw [zb9,zb9,h]
theorem zpQ {c:ChD} {j:Nat} {s:St} {Q:St->Prop} (hk:keysTo c (j+1)=keysTo c j++[zb5 c j]) (hno:zb5 c j∉keysTo c j) (hF:zd8 s (FA c (j+1) s.vs)) (hR:zdv s (RN c j s.vs)) (he:s.esc 27=false)
 (hQ: ∀g e,e 27=false->Q (head (FA c (j+1) g) (RA c (j+1) g) g e)): ∃s2,Turned s s2/\Q s2:=by
 obtain⟨g',e',h1,h2⟩:=ztQ hk hno (j+1) (g:=s.vs) (e:=s.esc) he
 exact⟨_,(Turned.head hF hR).trans h2,hQ g' e' h1⟩
theorem zug (c:ChD) (F:Nat) (g:Nat->Nat) (R:List (Nat×Row)) (e:Nat->Bool):zd8 (head (FA c F g) R g e) (FA c F g):=by
 simp only [zd8,FA,head,zhe,if_true,Nat.reduceEqDiff,if_false,and_self,reduceCtorEq]
theorem zuf (c:ChD) (j:Nat) (g:Nat->Nat) (F:List (Nat×AV)) (e:Nat->Bool):zdv (head F (RA c j g) g e) (RA c j g):=by
 refine⟨?_, ?_, ?_,holdR_rowsAt fun q r hq=> ?_⟩
 ·simp only [head,RA,zaI,if_true]
 ·simp only [head,RA,zaI,if_true,Nat.reduceEqDiff,if_false]
 ·simp only [head,RA,zaI,if_true,Nat.reduceEqDiff,if_false]
 ·simp only [head,RA,zaI]
  rw [if_neg (by omega),if_neg (by omega),if_neg (by omega),zhB,hq]
theorem zjM (env:Env) (a1 a8:Addr) (he:ChEnv env a1 a8) (hT: ∀W,env.inv W->TabAt W) (c:ChD) (hch:chk c=(0, -1)) (hcf:zeA c):Con Tryz.prog env 14 [.agg (chAV c)] (.tuple [zaj c, .lit .nilIface]):=by
 have h0:(chk c).1=0:=by rw [hch]
 have h:=full_of h0
 have hs:=ziO h0
 have hlen:=h.few
 have htr:=h.ftr
 have f0:=zr1 env a1 a8 he hT c h.toRight (zle hch) hcf
 have f1:=zgY env c hs
 have f2:=zoM env c (by omega)
 refine zaa Tryz.func14 rfl Tryz.call14 (by rw [Tryz.ntmps14]; simp) ?_
 rw [Tryz.ntmps14,Tryz.results14]
 have F:=chAV.eq_1
 repeat (first | refine st ?_ | refine cC f0 ?_ | refine cC f1 ?_ | refine cC f2 ?_)
 refine zdg [(24,⟨1,(evL c).map zc0,9,true⟩)] ?_ ?_
 ·(simp only [go_sem,F])
 refine zac (D:=Nat) (fun j vs=>FA c j vs) (fun j vs=>RA c j vs) (fun j _ esc=>j<=c.trans.length/\esc 27=false) (fun j=>c.trans.length-j) 0 ?_ ?_ ?_ ?_
 ·exact⟨Nat.zero_le _,rfl⟩
 ·have F:=ai FA.eq_1<|zaq.eq_1
  (simp only [go_sem,seenSt,seesR,zcq,Row.see,AV.see,AV.see.seeL,Option.getD_none,F])
 ·have F:=ai RA.eq_1<|ai boxA.eq_1<|ai zaq.eq_1<|ai @zox<|ai @zku<|chAV.eq_1
  (simp only [go_sem,seenSt,seesR,zcq,Row.see,AV.see,AV.see.seeL,Option.getD_none,rowsAt,F])
 try clear f0 f1 f2
 rintro j ws esc ⟨hj,e0⟩
 by_cases hlt:j<c.trans.length
 ·obtain⟨t,ht⟩: ∃t,c.trans[j]? =some t:=⟨c.trans[j],List.getElem?_eq_getElem hlt⟩
  have g1:=nlt hlt
  have g2:=zab hlt (by omega)
  have fE:=(zkV env c (by omega) .any nilS t.event).lend rfl
  have hka:zb5 c j=(t.src,evI c t.event):=by unfold zb5; rw [ht]
  have hm:=zql c j ws t.src (evI c t.event)
  have hml:=zdb c j ws
  generalize evI c t.event=e at*
  refine zjx ?_
  cases hq:idxP (t.src,e) (keysTo c j) 0 with
  | none=>
    rw [hq] at hm
    have hno:zb5 c j∉keysTo c j:=by rw [hka]; exact zfg hq
    have hk:keysTo c (j+1)=keysTo c j++[zb5 c j]:=by
     show (if zb5 c j∈keysTo c j then _ else _)=_
     rw [if_neg hno]
    have hs2: ∀x y:List AV,(zci c j ws++[x]).set (keysTo c j).length y=zci c j ws++[y]:=fun x y=>by rw [<-hml]; simp
    have ha2: ∀x:List AV,(zci c j ws++[x])[(keysTo c j).length]? =some x:=fun x=>by rw [<-hml]; simp
    have F:=ai FA.eq_1<|ai RA.eq_1<|ai boxA.eq_1<|ai chAV.eq_1<|ai trAV.eq_1<|ai g1<|ai g2<|ai ht<|ai @zdC<|ai hm<|ai hml<|ai hs2<|ai ha2<|e0
    repeat refine st ?_
    refine oL rfl (fE) (by simp only [go_sem,F]; exact iR) (by simp only [go_sem,F]; exact⟨rfl,rfl⟩) ?_
    repeat refine st ?_
    refine zpQ hk hno ?_ ⟨?_, ?_, ?_, ?_,holdR_rowsAt fun q r hr=> ?_⟩ ?_ fun g e he=>⟨j+1,⟨hlt,he⟩, ?_, ?_,by omega⟩
    ·have F:=ai FA.eq_1<|ai RA.eq_1<|ai chAV.eq_1<|g2
     (simp only [go_sem,F])
    ·(simp only [go_sem,FA,RA,chAV,g2])
    ·have F:=ai RA.eq_1<|ai RN.eq_1<|ai boxA.eq_1<|chAV.eq_1
     (simp only [go_sem,F])
    ·have F:=ai RA.eq_1<|ai RN.eq_1<|ai boxA.eq_1<|ai chAV.eq_1<|hka
     (simp only [go_sem,F])
     exact congrArg (fun es=>(⟨0,es++_,_,false⟩:Row)) (zlZ fun k=>by simp only [go_sem])
    ·have F:=ai RA.eq_1<|RN.eq_1
     (simp only [go_sem,F])
    ·have hh:=zhB c j q
     rw [hr] at hh
     have F:=ai RA.eq_1<|hh
     (simp only [go_sem,F])
    ·have F:=ai RA.eq_1<|e0
     (simp only [go_sem,F])
    ·exact zug c (j+1) g _ e
    ·exact zuf c (j+1) g _ e
  | some q=>
    rw [hq] at hm
    have hqk:=(zhd hq).2
    rw [Nat.sub_zero] at hqk
    have hin:zb5 c j∈keysTo c j:=by rw [hka]; exact List.mem_of_getElem? hqk
    have hk:keysTo c (j+1)=keysTo c j:=by
     show (if zb5 c j∈keysTo c j then _ else _)=_
     rw [if_pos hin]
    have hat:(zci c j ws)[q]? =some [.agg [I t.src,I e], .row (q+6000) (ws (q+6000))]:=by rw [zb9,hqk]; rfl
    have hsame:(zci c j ws).set q [.agg [I t.src,I e], .row (q+6000) (ws (q+6000))]=zci c j ws:=zoy (p:=(t.src,e)) hqk
    have hkr:=zhB c j q
    rw [zba,hqk] at hkr
    simp only [Option.map_some] at hkr
    have hrl:=zpP c j (t.src,e)
    have hf:Fits ((zes c j (t.src,e)).length+1) 8:=zai (by omega) (by omega)
    have F:=ai FA.eq_1<|ai RA.eq_1<|ai boxA.eq_1<|ai chAV.eq_1<|ai trAV.eq_1<|ai g1<|ai g2<|ai ht<|ai @zdC<|ai hm<|ai hat<|ai hsame<|ai hkr<|ai hf<|e0
    repeat refine st ?_
    refine oL rfl (fE) (by simp only [go_sem,F]; exact iR) (by simp only [go_sem,F]; exact⟨rfl,rfl⟩) ?_
    repeat refine st ?_
    refine⟨_,Turned.refl _,j+1,⟨hlt, ?_⟩, ?_,⟨?_, ?_, ?_,holdR_rowsAt fun k r hr=> ?_⟩,by omega⟩
    ·(simp only [go_sem,F])
    ·have F:=ai FA.eq_1<|ai RA.eq_1<|ai chAV.eq_1<|g2
     (simp only [go_sem,F])
    ·have F:=ai RA.eq_1<|ai boxA.eq_1<|chAV.eq_1
     (simp only [go_sem,F])
    ·have F:=ai RA.eq_1<|ai boxA.eq_1<|chAV.eq_1
     (simp only [go_sem,F])
    ·have F:=ai RA.eq_1<|ai boxA.eq_1<|ai chAV.eq_1<|hsame
     (simp only [go_sem,F])
     exact congrArg (fun es=>(⟨0,es,_,false⟩:Row)) (zoA (p:=(t.src,e)) hk hqk (fun k hne=>by rw [upd_ne _ _ _ (by omega),upd_ne _ _ _ (by omega),upd_ne _ _ _ (by omega),upd_ne _ _ _ (by omega)]) (upd_same ..))
    ·rw [zkw hk hka (zfH c j) hqk k] at hr
     by_cases ek:k=q
     ·subst ek
      rw [if_pos rfl] at hr
      cases hr
      have F:=ai RA.eq_1<|ai boxA.eq_1<|chAV.eq_1
      (simp only [go_sem,F])
     ·rw [if_neg ek] at hr
      have hh:=zhB c j k
      rw [hr] at hh
      have hne: ¬(k+6000=q+6000):=by omega
      have F:=ai RA.eq_1<|ai boxA.eq_1<|ai chAV.eq_1<|ai hh<|ai hne<|ek
      (simp only [go_sem,F])
 obtain rfl:j=c.trans.length:=by omega
 have g1: ¬(c.trans.length:Int)< (c.trans.length:Int):=by omega
 obtain⟨e',h27,htu⟩:=zoJ (c:=c) c.trans.length (g:=ws) e0
 refine zeq htu ?_
 have F:=ai FA.eq_1<|ai boxF.eq_1<|ai chAV.eq_1<|ai g1<|h27
 repeat refine st ?_
 refine zaN 27 9100 0 8 ⟨9,[[Sg c.name,I c.initial,varsAV c.vars,stsAV c.states,trsAV c.trans,zaq c, .seq 1 ((evL c).map zc0), .fmap (zco c),nilS]],105,false⟩ [Sg c.name,I c.initial,varsAV c.vars,stsAV c.states,trsAV c.trans,zaq c, .seq 1 ((evL c).map zc0), .fmap (zco c),nilS] 27 1 (by decide) (by decide) (Nat.succ_ne_zero 8) rfl rfl rfl (by simp only [go_sem,F]; exact iR) (by simp only [go_sem,F]; exact iR) ?_
 refine zac (D:=Nat) (fun i vs=>[(2, .lit (.pointer none)),(3, .lit .nilIface),(4,zaq c),(6, .loc 27 (vs 27) 0 0),(62,stsAV c.states),(63,I c.states.length),(64,I i)])
  (fun i vs=>[(27,⟨9,[[Sg c.name,I c.initial,varsAV c.vars,stsAV c.states,trsAV c.trans,zaq c, .seq 1 ((evL c).map zc0), .fmap (zco c), .row 9100 (vs 9100)]],105,false⟩),(9100,⟨1,begE c i,27,true⟩)])
  (fun i _ esc=>i<=c.states.length/\esc 27=false/\esc 9100=false) (fun i=>c.states.length-i) 0 ?_ ?_ ?_ ?_
 ·refine⟨Nat.zero_le _, ?_, ?_⟩<;>simp only [go_sem,h27]
 ·(simp only [go_sem,F])
 ·(simp only [go_sem,F])
  try rfl
 try clear g1 e0 h27 htu hj hlt
 rintro i ws esc ⟨hi,e0,e1⟩
 by_cases hlt:i<c.states.length
 ·have g1:=nlt hlt
  have g2:=zab hlt (by omega)
  have f3:=zfO env c h 40 i hlt (by omega)
  have hbl:=ztv h hlt
  have f4:Con Tryz.prog env 53 [zaq c, .seq 1 ((bgL c i).map zad)] (.own 3 1 ((sbL c i).map zad)):=by
   rw [zuh]
   exact zcw env c h.toRight (zL (bgL c i)) (by simp [zL]; omega)
  have hbe:(begE c i).length=i:=by simp [begE]
  have hbs:begE c (i+1)=begE c i++[[.seq 1 ((sbL c i).map zad)]]:=by unfold begE; rw [List.range_succ,List.map_append]; rfl
  have hf:Fits (i+1) 24:=zai (by omega) (by omega)
  have F:=ai g1<|ai g2<|ai hbe<|ai hf<|ai e0<|ai e1<|zaq.eq_1
  repeat (first | refine st ?_ | refine cC f3 ?_ | refine cC f4 ?_)
  refine⟨i+1,⟨hlt, ?_, ?_⟩, ?_, ?_,by omega⟩
  ·simp only [go_sem,e0]
  ·simp only [go_sem,e1]
  ·(simp only [go_sem,F])
  ·have F:=ai hbs<|zaq.eq_1
   (simp only [go_sem,F])
 obtain rfl:i=c.states.length:=by omega
 have g1: ¬(c.states.length:Int)< (c.states.length:Int):=by omega
 have F:=ai g1<|ai e0<|e1
 repeat refine st ?_
 refine zdg [(9100,⟨1,begE c c.states.length,27,true⟩)] ?_ ?_
 ·(simp only [go_sem,F])
 refine zfq [(2, .loc 27 (ws 27) 0 0),(3, .lit .nilIface)] [(27,⟨9,[tabCells c],105,false⟩)] ?_ ?_ ?_
 ·(simp only [go_sem,seenSt,seesR,zcq,Row.see,AV.see,AV.see.seeL,Option.getD_none])
 ·have F:=ai tabCells.eq_1<|zaq.eq_1
  (simp only [go_sem,seenSt,seesR,zcq,Row.see,AV.see,AV.see.seeL,Option.getD_none,F])
 have F:=ai tabCells.eq_1<|@zdC
 (refine zaf ?_; show (zao _ _ _).run _=some _; simp only [go_sem,seenSt,seesR,F])
 rfl
end
section
theorem zj8 (env:Env) (c:ChD) (l:List OpD):Con Tryz.prog env 191 [.agg (chAV c),opsAV l] (B (zaH l c.vars.length c.states.length)):=by
 have hx:=zex env l c.vars.length c.states.length
 unfold zaH
 refine zaa Tryz.func191 rfl Tryz.call191 (by rw [Tryz.ntmps191]; simp) ?_
 rw [Tryz.ntmps191,Tryz.results191]
 have F:=chAV.eq_1
 repeat (first | refine st ?_ | refine cC hx ?_)
 exact aR
theorem zki {m:List UInt8} (h:zaJ m=true):(m == [])=false:=by
 cases m with
 | nil=>cases h
 | cons a l=>rfl
theorem zr8 (env:Env) (c:ChD) (a:ActD):Con Tryz.prog env 245 [.agg (chAV c), .agg (zaK a)] (B (actB c.vars.length c.states.length a)):=by
 obtain⟨k,n,m,co⟩:=a
 have hcode:=zj8 env c co
 have hname:=zb0 env m
 have hco:((co.length:Int)==0)=(co == []):=by
  rw [Bool.eq_iff_iff]
  simp
 refine zaa Tryz.func245 rfl Tryz.call245 (by rw [Tryz.ntmps245]; simp) ?_
 rw [Tryz.ntmps245,Tryz.results245]
 by_cases hk1:k=1
 ·subst hk1
  have hr:actB c.vars.length c.states.length ⟨1,n,m,co⟩=(decide (0<=n/\n<c.vars.length)&&(m == [])&&zaH co c.vars.length c.states.length):=rfl
  rw [hr]
  cases e1:zaJ m
  case true=>
   have e2:=zki e1
   rw [e2,show ((decide (0<=n/\n<c.vars.length)&&false&&zaH co c.vars.length c.states.length))=false by simp]
   have F:=ai chAV.eq_1<|ai zaK.eq_1<|ai e1<|ai e2<|ai bneA<|ai @Bool.true_beq<|@Bool.false_beq
   repeat (first | refine st ?_ | refine cC hcode ?_ | refine cC hname ?_)
   exact aR
  cases e2:(m == [])
  ·rw [show ((decide (0<=n/\n<c.vars.length)&&false&&zaH co c.vars.length c.states.length))=false by simp]
   have F:=ai chAV.eq_1<|ai zaK.eq_1<|ai e1<|ai e2<|ai bneA<|ai @Bool.true_beq<|@Bool.false_beq
   repeat (first | refine st ?_ | refine cC hcode ?_ | refine cC hname ?_)
   exact aR
  by_cases h1:0<=n
  ·by_cases h2:n< (c.vars.length:Int)
   ·rw [show (decide (0<=n/\n<c.vars.length)&&true&&zaH co c.vars.length c.states.length)=zaH co c.vars.length c.states.length by simp [h1,h2]]
    have F:=ai chAV.eq_1<|ai zaK.eq_1<|ai e1<|ai e2<|ai h1<|ai h2<|ai bneA<|ai @Bool.true_beq<|@Bool.false_beq
    repeat (first | refine st ?_ | refine cC hcode ?_ | refine cC hname ?_)
    exact aR
   ·rw [show (decide (0<=n/\n<c.vars.length)&&true&&zaH co c.vars.length c.states.length)=false by simp [h2]]
    have F:=ai chAV.eq_1<|ai zaK.eq_1<|ai e1<|ai e2<|ai h1<|ai h2<|ai bneA<|ai @Bool.true_beq<|@Bool.false_beq
    repeat (first | refine st ?_ | refine cC hcode ?_ | refine cC hname ?_)
    exact aR
  ·rw [show (decide (0<=n/\n<c.vars.length)&&true&&zaH co c.vars.length c.states.length)=false by simp [h1]]
   have F:=ai chAV.eq_1<|ai zaK.eq_1<|ai e1<|ai e2<|ai h1<|ai bneA<|ai @Bool.true_beq<|@Bool.false_beq
   repeat (first | refine st ?_ | refine cC hcode ?_ | refine cC hname ?_)
   exact aR
 by_cases hk3:k=3
 ·subst hk3
  have hr:actB c.vars.length c.states.length ⟨3,n,m,co⟩=((n==0)&&(m == [])&&zaH co c.vars.length c.states.length):=rfl
  rw [hr]
  cases e1:zaJ m
  case true=>
   have e2:=zki e1
   rw [e2,show (((n==0)&&false&&zaH co c.vars.length c.states.length))=false by simp]
   have F:=ai chAV.eq_1<|ai zaK.eq_1<|ai e1<|ai e2<|ai bneA<|ai @Bool.true_beq<|@Bool.false_beq
   repeat (first | refine st ?_ | refine cC hcode ?_ | refine cC hname ?_)
   exact aR
  cases e2:(m == [])
  ·rw [show (((n==0)&&false&&zaH co c.vars.length c.states.length))=false by simp]
   have F:=ai chAV.eq_1<|ai zaK.eq_1<|ai e1<|ai e2<|ai bneA<|ai @Bool.true_beq<|@Bool.false_beq
   repeat (first | refine st ?_ | refine cC hcode ?_ | refine cC hname ?_)
   exact aR
  cases e3:(n==0)
  ·rw [show (false&&true&&zaH co c.vars.length c.states.length)=false from rfl]
   have F:=ai chAV.eq_1<|ai zaK.eq_1<|ai e1<|ai e2<|ai e3<|ai bneA<|ai @Bool.true_beq<|@Bool.false_beq
   repeat (first | refine st ?_ | refine cC hcode ?_ | refine cC hname ?_)
   exact aR
  ·rw [show (true&&true&&zaH co c.vars.length c.states.length)=zaH co c.vars.length c.states.length by simp]
   have F:=ai chAV.eq_1<|ai zaK.eq_1<|ai e1<|ai e2<|ai e3<|ai bneA<|ai @Bool.true_beq<|@Bool.false_beq
   repeat (first | refine st ?_ | refine cC hcode ?_ | refine cC hname ?_)
   exact aR
 by_cases hk2:k=2
 ·subst hk2
  have hr:actB c.vars.length c.states.length ⟨2,n,m,co⟩=((n==0)&&zaJ m&&zaH co c.vars.length c.states.length):=rfl
  rw [hr]
  cases e1:zaJ m
  ·rw [Bool.and_false,Bool.false_and]
   have F:=ai chAV.eq_1<|ai zaK.eq_1<|ai e1<|ai bneA<|ai @Bool.true_beq<|@Bool.false_beq
   repeat (first | refine st ?_ | refine cC hcode ?_ | refine cC hname ?_)
   exact aR
  cases e3:(n==0)
  ·rw [Bool.false_and,Bool.false_and]
   have F:=ai chAV.eq_1<|ai zaK.eq_1<|ai e1<|ai e3<|ai bneA<|ai @Bool.true_beq<|@Bool.false_beq
   repeat (first | refine st ?_ | refine cC hcode ?_ | refine cC hname ?_)
   exact aR
  ·rw [Bool.true_and,Bool.true_and]
   have F:=ai chAV.eq_1<|ai zaK.eq_1<|ai e1<|ai e3<|ai bneA<|ai @Bool.true_beq<|@Bool.false_beq
   repeat (first | refine st ?_ | refine cC hcode ?_ | refine cC hname ?_)
   exact aR
 by_cases hk4:k=4
 ·subst hk4
  have hr:actB c.vars.length c.states.length ⟨4,n,m,co⟩=((n==0)&&zaJ m&&zaH co c.vars.length c.states.length):=rfl
  rw [hr]
  cases e1:zaJ m
  ·rw [Bool.and_false,Bool.false_and]
   have F:=ai chAV.eq_1<|ai zaK.eq_1<|ai e1<|ai bneA<|ai @Bool.true_beq<|@Bool.false_beq
   repeat (first | refine st ?_ | refine cC hcode ?_ | refine cC hname ?_)
   exact aR
  cases e3:(n==0)
  ·rw [Bool.false_and,Bool.false_and]
   have F:=ai chAV.eq_1<|ai zaK.eq_1<|ai e1<|ai e3<|ai bneA<|ai @Bool.true_beq<|@Bool.false_beq
   repeat (first | refine st ?_ | refine cC hcode ?_ | refine cC hname ?_)
   exact aR
  ·rw [Bool.true_and,Bool.true_and]
   have F:=ai chAV.eq_1<|ai zaK.eq_1<|ai e1<|ai e3<|ai bneA<|ai @Bool.true_beq<|@Bool.false_beq
   repeat (first | refine st ?_ | refine cC hcode ?_ | refine cC hname ?_)
   exact aR
 by_cases hk5:k=5
 ·subst hk5
  have hr:actB c.vars.length c.states.length ⟨5,n,m,co⟩=((n==0)&&zaJ m&&(co == [])):=rfl
  rw [hr]
  cases e1:zaJ m
  ·rw [Bool.and_false,Bool.false_and]
   have F:=ai chAV.eq_1<|ai zaK.eq_1<|ai e1<|ai bneA<|ai @Bool.true_beq<|@Bool.false_beq
   repeat (first | refine st ?_ | refine cC hcode ?_ | refine cC hname ?_)
   exact aR
  cases e3:(n==0)
  ·rw [Bool.false_and,Bool.false_and]
   have F:=ai chAV.eq_1<|ai zaK.eq_1<|ai e1<|ai e3<|ai bneA<|ai @Bool.true_beq<|@Bool.false_beq
   repeat (first | refine st ?_ | refine cC hcode ?_ | refine cC hname ?_)
   exact aR
  ·rw [Bool.true_and,Bool.true_and]
   have F:=ai chAV.eq_1<|ai zaK.eq_1<|ai e1<|ai e3<|ai hco<|ai bneA<|ai @Bool.true_beq<|@Bool.false_beq
   repeat (first | refine st ?_ | refine cC hcode ?_ | refine cC hname ?_)
   exact aR
 have hr:actB c.vars.length c.states.length ⟨k,n,m,co⟩=false:=by unfold actB; rw [if_neg hk1,if_neg (fun h=>h.elim hk2 hk4),if_neg hk3,if_neg hk5]
 have b2:=zbh hk2
 have b4:=zbh hk4
 have b5:=zbh hk5
 rw [hr]
 by_cases h1:k<1
 ·have F:=ai chAV.eq_1<|ai zaK.eq_1<|ai h1<|ai b2<|ai b4<|ai b5<|ai bneA<|ai @Bool.true_beq<|@Bool.false_beq
  repeat (first | refine st ?_ | refine cC hcode ?_ | refine cC hname ?_)
  exact aR
 have h2:5<k:=by omega
 have F:=ai chAV.eq_1<|ai zaK.eq_1<|ai h1<|ai h2<|ai b2<|ai b4<|ai b5<|ai bneA<|ai @Bool.true_beq<|@Bool.false_beq
 repeat (first | refine st ?_ | refine cC hcode ?_ | refine cC hname ?_)
 exact aR
theorem zdR (env:Env) (c:ChD) (l:List ActD):Con Tryz.prog env 188 [.agg (chAV c),actsAV l] (B (zbY c.vars.length c.states.length l)):=by
 refine zaa Tryz.func188 rfl Tryz.call188 (by rw [Tryz.ntmps188]; simp) ?_
 rw [Tryz.ntmps188,Tryz.results188]
 by_cases hlen:32<l.length
 ·have k0:(32:Int)< (l.length:Int):=by omega
  rw [show zbY c.vars.length c.states.length l=false by unfold zbY; rw [decide_eq_false (by omega)]; rfl]
  have F:=ai chAV.eq_1<|k0
  repeat refine st ?_
  exact aR
 have k0: ¬(32:Int)< (l.length:Int):=by omega
 rw [show zbY c.vars.length c.states.length l=l.all (actB c.vars.length c.states.length) by unfold zbY; rw [decide_eq_true (by omega)]; rfl]
 have F:=ai chAV.eq_1<|k0
 repeat refine st ?_
 refine zac (D:=Nat) (fun k vs=>[(1,actsAV l),(2, .loc 2 (vs 2) 0 0),(5,I k)]) (fun _ _=>[(2,⟨5,[chAV c],26,false⟩)]) (fun k _ _=>k<=l.length/\(l.take k).all (actB c.vars.length c.states.length)=true) (fun k=>l.length-k) 0 ?_ ?_ ?_ ?_
 ·exact⟨Nat.zero_le _,rfl⟩
 ·(simp only [go_sem,F])
 ·(simp only [go_sem,F])
 rintro k ws esc ⟨hk,hall⟩
 by_cases hlt:k<l.length
 ·obtain⟨a,hx,hm⟩:=zat hlt
  have k1:=nlt hlt
  have k2:=zab hlt (by omega)
  have hact:=zr8 env c a
  cases h1:actB c.vars.length c.states.length a with
  | true=>
    have F:=ai chAV.eq_1<|ai k1<|ai k2<|ai hx<|ai zaK.eq_1<|h1
    repeat (first | refine st ?_ | refine cC hact ?_)
    refine⟨k+1,⟨hlt,zbW hall hx h1⟩, ?_, ?_, ?_⟩
    ·(simp only [go_sem,F])
    ·(simp only [go_sem,F])
    ·omega
  | false=>
    rw [zfS hx h1]
    have F:=ai chAV.eq_1<|ai k1<|ai k2<|ai hx<|ai zaK.eq_1<|h1
    repeat (first | refine st ?_ | refine cC hact ?_)
    exact aR
 ·have k1: ¬(k:Int)< (l.length:Int):=by omega
  rw [zjB hall (by omega)]
  have F:=ai chAV.eq_1<|k1
  repeat refine st ?_
  exact aR
theorem zhY (env:Env) (c:ChD) (s:StD) (hp:s.parent<c.states.length):Con Tryz.prog env 190 [.agg (chAV c), .agg (stAV s)] (B (zaQ c s)):=by
 refine zaa Tryz.func190 rfl Tryz.call190 (by rw [Tryz.ntmps190]; simp) ?_
 rw [Tryz.ntmps190,Tryz.results190]
 by_cases h1:0<=s.parent
 ·obtain⟨m,hm⟩:=zcU h1
  obtain⟨q,hq,_⟩:=zat (show m<c.states.length by omega)
  have k1:=nlt (show m<c.states.length by omega)
  rw [show zaQ c s=(q.kind==1) by unfold zaQ; rw [hm,zbV,hq]]
  have F:=ai chAV.eq_1<|ai stAV.eq_1<|ai hm<|ai hq<|k1
  repeat refine st ?_
  exact aR
 ·rw [show zaQ c s=false by unfold zaQ at_; rw [if_neg h1]]
  have F:=ai chAV.eq_1<|ai stAV.eq_1<|h1
  repeat refine st ?_
  exact aR
theorem zfY (env:Env) (c:ChD) (l:List Nat) (hl:l.length<=1000000) (hk: ∀k∈l,k<c.states.length):Con Tryz.prog env 189 [.agg (chAV c),nsAV l] (B ((l.all fun k=>zaA c k)&&decide (0<l.length))):=by
 refine zaa Tryz.func189 rfl Tryz.call189 (by rw [Tryz.ntmps189]; simp) ?_
 rw [Tryz.ntmps189,Tryz.results189]
 have F:=chAV.eq_1
 repeat refine st ?_
 refine zac (D:=Nat) (fun k vs=>[(1,nsAV l),(2, .loc 2 (vs 2) 0 0),(5,I k)]) (fun _ _=>[(2,⟨5,[chAV c],26,false⟩)]) (fun k _ _=>k<=l.length/\(l.take k).all (fun k=>zaA c k)=true) (fun k=>l.length-k) 0 ?_ ?_ ?_ ?_
 ·exact⟨Nat.zero_le _,rfl⟩
 ·(simp only [go_sem,F])
 ·(simp only [go_sem,F])
 rintro j ws esc ⟨hj,hall⟩
 by_cases hlt:j<l.length
 ·obtain⟨k,hx,hm⟩:=zat hlt
  obtain⟨q,hq,_⟩:=zat (hk k hm)
  have k1:=nlt hlt
  have k2:=zab hlt (by omega)
  have k3:=nlt (hk k hm)
  have hn:=zdm env q
  have hnq:zaA c (k:Int)=zcc q:=by unfold zaA; rw [zbV,hq]
  cases h1:zcc q with
  | true=>
    have F:=ai chAV.eq_1<|ai k1<|ai k2<|ai k3<|ai hx<|ai hq<|ai zad.eq_1<|ai stAV.eq_1<|h1
    repeat (first | refine st ?_ | refine cC hn ?_)
    refine⟨j+1,⟨hlt,zbW (p:=fun k:Nat=>zaA c k) hall hx (hnq.trans h1)⟩, ?_, ?_, ?_⟩
    ·(simp only [go_sem,F])
    ·(simp only [go_sem,F])
    ·omega
  | false=>
    rw [zfS (p:=fun k:Nat=>zaA c k) hx (hnq.trans h1),Bool.false_and]
    have F:=ai chAV.eq_1<|ai k1<|ai k2<|ai k3<|ai hx<|ai hq<|ai zad.eq_1<|ai stAV.eq_1<|h1
    repeat (first | refine st ?_ | refine cC hn ?_)
    exact aR
 ·have k1: ¬(j:Int)< (l.length:Int):=by omega
  rw [zjB hall (by omega),Bool.true_and]
  have h3:decide ((0:Int)< (l.length:Int))=decide (0<l.length):=by rw [Bool.eq_iff_iff]; simp
  have F:=ai chAV.eq_1<|k1
  repeat refine st ?_
  (refine zaf ?_; show (zao _ _ _).run _=some _; simp only [go_sem,F])
  exact congrArg B h3
theorem zr7 (env:Env) (c:ChD) (hn:c.vars.length<=1000000) (i:Nat) (v:VarD) (hv:c.vars[i]? =some v):Con Tryz.prog env 111 [.agg (chAV c),I i] (B (varB c i v)):=by
 have hi:i<c.vars.length:=(List.getElem?_eq_some_iff.1 hv).1
 have k0:=nlt hi
 have f1:=zb0 env v.name
 have f2:=zbS env v.start
 refine zaa Tryz.func111 rfl Tryz.call111 (by rw [Tryz.ntmps111]; simp) ?_
 rw [Tryz.ntmps111,Tryz.results111]
 have F:=ai chAV.eq_1<|ai k0<|ai hv<|zcO.eq_1
 repeat refine st ?_
 refine zac (D:=Nat) (fun j vs=>[(1,I i),(2, .loc 2 (vs 2) 0 0),(5, .loc 5 (vs 5) 0 0),(6,I j)]) (fun _ _=>[(2,⟨5,[chAV c],26,false⟩),(5,⟨2,[zcO v],145,false⟩)]) (fun j _ _=>j<=i/\newVar c v.name j=true) (fun j=>i-j) 0 ?_ ?_ ?_ ?_
 ·exact⟨Nat.zero_le _,rfl⟩
 ·(simp only [go_sem,F])
 ·(simp only [go_sem,F])
 rintro j ws esc ⟨hj,hall⟩
 by_cases hlt:j<i
 ·obtain⟨x,hx,_⟩:=zat (show j<c.vars.length by omega)
  have hx':(c.vars.take i)[j]? =some x:=by rw [List.getElem?_take,if_pos hlt]; exact hx
  have k1:=nlt hlt
  have k3:=nlt (show j<c.vars.length by omega)
  have k2:=zab hlt (by omega)
  cases e:(x.name==v.name)
  ·have F:=ai chAV.eq_1<|ai k1<|ai k2<|ai k3<|ai hx<|ai zcO.eq_1<|e
   repeat refine st ?_
   refine⟨j+1,⟨hlt,zg0 hall hx e⟩, ?_, ?_, ?_⟩
   ·(simp only [go_sem,F])
   ·(simp only [go_sem,F])
   ·omega
  ·rw [show varB c i v=false by unfold varB newVar; rw [zfS (p:=fun x:VarD=> !(x.name==v.name)) hx' (by rw [e]; rfl)]; rfl]
   have F:=ai chAV.eq_1<|ai k1<|ai k2<|ai k3<|ai hx<|ai zcO.eq_1<|e
   repeat refine st ?_
   exact aR
 ·have k1: ¬(j:Int)< (i:Int):=by omega
  obtain rfl:j=i:=by omega
  have hr:varB c j v=(zaJ v.name&& !(v.name == [100,97,116,97])&& !(v.name == [105,110])&&zau v.start):=by
   unfold varB zau
   rw [hall]
   simp only [Bool.true_and,Bool.and_assoc]
  rw [hr]
  cases e1:zaJ v.name
  ·have F:=ai k1<|ai zcO.eq_1<|ai e1<|bneA
   repeat (first | refine st ?_ | refine cC f1 ?_ | refine cC f2 ?_)
   exact aR
  cases e2:(v.name == [100,97,116,97])
  ·cases e3:(v.name == [105,110])
   ·have F:=ai k1<|ai zcO.eq_1<|ai e1<|ai e2<|ai e3<|bneA
    repeat (first | refine st ?_ | refine cC f1 ?_ | refine cC f2 ?_)
    exact aR
   ·have F:=ai k1<|ai zcO.eq_1<|ai e1<|ai e2<|ai e3<|bneA
    repeat (first | refine st ?_ | refine cC f1 ?_ | refine cC f2 ?_)
    exact aR
  ·have F:=ai k1<|ai zcO.eq_1<|ai e1<|ai e2<|bneA
   repeat (first | refine st ?_ | refine cC f1 ?_ | refine cC f2 ?_)
   exact aR
end
section
theorem ztK {α:Type} [DecidableEq α] (l:List α):(0< (l.length:Int))=((l == [])=false):=by
 rw [eq_iff_iff]
 cases l<;>simp
theorem ziX (env:Env) (c:ChD) (hn:c.states.length<=1000000) (i:Nat) (s:StD) (hs:c.states[i]? =some s) (hp:s.parent= -1):Con Tryz.prog env 112 [.agg (chAV c),I i] (B (zay c i s)):=by
 have hi:i<c.states.length:=(List.getElem?_eq_some_iff.1 hs).1
 have k0:=nlt hi
 have f1:=zb0 env s.name
 have f2:=zj6 env c s.name hn
 have f3:=zdR env c s.inn
 have f4:=zdR env c s.out
 have f5:=zbf env c (i:Int) true hn
 have f6:=zbf env c (i:Int) false hn
 have f7:=zbe env s
 have hlen:(kidsL c i true).length<=1000000:=by
  have:=za9 c i true c.states.length
  unfold kidsL
  omega
 have f8:=zi0 env (kidsL c i true) s.initial hlen
 have f9:=zfY env c (kidsL c i true) hlen (fun k hk=>(zfd hk).1)
 have z1:=zb3 (kidsL c i true)
 have z2:=ztK (kidsL c i false)
 have z3:=zb3 s.out
 have z4:=zb3 s.inn
 refine zaa Tryz.func112 rfl Tryz.call112 (by rw [Tryz.ntmps112]; simp) ?_
 rw [Tryz.ntmps112,Tryz.results112]
 cases e1:zaJ s.name
 ·rw [show zay c i s=false by unfold zay; rw [e1]; rfl]
  have F:=ai chAV.eq_1<|ai stAV.eq_1<|ai k0<|ai hs<|ai bneA<|e1
  repeat (first | refine st ?_ | refine cC f1 ?_)
  exact aR
 cases e2:(zhP c s.name==(i:Int))
 ·rw [show zay c i s=false by unfold zay; rw [e2]; simp]
  have F:=ai chAV.eq_1<|ai stAV.eq_1<|ai k0<|ai hs<|ai bneA<|ai e1<|e2
  repeat (first | refine st ?_ | refine cC f1 ?_ | refine cC f2 ?_)
  exact aR
 cases e3:zbY c.vars.length c.states.length s.inn
 ·rw [show zay c i s=false by unfold zay; rw [e3]; simp]
  have F:=ai chAV.eq_1<|ai stAV.eq_1<|ai k0<|ai hs<|ai bneA<|ai e1<|ai e2<|e3
  repeat (first | refine st ?_ | refine cC f1 ?_ | refine cC f2 ?_ | refine cC f3 ?_)
  exact aR
 cases e4:zbY c.vars.length c.states.length s.out
 ·rw [show zay c i s=false by unfold zay; rw [e4]; simp]
  have F:=ai chAV.eq_1<|ai stAV.eq_1<|ai k0<|ai hs<|ai bneA<|ai e1<|ai e2<|ai e3<|e4
  repeat (first | refine st ?_ | refine cC f1 ?_ | refine cC f2 ?_ | refine cC f3 ?_ | refine cC f4 ?_)
  exact aR
 have hpar:zaR c i s=true:=by unfold zaR; rw [hp]; rfl
 have hu:zaQ c s=false:=by unfold zaQ at_; rw [hp]; rfl
 have hpp:((s.parent == -1)||zaQ c s)=true:=by rw [hp]; rfl
 have fu:=zhY env c s (by omega)
 have hst:zay c i s=zav c i s:=by unfold zay; rw [e1,e2,e3,e4,hpar]; simp
 rw [hst]
 by_cases hk1:s.kind=1
 ·cases e5:(kidsL c i true == [])
  ·rw [show zav c i s=inL (kidsL c i true) s.initial by unfold zav; rw [if_pos hk1,if_neg (by simpa using e5)]]
   have F:=ai chAV.eq_1<|ai stAV.eq_1<|ai k0<|ai hs<|ai bneA<|ai e1<|ai e2<|ai e3<|ai e4<|ai hp<|ai hk1<|ai z1<|e5
   repeat (first | refine st ?_ | refine cC f1 ?_ | refine cC f2 ?_ | refine cC f3 ?_ | refine cC f4 ?_ | refine cC f5 ?_ | refine cC f8 ?_)
   exact aR
  ·rw [show zav c i s=(s.initial == -1) by unfold zav; rw [if_pos hk1,if_pos (by simpa using e5)]]
   have F:=ai chAV.eq_1<|ai stAV.eq_1<|ai k0<|ai hs<|ai bneA<|ai e1<|ai e2<|ai e3<|ai e4<|ai hp<|ai hk1<|ai z1<|e5
   repeat (first | refine st ?_ | refine cC f1 ?_ | refine cC f2 ?_ | refine cC f3 ?_ | refine cC f4 ?_ | refine cC f5 ?_ | refine cC f8 ?_)
   exact aR
 have b1:=zbh hk1
 by_cases hk2:s.kind=2
 ·have hr:zav c i s=(((kidsL c i true).all fun k=>zaA c k)&&decide (0< (kidsL c i true).length)&&(s.initial == -1)):=by unfold zav; rw [if_neg hk1,if_pos hk2]
  rw [hr]
  cases e5:(s.initial == -1)
  ·rw [Bool.and_false]
   have F:=ai chAV.eq_1<|ai stAV.eq_1<|ai k0<|ai hs<|ai bneA<|ai e1<|ai e2<|ai e3<|ai e4<|ai hp<|ai hk2<|e5
   repeat (first | refine st ?_ | refine cC f1 ?_ | refine cC f2 ?_ | refine cC f3 ?_ | refine cC f4 ?_ | refine cC f5 ?_ | refine cC f9 ?_)
   exact aR
  ·rw [Bool.and_true]
   have F:=ai chAV.eq_1<|ai stAV.eq_1<|ai k0<|ai hs<|ai bneA<|ai e1<|ai e2<|ai e3<|ai e4<|ai hp<|ai hk2<|e5
   repeat (first | refine st ?_ | refine cC f1 ?_ | refine cC f2 ?_ | refine cC f3 ?_ | refine cC f4 ?_ | refine cC f5 ?_ | refine cC f9 ?_)
   exact aR
 have b2:=zbh hk2
 cases e5:(kidsL c i false == [])
 ·rw [show zav c i s=false by unfold zav; rw [if_neg hk1,if_neg hk2,e5]; simp]
  have F:=ai chAV.eq_1<|ai stAV.eq_1<|ai k0<|ai hs<|ai bneA<|ai e1<|ai e2<|ai e3<|ai e4<|ai hp<|ai b1<|ai b2<|ai z2<|e5
  repeat (first | refine st ?_ | refine cC f1 ?_ | refine cC f2 ?_ | refine cC f3 ?_ | refine cC f4 ?_ | refine cC f5 ?_ | refine cC f6 ?_)
  exact aR
 by_cases hk3:s.kind=3
 ·have hr:zav c i s=((kidsL c i false == [])&&((s.parent == -1)||zaQ c s)&&(s.initial == -1)&&(s.out == [])):=by unfold zav; rw [if_neg hk1,if_neg hk2,if_pos hk3]
  rw [hr,e5,hpp]
  cases e6:(s.initial == -1)
  ·rw [Bool.and_false,Bool.false_and]
   have F:=ai chAV.eq_1<|ai stAV.eq_1<|ai k0<|ai hs<|ai bneA<|ai e1<|ai e2<|ai e3<|ai e4<|ai hp<|ai hk3<|ai z2<|ai e5<|e6
   repeat (first | refine st ?_ | refine cC f1 ?_ | refine cC f2 ?_ | refine cC f3 ?_ | refine cC f4 ?_ | refine cC f5 ?_ | refine cC f6 ?_ | refine cC fu ?_)
   exact aR
  cases e7:(s.out == [])
  ·rw [Bool.and_false]
   have F:=ai chAV.eq_1<|ai stAV.eq_1<|ai k0<|ai hs<|ai bneA<|ai e1<|ai e2<|ai e3<|ai e4<|ai hp<|ai hk3<|ai z2<|ai z3<|ai e5<|ai e6<|e7
   repeat (first | refine st ?_ | refine cC f1 ?_ | refine cC f2 ?_ | refine cC f3 ?_ | refine cC f4 ?_ | refine cC f5 ?_ | refine cC f6 ?_ | refine cC fu ?_)
   exact aR
  have F:=ai chAV.eq_1<|ai stAV.eq_1<|ai k0<|ai hs<|ai bneA<|ai e1<|ai e2<|ai e3<|ai e4<|ai hp<|ai hk3<|ai z2<|ai z3<|ai e5<|ai e6<|e7
  repeat (first | refine st ?_ | refine cC f1 ?_ | refine cC f2 ?_ | refine cC f3 ?_ | refine cC f4 ?_ | refine cC f5 ?_ | refine cC f6 ?_ | refine cC fu ?_)
  exact aR
 have b3:=zbh hk3
 by_cases hk45:s.kind=4\/s.kind=5
 ·have hr:zav c i s=((kidsL c i false == [])&&zaQ c s&&inL (kidsL c s.parent true) s.initial&&(s.inn == [])&&(s.out == [])):=by unfold zav; rw [if_neg hk1,if_neg hk2,if_neg hk3,if_pos hk45]
  have e6:zaD s=true:=by unfold zaD; simpa using hk45
  rw [hr,e5,Bool.true_and]
  rw [hu,Bool.false_and,Bool.false_and,Bool.false_and]
  have F:=ai chAV.eq_1<|ai stAV.eq_1<|ai k0<|ai hs<|ai bneA<|ai e1<|ai e2<|ai e3<|ai e4<|ai hp<|ai b1<|ai b2<|ai b3<|ai z2<|ai e5<|ai e6<|hu
  repeat (first | refine st ?_ | refine cC f1 ?_ | refine cC f2 ?_ | refine cC f3 ?_ | refine cC f4 ?_ | refine cC f5 ?_ | refine cC f6 ?_ | refine cC f7 ?_ | refine cC fu ?_)
  exact aR
 have e6:zaD s=false:=by unfold zaD; simpa using hk45
 rw [show zav c i s=false by unfold zav; rw [if_neg hk1,if_neg hk2,if_neg hk3,if_neg hk45]]
 have F:=ai chAV.eq_1<|ai stAV.eq_1<|ai k0<|ai hs<|ai bneA<|ai e1<|ai e2<|ai e3<|ai e4<|ai hp<|ai b1<|ai b2<|ai b3<|ai z2<|ai e5<|e6
 repeat (first | refine st ?_ | refine cC f1 ?_ | refine cC f2 ?_ | refine cC f3 ?_ | refine cC f4 ?_ | refine cC f5 ?_ | refine cC f6 ?_ | refine cC f7 ?_)
 exact aR
end

end Go.Proofs.YtnbjaghjdeicmaaGreatDoor