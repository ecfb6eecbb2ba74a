/- A table's map in the making: a row for each key. -/
import Derived.Test.YtlmekdfleciejaaGreatDoorD27
import Derived.Test.YtlmekdfleciejaaGreatDoorD7
set_option maxRecDepth 100000
set_option maxHeartbeats 4000000
set_option linter.unusedSimpArgs false
namespace Go.Proofs.YtlmekdfleciejaaGreatDoor
open Go.RowKit
def zbW (c:ChD) (j:Nat) (vs:Nat->Nat):List (List AV):=(keysTo c j).mapIdx fun q p=>[.agg [I p.1,I p.2], .row (q+6000) (vs (q+6000))]
def keyRows (c:ChD) (j:Nat):List Row:=(keysTo c j).map fun p=>⟨1,(zed c j p).map zae,3,true⟩
def zdS (c:ChD):List (List AV):=(keysTo c c.trans.length).map fun p=>[.agg [I p.1,I p.2], .seq 1 ((zed c c.trans.length p).map zae)]
def begE (c:ChD) (j:Nat):List (List AV):=(List.range j).map fun i=>[.seq 1 ((sbL c i).map zae)]
def tabCells (c:ChD):List AV:=[Sg c.name,I c.initial,varsAV c.vars,stsAV c.states,trsAV c.trans,zal c, .seq 1 ((evL c).map zcv), .fmap (zdS c), .seq 1 (begE c c.states.length)]
def zai (c:ChD):AV:= .ref 9 [tabCells c] 0 0
theorem zcI (c:ChD) (j:Nat) (vs:Nat->Nat):(zbW c j vs).length=(keysTo c j).length:=by simp [zbW]
theorem zbN (c:ChD) (j:Nat) (vs:Nat->Nat) (q:Nat):(zbW c j vs)[q]? =((keysTo c j)[q]?).map fun p=>[.agg [I p.1,I p.2], .row (q+6000) (vs (q+6000))]:=by simp [zbW]
theorem zaY (c:ChD) (j q:Nat):(keyRows c j)[q]? =((keysTo c j)[q]?).map fun p=>⟨1,(zed c j p).map zae,3,true⟩:=by simp [keyRows]
theorem znC (p:Int×Int) (f:Nat->AV): ∀(l:List (Int×Int)) (i:Nat),mfind Tryz.prog 105 (.agg [I p.1,I p.2]) (l.mapIdx fun q k=>[.agg [I k.1,I k.2],f q]) i=some (idxP p l i)
 | [],i=>rfl
 |(a,b)::l,i=>by
   have ih:=znC p (fun q=>f (q+1)) l (i+1)
   obtain⟨kn,ks⟩:=p
   rw [List.mapIdx_cons]
   by_cases h:kn=a/\ks=b
   ·obtain⟨rfl,rfl⟩:=h
    have e1:(kn==kn)=true:=by simp
    have e2:(ks==ks)=true:=by simp
    simp only [go_sem,eqFs,zbd,e1,e2,idxP]
   ·have e1:(kn==a&&(ks==b))=false:=by
     rw [Bool.eq_false_iff]
     intro e
     simp only [Bool.and_eq_true,beq_iff_eq] at e
     exact h e
    have e2: ¬((kn,ks):Int×Int)=(a,b):=fun e=>h (by simpa using e)
    simp only at ih
    simp only [go_sem,eqFs,zbd,e1,idxP,e2,ih]
theorem znB (c:ChD) (j:Nat) (vs:Nat->Nat) (a b:Int):mfind Tryz.prog 105 (.agg [I a,I b]) (zbW c j vs) 0=some (idxP (a,b) (keysTo c j) 0):=znC (a,b) (fun q=> .row (q+6000) (vs (q+6000))) (keysTo c j) 0
/-! The state at the head of the loop -/
def boxA (c:ChD) (g:Nat->Nat):Row:=⟨9,[[Sg c.name,I c.initial,varsAV c.vars,stsAV c.states,trsAV c.trans,zal c, .seq 1 ((evL c).map zcv), .mp 25 (g 25),nilS]],101,false⟩
def RA (c:ChD) (j:Nat) (g:Nat->Nat):List (Nat×Row):=(1,⟨5,[chAV c],26,false⟩)::(27,boxA c g)::(25,⟨0,zbW c j g,98,false⟩)::rowsAt 6000 (keyRows c j)
theorem zgC (c:ChD) (j:Nat) (q:Nat):zav (rowsAt 6000 (keyRows c j)) (q+6000)=(keyRows c j)[q]? :=by
 rw [zfk,if_pos (by omega),show q+6000-6000=q by omega]
theorem zme {c:ChD} {j q:Nat} {p:Int×Int} {g g':Nat->Nat} (hk:keysTo c (j+1)=keysTo c j) (hq:(keysTo c j)[q]? =some p) (h1: ∀k,k≠q->g' (k+6000)=g (k+6000)) {v:Nat} (h2:g' (q+6000)=v):(zbW c j g).set q [.agg [I p.1,I p.2], .row (q+6000) v]=zbW c (j+1) g':=by
 apply List.ext_getElem?
 intro k
 rw [List.getElem?_set,zbN,zbN,zcI,hk]
 by_cases e:q=k
 ·subst e
  rw [if_pos rfl,if_pos (List.getElem?_eq_some_iff.1 hq).1,hq, <-h2]
  rfl
 ·rw [if_neg e]
  cases (keysTo c j)[k]? with
  | none=>rfl
  | some p'=>simp only [Option.map_some,h1 k (Ne.symm e)]
theorem zmc {c:ChD} {j q:Nat} {p:Int×Int} {g:Nat->Nat} (hq:(keysTo c j)[q]? =some p):(zbW c j g).set q [.agg [I p.1,I p.2], .row (q+6000) (g (q+6000))]=zbW c j g:=by
 apply List.ext_getElem?
 intro k
 rw [List.getElem?_set,zbN,zcI]
 by_cases e:q=k
 ·subst e
  rw [if_pos rfl,if_pos (List.getElem?_eq_some_iff.1 hq).1,hq]
  rfl
 ·rw [if_neg e]
theorem zmd {c:ChD} {j:Nat} {g g':Nat->Nat} (hk:keysTo c (j+1)=keysTo c j++[zbP c j]) (h1: ∀k,k< (keysTo c j).length->g' (k+6000)=g (k+6000)) {v:Nat} (h2:g' ((keysTo c j).length+6000)=v):zbW c j g++[[.agg [I (zbP c j).1,I (zbP c j).2], .row ((keysTo c j).length+6000) v]]=zbW c (j+1) g':=by
 apply List.ext_getElem?
 intro k
 rw [zbN,hk]
 by_cases hlt:k< (keysTo c j).length
 ·rw [List.getElem?_append_left (by rw [zcI]; exact hlt),List.getElem?_append_left hlt,zbN,List.getElem?_eq_getElem hlt]
  simp only [Option.map_some,h1 k hlt]
 ·rw [List.getElem?_append_right (by rw [zcI]; omega),List.getElem?_append_right (by omega),zcI]
  by_cases e:k=(keysTo c j).length
  ·subst e
   simp [h2]
  ·rw [List.getElem?_eq_none (by simp; omega),List.getElem?_eq_none (by simp; omega)]
   rfl
theorem ziU {c:ChD} {j q:Nat} {p:Int×Int} (hk:keysTo c (j+1)=keysTo c j) (hp:zbP c j=p) (hn:(keysTo c j).Nodup) (hq:(keysTo c j)[q]? =some p) (k:Nat):(keyRows c (j+1))[k]? =if k=q then some ⟨1,(zed c j p).map zae++[[I j]],3,true⟩ else(keyRows c j)[k]? :=by
 rw [zaY,zaY,hk]
 by_cases e:k=q
 ·subst e
  rw [if_pos rfl,hq]
  simp only [Option.map_some,zfB,hp,if_true,List.map_append,List.map_cons,List.map_nil,zae]
 ·rw [if_neg e]
  cases hk2:(keysTo c j)[k]? with
  | none=>rfl
  | some p'=>
    have hne: ¬p=p':=fun e2=>by
     subst e2
     obtain⟨a1,b1⟩:=List.getElem?_eq_some_iff.1 hq
     obtain⟨a2,b2⟩:=List.getElem?_eq_some_iff.1 hk2
     have hpw:=List.pairwise_iff_getElem.1 (List.nodup_iff_pairwise_ne.1 hn)
     rcases Nat.lt_trichotomy k q with hlt | hlt | hlt
     ·exact hpw k q a2 a1 hlt (b2.trans b1.symm)
     ·exact e hlt
     ·exact hpw q k a1 a2 hlt (b1.trans b2.symm)
    simp only [Option.map_some,zfB,hp,if_neg hne]
theorem ziT {c:ChD} {j:Nat} (hk:keysTo c (j+1)=keysTo c j++[zbP c j]) (hno:zbP c j∉keysTo c j) (k:Nat):(keyRows c (j+1))[k]? =if k=(keysTo c j).length then some ⟨1,[[I j]],3,true⟩ else(keyRows c j)[k]? :=by
 rw [zaY,zaY,hk]
 by_cases e:k=(keysTo c j).length
 ·subst e
  simp only [if_true,List.getElem?_append_right (Nat.le_refl _),Nat.sub_self,List.getElem?_cons_zero,Option.map_some,zfB,zo6 hno,List.nil_append,List.map_cons,List.map_nil,zae]
 ·rw [if_neg e]
  by_cases hlt:k< (keysTo c j).length
  ·rw [List.getElem?_append_left hlt,List.getElem?_eq_getElem hlt]
   have hne: ¬zbP c j=(keysTo c j)[k]:=fun e2=>hno (e2 ▸ List.getElem_mem hlt)
   simp only [Option.map_some,zfB,if_neg hne]
  ·rw [List.getElem?_eq_none (by simp; omega),List.getElem?_eq_none (by omega)]
   rfl
def FA (c:ChD) (j:Nat) (g:Nat->Nat):List (Nat×AV):=[(1, .loc 1 (g 1) 0 0),(2, .lit (.pointer none)),(3, .lit .nilIface),(4,zal c),(6, .loc 27 (g 27) 0 0),(32,trsAV c.trans),(33,I c.trans.length),(34,I j)]
def RN (c:ChD) (j:Nat) (g:Nat->Nat):List (Nat×Row):=(1,⟨5,[chAV c],26,false⟩)::(27,boxA c g)::(25,⟨0,zbW c j g++[[.agg [I (zbP c j).1,I (zbP c j).2], .row 55 (g 55)]],98,false⟩)::(55,⟨1,[[I j]],3,true⟩)::rowsAt 6000 (keyRows c j)
theorem znG (c:ChD) (j:Nat) (vs:Nat->Nat) {g gm:Nat->Nat->Option AV} (h: ∀q v,g (q+6000) v=none):(zbW c j vs).map (·.map (AV.see g gm))=zbW c j vs:=by
 apply List.ext_getElem?
 intro q
 rw [List.getElem?_map,zbN]
 cases (keysTo c j)[q]? with
 | none=>rfl
 | some p=>simp only [Option.map_some,List.map_cons,List.map_nil,AV.see,AV.see.seeL,h,Option.getD_none]
theorem zly (c:ChD) (vs:Nat->Nat) {g gm:Nat->Nat->Option AV} (h: ∀v,gm 25 v=none):(boxA c vs).see g gm=boxA c vs:=by
 simp only [Row.see,boxA,List.map_cons,List.map_nil,AV.see,AV.see.seeL,h,Option.getD_none,zal,Bool.false_eq_true,if_false]
theorem zoD (c:ChD) {g gm:Nat->Nat->Option AV} :(chAV c).map (AV.see g gm)=chAV c:=rfl
theorem zef {s:St} {r r2:Nat} {row:Row} {k:Nat} :(zcE s r r2 row).rows k=if k=r2 then some row else if k=r then none else(s.rows k).map (Row.see (zhH r (s.vs r) r2 (s.vs r2+1)) fun _ _=>none):=rfl
theorem znd (v n v2 q w:Nat):zhH 55 v n v2 (q+6000) w=none:=by unfold zhH; rw [if_neg (by omega)]
theorem zqs {c:ChD} {j:Nat} (hk:keysTo c (j+1)=keysTo c j++[zbP c j]) (hno:zbP c j∉keysTo c j) (F:Nat) {g:Nat->Nat} {e:Nat->Bool} (he:e 27=false): ∃g' e',e' 27=false/\Turned (head (FA c F g) (RN c j g) g e) (head (FA c F g') (RA c (j+1) g') g' e'):=by
 generalize hn:(keysTo c j).length=n at*
 have hr0:(keyRows c j)[n]? =none:=by rw [zaY,List.getElem?_eq_none (by omega)]; rfl
 have hrow:(head (FA c F g) (RN c j g) g e).rows 55=some ⟨1,[[I j]],3,true⟩:=by simp [head,RN,zav]
 have hfree:(head (FA c F g) (RN c j g) g e).rows (n+6000)=none:=by
  have:=zgC c j n
  rw [hr0] at this
  simp only [head,RN,zav]
  rw [if_neg (by omega),if_neg (by omega),if_neg (by omega),if_neg (by omega),this]
 have t1:=Turned.ren (s:=head (FA c F g) (RN c j g) g e) 55 (n+6000) ⟨1,[[I j]],3,true⟩ (by omega) hrow hfree (Nat.succ_ne_zero 0) rfl
 have hg: ∀t,t≠n+6000->upd g (n+6000) (g (n+6000)+1) t=g t:=fun t ht=>upd_ne _ _ _ ht
 refine⟨upd g (n+6000) (g (n+6000)+1),upd e (n+6000) (e 55),by rw [upd_ne _ _ _ (by omega)]; exact he,t1.trans (Turned.head ?_ ?_)⟩
 ·simp only [zdw,FA,zcE,head,zgj,AV.see,zal,hg 1 (by omega),hg 27 (by omega),if_true,Nat.reduceEqDiff,if_false,and_self,reduceCtorEq]
 ·refine⟨?_, ?_, ?_,holdR_rowsAt fun q r hq=> ?_⟩
  ·show (zcE _ _ _ _).rows 1=some _
   rw [zef,if_neg (by omega),if_neg (by omega)]
   simp only [head,RN,zav,if_true,Option.map_some,Row.see,List.map_cons,List.map_nil,zoD,Bool.false_eq_true,if_false]
  ·show (zcE _ _ _ _).rows 27=some _
   rw [zef,if_neg (by omega),if_neg (by omega)]
   simp only [head,RN,zav,if_true,Option.map_some,Nat.reduceEqDiff,if_false]
   rw [zly _ _ fun _=>rfl]
   simp only [boxA,hg 25 (by omega)]
  ·show (zcE _ _ _ _).rows 25=some _
   rw [zef,if_neg (by omega),if_neg (by omega)]
   simp only [head,RN,zav,if_true,Option.map_some,Nat.reduceEqDiff,if_false,Row.see,Bool.false_eq_true,List.map_append,List.map_cons,List.map_nil]
   rw [znG _ _ _ fun q v=>znd ..]
   have:=zmd (c:=c) (j:=j) (g:=g) (g':=upd g (n+6000) (g (n+6000)+1)) hk (fun k hk=>hg _ (by omega)) (v:=g (n+6000)+1) (by rw [hn,upd_same])
   rw [hn] at this
   rw [<-this]
   simp [AV.see,AV.see.seeL,zhH]
  ·rw [ziT hk hno,hn] at hq
   show (zcE _ _ _ _).rows (q+6000)=some _
   rw [zef]
   by_cases e0:q=n
   ·subst e0
    rw [if_pos rfl] at hq |-
    exact hq
   ·rw [if_neg e0] at hq
    rw [if_neg (by omega),if_neg (by omega)]
    simp only [head,RN,zav]
    rw [if_neg (by omega),if_neg (by omega),if_neg (by omega),if_neg (by omega),zgC,hq]
    have hpu:r.pure=true:=by
     rw [zaY] at hq
     obtain⟨p,_,rfl⟩:=Option.map_eq_some_iff.1 hq
     rfl
    simp only [Option.map_some,Row.see,hpu,if_true]
/-! The map, frozen -/
theorem zeL {g:Nat->Nat} {r v:Nat} : ∀ {l:List Row} {b:Nat},zcw (seesR g (rowsAt b l)) r v=if b<=r/\v=g r then(l[r-b]?).map fun row=> .seq row.sz row.es else none
 | [],b=>by simp [rowsAt,seesR,zcw]
 | x::l,b=>by
   have ih:=zeL (g:=g) (r:=r) (v:=v) (l:=l) (b:=b+1)
   simp only [seesR] at ih
   simp only [rowsAt,seesR,List.map_cons,zcw,ih]
   by_cases h:r=b
   ·subst h
    by_cases hv:v=g r
    ·subst hv; simp
    ·simp [hv]
   ·rw [if_neg fun e=>h e.1]
    by_cases h2:b+1<=r
    ·by_cases hv:v=g r
     ·rw [if_pos ⟨h2,hv⟩,if_pos ⟨by omega,hv⟩,show r-b=(r-(b+1))+1 by omega,List.getElem?_cons_succ]
     ·rw [if_neg fun e=>hv e.2,if_neg fun e=>hv e.2]
    ·rw [if_neg fun e=>h2 e.1,if_neg fun e=>by omega]
def boxF (c:ChD):Row:=⟨9,[[Sg c.name,I c.initial,varsAV c.vars,stsAV c.states,trsAV c.trans,zal c, .seq 1 ((evL c).map zcv), .fmap (zdS c),nilS]],101,false⟩
theorem zmk {c:ChD} (F:Nat) {g:Nat->Nat} {e:Nat->Bool} (he:e 27=false): ∃e',e' 27=false/\Turned (head (FA c F g) (RA c c.trans.length g) g e) (head (FA c F g) [(1,⟨5,[chAV c],26,false⟩),(27,boxF c)] g e'):=by
 generalize hn:c.trans.length=n at*
 have hL:zhq (head (FA c F g) (RA c n g) g e) (seesR g (rowsAt 6000 (keyRows c n))):=by
  intro p hp
  obtain⟨x,hx,rfl⟩:=List.mem_map.1 hp
  obtain⟨q,h1,h2⟩:=zeN hx
  refine⟨rfl,x.2, ?_, ?_, ?_,rfl⟩
  ·simp only [head,RA,zav,h2]
   rw [if_neg (by omega),if_neg (by omega),if_neg (by omega),zgC]
   exact h1
  ·rw [zaY] at h1
   obtain⟨p,_,e0⟩:=Option.map_eq_some_iff.1 h1
   rw [<-e0]
   exact Nat.succ_ne_zero 0
  ·rw [zaY] at h1
   obtain⟨p,_,e0⟩:=Option.map_eq_some_iff.1 h1
   rw [<-e0]
 have t1:=Turned.sees _ hL
 have hes:(zbW c n g).map (·.map (AV.see (zcw (seesR g (rowsAt 6000 (keyRows c n)))) fun _ _=>none))=zdS c:=by
  apply List.ext_getElem?
  intro q
  unfold zdS
  rw [hn,List.getElem?_map,zbN,List.getElem?_map]
  cases hq:(keysTo c n)[q]? with
  | none=>rfl
  | some p=>
    have hs:zcw (seesR g (rowsAt 6000 (keyRows c n))) (q+6000) (g (q+6000))=some (.seq 1 ((zed c n p).map zae)):=by
     rw [zeL,if_pos ⟨by omega,rfl⟩,show q+6000-6000=q by omega,zaY,hq]
     rfl
    simp only [Option.map_some,List.map_cons,List.map_nil,AV.see,AV.see.seeL,hs,Option.getD_some]
 have hlow: ∀r v,r<6000->zcw (seesR g (rowsAt 6000 (keyRows c n))) r v=none:=fun r v h=>by
  rw [zeL,if_neg fun e=>by omega]
 generalize hG:zcw (seesR g (rowsAt 6000 (keyRows c n)))=G at*
 have t2:Turned (seenSt (head (FA c F g) (RA c n g) g e) (seesR g (rowsAt 6000 (keyRows c n)))) (head (FA c F g) [(1,⟨5,[chAV c],26,false⟩),(27,boxA c g),(25,⟨0,zdS c,98,false⟩)] g _):=Turned.head (s:=seenSt (head (FA c F g) (RA c n g) g e) (seesR g (rowsAt 6000 (keyRows c n)))) (by
  simp only [zdw,FA,seenSt,head,zgj,AV.see,zal,if_true,Nat.reduceEqDiff,if_false,and_self,reduceCtorEq]) (by
  refine⟨?_, ?_, ?_,trivial⟩
  ·simp only [seenSt,hG,head,RA,zav,if_true,Option.map_some,Row.see,List.map_cons,List.map_nil,zoD,Bool.false_eq_true,if_false]
  ·simp only [seenSt,hG,head,RA,zav,if_true,Option.map_some,Nat.reduceEqDiff,if_false]
   rw [zly _ _ fun _=>rfl]
  ·simp only [seenSt,hG,head,RA,zav,if_true,Option.map_some,Nat.reduceEqDiff,if_false,Row.see,Bool.false_eq_true,hes])
 have hesc:(seenSt (head (FA c F g) (RA c n g) g e) (seesR g (rowsAt 6000 (keyRows c n)))).esc 27=false:=by
  show (e 27||_)=false
  rw [he,Bool.false_or,List.any_eq_false]
  intro p hp
  obtain⟨x,hx,rfl⟩:=List.mem_map.1 hp
  obtain⟨q,_,h2⟩:=zeN hx
  simp
  omega
 have t3:=t1.trans t2
 generalize (seenSt (head (FA c F g) (RA c n g) g e) (seesR g (rowsAt 6000 (keyRows c n)))).esc=e2 at t3 hesc
 have t4:=t3.trans (Turned.mapSee 25 ⟨0,zdS c,98,false⟩ (by simp [head,zav]) rfl (by
  rw [List.all_eq_true]
  intro x hx
  unfold zdS at hx
  obtain⟨p,_,rfl⟩:=List.mem_map.1 hx
  rfl))
 refine⟨e2,hesc,t4.trans (Turned.head ?_ ?_)⟩
 ·simp only [zdw,FA,zma,head,zgj,AV.see,zal,if_true,Nat.reduceEqDiff,if_false,and_self,reduceCtorEq]
 ·refine⟨?_, ?_,trivial⟩
  ·simp only [zma,head,zav,if_true,Option.map_some,Nat.reduceEqDiff,if_false,Row.see,List.map_cons,List.map_nil,zoD,Bool.false_eq_true]
  ·simp only [zma,head,zav,if_true,Option.map_some,Nat.reduceEqDiff,if_false,Row.see,boxA,boxF,List.map_cons,List.map_nil,AV.see,zal,Bool.false_eq_true,and_self,Option.getD_some]
end Go.Proofs.YtlmekdfleciejaaGreatDoor
