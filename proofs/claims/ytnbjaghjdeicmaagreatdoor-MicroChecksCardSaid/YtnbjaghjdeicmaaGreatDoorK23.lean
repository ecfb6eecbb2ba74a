/- A step in which nothing is done: leaving, and whether transitions fit. -/
import Derived.Test.YtnbjaghjdeicmaaGreatDoorK22
import Derived.Test.YtnbjaghjdeicmaaGreatDoorK10
import Derived.Test.YtnbjaghjdeicmaaGreatDoorK5
import Derived.Test.YtnbjaghjdeicmaaGreatDoorK20
import Derived.Test.YtnbjaghjdeicmaaGreatDoorK17
import Derived.Test.YtnbjaghjdeicmaaGreatDoorK19
import Derived.Test.YtnbjaghjdeicmaaGreatDoorK21
set_option maxRecDepth 100000
set_option maxHeartbeats 16000000
set_option linter.unusedSimpArgs false
namespace Go.Proofs.YtnbjaghjdeicmaaGreatDoor
section
open Go.RowKit
theorem znR (env:Env) (es:List (List AV)) (hl:es.length<=4096):Con Tryz.prog env 301 [.seq 2 es] (.own 85 2 es):=by
 cases es with
 | nil=>
   refine Con.empty fun A cap=> ?_
   cases A with
   | none=>
     refine zap Tryz.func301 rfl Tryz.call301 (by rw [Tryz.ntmps301]; simp) ?_
     rw [Tryz.ntmps301,Tryz.results301]
     repeat refine st0 ?_
     (refine zae ?_; refine⟨_,(by show (zar _ _ _).run _=some _; simp only [go_sem]; rfl), ?_⟩)
     exact RStr.own_nil _ _ (by decide)
   | some A=>
     refine zaa Tryz.func301 rfl Tryz.call301 (by rw [Tryz.ntmps301]; simp) ?_
     rw [Tryz.ntmps301,Tryz.results301]
     repeat refine st0 ?_
     exact aR0
 | cons d l=>
   have g1:Fits ((l.length+1)) 32:=zah (by simpa using hl) (by omega)
   refine zaa Tryz.func301 rfl Tryz.call301 (by rw [Tryz.ntmps301]; simp) ?_
   rw [Tryz.ntmps301,Tryz.results301]
   have F:=g1
   repeat refine st ?_
   exact aR
theorem zmu (env:Env) (x:MemD) (h:Int) (hx:0<=x.1/\x.1<=1000000) (hh:0<=h/\h<=1000000):Con Tryz.prog env 300 [.agg (mmAV x),I h] (I (x.1-h)):=by
 have q:IntKind.i64.wrap (x.1-h)=x.1-h:=IntWalk.i64_in _ (by omega)
 unfold mmAV
 refine zaa Tryz.func300 rfl Tryz.call300 (by rw [Tryz.ntmps300]; simp) ?_
 rw [Tryz.ntmps300,Tryz.results300]
 have F:=q
 repeat refine st ?_
 exact aR
theorem zks (env:Env) (l:List MemD) (x:Int) (hs:Srt l) (hz: ∀m∈l,0<=m.1/\m.1<=1000000) (hh:0<=x/\x<=1000000) (hl:l.length<=1000000):Con Tryz.prog env 299 [memsAV l,I x, .lit (.func (.func 300) #[] #[])] (.tuple [I (posM l x),B (isM l x)]):=by
 have hle:=zk5 x l
 have hp:=fun {j:Nat} {y:MemD} (hy:l[j]? =some y)=>zoL (h:=x) hs hy
 have hI:isM l x=match l[posM l x]? with | some y=>y.1==x | none=>false:=rfl
 generalize isM l x=b at*
 generalize posM l x=p at*
 refine zaa Tryz.func299 rfl Tryz.call299 (by rw [Tryz.ntmps299]; simp) ?_
 rw [Tryz.ntmps299,Tryz.results299]
 repeat refine st0 ?_
 refine zac (D:=Nat×Nat) (fun d _=>[(0,memsAV l),(1,I x),(2, .lit (.func (.func 300) #[] #[])),(8,I l.length),(9,I d.1),(10,I d.2)]) (fun _ _=>[]) (fun d _ _=>d.1<=p/\p<=d.2/\d.2<=l.length) (fun d=>d.2-d.1) (0,l.length) ?_ ?_ ?_ ?_
 ·exact⟨Nat.zero_le _,hle,Nat.le_refl _⟩
 ·(simp only [go_sem])
  try rfl
 ·(simp only [go_sem])
 rintro⟨i,j⟩ ws esc ⟨h1,h2,h3⟩
 simp only at h1 h2 h3
 by_cases hlt:i<j
 ·have g1:=nlt hlt
  have hm:(i+j)/2<l.length:=by omega
  obtain⟨y,hy⟩: ∃y,l[(i+j)/2]? =some y:=⟨l[(i+j)/2],List.getElem?_eq_getElem hm⟩
  have hyp:=hp hy
  have f1:=zmu env y x (hz y (List.mem_of_getElem? hy)) hh
  have g2:IntKind.i64.wrap ((i:Int)+(j:Int))=((i+j:Nat):Int):=by rw [zbn (by omega) (by omega)]; omega
  have g3:IntKind.u64.wrap ((i+j:Nat):Int)=((i+j:Nat):Int):=IntWalk.u64_in _ (by omega)
  have g4:IntKind.i64.wrap (((i+j:Nat):Int).fdiv (2^min 1 64))=(((i+j)/2:Nat):Int):=by
   rw [show ((i+j:Nat):Int).fdiv (2^min 1 64)=(((i+j)/2:Nat):Int) from(Int.ofNat_fdiv (i+j) 2).symm,zbn (by omega) (by omega)]
  have g5:(((i+j)/2:Nat):Int)< (l.length:Int):=by omega
  have g6:=zab (k:=(i+j)/2) (n:=l.length) hm (by omega)
  generalize hmm:(i+j)/2=mm at*
  unfold mmAV at f1
  by_cases hb:y.1<x
  ·have q:y.1-x<0:=by omega
   have:=hyp.2 hb
   have F:=ai mmAV.eq_1<|ai g1<|ai g2<|ai g3<|ai g4<|ai g5<|ai g6<|ai hy<|q
   repeat refine st ?_
   refine oC (zcn rfl (by simp only [go_sem,F]; exact iR)) (f1) (by simp only [go_sem,F]; exact iR) (by simp only [go_sem,F]; exact⟨rfl,rfl⟩) ?_
   repeat refine st ?_
   refine⟨(mm+1,j),⟨?_, ?_, ?_⟩, ?_, ?_, ?_⟩
   ·simp only; omega
   ·exact h2
   ·exact h3
   ·(simp only [go_sem,F])
   ·(simp only [go_sem,F])
   ·simp only; omega
  ·have q: ¬y.1-x<0:=by omega
   have: ¬mm<p:=fun h=>hb (hyp.1 h)
   have F:=ai mmAV.eq_1<|ai g1<|ai g2<|ai g3<|ai g4<|ai g5<|ai g6<|ai hy<|q
   repeat refine st ?_
   refine oC (zcn rfl (by simp only [go_sem,F]; exact iR)) (f1) (by simp only [go_sem,F]; exact iR) (by simp only [go_sem,F]; exact⟨rfl,rfl⟩) ?_
   repeat refine st ?_
   refine⟨(i,mm),⟨?_, ?_, ?_⟩, ?_, ?_, ?_⟩
   ·exact h1
   ·simp only; omega
   ·simp only; omega
   ·(simp only [go_sem,F])
   ·(simp only [go_sem,F])
   ·simp only; omega
 ·obtain rfl:i=j:=by omega
  obtain rfl:i=p:=by omega
  have g1: ¬(i:Int)< (i:Int):=by omega
  by_cases hi:i<l.length
  ·have g2:=nlt hi
   obtain⟨y,hy⟩: ∃y,l[i]? =some y:=⟨l[i],List.getElem?_eq_getElem hi⟩
   have f1:=zmu env y x (hz y (List.mem_of_getElem? hy)) hh
   rw [hy] at hI
   have hI:b=(y.1==x):=hI
   unfold mmAV at f1
   by_cases he:y.1=x
   ·have q:(y.1-x==0)=true:=by simp; omega
    rw [hI,show (y.1==x)=true by simpa using he]
    have F:=ai mmAV.eq_1<|ai g1<|ai g2<|ai hy<|q
    repeat refine st ?_
    refine oC (zcn rfl (by simp only [go_sem,F]; exact iR)) (f1) (by simp only [go_sem,F]; exact iR) (by simp only [go_sem,F]; exact⟨rfl,rfl⟩) ?_
    repeat refine st ?_
    exact aR
   ·have q:(y.1-x==0)=false:=by simp; omega
    rw [hI,show (y.1==x)=false by simpa using he]
    have F:=ai mmAV.eq_1<|ai g1<|ai g2<|ai hy<|q
    repeat refine st ?_
    refine oC (zcn rfl (by simp only [go_sem,F]; exact iR)) (f1) (by simp only [go_sem,F]; exact iR) (by simp only [go_sem,F]; exact⟨rfl,rfl⟩) ?_
    repeat refine st ?_
    exact aR
  ·have g2: ¬(i:Int)< (l.length:Int):=by omega
   rw [List.getElem?_eq_none (by omega)] at hI
   have hI:b=false:=hI
   rw [hI]
   have F:=ai g1<|g2
   repeat refine st ?_
   exact aR
theorem zsE (l:List MemD) (p:Nat) (m:MemD):zgA p (mmAV m) (l.map mmAV)=(l.take p++m::l.drop p).map mmAV:=by
 unfold zgA
 rw [List.map_append,List.map_cons,List.map_take,List.map_drop]
theorem zoH (env:Env) (l:List MemD) (m:MemD) (hs:Srt l) (hz: ∀m∈l,0<=m.1/\m.1<=1000000) (hh:0<=m.1/\m.1<=1000000) (hl:l.length<=4000):Con Tryz.prog env 272 [memsAV l, .agg (mmAV m)] (.own 85 2 ((putM l m).map mmAV)):=by
 have f0:=zks env l m.1 hs hz hh (by omega)
 have f1:=znR env (l.map mmAV) (by rw [List.length_map]; omega)
 cases hb:isM l m.1 with
 | true=>
   rw [hb] at f0
   have hlt:=ztg hb
   rw [zlV hb]
   generalize posM l m.1=p at*
   have q0:=nlt hlt
   have hset:(l.map mmAV).set p [I m.1, .seq 1 (m.2.map intAV)]=(l.set p m).map mmAV:=by rw [List.map_set]; rfl
   obtain⟨y,hy⟩: ∃y,l[p]? =some y:=⟨l[p],List.getElem?_eq_getElem hlt⟩
   refine zaa Tryz.func272 rfl Tryz.call272 (by rw [Tryz.ntmps272]; simp) ?_
   rw [Tryz.ntmps272,Tryz.results272]
   have F:=ai mmAV.eq_1<|ai q0<|ai hset<|hy
   repeat (first | refine st ?_ | refine cC f0 ?_ | refine cC f1 ?_)
   exact aR
 | false=>
   rw [hb] at f0
   rw [zlW hb, <-zsE]
   have hle:=zk5 m.1 l
   generalize posM l m.1=p at*
   refine zaa Tryz.func272 rfl Tryz.call272 (by rw [Tryz.ntmps272]; simp) ?_
   rw [Tryz.ntmps272,Tryz.results272]
   have F:=mmAV.eq_1
   repeat (first | refine st ?_ | refine cC f0 ?_ | refine cC f1 ?_)
   refine zqw 24 27 rfl (row:=⟨2,l.map mmAV,85,true⟩) (row2:=⟨2,[mmAV m],85,true⟩) (i:=p) insM (Nat.succ_ne_zero 1) rfl rfl rfl rfl rfl (by decide) (by rw [List.length_map]; exact hle) (by rw [List.length_map]; omega) (by simp only [go_sem]; exact iR) (by simp only [go_sem]; exact iR) (by simp only [go_sem]; exact iR) (by simp only [go_sem]; exact iR) (by simp only [go_sem]; exact iR) (by simp only [go_sem]; exact iR) iR ?_
   repeat refine st ?_
   exact aR
end
section
open Go.RowKit
end
section
open Go.RowKit
theorem zo3 {c:ChD} (h:Full c) {mem:List MemD} (hm:zdi c mem=true): ∀m∈mem,m.2≠[]/\m.2.length<=32:=fun m hm'=>by
 have e2:=(ziA hm).2 m hm'
 unfold memB at e2
 split at e2
 ·split at e2
  ·rw [Bool.and_eq_true,decide_eq_true_eq] at e2
   exact⟨fun e=>by rw [e] at e2; simp at e2,by omega⟩
  ·unfold deepB at e2
   simp only [Bool.and_eq_true] at e2
   have hr:=e2.2.1.1.1
   have hnd:m.2.Nodup:=zdT hr
   have hin: ∀x∈m.2,inZ c x=true:=fun x hx=>by
    have:=List.all_eq_true.1 e2.2.1.1.2 x hx
    unfold zch at this
    rw [Bool.and_eq_true] at this
    exact zaQ this.1
   have:=zdh hnd hin
   have:=h.toRight.few
   refine⟨fun e=> ?_,by omega⟩
   rw [e] at hr
   cases hr
 ·cases e2
end
section
open Go.RowKit
def okM (c:ChD) (l:List MemD):Prop:=Srt l/\ ∀m∈l,inZ c m.1=true
theorem zsu {c:ChD} {l:List MemD} {k:Nat} {v:List Int} (hk:k<c.states.length) (h:okM c l):okM c (putM l ((k:Int),v)):=
 ⟨zlU h.1,fun p hp=>by
  rcases (ziv h.1).1 hp with rfl | ⟨h1,_⟩
  ·exact zaR.2 hk
  ·exact h.2 p h1⟩
theorem zoY {c:ChD} {l:List MemD} (h:okM c l):l.length<=c.states.length:=by
 have hn:(l.map fun m=>m.1.toNat).Nodup:=by
  refine List.pairwise_map.2 (h.1.imp_of_mem fun {a b} ha hb hab=> ?_)
  have:=(zak.1 (h.2 a ha)).1
  have:=(zak.1 (h.2 b hb)).1
  omega
 have:=hn.length_le_of_subset (l₂:=List.range c.states.length) fun x hx=>by
  obtain⟨m,hm,rfl⟩:=List.mem_map.1 hx
  have:=zak.1 (h.2 m hm)
  exact List.mem_range.2 (by omega)
 simpa using this
theorem ztI {c:ChD} (hc:Right c) {l:List MemD} (h:okM c l): ∀m∈l,0<=m.1/\m.1<=1000000:=fun m hm=>by
 have:=zak.1 (h.2 m hm)
 have:=hc.few
 omega
theorem zs6 {c:ChD} {mem:List MemD} (h:zdi c mem=true):okM c mem:=by
 obtain⟨h1,h2⟩:=ziA h
 refine⟨h1,fun m hm=> ?_⟩
 obtain⟨k,s,e,hs,_⟩:=zsA (h2 m hm)
 rw [e]
 exact zaR.2 (List.getElem?_eq_some_iff.1 hs).1
theorem zrl {c:ChD} {act:List Int} {i:Int} (h:manyI act (kidsL c i true)=1): ∃(p a:Nat),(kidsL c i true)[p]? =some a/\zgy c act i=[(a:Int)]/\ ∀(q y:Nat),(kidsL c i true)[q]? =some y->act.contains (y:Int)=decide (q=p):=by
 obtain⟨k,hk,hka,hl,hf⟩:=zrk h
 obtain⟨a,ha,rfl⟩:=List.mem_map.1 hk
 obtain⟨p,hp⟩:=List.mem_iff_getElem?.1 ha
 refine⟨p,a,hp,hl,fun q y hy=> ?_⟩
 by_cases e:q=p
 ·subst e
  rw [hp] at hy
  cases hy
  rw [decide_eq_true rfl]
  exact List.contains_iff_mem.2 hka
 ·rw [decide_eq_false e]
  refine Bool.eq_false_iff.2 fun hc=>e ?_
  have hm:(y:Int)∈(kidZ c i).filter fun k=>act.contains k:=List.mem_filter.2 ⟨List.mem_map.2 ⟨y,List.mem_of_getElem? hy,rfl⟩,hc⟩
  rw [hf] at hm
  have hya:(y:Int)=(a:Int):=List.mem_singleton.1 hm
  have hya:y=a:=by omega
  subst hya
  exact(List.getElem?_inj (List.getElem?_eq_some_iff.1 hy).1 (zbV c i true)).1 (hy.trans hp.symm)
theorem zm5 {c:ChD} {act gone:List Int} {o:List MemD} {j:Nat} {x:Int} (h:gone[j]? =some x):remTo c act gone o (j+1)=if zbj c x=true then memTo_ c act x (remTo c act gone o j) (memL c x) (memL c x).length else remTo c act gone o j:=by
 unfold remTo
 exact zcm _ _ h
theorem zlb {c:ChD} {act:List Int} {i:Int} {o:List MemD} {M:List Nat} {m h:Nat} (hm:M[m]? =some h):memTo_ c act i o M (m+1)=putM (memTo_ c act i o M m) ((h:Int),newV c act i h):=by
 unfold memTo_
 exact zcm _ _ hm
def zhm (a:Nat) (p q:Nat):AV:=if q<=p then nilS else .seq 1 [zaf a]
theorem zjl (env:Env) (c:ChD) (h:Full c) (hs:Small c) (act gone:List Int) (mem:List MemD) (hla:act.length<=4000) (hlg:gone.length<=1000000) (hlb:lgB c act=true) (hgo: ∀x∈gone,x∈act) (hm:zdi c mem=true):Con Tryz.prog env 219 [zaj c, .seq 1 (act.map intAV), .seq 1 (gone.map intAV),memsAV mem] (memsAV (remL c act gone mem)):=by
 have f0:=zaA env c hs
 have hfew:=h.few
 have hok:=zs6 hm
 have hml:=zoY hok
 have f1:=znI env mem (by omega) (fun m hm'=>by have:=(zo3 h hm m hm').2; omega)
 have hlgc:=ztb hlb
 show Con _ _ _ _ (memsAV (remTo c act gone mem gone.length))
 unfold zaj at f0 |-
 refine zaa Tryz.func219 rfl Tryz.call219 (by rw [Tryz.ntmps219]; simp) ?_
 rw [Tryz.ntmps219,Tryz.results219]
 repeat (first | refine st0 ?_ | refine cC0 f0 ?_ | refine cC0 f1 ?_)
 refine zmC (Turned.frozen 21 10 ⟨2,mem.map mmAV,85,true⟩ rfl (Nat.succ_ne_zero 1) (by simp only [go_sem]) (by simp only [go_sem])) ?_
 refine zac (D:=Nat) (fun j vs=>[(0, .ref 9 [tabCells c] 0 0),(1, .seq 1 (act.map intAV)),(9, .loc 9 (vs 9) 0 0),(10,memsAV (remTo c act gone mem j)),(22, .seq 1 (gone.map intAV)),(23,I gone.length),(24,I j)]) (fun _ _=>[(9,⟨5,[chAV c],26,false⟩)]) (fun j _ _=>j<=gone.length/\okM c (remTo c act gone mem j)) (fun j=>gone.length-j) 0 ?_ ?_ ?_ ?_
 ·exact⟨Nat.zero_le _,hok⟩
 ·(simp only [go_sem])
  try rfl
 ·have F:=chAV.eq_1
  (simp only [go_sem,F])
  try rfl
 rintro j ws esc ⟨hj,hO⟩
 by_cases hlt:j<gone.length
 ·obtain⟨x,hx⟩: ∃x,gone[j]? =some x:=⟨gone[j],List.getElem?_eq_getElem hlt⟩
  have q1:=nlt hlt
  have q2:=zab hlt (by omega)
  have hxa:=hgo x (List.mem_of_getElem? hx)
  obtain⟨s0,hs0,hz, -, -,hone, -⟩:=hlgc.of hxa
  obtain⟨k,s,rfl,hsk,hat⟩:=zcD hz
  obtain rfl:s0=s:=by rw [hs0] at hat; cases hat; rfl
  have hk:=(List.getElem?_eq_some_iff.1 hsk).1
  have q3:((k:Nat):Int)< (c.states.length:Int):=by omega
  have f2:=zmQ env c h k
  have hpz:=zct hs0
  have hrs:=zm5 (c:=c) (act:=act) (o:=mem) hx
  unfold zaj at f2
  generalize remTo c act gone mem j=o at*
  by_cases hk1:s0.kind=1
  ·have b1:(s0.kind==1)=true:=by simp [hk1]
   rw [b1] at hpz
   rw [hpz,if_pos rfl] at hrs
   have hML: ∀y∈memL c (k:Int),∃sy,c.states[y]? =some sy/\sy.parent=(k:Int)/\zay sy=true:=fun y hy=>by
    obtain⟨sy,e1,_,e3,e4⟩:=zrb.1 hy
    exact⟨sy,e1,e3,e4⟩
   have hMl:(memL c (k:Int)).length<=1000000:=by
    unfold memL
    have:=List.length_filter_le (memP c (k:Int)) (List.range c.states.length)
    rw [List.length_range] at this
    omega
   have f3:=zlA env c h.toRight act hla (k:Int)
   have f4:=zpl env c h (underL c act (k:Int)) (Nat.le_trans (List.length_filter_le ..) hla) (fun y hy=>by
    have hy:=(List.mem_filter.1 hy).1
    obtain⟨_,_,hz,_⟩:=hlgc.of hy
    exact hz)
   have f5:=zaX env c h (k:Int)
   rw [if_pos (.inr hz)] at f5
   have hone:=hone hk1
   generalize memL c (k:Int)=M at*
   unfold zaj at f3 f4 f5
   have F:=ai chAV.eq_1<|ai stAV.eq_1<|ai hx<|ai q1<|ai q2<|ai q3<|ai hsk<|ai b1<|bneA
   repeat (first | refine st ?_ | refine cC f2 ?_)
   refine zac (D:=Nat) (fun m vs=>[(0, .ref 9 [tabCells c] 0 0),(1, .seq 1 (act.map intAV)),(9, .loc 9 (vs 9) 0 0),(10,memsAV (memTo_ c act k o M m)),(12,I k),(22, .seq 1 (gone.map intAV)),(23,I gone.length),(24,I j),(37, .row 37 (vs 37)),(38,I M.length),(39,I m)]) (fun _ _=>[(9,⟨5,[chAV c],26,false⟩),(37,⟨1,M.map zaf,3,true⟩)]) (fun m _ _=>m<=M.length/\okM c (memTo_ c act k o M m)) (fun m=>M.length-m) 0 ?_ ?_ ?_ ?_
   ·exact⟨Nat.zero_le _,hO⟩
   ·(simp only [go_sem,F])
    try rfl
   ·have F:=chAV.eq_1
    (simp only [go_sem,F])
    try rfl
   rintro m us es ⟨hml2,hO2⟩
   by_cases hlt2:m<M.length
   ·obtain⟨y,hy⟩: ∃y,M[m]? =some y:=⟨M[m],List.getElem?_eq_getElem hlt2⟩
    have p1:=nlt hlt2
    have p2:=zab hlt2 (by omega)
    obtain⟨sy,hsy,hpar,hmy⟩:=hML y (List.mem_of_getElem? hy)
    have hyl:=(List.getElem?_eq_some_iff.1 hsy).1
    have p3:((y:Nat):Int)< (c.states.length:Int):=by omega
    have hms:=zlb (c:=c) (act:=act) (i:=(k:Int)) (o:=o) hy
    have hnv:newV c act (k:Int) y=if sy.kind=5 then innerL c (underL c act (k:Int)) else zgy c act (k:Int):=by unfold newV; rw [hsy]
    have hO3:=zsu (v:=newV c act (k:Int) y) hyl hO2
    rw [<-hms] at hO3
    have hz2:=ztI h.toRight hO2
    have hl2:=zoY hO2
    generalize memTo_ c act (k:Int) o M m=o2 at*
    by_cases hk5:sy.kind=5
    ·have b5:(sy.kind==5)=true:=by simp [hk5]
     rw [if_pos hk5] at hnv
     rw [hnv] at hms
     have f6:Con Tryz.prog env 272 [memsAV o2, .agg [I (y:Int), .seq 1 ((innerL c (underL c act (k:Int))).map intAV)]] (.own 85 2 ((putM o2 ((y:Int),innerL c (underL c act (k:Int)))).map mmAV)):=zoH env o2 ((y:Int),innerL c (underL c act (k:Int))) hO2.1 hz2 ⟨by simp only; omega,by simp only; omega⟩ (by omega)
     generalize innerL c (underL c act (k:Int))=V at*
     generalize underL c act (k:Int)=U at*
     refine zd2 ?_
     have F:=ai chAV.eq_1<|ai stAV.eq_1<|ai zaf.eq_1<|ai hy<|ai hsy<|ai p1<|ai p2<|ai p3<|b5
     repeat (first | refine st ?_ | refine cC f3 ?_ | refine cC f4 ?_ | refine cC f6 ?_)
     refine⟨_,Turned.frozen 76 10 ⟨2,(putM o2 ((y:Int),V)).map mmAV,85,true⟩ rfl (Nat.succ_ne_zero 1) (by simp only [go_sem]) (by simp only [go_sem]),m+1,⟨hlt2,hO3⟩, ?_, ?_,by omega⟩
     ·have F:=hms
      (simp only [go_sem,F])
      try rfl
     ·have F:=chAV.eq_1
      (simp only [go_sem,F])
    ·have b5:(sy.kind==5)=false:=by simpa using hk5
     rw [if_neg hk5] at hnv
     rw [hnv] at hms
     have hkn:kidsL c (k:Int) true≠[]:=by
      have:=(zpu h hsy hmy).2.2.1
      rw [hpar] at this
      exact this
     have hkf:=za8 h.toRight (k:Int) true
     obtain⟨p,a,hp,hlk,hpick⟩:=zrl (hone hkn)
     rw [hlk] at hms
     have f6:Con Tryz.prog env 272 [memsAV o2, .agg [I (y:Int), .seq 1 [zaf a]]] (.own 85 2 ((putM o2 ((y:Int),[(a:Int)])).map mmAV)):=zoH env o2 ((y:Int),[(a:Int)]) hO2.1 hz2 ⟨by simp only; omega,by simp only; omega⟩ (by omega)
     generalize kidsL c (k:Int) true=K at*
     refine zd2 ?_
     have F:=ai chAV.eq_1<|ai stAV.eq_1<|ai zaf.eq_1<|ai hy<|ai hsy<|ai p1<|ai p2<|ai p3<|b5
     repeat (first | refine st ?_ | refine cC f5 ?_)
     refine zac (D:=Nat) (fun q vs=>[(0, .ref 9 [tabCells c] 0 0),(1, .seq 1 (act.map intAV)),(9, .loc 9 (vs 9) 0 0),(10,memsAV o2),(12,I k),(14,I y),(15, .loc 15 (vs 15) 0 0),(22, .seq 1 (gone.map intAV)),(23,I gone.length),(24,I j),(37, .row 37 (vs 37)),(38,I M.length),(39,I m),(61, .row 61 (vs 61)),(62,I K.length),(63,I q)]) (fun q _=>[(9,⟨5,[chAV c],26,false⟩),(15,⟨2,[[I y,zhm a p q]],85,false⟩),(37,⟨1,M.map zaf,3,true⟩),(61,⟨1,K.map zaf,3,true⟩)]) (fun q _ esc=>q<=K.length/\esc 15=false) (fun q=>K.length-q) 0 ?_ ?_ ?_ ?_
     ·exact⟨Nat.zero_le _,by simp only [go_sem]⟩
     ·(simp only [go_sem,F])
      try rfl
     ·have F:=chAV.eq_1
      (simp only [go_sem,F])
      try rfl
     rintro q xs fs ⟨hq,e5⟩
     by_cases hlt3:q<K.length
     ·obtain⟨u,hu⟩: ∃u,K[q]? =some u:=⟨K[q],List.getElem?_eq_getElem hlt3⟩
      have r1:=nlt hlt3
      have r2:=zab hlt3 (by omega)
      have g0:=zaM env act (u:Int) (by omega)
      rw [hpick q u hu] at g0
      by_cases hqp:q=p
      ·subst hqp
       rw [decide_eq_true rfl] at g0
       obtain rfl:u=a:=by rw [hp] at hu; cases hu; rfl
       have c1:zhm u q q=nilS:=by unfold zhm; rw [if_pos (Nat.le_refl _)]
       have c2:zhm u q (q+1)= .seq 1 [zaf u]:=by unfold zhm; rw [if_neg (by omega)]
       refine zd2 ?_
       have F:=ai chAV.eq_1<|ai zaf.eq_1<|ai hu<|ai r1<|ai r2<|ai c1<|e5
       repeat (first | refine st ?_ | refine cC g0 ?_)
       refine⟨_,Turned.sees [(71,xs 71+1, .seq 1 [zaf u])] (fun z hz=> ?_),q+1,⟨hlt3, ?_⟩, ?_, ?_,by omega⟩
       ·rw [List.mem_singleton.1 hz]
        refine⟨by simp only [go_sem],⟨1,[zaf u],3,true⟩,by simp only [go_sem,zaf],Nat.succ_ne_zero 0,rfl,rfl⟩
       ·simp only [seenSt,go_sem,e5,List.any_cons,List.any_nil]
       ·(simp only [go_sem,seenSt,zbS,Row.see,AV.see,AV.see.seeL,Option.getD_none])
       ·have F:=ai chAV.eq_1<|ai zaf.eq_1<|c2
        (simp only [go_sem,seenSt,zbS,Row.see,AV.see,AV.see.seeL,Option.getD_none,F])
      ·rw [decide_eq_false hqp] at g0
       have c1:zhm a p (q+1)=zhm a p q:=by
        unfold zhm
        by_cases e:q<=p
        ·rw [if_pos (by omega),if_pos e]
        ·rw [if_neg (by omega),if_neg e]
       have F:=ai chAV.eq_1<|ai zaf.eq_1<|ai hu<|ai r1<|ai r2<|e5
       repeat (first | refine st ?_ | refine cC g0 ?_)
       refine⟨q+1,⟨hlt3,by simp only [go_sem,e5]⟩, ?_, ?_,by omega⟩
       ·(simp only [go_sem,F])
       ·have F:=ai chAV.eq_1<|ai zaf.eq_1<|c1
        (simp only [go_sem,F])
     ·obtain rfl:q=K.length:=by omega
      have r1: ¬(K.length:Int)< (K.length:Int):=by omega
      have c1:zhm a p K.length= .seq 1 [zaf a]:=by
       unfold zhm
       rw [if_neg (by have:=(List.getElem?_eq_some_iff.1 hp).1; omega)]
      have F:=ai chAV.eq_1<|ai zaf.eq_1<|ai r1<|ai c1<|ai p2<|e5
      repeat (first | refine st ?_ | refine cC f6 ?_)
      refine⟨_,Turned.frozen 76 10 ⟨2,(putM o2 ((y:Int),[(a:Int)])).map mmAV,85,true⟩ rfl (Nat.succ_ne_zero 1) (by simp only [go_sem]) (by simp only [go_sem]),m+1,⟨hlt2,hO3⟩, ?_, ?_,by omega⟩
      ·have F:=hms
       (simp only [go_sem,F])
       try rfl
      ·have F:=chAV.eq_1
       (simp only [go_sem,F])
   ·obtain rfl:m=M.length:=by omega
    have p1: ¬(M.length:Int)< (M.length:Int):=by omega
    rw [<-hrs] at hO2
    have F:=ai p1<|q2
    repeat refine st ?_
    refine⟨j+1,⟨hlt,hO2⟩, ?_, ?_,by omega⟩
    ·have F:=hrs
     (simp only [go_sem,F])
    ·have F:=chAV.eq_1
     (simp only [go_sem,F])
  ·have b1:(s0.kind==1)=false:=by simpa using hk1
   rw [b1] at hpz
   rw [hpz,if_neg Bool.false_ne_true] at hrs
   rw [<-hrs] at hO
   have F:=ai chAV.eq_1<|ai stAV.eq_1<|ai hx<|ai q1<|ai q2<|ai q3<|ai hsk<|ai b1<|bneA
   repeat (first | refine st ?_ | refine cC f2 ?_)
   refine⟨j+1,⟨hlt,hO⟩, ?_, ?_,by omega⟩
   ·have F:=hrs
    (simp only [go_sem,F])
   ·have F:=chAV.eq_1
    (simp only [go_sem,F])
 ·obtain rfl:j=gone.length:=by omega
  have q1: ¬(gone.length:Int)< (gone.length:Int):=by omega
  have F:=q1
  repeat refine st ?_
  exact aR
end
section
open Go.RowKit Go.Extern.Stop Go.Stop Go.Extern
end
section
open Go.RowKit
end
section
open Go.RowKit
end
section
open Go.RowKit
end
section
open Go.RowKit
def zpD (act gone:List Int):Bool:=gone.all fun x=>act.contains x
theorem zro {act gone:List Int} {j:Nat} {x:Int} (hx:gone[j]? =some x) (h:act.contains x=false):zpD act gone=false:=by
 unfold zpD
 rw [List.all_eq_false]
 exact⟨x,List.mem_of_getElem? hx,by rw [h]; simp⟩
theorem zpC {act gone:List Int} (h: ∀(j:Nat) (x:Int),j<gone.length->gone[j]? =some x->act.contains x=true):zpD act gone=true:=by
 unfold zpD
 rw [List.all_eq_true]
 intro x hx
 obtain⟨j,hj⟩:=List.mem_iff_getElem?.1 hx
 exact h j x (List.getElem?_eq_some_iff.1 hj).1 hj
def remE (a1:Addr) (c:ChD) (act gone:List Int) (mem:List MemD):AV:=if zpD act gone=true then .tuple [memsAV (remL c act gone mem),nilE] else .tuple [nilS,errV (-1) (sentV a1)]
theorem zky (env:Env) (a1 a8:Addr) (he:ChEnv env a1 a8) (c:ChD) (h:Full c) (hs:Small c) (act gone:List Int) (hl:act.length<=4000) (hgl:gone.length<=1000000) (mem:List MemD) (hml:mem.length<=1000000) (hF: ∀m∈mem,Fits m.2.length 8) (hb:lgB c act=true) (hm:zdi c mem=true):Con Tryz.prog env 141 [zaj c, .seq 1 (act.map intAV), .seq 1 (gone.map intAV),memsAV mem] (remE a1 c act gone mem):=by
 have f0:=zcL env a1 a8 he c h hs act (by omega)
 have f2:=zg5 env a1 a8 he c h hs mem hml hF
 have f3:=zhL env a1 a8 he [101,110,116,101,114,46,82,101,109,101,109,98,101,114]
 have f4:=fun hg=>zjl env c h hs act gone mem hl hgl hb hg hm
 unfold chkE at f0
 unfold chkM at f2
 rw [hb] at f0
 rw [hm,if_pos rfl] at f2
 simp only [if_true] at f0
 unfold remE
 generalize sentV a1=E at*
 unfold zaj at f0 f2 f4 |-
 refine zaa Tryz.func141 rfl Tryz.call141 (by rw [Tryz.ntmps141]; simp) ?_
 rw [Tryz.ntmps141,Tryz.results141]
 repeat (first | refine st0 ?_ | refine cC0 f0 ?_ | refine cC0 f2 ?_)
 refine zac (D:=Nat) (fun j vs=>[(0, .ref 9 [tabCells c] 0 0),(1, .seq 1 (act.map intAV)),(2, .seq 1 (gone.map intAV)),(3,memsAV mem),(25, .seq 1 (gone.map intAV)),(26,I gone.length),(27,I j)]) (fun _ _=>[]) (fun j _ _=>j<=gone.length/\ ∀(m:Nat) (x:Int),m<j->gone[m]? =some x->act.contains x=true) (fun j=>gone.length-j) 0 ?_ ?_ ?_ ?_
 ·exact⟨Nat.zero_le _,fun m x hm'=>absurd hm' (by omega)⟩
 ·(simp only [go_sem])
  try rfl
 ·(simp only [go_sem])
  try rfl
 rintro j ws esc ⟨hj,hall⟩
 by_cases hlt:j<gone.length
 ·obtain⟨x,hx⟩: ∃x,gone[j]? =some x:=⟨gone[j],List.getElem?_eq_getElem hlt⟩
  have q1:=nlt hlt
  have q2:=zab hlt (by omega)
  have g0:=zaM env act x (by omega)
  cases hc:act.contains x with
  | false=>
    rw [hc] at g0
    rw [zro hx hc,if_neg Bool.false_ne_true]
    have F:=ai hx<|q1
    repeat (first | refine st ?_ | refine cC g0 ?_ | refine cC f3 ?_)
    exact aR
  | true=>
    rw [hc] at g0
    have F:=ai hx<|ai q1<|q2
    repeat (first | refine st ?_ | refine cC g0 ?_)
    refine⟨j+1,⟨hlt,fun m z hm' hz=> ?_⟩, ?_, ?_,by omega⟩
    ·rcases Nat.lt_succ_iff_lt_or_eq.1 hm' with e | e
     ·exact hall m z e hz
     ·rw [e,hx] at hz
      cases hz
      exact hc
    ·(simp only [go_sem,F])
    ·(simp only [go_sem,F])
 ·obtain rfl:j=gone.length:=by omega
  have q1: ¬(gone.length:Int)< (gone.length:Int):=by omega
  rw [zpC hall,if_pos rfl]
  have f4:=f4 fun x hx=>by
   obtain⟨m,hm'⟩:=List.mem_iff_getElem?.1 hx
   exact List.contains_iff_mem.1 (hall m x (List.getElem?_eq_some_iff.1 hm').1 hm')
  have F:=q1
  repeat (first | refine st ?_ | refine cC f4 ?_)
  exact aR
/-! As the document says -/
end
section
end
section
open Go.RowKit
def zkI (c:ChD) (t:TrD) (mem:List MemD):List Nat:=if t.target<0 then [] else tgtL c t.src t.target mem
theorem zn3 (env:Env) (a1 a8:Addr) (he:ChEnv env a1 a8) (c:ChD) (h:Full c) (hs:Small c) (mem:List MemD) (hl:mem.length<=1000000) (hF: ∀m∈mem,Fits m.2.length 8) (k:Nat) (t:TrD) (ht:c.trans[k]? =some t) (hb:zdi c mem=true):Con Tryz.prog env 142 [zaj c,I k,memsAV mem] (.tuple [.seq 1 ((zkI c t mem).map zaf),nilE]):=by
 have f0:=zg5 env a1 a8 he c h hs mem hl hF
 unfold chkM at f0
 rw [hb,if_pos rfl] at f0
 have f1:=zlM env c hs k t ht
 unfold zkI
 unfold trAV at f1
 by_cases h0:t.target<0
 ·rw [if_pos h0]
  unfold zaj at f0 f1 |-
  refine zap Tryz.func142 rfl Tryz.call142 (by rw [Tryz.ntmps142]; simp) ?_
  rw [Tryz.ntmps142,Tryz.results142]
  have F:=h0
  repeat (first | refine st ?_ | refine cC f0 ?_ | refine cC f1 ?_)
  (refine zae ?_; refine⟨_,(by show (zar _ _ _).run _=some _; simp only [go_sem,F]; rfl), ?_⟩)
  exact .of (.tuple (.cons (.nil 1) (.cons (.refl _) .nil))) (fun _ _ _ h=>by cases h) (fun _ _ _ h=>by cases h)
 ·rw [if_neg h0]
  have htg:inZ c t.target=true:=by
   rcases (h.src ht).2 with e | e
   ·omega
   ·exact e
  have f2:=zmP env c h hs t (h.src ht).1 htg mem hl (fun m hm=>by have:=(zo3 h hb m hm).2; omega) hb
  unfold trAV at f2
  unfold zaj at f0 f1 f2 |-
  refine zaa Tryz.func142 rfl Tryz.call142 (by rw [Tryz.ntmps142]; simp) ?_
  rw [Tryz.ntmps142,Tryz.results142]
  have F:=h0
  repeat (first | refine st ?_ | refine cC f0 ?_ | refine cC f1 ?_ | refine cC f2 ?_)
  exact aR
end
section
open Go.RowKit
def innP (c:ChD) (l:List Nat) (k:Nat):Bool:=manyI (zL l) (kidsL c k true)==0
def lnTo (c:ChD) (l:List Nat) (j:Nat):List Nat:=(l.take j).filter (innP c l)
def innL (c:ChD) (l:List Nat):List Nat:=sortL c (zL (lnTo c l l.length))
theorem zo8 {c:ChD} {l:List Nat} {j k:Nat} (h:l[j]? =some k):lnTo c l (j+1)=if innP c l k then lnTo c l j++[k] else lnTo c l j:=by
 unfold lnTo
 rw [List.take_add_one,h,List.filter_append]
 cases hb:innP c l k<;>simp [hb]
theorem zl6 (c:ChD) (l:List Nat) (j:Nat):(lnTo c l j).length<=l.length:=by
 unfold lnTo
 exact Nat.le_trans (List.length_filter_le ..) (by rw [List.length_take]; omega)
theorem zlj (env:Env) (c:ChD) (h:Full c) (l:List Nat) (hl:l.length<=1000) (hk: ∀k∈l,k<c.states.length):Con Tryz.prog env 145 [zaj c, .seq 1 (l.map zaf)] (.own 3 1 ((innL c l).map zaf)):=by
 have hlen:=h.few
 have f0:=zgM env c (by omega) (zL l) (by rw [zeo]; omega)
 rw [zep] at f0
 have f1:=fun k:Nat=>zaX env c h k
 have f2:=fun k:Nat=>ziE env c.states.length (zL l) (kidsL c k true) (by omega) (by have:=za8 h.toRight k true; omega) (fun j hj=>by have:=za9 h.toRight (zaV hj).1; omega)
 have f3:=zaN env c
 have f4:=zcq env c h.toRight (zL (lnTo c l l.length)) (by rw [zeo]; have:=zl6 c l l.length; omega)
 rw [zep] at f4
 show Con _ _ _ _ (.own _ 1 ((sortL c (zL (lnTo c l l.length))).map zaf))
 generalize sortL c (zL (lnTo c l l.length))=R at*
 unfold zao at f3 f4
 unfold zaj at f0 f1 f3 |-
 generalize hFL:flagA c.states.length (zL l)=FL at*
 try clear hFL
 refine zaa Tryz.func145 rfl Tryz.call145 (by rw [Tryz.ntmps145]; simp) ?_
 rw [Tryz.ntmps145,Tryz.results145]
 repeat refine st0 ?_
 refine zaS 5 5 3 1 ?_
 refine zac (D:=Nat) (fun j vs=>[(0, .ref 9 [tabCells c] 0 0),(1, .seq 1 (l.map zaf)),(5, .row 5 (vs 5)),(8, .seq 1 (l.map zaf)),(9,I l.length),(10,I j)]) (fun j _=>[(5,⟨1,(lnTo c l j).map zaf,3,true⟩)]) (fun j _ esc=>j<=l.length/\esc 5=false) (fun j=>l.length-j) 0 ?_ ?_ ?_ ?_
 ·exact⟨Nat.zero_le _,rfl⟩
 ·(simp only [go_sem])
 ·(simp only [go_sem])
  try rfl
 rintro j ws esc ⟨hj,e0⟩
 by_cases hlt:j<l.length
 ·obtain⟨k,hx⟩: ∃k,l[j]? =some k:=⟨l[j],List.getElem?_eq_getElem hlt⟩
  have hkl:=hk k (List.mem_of_getElem? hx)
  have q1:=nlt hlt
  have q2:=zab hlt (by omega)
  have f1:=f1 k
  rw [if_pos (.inr (zaR.2 hkl))] at f1
  have f2:=f2 k
  have hle:=zl6 c l j
  have hf:Fits ((lnTo c l j).length+1) 8:=zah (by omega) (by omega)
  have hn:=zo8 (c:=c) hx
  have hp:innP c l k=(manyI (zL l) (kidsL c k true)==0):=rfl
  cases hb:innP c l k with
  | true=>
    rw [hb,if_pos rfl] at hn
    rw [hb] at hp
    have b0:(((manyI (zL l) (kidsL c k true):Nat):Int)==0)=true:=by
     have:=beq_iff_eq.1 hp.symm
     simp; omega
    have F:=ai zaf.eq_1<|ai hx<|ai q1<|ai q2<|ai b0<|ai hf<|e0
    repeat (first | refine st ?_ | refine cC f0 ?_ | refine cC f1 ?_ | refine cC f2 ?_)
    refine⟨j+1,⟨hlt,by simp only [go_sem,e0]⟩, ?_, ?_,by omega⟩
    ·(simp only [go_sem,F])
    ·have F:=ai zaf.eq_1<|hn
     (simp only [go_sem,List.map_append,F])
  | false=>
    rw [hb,if_neg Bool.false_ne_true] at hn
    rw [hb] at hp
    have b0:(((manyI (zL l) (kidsL c k true):Nat):Int)==0)=false:=by
     have: ¬manyI (zL l) (kidsL c k true)=0:=fun q=>by rw [q] at hp; cases hp
     simp; omega
    have F:=ai zaf.eq_1<|ai hx<|ai q1<|ai q2<|ai b0<|e0
    repeat (first | refine st ?_ | refine cC f0 ?_ | refine cC f1 ?_ | refine cC f2 ?_)
    refine⟨j+1,⟨hlt,by simp only [go_sem,e0]⟩, ?_, ?_,by omega⟩
    ·(simp only [go_sem,F])
    ·have F:=ai zaf.eq_1<|hn
     (simp only [go_sem,F])
 ·obtain rfl:j=l.length:=by omega
  have q1: ¬(l.length:Int)< (l.length:Int):=by omega
  have F:=ai q1<|e0
  repeat (first | refine st ?_ | refine cC f3 ?_ | refine cC f4 ?_)
  exact aR
theorem zoR (env:Env) (a1 a8:Addr) (he:ChEnv env a1 a8) (c:ChD) (h:Full c) (hsm:Small c) (l:List Nat) (hl:l.length<=1000) (hk: ∀k∈l,k<c.states.length) (hb:lgB c (zL l)=true):Con Tryz.prog env 70 [zaj c, .seq 1 (l.map zaf)] (.tuple [.seq 1 ((innL c l).map zaf),nilE]):=by
 have f0:=zcL env a1 a8 he c h hsm (zL l) (by rw [zeo]; omega)
 unfold chkE at f0
 rw [if_pos hb,zep] at f0
 have f1:=zlj env c h l hl hk
 unfold zaj at f0 f1 |-
 generalize innL c l=R at*
 refine zaa Tryz.func70 rfl Tryz.call70 (by rw [Tryz.ntmps70]; simp) ?_
 rw [Tryz.ntmps70,Tryz.results70]
 repeat (first | refine st0 ?_ | refine cC0 f0 ?_ | refine cC0 f1 ?_)
 exact aR0
end
section
open Go.RowKit
theorem Con.lendE {P:Program} {env:Env} {f:FuncId} {cs:List AV} {sz:Nat} (h:Con P env f cs (.tuple [.seq sz [],nilE])):ConF P env f cs (.tuple [.seq sz [],nilE]):=by
 refine⟨h.enter,fun w S vs hE hl hv=>(h.calls w S vs hE hl hv).mono ?_⟩
 rintro e w' ⟨v,rfl,hb,S',_,_,_,hr⟩
 refine⟨v,rfl,hb,fun _ _=>False,fun _ _ h=>h.elim, ?_⟩
 have hr:RV S' w' v (.tuple [.seq sz [],nilE]):=hr
 show RV _ w' v (.tuple [.seq sz [],nilE])
 cases hr with
 | tuple vs cs h hc=>
   refine .tuple vs _ h fun i v c hv hcc=> ?_
   match i,hcc with
   | 0,hcc=>
     cases hcc
     have h0:=hc 0 v _ hv rfl
     cases h0 with
     | seq A n cap sz es b o u hn hcap hA hz hc hr=>exact .seq A n cap _ [] b o u hn hcap hA (fun i e he=>by simp at he) (fun i j c hc=>by simp [cellAt] at hc) (fun i j c hc=>by simp [cellAt] at hc)
   | 1,hcc=>
     cases hcc
     exact(hc 1 v _ hv rfl).flat rfl
   | n+2,hcc=>simp at hcc
theorem zn4 (env:Env) (a1 a8:Addr) (he:ChEnv env a1 a8) (c:ChD) (h:Full c) (hs:Small c) (act:List Int) (hl:act.length<=1000000) (k:Nat) (t:TrD) (ht:c.trans[k]? =some t) (hb:lgB c act=true) (h0: ¬t.target<0):
 ConI Tryz.prog env 139 [1001,35] (fun i=>i==35) (fun g=>[zaj c, .row 1001 (g 1001),I k]) (fun _=>[(1001,⟨1,act.map intAV,3,true⟩)]) (fun _=>[(1001,⟨1,act.map intAV,3,true⟩),(35,⟨1,(zl8 c act t).map intAV,3,true⟩)]) (fun g=> .tuple [.row 35 (g 35),nilE]):=by
 have f0:=zcL env a1 a8 he c h hs act hl
 have f1:=zlM env c hs k t ht
 have f2:=zhT env c h.toRight hs t (h.src ht).1
 have f3:=(zre env c h.toRight act hl (domE c t.src t.target)).lend (zdZ (fun _=>rfl) _)
 unfold chkE at f0
 rw [hb] at f0
 simp only [if_true] at f0
 have f0:=f0.lend rfl
 unfold zl8
 rw [if_neg h0]
 unfold trAV at f1 f2
 unfold zaj at f0 f1 f2 f3 |-
 generalize (undR c act (domE c t.src t.target)).reverse=R at*
 refine⟨Tryz.call139,_,_,Tryz.func139,rfl,(by intro _; rw [Tryz.ntmps139]; simp), ?_⟩
 intro vs esc hesc
 rw [Tryz.ntmps139,Tryz.results139]
 have e0:=hesc 1001 (by simp)
 have F:=ai h0<|e0
 repeat refine st ?_
 refine oL rfl (f0) (by simp only [go_sem,F]; exact iR) (by simp only [go_sem,F]; exact⟨rfl,rfl⟩) ?_
 repeat (first | refine st ?_ | refine cC f1 ?_ | refine cC f2 ?_)
 refine oL rfl (f3) (by simp only [go_sem,F]; exact iR) (by simp only [go_sem,F]; exact⟨rfl,rfl⟩) ?_
 repeat refine st ?_
 (refine zae ?_; (try simp only [zam,zag, ↓reduceIte,Nat.reduceEqDiff,reduceCtorEq]); refine zb9 ?_ ?_<;>simp only [go_sem,F,implies_true,and_self,imp_self,false_implies,AV.tuple.injEq,exists_eq_left',ne_eq])
/-! A step in which nothing is done: the chart of awake -/
def wkS:List (List AV):=[[Sg [97],I 1,I (-1),I (-1), .seq 4 [], .seq 4 []],[Sg [98],I 1,I (-1),I (-1), .seq 4 [], .seq 4 []]]
def wkT:List (List AV):=[[I 0,Sg [120], .seq 2 [], .seq 4 [],I 1]]
theorem zh5:chAV wakeM=[Sg [99],I 0, .seq 2 [], .seq 6 wkS, .seq 5 wkT]:=rfl
theorem zfG:Right wakeM:=zio (by rw [zfY])
theorem zn8:wkS.length=2:=rfl
theorem zrX {k:Nat} (hk:k<2): ∃nm,wkS[k]? =some [Sg nm,I 1,I (-1),I (-1), .seq 4 [], .seq 4 []]:=by
 rcases (show k=0\/k=1 by omega) with rfl | rfl
 ·exact⟨_,rfl⟩
 ·exact⟨_,rfl⟩
theorem zi4:IntKind.i64.wrap 1=1:=by decide
theorem zmh:Fits 1 8:=zah (by omega) (by omega)
def RMe (g:Nat->Nat):List AV:=[.row 1001 (g 1001), .row 1002 (g 1002), .seq 2 [], .seq 2 [],B false,nilS,nilS, .ref 9 [tabCells wakeM] 0 0,Sg [99],I 0, .seq 2 [], .seq 6 wkS, .seq 5 wkT,I 0,I 0]
def RM (A:List (List AV)) (g:Nat->Nat):List (Nat×Row):=[(1000,⟨15,[RMe g],129,false⟩),(1001,⟨1,A,3,true⟩),(1002,⟨1,[],3,true⟩)]
def RMl (A L:List (List AV)) (g:Nat->Nat):List (Nat×Row):=[(1000,⟨15,[RMe g],129,false⟩),(1001,⟨1,A,3,true⟩),(1002,⟨1,[],3,true⟩),(1003,⟨1,L,3,true⟩)]
end
section
open Go.RowKit
theorem zi2 (env:Env) (A:List (List AV)):ConI Tryz.prog env 144 [1000,1001,1002] (fun _=>false) (fun g=>[.loc 1000 (g 1000) 0 0, .seq 4 []]) (RM A) (RM A) (fun _=>nilE):=by
 refine⟨Tryz.call144,_,_,Tryz.func144,rfl,(by intro _; rw [Tryz.ntmps144]; simp), ?_⟩
 intro vs esc hesc
 rw [Tryz.ntmps144,Tryz.results144]
 have e0:=hesc 1000 (by simp)
 have e1:=hesc 1001 (by simp)
 have e2:=hesc 1002 (by simp)
 have F:=ai e0<|ai e1<|e2
 repeat (first | refine zaq ?_ | refine st ?_ | refine zal 40 ?_)
 (refine zae ?_; (try simp only [zam,zag, ↓reduceIte,Nat.reduceEqDiff,reduceCtorEq]); refine zb9 ?_ ?_<;>simp only [go_sem,RM,RMe,F,implies_true,and_self,imp_self,false_implies,AV.tuple.injEq,exists_eq_left',ne_eq])
theorem zqa (env:Env) (k:Nat) (hk:k<2):ConI Tryz.prog env 167 [1000,1001,1002,1003] (fun i=>i==1001) (fun g=>[.loc 1000 (g 1000) 0 0, .row 1003 (g 1003)]) (RMl [] [[I k]]) (RMl [[I k]] [[I k]]) (fun _=> .tuple [nilS,nilE]):=by
 obtain⟨nm,hx⟩:=zrX hk
 have f0:Con Tryz.prog env 72 [.seq 1 [],I k] (B false):=zaM env [] k (by simp)
 have f1:=zi2 env [[I (k:Int)]]
 have q1:(k:Int)<2:=by omega
 have q2:=zn8
 have q3:=zmh
 have q4:=zi4
 have g1:=zgd [(k:Int)] (by simp)
 have hs:zgc [(k:Int)]=[(k:Int)]:=by simp [zgc]
 rw [hs] at g1
 unfold RM RMe at f1
 refine⟨Tryz.call167,_,_,Tryz.func167,rfl,(by intro _; rw [Tryz.ntmps167]; simp), ?_⟩
 intro vs esc hesc
 rw [Tryz.ntmps167,Tryz.results167]
 have e0:=hesc 1000 (by simp)
 have e1:=hesc 1001 (by simp)
 have e2:=hesc 1002 (by simp)
 have e3:=hesc 1003 (by simp)
 have F:=ai e0<|ai e1<|ai e2<|ai e3<|ai hx<|ai q1<|ai q2<|ai q3<|q4
 repeat (first | refine zaq ?_ | refine st ?_ | refine zal 40 ?_)
 refine oL rfl (f0.lend rfl) (by simp only [go_sem,RMl,RMe,F]; exact iR) (by simp only [go_sem,RMl,RMe,F]; exact⟨rfl,rfl⟩) ?_
 repeat (first | refine zaq ?_ | refine st ?_ | refine zal 40 ?_)
 refine zjT 1001 rfl (row:=⟨1,[[I k]],3,true⟩) g1 (Nat.succ_ne_zero 0) rfl (litEs_int [(k:Int)]).symm (by simp only [go_sem,e1]; exact iR) (by simp only [go_sem,e1]; exact iR) (by simp only [go_sem,e1]; exact iR) (by simp only [go_sem,e1]; exact iR) ?_
 rw [show zaW [intC (k:Int)]=[[I k]] from litEs_int [(k:Int)]]
 repeat (first | refine zaq ?_ | refine st ?_ | refine zal 40 ?_)
 refine zaF [(1000,1000),(1001,1001),(1002,1002)] rfl (f1) (by decide) (by decide) (by simp only [go_sem,RMl,RMe,F]<;>rfl) (by simp only [go_sem,RMl,RMe,F,and_self]<;>trivial) (by simp only [go_sem,RMl,RMe,F,and_self]<;>trivial) (by intro o; simp only [go_sem,RMl,RMe,F,behind,and_self]<;>trivial) (by intro o; simp only [go_sem,RMl,RMe,F]<;>rfl) (by simp only [go_sem,RMl,RMe,F,behind]; exact iR) (by simp only [go_sem,RMl,RMe,F,behind]; exact iR) ?_
 repeat (first | refine zaq ?_ | refine st ?_ | refine zal 40 ?_)
 (refine zae ?_; (try simp only [zam,zag, ↓reduceIte,Nat.reduceEqDiff,reduceCtorEq]); refine zb9 ?_ ?_<;>simp only [go_sem,RMl,RMe,F,implies_true,and_self,imp_self,false_implies,AV.tuple.injEq,exists_eq_left',ne_eq])
end
section
open Go.RowKit
theorem zqF:sortL wakeM []=[]:=by decide+kernel
theorem zqE:sortL wakeM [0]=[0]:=by decide+kernel
theorem zqD:sortL wakeM [1]=[1]:=by decide+kernel
theorem zlo (env:Env) (A:List (List AV)):ConI Tryz.prog env 168 [1000,1001,1002] (fun _=>false) (fun g=>[.loc 1000 (g 1000) 0 0,nilS]) (RM A) (RM A) (fun _=>nilE):=by
 have f0:=zaN env wakeM
 have f1:Con Tryz.prog env 53 [zao wakeM,nilS] (.own 3 1 ((sortL wakeM []).map zaf)):=(zcq env wakeM zfG [] (by simp)).args (.cons (.refl _) (.cons (.nil 1) .nil))
 rw [zqF] at f1
 unfold zaj at f0
 unfold zao at f0 f1
 refine⟨Tryz.call168,_,_,Tryz.func168,rfl,(by intro _; rw [Tryz.ntmps168]; simp), ?_⟩
 intro vs esc hesc
 rw [Tryz.ntmps168,Tryz.results168]
 have e0:=hesc 1000 (by simp)
 have e1:=hesc 1001 (by simp)
 have e2:=hesc 1002 (by simp)
 have F:=ai e0<|ai e1<|e2
 repeat (first | refine zaq ?_ | refine st ?_ | refine cC f0 ?_ | refine cC f1 ?_ | refine zal 40 ?_)
 (refine zae ?_; (try simp only [zam,zag, ↓reduceIte,Nat.reduceEqDiff,reduceCtorEq]); refine zb9 ?_ ?_<;>simp only [go_sem,RM,RMe,F,implies_true,and_self,imp_self,false_implies,AV.tuple.injEq,exists_eq_left',ne_eq])
theorem zhS (env:Env) (k:Nat) (hk:k<2):ConI Tryz.prog env 85 [1000,1001,1002,1003] (fun i=>i==1001) (fun g=>[.loc 1000 (g 1000) 0 0, .row 1003 (g 1003)]) (RMl [] [[I k]]) (RMl [[I k]] [[I k]]) (fun _=>nilE):=by
 have f0:=zqa env k hk
 have f1:=zlo env [[I (k:Int)]]
 unfold RM RMe at f1
 unfold RMl RMe at f0
 refine⟨Tryz.call85,_,_,Tryz.func85,rfl,(by intro _; rw [Tryz.ntmps85]; simp), ?_⟩
 intro vs esc hesc
 rw [Tryz.ntmps85,Tryz.results85]
 have e0:=hesc 1000 (by simp)
 have e1:=hesc 1001 (by simp)
 have e2:=hesc 1002 (by simp)
 have e3:=hesc 1003 (by simp)
 have F:=ai e0<|ai e1<|ai e2<|e3
 repeat (first | refine oO rfl (by simp only [go_sem,RMl,RMe,F]; exact⟨rfl,rfl⟩) ?_ | refine gR ?_ | refine gO ?_ | refine oZ (zau ?_) | refine oZ ?_ | refine oS ?_ | refine gT ?_ | refine gD Tryz.mixed ?_ | refine oB ?_ | refine oK ?_ | (refine oX ?_; simp only [zam,zag, ↓reduceIte,Nat.reduceEqDiff,reduceCtorEq]) | refine oY (by simp only [go_sem,RMl,RMe,F]; exact iR) ?_ | refine oN (by simp only [go_sem,RMl,RMe,F]; exact iR) ?_)
 refine zaF [(1000,1000),(1001,1001),(1002,1002),(1003,1003)] rfl (f0) (by decide) (by decide) (by simp only [go_sem,RMl,RMe,F]<;>rfl) (by simp only [go_sem,RMl,RMe,F,and_self]<;>trivial) (by simp only [go_sem,RMl,RMe,F,and_self]<;>trivial) (by intro o; simp only [go_sem,RMl,RMe,F,behind,and_self]<;>trivial) (by intro o; simp only [go_sem,RMl,RMe,F]<;>rfl) (by simp only [go_sem,RMl,RMe,F,behind]; exact iR) (by simp only [go_sem,RMl,RMe,F,behind]; exact iR) ?_
 repeat (first | refine oO rfl (by simp only [go_sem,RMl,RMe,F]; exact⟨rfl,rfl⟩) ?_ | refine gR ?_ | refine gO ?_ | refine oZ (zau ?_) | refine oZ ?_ | refine oS ?_ | refine gT ?_ | refine gD Tryz.mixed ?_ | refine oB ?_ | refine oK ?_ | (refine oX ?_; simp only [zam,zag, ↓reduceIte,Nat.reduceEqDiff,reduceCtorEq]) | refine oY (by simp only [go_sem,RMl,RMe,F]; exact iR) ?_ | refine oN (by simp only [go_sem,RMl,RMe,F]; exact iR) ?_)
 refine zaF [(1000,1000),(1001,1001),(1002,1002)] rfl (f1) (by decide) (by decide) (by simp only [go_sem,RMl,RMe,F]<;>rfl) (by simp only [go_sem,RMl,RMe,F,and_self]<;>trivial) (by simp only [go_sem,RMl,RMe,F,and_self]<;>trivial) (by intro o; simp only [go_sem,RMl,RMe,F,behind,and_self]<;>trivial) (by intro o; simp only [go_sem,RMl,RMe,F]<;>rfl) (by simp only [go_sem,RMl,RMe,F,behind]; exact iR) (by simp only [go_sem,RMl,RMe,F,behind]; exact iR) ?_
 repeat (first | refine oO rfl (by simp only [go_sem,RMl,RMe,F]; exact⟨rfl,rfl⟩) ?_ | refine gR ?_ | refine gO ?_ | refine oZ (zau ?_) | refine oZ ?_ | refine oS ?_ | refine gT ?_ | refine gD Tryz.mixed ?_ | refine oB ?_ | refine oK ?_ | (refine oX ?_; simp only [zam,zag, ↓reduceIte,Nat.reduceEqDiff,reduceCtorEq]) | refine oY (by simp only [go_sem,RMl,RMe,F]; exact iR) ?_ | refine oN (by simp only [go_sem,RMl,RMe,F]; exact iR) ?_)
 (refine zae ?_; (try simp only [zam,zag, ↓reduceIte,Nat.reduceEqDiff,reduceCtorEq]); refine zb9 ?_ ?_<;>simp only [go_sem,RMl,RMe,F,implies_true,and_self,imp_self,false_implies,AV.tuple.injEq,exists_eq_left',ne_eq])
end
section
open Go.RowKit
theorem zns (env:Env) (G d:Int):Con Tryz.prog env 223 [I d, .ref 1 [[I G]] 0 0] (B (d==G)):=by
 refine zaa Tryz.func223 rfl Tryz.call223 (by rw [Tryz.ntmps223]; simp) ?_
 rw [Tryz.ntmps223,Tryz.results223]
 repeat refine st0 ?_
 exact aR0
theorem znt (env:Env):ConI Tryz.prog env 143 [1000,1001,1002,1003] (fun i=>i==1001) (fun g=>[.loc 1000 (g 1000) 0 0, .row 1003 (g 1003)]) (RMl [[I 0]] [[I 0]]) (RMl [] [[I 0]]) (fun _=>nilE):=by
 obtain⟨nm,hx⟩:=zrX (show 0<2 by omega)
 have f1:=zi2 env [[I 0]]
 have f2:ConI Tryz.prog env _ _ _ _ _ (fun _=>[(1000,⟨1,[],3,true⟩),(1001,⟨1,[[I 0]],3,false⟩)]) _:=zkj env [0] (fun d=>d==0) 223 0 3 (zns env 0) (by simp)
 have q2:=zn8
 have q4:=zi4
 have g1:=zhu [0] (by simp)
 unfold RM RMe at f1
 refine⟨Tryz.call143,_,_,Tryz.func143,rfl,(by intro _; rw [Tryz.ntmps143]; simp), ?_⟩
 intro vs esc hesc
 rw [Tryz.ntmps143,Tryz.results143]
 have e0:=hesc 1000 (by simp)
 have e1:=hesc 1001 (by simp)
 have e2:=hesc 1002 (by simp)
 have e3:=hesc 1003 (by simp)
 have F:=ai e0<|ai e1<|ai e2<|ai e3<|ai hx<|ai q2<|q4
 repeat (first | refine zaq ?_ | refine st ?_ | refine zal 40 ?_)
 refine zjT 1003 rfl (row:=⟨1,[[I 0]],3,true⟩) g1 (Nat.succ_ne_zero 0) rfl (litEs_int [(0:Int)]).symm (by simp only [go_sem,e3]; exact iR) (by simp only [go_sem,e3]; exact iR) (by simp only [go_sem,e3]; exact iR) (by simp only [go_sem,e3]; exact iR) ?_
 rw [show zaW (List.map intC (List.reverse [(0:Int)]))=[[I 0]] from litEs_int [(0:Int)]]
 repeat (first | refine zaq ?_ | refine st ?_ | refine zal 40 ?_)
 refine zaF [(1000,1000),(1001,1001),(1002,1002)] rfl (f1) (by decide) (by decide) (by simp only [go_sem,RMl,RMe,intAV,F]<;>rfl) (by simp only [go_sem,RMl,RMe,intAV,F,and_self]<;>trivial) (by simp only [go_sem,RMl,RMe,intAV,F,and_self]<;>trivial) (by intro o; simp only [go_sem,RMl,RMe,intAV,F,behind,and_self]<;>trivial) (by intro o; simp only [go_sem,RMl,RMe,intAV,F]<;>rfl) (by simp only [go_sem,RMl,RMe,intAV,F,behind]; exact iR) (by simp only [go_sem,RMl,RMe,intAV,F,behind]; exact iR) ?_
 repeat (first | refine zaq ?_ | refine st ?_ | refine zal 40 ?_)
 refine zaF [(1000,1001),(1001,6)] rfl (f2) (by decide) (by decide) (by simp only [go_sem,RMl,RMe,intAV,F]<;>rfl) (by simp only [go_sem,RMl,RMe,intAV,F,and_self]<;>trivial) (by simp only [go_sem,RMl,RMe,intAV,F,and_self]<;>trivial) (by intro o; simp only [go_sem,RMl,RMe,intAV,F,behind,and_self]<;>trivial) (by intro o; simp only [go_sem,RMl,RMe,intAV,F]<;>rfl) (by simp only [go_sem,RMl,RMe,intAV,F,behind]; exact iR) (by simp only [go_sem,RMl,RMe,intAV,F,behind]; exact iR) ?_
 repeat (first | refine zaq ?_ | refine st ?_ | refine zal 40 ?_)
 (refine zae ?_; (try simp only [zam,zag, ↓reduceIte,Nat.reduceEqDiff,reduceCtorEq]); refine zb9 ?_ ?_<;>simp only [go_sem,RMl,RMe,intAV,F,implies_true,and_self,imp_self,false_implies,AV.tuple.injEq,exists_eq_left',ne_eq])
theorem zrs (env:Env):ConI Tryz.prog env 66 [1000,1001,1002] (fun _=>false) (fun g=>[.loc 1000 (g 1000) 0 0, .seq 1 [[I 0]]]) (RM [[I 0]]) (RM [[I 0]]) (fun _=>B true):=by
 have f0:Con Tryz.prog env 72 [.seq 1 [[I 0]],I 0] (B true):=zaM env [0] 0 (by simp)
 have q4:=zi4
 refine⟨Tryz.call66,_,_,Tryz.func66,rfl,(by intro _; rw [Tryz.ntmps66]; simp), ?_⟩
 intro vs esc hesc
 rw [Tryz.ntmps66,Tryz.results66]
 have e0:=hesc 1000 (by simp)
 have e1:=hesc 1001 (by simp)
 have e2:=hesc 1002 (by simp)
 have F:=ai e0<|ai e1<|ai e2<|q4
 repeat (first | refine zaq ?_ | refine st ?_ | refine zal 40 ?_)
 refine oL rfl (f0.lend rfl) (by simp only [go_sem,RM,RMe,wkT,F]; exact iR) (by simp only [go_sem,RM,RMe,wkT,F]; exact⟨rfl,rfl⟩) ?_
 repeat (first | refine zaq ?_ | refine st ?_ | refine zal 40 ?_)
 (refine zae ?_; (try simp only [zam,zag, ↓reduceIte,Nat.reduceEqDiff,reduceCtorEq]); refine zb9 ?_ ?_<;>simp only [go_sem,RM,RMe,wkT,F,implies_true,and_self,imp_self,false_implies,AV.tuple.injEq,exists_eq_left',ne_eq])
end

end Go.Proofs.YtnbjaghjdeicmaaGreatDoor