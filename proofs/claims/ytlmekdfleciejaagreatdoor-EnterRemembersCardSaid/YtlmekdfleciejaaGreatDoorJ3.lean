/- What the document remembers; are memories the same? -/
import Derived.Test.YtlmekdfleciejaaGreatDoorJ1
import Derived.Test.YtlmekdfleciejaaGreatDoorJ2
import Derived.Test.YtlmekdfleciejaaGreatDoorD7
import Derived.Test.YtlmekdfleciejaaGreatDoorD49
import Derived.Test.YtlmekdfleciejaaGreatDoorD47
set_option maxRecDepth 100000
set_option maxHeartbeats 16000000
set_option linter.unusedSimpArgs false
namespace Go.Proofs.YtlmekdfleciejaaGreatDoor
open Go.RowKit
section
theorem zsf (env:Env) (es:List (List AV)) (hl:es.length<=4096):Con Tryz.prog env 197 [.seq 2 es] (.own 133 2 es):=by
 cases es with
 | nil=>
   refine Con.empty fun A cap=> ?_
   cases A with
   | none=>
     refine zaj Tryz.func197 rfl Tryz.call197 (by rw [Tryz.ntmps197]; simp) ?_
     rw [Tryz.ntmps197,Tryz.results197]
     repeat refine st0 ?_
     (refine zak ?_; refine⟨_,(by show (zaz _ _ _).run _=some _; simp only [go_sem]; rfl), ?_⟩)
     exact RStr.own_nil _ _ (by decide)
   | some A=>
     refine zaa Tryz.func197 rfl Tryz.call197 (by rw [Tryz.ntmps197]; simp) ?_
     rw [Tryz.ntmps197,Tryz.results197]
     repeat refine st0 ?_
     exact aR0
 | cons d l=>
   have g1:Fits ((l.length+1)) 32:=zah (by simpa using hl) (by omega)
   refine zaa Tryz.func197 rfl Tryz.call197 (by rw [Tryz.ntmps197]; simp) ?_
   rw [Tryz.ntmps197,Tryz.results197]
   have F:=g1
   repeat refine st ?_
   exact aR
theorem zr8 (env:Env) (x:MemD) (h:Int) (hx:0<=x.1/\x.1<=1000000) (hh:0<=h/\h<=1000000):Con Tryz.prog env 196 [.agg (mmAV x),I h] (I (x.1-h)):=by
 have q:IntKind.i64.wrap (x.1-h)=x.1-h:=IntWalk.i64_in _ (by omega)
 unfold mmAV
 refine zaa Tryz.func196 rfl Tryz.call196 (by rw [Tryz.ntmps196]; simp) ?_
 rw [Tryz.ntmps196,Tryz.results196]
 have F:=q
 repeat refine st ?_
 exact aR
theorem zrX (env:Env) (l:List MemD) (x:Int) (hs:Srt l) (hz: ∀m∈l,0<=m.1/\m.1<=1000000) (hh:0<=x/\x<=1000000) (hl:l.length<=1000000):Con Tryz.prog env 195 [memsAV l,I x, .lit (.func (.func 196) #[] #[])] (.tuple [I (posM l x),B (isM l x)]):=by
 have hle:=zr3 x l
 have hp:=fun {j:Nat} {y:MemD} (hy:l[j]? =some y)=>zsi (h:=x) hs hy
 have hI:isM l x=match l[posM l x]? with | some y=>y.1==x | none=>false:=rfl
 generalize isM l x=b at*
 generalize posM l x=p at*
 refine zaa Tryz.func195 rfl Tryz.call195 (by rw [Tryz.ntmps195]; simp) ?_
 rw [Tryz.ntmps195,Tryz.results195]
 repeat refine st0 ?_
 refine zab (D:=Nat×Nat) (fun d _=>[(0,memsAV l),(1,I x),(2, .lit (.func (.func 196) #[] #[])),(8,I l.length),(9,I d.1),(10,I d.2)]) (fun _ _=>[]) (fun d _ _=>d.1<=p/\p<=d.2/\d.2<=l.length) (fun d=>d.2-d.1) (0,l.length) ?_ ?_ ?_ ?_
 ·exact⟨Nat.zero_le _,hle,Nat.le_refl _⟩
 ·(simp only [go_sem])
  try rfl
 ·(simp only [go_sem])
 rintro⟨i,j⟩ ws esc ⟨h1,h2,h3⟩
 simp only at h1 h2 h3
 by_cases hlt:i<j
 ·have g1:=nlt hlt
  have hm:(i+j)/2<l.length:=by omega
  obtain⟨y,hy⟩: ∃y,l[(i+j)/2]? =some y:=⟨l[(i+j)/2],List.getElem?_eq_getElem hm⟩
  have hyp:=hp hy
  have f1:=zr8 env y x (hz y (List.mem_of_getElem? hy)) hh
  have g2:IntKind.i64.wrap ((i:Int)+(j:Int))=((i+j:Nat):Int):=by rw [zbU (by omega) (by omega)]; omega
  have g3:IntKind.u64.wrap ((i+j:Nat):Int)=((i+j:Nat):Int):=IntWalk.u64_in _ (by omega)
  have g4:IntKind.i64.wrap (((i+j:Nat):Int).fdiv (2^min 1 64))=(((i+j)/2:Nat):Int):=by
   rw [show ((i+j:Nat):Int).fdiv (2^min 1 64)=(((i+j)/2:Nat):Int) from(Int.ofNat_fdiv (i+j) 2).symm,zbU (by omega) (by omega)]
  have g5:(((i+j)/2:Nat):Int)< (l.length:Int):=by omega
  have g6:=zac (k:=(i+j)/2) (n:=l.length) hm (by omega)
  generalize hmm:(i+j)/2=mm at*
  unfold mmAV at f1
  by_cases hb:y.1<x
  ·have q:y.1-x<0:=by omega
   have:=hyp.2 hb
   have F:=ai mmAV.eq_1<|ai g1<|ai g2<|ai g3<|ai g4<|ai g5<|ai g6<|ai hy<|q
   repeat refine st ?_
   refine oC (callOf_tmp rfl (by simp only [go_sem,F]; exact iR)) (f1) (by simp only [go_sem,F]; exact iR) (by simp only [go_sem,F]; exact⟨rfl,rfl⟩) ?_
   repeat refine st ?_
   refine⟨(mm+1,j),⟨?_, ?_, ?_⟩, ?_, ?_, ?_⟩
   ·simp only; omega
   ·exact h2
   ·exact h3
   ·(simp only [go_sem,F])
   ·(simp only [go_sem,F])
   ·simp only; omega
  ·have q: ¬y.1-x<0:=by omega
   have: ¬mm<p:=fun h=>hb (hyp.1 h)
   have F:=ai mmAV.eq_1<|ai g1<|ai g2<|ai g3<|ai g4<|ai g5<|ai g6<|ai hy<|q
   repeat refine st ?_
   refine oC (callOf_tmp rfl (by simp only [go_sem,F]; exact iR)) (f1) (by simp only [go_sem,F]; exact iR) (by simp only [go_sem,F]; exact⟨rfl,rfl⟩) ?_
   repeat refine st ?_
   refine⟨(i,mm),⟨?_, ?_, ?_⟩, ?_, ?_, ?_⟩
   ·exact h1
   ·simp only; omega
   ·simp only; omega
   ·(simp only [go_sem,F])
   ·(simp only [go_sem,F])
   ·simp only; omega
 ·obtain rfl:i=j:=by omega
  obtain rfl:i=p:=by omega
  have g1: ¬(i:Int)< (i:Int):=by omega
  by_cases hi:i<l.length
  ·have g2:=nlt hi
   obtain⟨y,hy⟩: ∃y,l[i]? =some y:=⟨l[i],List.getElem?_eq_getElem hi⟩
   have f1:=zr8 env y x (hz y (List.mem_of_getElem? hy)) hh
   rw [hy] at hI
   have hI:b=(y.1==x):=hI
   unfold mmAV at f1
   by_cases he:y.1=x
   ·have q:(y.1-x==0)=true:=by simp; omega
    rw [hI,show (y.1==x)=true by simpa using he]
    have F:=ai mmAV.eq_1<|ai g1<|ai g2<|ai hy<|q
    repeat refine st ?_
    refine oC (callOf_tmp rfl (by simp only [go_sem,F]; exact iR)) (f1) (by simp only [go_sem,F]; exact iR) (by simp only [go_sem,F]; exact⟨rfl,rfl⟩) ?_
    repeat refine st ?_
    exact aR
   ·have q:(y.1-x==0)=false:=by simp; omega
    rw [hI,show (y.1==x)=false by simpa using he]
    have F:=ai mmAV.eq_1<|ai g1<|ai g2<|ai hy<|q
    repeat refine st ?_
    refine oC (callOf_tmp rfl (by simp only [go_sem,F]; exact iR)) (f1) (by simp only [go_sem,F]; exact iR) (by simp only [go_sem,F]; exact⟨rfl,rfl⟩) ?_
    repeat refine st ?_
    exact aR
  ·have g2: ¬(i:Int)< (l.length:Int):=by omega
   rw [List.getElem?_eq_none (by omega)] at hI
   have hI:b=false:=hI
   rw [hI]
   have F:=ai g1<|g2
   repeat refine st ?_
   exact aR
theorem zsH (l:List MemD) (p:Nat) (m:MemD):zrH p (mmAV m) (l.map mmAV)=(l.take p++m::l.drop p).map mmAV:=by
 unfold zrH
 rw [List.map_append,List.map_cons,List.map_take,List.map_drop]
theorem zsh (env:Env) (l:List MemD) (m:MemD) (hs:Srt l) (hz: ∀m∈l,0<=m.1/\m.1<=1000000) (hh:0<=m.1/\m.1<=1000000) (hl:l.length<=4000):Con Tryz.prog env 160 [memsAV l, .agg (mmAV m)] (.own 133 2 ((putM l m).map mmAV)):=by
 have f0:=zrX env l m.1 hs hz hh (by omega)
 have f1:=zsf env (l.map mmAV) (by rw [List.length_map]; omega)
 cases hb:isM l m.1 with
 | true=>
   rw [hb] at f0
   have hlt:=zsM hb
   rw [zr6 hb]
   generalize posM l m.1=p at*
   have q0:=nlt hlt
   have hset:(l.map mmAV).set p [I m.1, .seq 1 (m.2.map intAV)]=(l.set p m).map mmAV:=by rw [List.map_set]; rfl
   obtain⟨y,hy⟩: ∃y,l[p]? =some y:=⟨l[p],List.getElem?_eq_getElem hlt⟩
   refine zaa Tryz.func160 rfl Tryz.call160 (by rw [Tryz.ntmps160]; simp) ?_
   rw [Tryz.ntmps160,Tryz.results160]
   have F:=ai mmAV.eq_1<|ai q0<|ai hset<|hy
   repeat (first | refine st ?_ | refine cC f0 ?_ | refine cC f1 ?_)
   exact aR
 | false=>
   rw [hb] at f0
   rw [zr7 hb, <-zsH]
   have hle:=zr3 m.1 l
   generalize posM l m.1=p at*
   refine zaa Tryz.func160 rfl Tryz.call160 (by rw [Tryz.ntmps160]; simp) ?_
   rw [Tryz.ntmps160,Tryz.results160]
   have F:=mmAV.eq_1
   repeat (first | refine st ?_ | refine cC f0 ?_ | refine cC f1 ?_)
   refine zsr 24 27 rfl (row:=⟨2,l.map mmAV,133,true⟩) (row2:=⟨2,[mmAV m],133,true⟩) (i:=p) insM (Nat.succ_ne_zero 1) rfl rfl rfl rfl rfl (by decide) (by rw [List.length_map]; exact hle) (by rw [List.length_map]; omega) (by simp only [go_sem]; exact iR) (by simp only [go_sem]; exact iR) (by simp only [go_sem]; exact iR) (by simp only [go_sem]; exact iR) (by simp only [go_sem]; exact iR) (by simp only [go_sem]; exact iR) iR ?_
   repeat refine st ?_
   exact aR
end
section
def okM (c:ChD) (l:List MemD):Prop:=Srt l/\ ∀m∈l,inZ c m.1=true
theorem zsF {c:ChD} {l:List MemD} {k:Nat} {v:List Int} (hk:k<c.states.length) (h:okM c l):okM c (putM l ((k:Int),v)):=
 ⟨putM_srt h.1,fun p hp=>by
  rcases (putM_mem h.1).1 hp with rfl | ⟨h1,_⟩
  ·exact zaM.2 hk
  ·exact h.2 p h1⟩
theorem zrz {c:ChD} {l:List MemD} (h:okM c l):l.length<=c.states.length:=by
 have hn:(l.map fun m=>m.1.toNat).Nodup:=by
  refine List.pairwise_map.2 (h.1.imp_of_mem fun {a b} ha hb hab=> ?_)
  have:=(zag.1 (h.2 a ha)).1
  have:=(zag.1 (h.2 b hb)).1
  omega
 have:=hn.length_le_of_subset (l₂:=List.range c.states.length) fun x hx=>by
  obtain⟨m,hm,rfl⟩:=List.mem_map.1 hx
  have:=zag.1 (h.2 m hm)
  exact List.mem_range.2 (by omega)
 simpa using this
theorem zsN {c:ChD} (hc:Right c) {l:List MemD} (h:okM c l): ∀m∈l,0<=m.1/\m.1<=1000000:=fun m hm=>by
 have:=zag.1 (h.2 m hm)
 have:=hc.few
 omega
theorem zrU {c:ChD} {mem:List MemD} (h:zc3 c mem=true):okM c mem:=by
 obtain⟨h1,h2⟩:=zkf h
 refine⟨h1,fun m hm=> ?_⟩
 obtain⟨k,s,e,hs,_⟩:=memB_of (h2 m hm)
 rw [e]
 exact zaM.2 (List.getElem?_eq_some_iff.1 hs).1
theorem zsz {c:ChD} {act:List Int} {i:Int} (h:manyI act (kidsL c i true)=1): ∃(p a:Nat),(kidsL c i true)[p]? =some a/\lastKid c act i=[(a:Int)]/\ ∀(q y:Nat),(kidsL c i true)[q]? =some y->act.contains (y:Int)=decide (q=p):=by
 obtain⟨k,hk,hka,hl,hf⟩:=kid_same h
 obtain⟨a,ha,rfl⟩:=List.mem_map.1 hk
 obtain⟨p,hp⟩:=List.mem_iff_getElem?.1 ha
 refine⟨p,a,hp,hl,fun q y hy=> ?_⟩
 by_cases e:q=p
 ·subst e
  rw [hp] at hy
  cases hy
  rw [decide_eq_true rfl]
  exact List.contains_iff_mem.2 hka
 ·rw [decide_eq_false e]
  refine Bool.eq_false_iff.2 fun hc=>e ?_
  have hm:(y:Int)∈(kidZ c i).filter fun k=>act.contains k:=List.mem_filter.2 ⟨List.mem_map.2 ⟨y,List.mem_of_getElem? hy,rfl⟩,hc⟩
  rw [hf] at hm
  have hya:(y:Int)=(a:Int):=List.mem_singleton.1 hm
  have hya:y=a:=by omega
  subst hya
  exact(List.getElem?_inj (List.getElem?_eq_some_iff.1 hy).1 (zcg c i true)).1 (hy.trans hp.symm)
theorem zr9 {c:ChD} {act gone:List Int} {o:List MemD} {j:Nat} {x:Int} (h:gone[j]? =some x):remTo c act gone o (j+1)=if zaL c x=true then memTo_ c act x (remTo c act gone o j) (memL c x) (memL c x).length else remTo c act gone o j:=by
 unfold remTo
 exact zdK _ _ h
theorem zr4 {c:ChD} {act:List Int} {i:Int} {o:List MemD} {M:List Nat} {m h:Nat} (hm:M[m]? =some h):memTo_ c act i o M (m+1)=putM (memTo_ c act i o M m) ((h:Int),newV c act i h):=by
 unfold memTo_
 exact zdK _ _ hm
def zrK (a:Nat) (p q:Nat):AV:=if q<=p then nilS else .seq 1 [zae a]
theorem zrD (env:Env) (c:ChD) (h:Full c) (hs:Small c) (act gone:List Int) (mem:List MemD) (hla:act.length<=4000) (hlg:gone.length<=1000000) (hlb:lgB c act=true) (hgo: ∀x∈gone,x∈act) (hm:zc3 c mem=true):Con Tryz.prog env 102 [zai c, .seq 1 (act.map intAV), .seq 1 (gone.map intAV),memsAV mem] (memsAV (remL c act gone mem)):=by
 have f0:=zaG env c hs
 have hfew:=h.few
 have hok:=zrU hm
 have hml:=zrz hok
 have f1:=zse env mem (by omega) (fun m hm'=>by have:=(znD h hm m hm').2; omega)
 have hlgc:=lg_out hlb
 show Con _ _ _ _ (memsAV (remTo c act gone mem gone.length))
 unfold zai at f0 |-
 refine zaa Tryz.func102 rfl Tryz.call102 (by rw [Tryz.ntmps102]; simp) ?_
 rw [Tryz.ntmps102,Tryz.results102]
 repeat (first | refine st0 ?_ | refine cC0 f0 ?_ | refine cC0 f1 ?_)
 refine zpO (Turned.frozen 21 10 ⟨2,mem.map mmAV,133,true⟩ rfl (Nat.succ_ne_zero 1) (by simp only [go_sem]) (by simp only [go_sem])) ?_
 refine zab (D:=Nat) (fun j vs=>[(0, .ref 9 [tabCells c] 0 0),(1, .seq 1 (act.map intAV)),(9, .loc 9 (vs 9) 0 0),(10,memsAV (remTo c act gone mem j)),(22, .seq 1 (gone.map intAV)),(23,I gone.length),(24,I j)]) (fun _ _=>[(9,⟨5,[chAV c],26,false⟩)]) (fun j _ _=>j<=gone.length/\okM c (remTo c act gone mem j)) (fun j=>gone.length-j) 0 ?_ ?_ ?_ ?_
 ·exact⟨Nat.zero_le _,hok⟩
 ·(simp only [go_sem])
  try rfl
 ·have F:=chAV.eq_1
  (simp only [go_sem,F])
  try rfl
 rintro j ws esc ⟨hj,hO⟩
 by_cases hlt:j<gone.length
 ·obtain⟨x,hx⟩: ∃x,gone[j]? =some x:=⟨gone[j],List.getElem?_eq_getElem hlt⟩
  have q1:=nlt hlt
  have q2:=zac hlt (by omega)
  have hxa:=hgo x (List.mem_of_getElem? hx)
  obtain⟨s0,hs0,hz, -, -,hone, -⟩:=hlgc.of hxa
  obtain⟨k,s,rfl,hsk,hat⟩:=zb0 hz
  obtain rfl:s0=s:=by rw [hs0] at hat; cases hat; rfl
  have hk:=(List.getElem?_eq_some_iff.1 hsk).1
  have q3:((k:Nat):Int)< (c.states.length:Int):=by omega
  have f2:=zlJ env c h k
  have hpz:=zcF hs0
  have hrs:=zr9 (c:=c) (act:=act) (o:=mem) hx
  unfold zai at f2
  generalize remTo c act gone mem j=o at*
  by_cases hk1:s0.kind=1
  ·have b1:(s0.kind==1)=true:=by simp [hk1]
   rw [b1] at hpz
   rw [hpz,if_pos rfl] at hrs
   have hML: ∀y∈memL c (k:Int),∃sy,c.states[y]? =some sy/\sy.parent=(k:Int)/\zat sy=true:=fun y hy=>by
    obtain⟨sy,e1,_,e3,e4⟩:=memL_iff.1 hy
    exact⟨sy,e1,e3,e4⟩
   have hMl:(memL c (k:Int)).length<=1000000:=by
    unfold memL
    have:=List.length_filter_le (memP c (k:Int)) (List.range c.states.length)
    rw [List.length_range] at this
    omega
   have f3:=zr5 env c h.toRight act hla (k:Int)
   have f4:=zso env c h (underL c act (k:Int)) (Nat.le_trans (List.length_filter_le ..) hla) (fun y hy=>by
    have hy:=(List.mem_filter.1 hy).1
    obtain⟨_,_,hz,_⟩:=hlgc.of hy
    exact hz)
   have f5:=zbI env c h (k:Int)
   rw [if_pos (.inr hz)] at f5
   have hone:=hone hk1
   generalize memL c (k:Int)=M at*
   unfold zai at f3 f4 f5
   have F:=ai chAV.eq_1<|ai stAV.eq_1<|ai hx<|ai q1<|ai q2<|ai q3<|ai hsk<|ai b1<|bneA
   repeat (first | refine st ?_ | refine cC f2 ?_)
   refine zab (D:=Nat) (fun m vs=>[(0, .ref 9 [tabCells c] 0 0),(1, .seq 1 (act.map intAV)),(9, .loc 9 (vs 9) 0 0),(10,memsAV (memTo_ c act k o M m)),(12,I k),(22, .seq 1 (gone.map intAV)),(23,I gone.length),(24,I j),(37, .row 37 (vs 37)),(38,I M.length),(39,I m)]) (fun _ _=>[(9,⟨5,[chAV c],26,false⟩),(37,⟨1,M.map zae,3,true⟩)]) (fun m _ _=>m<=M.length/\okM c (memTo_ c act k o M m)) (fun m=>M.length-m) 0 ?_ ?_ ?_ ?_
   ·exact⟨Nat.zero_le _,hO⟩
   ·(simp only [go_sem,F])
    try rfl
   ·have F:=chAV.eq_1
    (simp only [go_sem,F])
    try rfl
   rintro m us es ⟨hml2,hO2⟩
   by_cases hlt2:m<M.length
   ·obtain⟨y,hy⟩: ∃y,M[m]? =some y:=⟨M[m],List.getElem?_eq_getElem hlt2⟩
    have p1:=nlt hlt2
    have p2:=zac hlt2 (by omega)
    obtain⟨sy,hsy,hpar,hmy⟩:=hML y (List.mem_of_getElem? hy)
    have hyl:=(List.getElem?_eq_some_iff.1 hsy).1
    have p3:((y:Nat):Int)< (c.states.length:Int):=by omega
    have hms:=zr4 (c:=c) (act:=act) (i:=(k:Int)) (o:=o) hy
    have hnv:newV c act (k:Int) y=if sy.kind=5 then innerL c (underL c act (k:Int)) else lastKid c act (k:Int):=by unfold newV; rw [hsy]
    have hO3:=zsF (v:=newV c act (k:Int) y) hyl hO2
    rw [<-hms] at hO3
    have hz2:=zsN h.toRight hO2
    have hl2:=zrz hO2
    generalize memTo_ c act (k:Int) o M m=o2 at*
    by_cases hk5:sy.kind=5
    ·have b5:(sy.kind==5)=true:=by simp [hk5]
     rw [if_pos hk5] at hnv
     rw [hnv] at hms
     have f6:Con Tryz.prog env 160 [memsAV o2, .agg [I (y:Int), .seq 1 ((innerL c (underL c act (k:Int))).map intAV)]] (.own 133 2 ((putM o2 ((y:Int),innerL c (underL c act (k:Int)))).map mmAV)):=zsh env o2 ((y:Int),innerL c (underL c act (k:Int))) hO2.1 hz2 ⟨by simp only; omega,by simp only; omega⟩ (by omega)
     generalize innerL c (underL c act (k:Int))=V at*
     generalize underL c act (k:Int)=U at*
     refine zh8 ?_
     have F:=ai chAV.eq_1<|ai stAV.eq_1<|ai zae.eq_1<|ai hy<|ai hsy<|ai p1<|ai p2<|ai p3<|b5
     repeat (first | refine st ?_ | refine cC f3 ?_ | refine cC f4 ?_ | refine cC f6 ?_)
     refine⟨_,Turned.frozen 76 10 ⟨2,(putM o2 ((y:Int),V)).map mmAV,133,true⟩ rfl (Nat.succ_ne_zero 1) (by simp only [go_sem]) (by simp only [go_sem]),m+1,⟨hlt2,hO3⟩, ?_, ?_,by omega⟩
     ·have F:=hms
      (simp only [go_sem,F])
      try rfl
     ·have F:=chAV.eq_1
      (simp only [go_sem,F])
    ·have b5:(sy.kind==5)=false:=by simpa using hk5
     rw [if_neg hk5] at hnv
     rw [hnv] at hms
     have hkn:kidsL c (k:Int) true≠[]:=by
      have:=(zqw h hsy hmy).2.2.1
      rw [hpar] at this
      exact this
     have hkf:=zbz h.toRight (k:Int) true
     obtain⟨p,a,hp,hlk,hpick⟩:=zsz (hone hkn)
     rw [hlk] at hms
     have f6:Con Tryz.prog env 160 [memsAV o2, .agg [I (y:Int), .seq 1 [zae a]]] (.own 133 2 ((putM o2 ((y:Int),[(a:Int)])).map mmAV)):=zsh env o2 ((y:Int),[(a:Int)]) hO2.1 hz2 ⟨by simp only; omega,by simp only; omega⟩ (by omega)
     generalize kidsL c (k:Int) true=K at*
     refine zh8 ?_
     have F:=ai chAV.eq_1<|ai stAV.eq_1<|ai zae.eq_1<|ai hy<|ai hsy<|ai p1<|ai p2<|ai p3<|b5
     repeat (first | refine st ?_ | refine cC f5 ?_)
     refine zab (D:=Nat) (fun q vs=>[(0, .ref 9 [tabCells c] 0 0),(1, .seq 1 (act.map intAV)),(9, .loc 9 (vs 9) 0 0),(10,memsAV o2),(12,I k),(14,I y),(15, .loc 15 (vs 15) 0 0),(22, .seq 1 (gone.map intAV)),(23,I gone.length),(24,I j),(37, .row 37 (vs 37)),(38,I M.length),(39,I m),(61, .row 61 (vs 61)),(62,I K.length),(63,I q)]) (fun q _=>[(9,⟨5,[chAV c],26,false⟩),(15,⟨2,[[I y,zrK a p q]],133,false⟩),(37,⟨1,M.map zae,3,true⟩),(61,⟨1,K.map zae,3,true⟩)]) (fun q _ esc=>q<=K.length/\esc 15=false) (fun q=>K.length-q) 0 ?_ ?_ ?_ ?_
     ·exact⟨Nat.zero_le _,by simp only [go_sem]⟩
     ·(simp only [go_sem,F])
      try rfl
     ·have F:=chAV.eq_1
      (simp only [go_sem,F])
      try rfl
     rintro q xs fs ⟨hq,e5⟩
     by_cases hlt3:q<K.length
     ·obtain⟨u,hu⟩: ∃u,K[q]? =some u:=⟨K[q],List.getElem?_eq_getElem hlt3⟩
      have r1:=nlt hlt3
      have r2:=zac hlt3 (by omega)
      have g0:=zb6 env act (u:Int) (by omega)
      rw [hpick q u hu] at g0
      by_cases hqp:q=p
      ·subst hqp
       rw [decide_eq_true rfl] at g0
       obtain rfl:u=a:=by rw [hp] at hu; cases hu; rfl
       have c1:zrK u q q=nilS:=by unfold zrK; rw [if_pos (Nat.le_refl _)]
       have c2:zrK u q (q+1)= .seq 1 [zae u]:=by unfold zrK; rw [if_neg (by omega)]
       refine zh8 ?_
       have F:=ai chAV.eq_1<|ai zae.eq_1<|ai hu<|ai r1<|ai r2<|ai c1<|e5
       repeat (first | refine st ?_ | refine cC g0 ?_)
       refine⟨_,Turned.sees [(71,xs 71+1, .seq 1 [zae u])] (fun z hz=> ?_),q+1,⟨hlt3, ?_⟩, ?_, ?_,by omega⟩
       ·rw [List.mem_singleton.1 hz]
        refine⟨by simp only [go_sem],⟨1,[zae u],3,true⟩,by simp only [go_sem,zae],Nat.succ_ne_zero 0,rfl,rfl⟩
       ·simp only [seenSt,go_sem,e5,List.any_cons,List.any_nil]
       ·(simp only [go_sem,seenSt,zcw,Row.see,AV.see,AV.see.seeL,Option.getD_none])
       ·have F:=ai chAV.eq_1<|ai zae.eq_1<|c2
        (simp only [go_sem,seenSt,zcw,Row.see,AV.see,AV.see.seeL,Option.getD_none,F])
      ·rw [decide_eq_false hqp] at g0
       have c1:zrK a p (q+1)=zrK a p q:=by
        unfold zrK
        by_cases e:q<=p
        ·rw [if_pos (by omega),if_pos e]
        ·rw [if_neg (by omega),if_neg e]
       have F:=ai chAV.eq_1<|ai zae.eq_1<|ai hu<|ai r1<|ai r2<|e5
       repeat (first | refine st ?_ | refine cC g0 ?_)
       refine⟨q+1,⟨hlt3,by simp only [go_sem,e5]⟩, ?_, ?_,by omega⟩
       ·(simp only [go_sem,F])
       ·have F:=ai chAV.eq_1<|ai zae.eq_1<|c1
        (simp only [go_sem,F])
     ·obtain rfl:q=K.length:=by omega
      have r1: ¬(K.length:Int)< (K.length:Int):=by omega
      have c1:zrK a p K.length= .seq 1 [zae a]:=by
       unfold zrK
       rw [if_neg (by have:=(List.getElem?_eq_some_iff.1 hp).1; omega)]
      have F:=ai chAV.eq_1<|ai zae.eq_1<|ai r1<|ai c1<|ai p2<|e5
      repeat (first | refine st ?_ | refine cC f6 ?_)
      refine⟨_,Turned.frozen 76 10 ⟨2,(putM o2 ((y:Int),[(a:Int)])).map mmAV,133,true⟩ rfl (Nat.succ_ne_zero 1) (by simp only [go_sem]) (by simp only [go_sem]),m+1,⟨hlt2,hO3⟩, ?_, ?_,by omega⟩
      ·have F:=hms
       (simp only [go_sem,F])
       try rfl
      ·have F:=chAV.eq_1
       (simp only [go_sem,F])
   ·obtain rfl:m=M.length:=by omega
    have p1: ¬(M.length:Int)< (M.length:Int):=by omega
    rw [<-hrs] at hO2
    have F:=ai p1<|q2
    repeat refine st ?_
    refine⟨j+1,⟨hlt,hO2⟩, ?_, ?_,by omega⟩
    ·have F:=hrs
     (simp only [go_sem,F])
    ·have F:=chAV.eq_1
     (simp only [go_sem,F])
  ·have b1:(s0.kind==1)=false:=by simpa using hk1
   rw [b1] at hpz
   rw [hpz,if_neg Bool.false_ne_true] at hrs
   rw [<-hrs] at hO
   have F:=ai chAV.eq_1<|ai stAV.eq_1<|ai hx<|ai q1<|ai q2<|ai q3<|ai hsk<|ai b1<|bneA
   repeat (first | refine st ?_ | refine cC f2 ?_)
   refine⟨j+1,⟨hlt,hO⟩, ?_, ?_,by omega⟩
   ·have F:=hrs
    (simp only [go_sem,F])
   ·have F:=chAV.eq_1
    (simp only [go_sem,F])
 ·obtain rfl:j=gone.length:=by omega
  have q1: ¬(gone.length:Int)< (gone.length:Int):=by omega
  have F:=q1
  repeat refine st ?_
  exact aR
end
section
theorem zrS (env:Env) (a1 a8:Addr) (he:ChEnv env a1 a8) (c:ChD) (h:Full c) (hs:Small c) (act gone:List Int) (hl:act.length<=1000000) (mem:List MemD) (hb:lgB c act=false):Con Tryz.prog env 63 [zai c, .seq 1 (act.map intAV), .seq 1 (gone.map intAV),memsAV mem] (.tuple [nilS,errV (-1) (errV (ziO c act).2 (sentV a1))]):=by
 have f0:=zjE env a1 a8 he c h hs act hl
 have f1:=zoZ env [101,110,116,101,114,46,82,101,109,101,109,98,101,114] (ziO c act).2 (sentV a1)
 unfold chkE at f0
 rw [hb] at f0
 simp only [Bool.false_eq_true,if_false] at f0
 unfold zai at f0 |-
 refine zaa Tryz.func63 rfl Tryz.call63 (by rw [Tryz.ntmps63]; simp) ?_
 rw [Tryz.ntmps63,Tryz.results63]
 repeat (first | refine st0 ?_ | refine cC0 f0 ?_ | refine cC0 f1 ?_)
 exact aR0
theorem zrR (env:Env) (a1 a8:Addr) (he:ChEnv env a1 a8) (c:ChD) (h:Full c) (hs:Small c) (act gone:List Int) (hl:act.length<=1000000) (mem:List MemD) (hml:mem.length<=1000000) (hF: ∀m∈mem,Fits m.2.length 8) (hb:lgB c act=true) (hm:zc3 c mem=false):Con Tryz.prog env 63 [zai c, .seq 1 (act.map intAV), .seq 1 (gone.map intAV),memsAV mem] (.tuple [nilS,errV (-1) (errV (-1) (sentV a1))]):=by
 have f0:=zjE env a1 a8 he c h hs act hl
 have f1:=zoZ env [101,110,116,101,114,46,82,101,109,101,109,98,101,114] (-1) (sentV a1)
 have f2:=zeE env a1 a8 he c h hs mem hml hF
 unfold chkE at f0
 unfold chkM at f2
 rw [hb] at f0
 rw [hm,if_neg Bool.false_ne_true] at f2
 simp only [if_true] at f0
 unfold zai at f0 f2 |-
 refine zaa Tryz.func63 rfl Tryz.call63 (by rw [Tryz.ntmps63]; simp) ?_
 rw [Tryz.ntmps63,Tryz.results63]
 repeat (first | refine st0 ?_ | refine cC0 f0 ?_ | refine cC0 f2 ?_ | refine cC0 f1 ?_)
 exact aR0
def zrW (act gone:List Int):Bool:=gone.all fun x=>act.contains x
theorem zsB {act gone:List Int} {j:Nat} {x:Int} (hx:gone[j]? =some x) (h:act.contains x=false):zrW act gone=false:=by
 unfold zrW
 rw [List.all_eq_false]
 exact⟨x,List.mem_of_getElem? hx,by rw [h]; simp⟩
theorem zsq {act gone:List Int} (h: ∀(j:Nat) (x:Int),j<gone.length->gone[j]? =some x->act.contains x=true):zrW act gone=true:=by
 unfold zrW
 rw [List.all_eq_true]
 intro x hx
 obtain⟨j,hj⟩:=List.mem_iff_getElem?.1 hx
 exact h j x (List.getElem?_eq_some_iff.1 hj).1 hj
def remE (a1:Addr) (c:ChD) (act gone:List Int) (mem:List MemD):AV:=if zrW act gone=true then .tuple [memsAV (remL c act gone mem),nilE] else .tuple [nilS,errV (-1) (sentV a1)]
theorem zrY (env:Env) (a1 a8:Addr) (he:ChEnv env a1 a8) (c:ChD) (h:Full c) (hs:Small c) (act gone:List Int) (hl:act.length<=4000) (hgl:gone.length<=1000000) (mem:List MemD) (hml:mem.length<=1000000) (hF: ∀m∈mem,Fits m.2.length 8) (hb:lgB c act=true) (hm:zc3 c mem=true):Con Tryz.prog env 63 [zai c, .seq 1 (act.map intAV), .seq 1 (gone.map intAV),memsAV mem] (remE a1 c act gone mem):=by
 have f0:=zjE env a1 a8 he c h hs act (by omega)
 have f2:=zeE env a1 a8 he c h hs mem hml hF
 have f3:=zg9 env a1 a8 he [101,110,116,101,114,46,82,101,109,101,109,98,101,114]
 have f4:=fun hg=>zrD env c h hs act gone mem hl hgl hb hg hm
 unfold chkE at f0
 unfold chkM at f2
 rw [hb] at f0
 rw [hm,if_pos rfl] at f2
 simp only [if_true] at f0
 unfold remE
 generalize sentV a1=E at*
 unfold zai at f0 f2 f4 |-
 refine zaa Tryz.func63 rfl Tryz.call63 (by rw [Tryz.ntmps63]; simp) ?_
 rw [Tryz.ntmps63,Tryz.results63]
 repeat (first | refine st0 ?_ | refine cC0 f0 ?_ | refine cC0 f2 ?_)
 refine zab (D:=Nat) (fun j vs=>[(0, .ref 9 [tabCells c] 0 0),(1, .seq 1 (act.map intAV)),(2, .seq 1 (gone.map intAV)),(3,memsAV mem),(25, .seq 1 (gone.map intAV)),(26,I gone.length),(27,I j)]) (fun _ _=>[]) (fun j _ _=>j<=gone.length/\ ∀(m:Nat) (x:Int),m<j->gone[m]? =some x->act.contains x=true) (fun j=>gone.length-j) 0 ?_ ?_ ?_ ?_
 ·exact⟨Nat.zero_le _,fun m x hm'=>absurd hm' (by omega)⟩
 ·(simp only [go_sem])
  try rfl
 ·(simp only [go_sem])
  try rfl
 rintro j ws esc ⟨hj,hall⟩
 by_cases hlt:j<gone.length
 ·obtain⟨x,hx⟩: ∃x,gone[j]? =some x:=⟨gone[j],List.getElem?_eq_getElem hlt⟩
  have q1:=nlt hlt
  have q2:=zac hlt (by omega)
  have g0:=zb6 env act x (by omega)
  cases hc:act.contains x with
  | false=>
    rw [hc] at g0
    rw [zsB hx hc,if_neg Bool.false_ne_true]
    have F:=ai hx<|q1
    repeat (first | refine st ?_ | refine cC g0 ?_ | refine cC f3 ?_)
    exact aR
  | true=>
    rw [hc] at g0
    have F:=ai hx<|ai q1<|q2
    repeat (first | refine st ?_ | refine cC g0 ?_)
    refine⟨j+1,⟨hlt,fun m z hm' hz=> ?_⟩, ?_, ?_,by omega⟩
    ·rcases Nat.lt_succ_iff_lt_or_eq.1 hm' with e | e
     ·exact hall m z e hz
     ·rw [e,hx] at hz
      cases hz
      exact hc
    ·(simp only [go_sem,F])
    ·(simp only [go_sem,F])
 ·obtain rfl:j=gone.length:=by omega
  have q1: ¬(gone.length:Int)< (gone.length:Int):=by omega
  rw [zsq hall,if_pos rfl]
  have f4:=f4 fun x hx=>by
   obtain⟨m,hm'⟩:=List.mem_iff_getElem?.1 hx
   exact List.contains_iff_mem.1 (hall m x (List.getElem?_eq_some_iff.1 hm').1 hm')
  have F:=q1
  repeat (first | refine st ?_ | refine cC f4 ?_)
  exact aR
/-! As the document says -/
def zr0 (c:ChD) (l:List Int) (j:Nat):List Nat:=(List.range j).filter fun i:Nat=>l.contains (i:Int)&&(manyI l (kidsL c i true)==0)
theorem zr2 (env:Env) (c:ChD) (h:Full c) (l:List Int) (hl:l.length<=1000000):Con Tryz.prog env 119 [.agg (chAV c), .seq 1 (l.map intAV)] (.own 3 1 ((rinL c l).map zae)):=by
 have hlen:=h.few
 have fK:=fun(i:Int)=>zbw env c i true (by omega)
 unfold chAV at fK
 show Con _ _ _ _ (.own _ 1 ((zr0 c l c.states.length).map zae))
 refine zaa Tryz.func119 rfl Tryz.call119 (by rw [Tryz.ntmps119]; simp) ?_
 rw [Tryz.ntmps119,Tryz.results119]
 have F:=chAV.eq_1
 repeat refine st ?_
 refine zab (D:=Nat) (fun j vs=>[(1, .seq 1 (l.map intAV)),(2, .loc 2 (vs 2) 0 0),(5, .row 7 (vs 7)),(6,I j)]) (fun j _=>[(2,⟨5,[chAV c],26,false⟩),(7,⟨1,(zr0 c l j).map zae,3,true⟩)]) (fun j _ esc=>j<=c.states.length/\esc 7=false) (fun j=>c.states.length-j) 0 ?_ ?_ ?_ ?_
 ·exact⟨Nat.zero_le _,rfl⟩
 ·(simp only [go_sem,F])
  try rfl
 ·have F:=chAV.eq_1
  (simp only [go_sem,F])
  try rfl
 rintro j ws esc ⟨hj,e0⟩
 by_cases hlt:j<c.states.length
 ·have q1:=nlt hlt
  have q2:=zac hlt (by omega)
  have f0:=zdF env l (j:Int) hl
  have hn:zr0 c l (j+1)=if (l.contains (j:Int)&&(manyI l (kidsL c j true)==0)) then zr0 c l j++[j] else zr0 c l j:=pfilter_succ (fun i:Nat=>l.contains (i:Int)&&(manyI l (kidsL c i true)==0)) j
  have hle:(zr0 c l j).length<=j:=pfilter_len (fun i:Nat=>l.contains (i:Int)&&(manyI l (kidsL c i true)==0)) j
  have hf:Fits ((zr0 c l j).length+1) 8:=zah (by omega) (by omega)
  cases hc:l.contains (j:Int) with
  | false=>
    rw [hc] at f0 hn
    rw [Bool.false_and,if_neg Bool.false_ne_true] at hn
    have F:=ai chAV.eq_1<|ai q1<|ai q2<|e0
    repeat (first | refine st ?_ | refine cC f0 ?_)
    refine⟨j+1,⟨hlt,by simp only [go_sem,e0]⟩, ?_, ?_,by omega⟩
    ·(simp only [go_sem,F])
    ·have F:=ai chAV.eq_1<|hn
     (simp only [go_sem,F])
  | true=>
    rw [hc] at f0 hn
    rw [Bool.true_and] at hn
    have e4:=fK (j:Int)
    have hK:=zbz h.toRight j true
    have e5:=ziz env l (kidsL c j true) hl (by omega)
    generalize kidsL c (j:Int) true=K at*
    cases hm:(manyI l K==0) with
    | true=>
      have b3:(((manyI l K:Nat):Int)==0)=true:=by simpa using hm
      rw [hm,if_pos rfl] at hn
      generalize manyI l K=N at*
      have F:=ai chAV.eq_1<|ai q1<|ai q2<|ai e0<|ai b3<|hf
      repeat (first | refine st ?_ | refine cC f0 ?_ | refine cC e4 ?_ | refine cC e5 ?_)
      refine⟨j+1,⟨hlt,by simp only [go_sem,e0]⟩, ?_, ?_,by omega⟩
      ·(simp only [go_sem,F])
      ·have F:=ai chAV.eq_1<|ai zae.eq_1<|hn
       (simp only [go_sem,List.map_append,F])
    | false=>
      have b3:(((manyI l K:Nat):Int)==0)=false:=by
       have:manyI l K≠0:=by simpa using hm
       simp
       omega
      rw [hm,if_neg Bool.false_ne_true] at hn
      generalize manyI l K=N at*
      have F:=ai chAV.eq_1<|ai q1<|ai q2<|ai e0<|b3
      repeat (first | refine st ?_ | refine cC f0 ?_ | refine cC e4 ?_ | refine cC e5 ?_)
      refine⟨j+1,⟨hlt,by simp only [go_sem,e0]⟩, ?_, ?_,by omega⟩
      ·(simp only [go_sem,F])
      ·have F:=ai chAV.eq_1<|hn
       (simp only [go_sem,F])
 ·obtain rfl:j=c.states.length:=by omega
  have q1: ¬(c.states.length:Int)< (c.states.length:Int):=by omega
  have F:=ai chAV.eq_1<|ai q1<|e0
  repeat refine st ?_
  exact aR
end
section
theorem zr1 (c:ChD) (act gone:List Int) (mem:List MemD) (j:Nat):remRTo c act gone mem (j+1)=if (refV c act gone mem j).isEmpty=true then remRTo c act gone mem j else remRTo c act gone mem j++[((j:Int),refV c act gone mem j)]:=by
 unfold remRTo
 rw [List.range_succ,List.filter_append,List.map_append]
 cases he:(refV c act gone mem j).isEmpty<;>simp [he]
theorem zsa (c:ChD) (act gone:List Int) (mem:List MemD) (j:Nat):(remRTo c act gone mem j).length<=j:=by
 unfold remRTo
 rw [List.length_map]
 exact Nat.le_trans (List.length_filter_le ..) (by rw [List.length_range]; exact Nat.le_refl _)
theorem zrM {p:Int->Bool} {K:List Int} {q:Nat} {u:Int} (h:K[q]? =some u):(K.take (q+1)).filter p=if p u=true then(K.take q).filter p++[u] else(K.take q).filter p:=by
 rw [List.take_add_one,h,List.filter_append]
 cases hb:p u<;>simp [hb]
def keptTo (act Z:List Int) (q:Nat):List Int:=(Z.take q).filter fun k=>act.contains k
theorem zsk {act Z:List Int} {q:Nat} {u:Int} (h:Z[q]? =some u):keptTo act Z (q+1)=if act.contains u=true then keptTo act Z q++[u] else keptTo act Z q:=zrM h
theorem zrx (env:Env) (c:ChD) (h:Full c) (act gone:List Int) (hl:act.length<=1000000) (hz: ∀x∈act,0<=x) (hgl:gone.length<=1000000) (mem:List MemD) (hml:mem.length<=1000000):Con Tryz.prog env 64 [.agg (chAV c), .seq 1 (act.map intAV), .seq 1 (gone.map intAV),memsAV mem] (.own 133 2 ((remR c act gone mem).map mmAV)):=by
 have hlen:=h.few
 have fK:=fun(i:Int)=>zbw env c i true (by omega)
 have fU:=fun(i:Int)=>rUnder30_con env c h.toRight act hl hz i
 have hUl:=fun(i:Int)=>(show (undR c act i).length<=32 from Nat.le_trans (List.length_filter_le ..) (by rw [zdQ]; exact zin h.toRight act))
 have fI:=fun(i:Int)=>zr2 env c h (undR c act i) (by have:=hUl i; omega)
 unfold chAV at fK fU fI
 show Con _ _ _ _ (.own _ 2 ((remRTo c act gone mem c.states.length).map mmAV))
 refine zaa Tryz.func64 rfl Tryz.call64 (by rw [Tryz.ntmps64]; simp) ?_
 rw [Tryz.ntmps64,Tryz.results64]
 have F:=chAV.eq_1
 repeat refine st ?_
 refine zab (D:=Nat) (fun j vs=>[(1, .seq 1 (act.map intAV)),(2, .seq 1 (gone.map intAV)),(3,memsAV mem),(4, .loc 4 (vs 4) 0 0),(9, .row 15 (vs 15)),(10,I j)]) (fun j _=>[(4,⟨5,[chAV c],26,false⟩),(15,⟨2,(remRTo c act gone mem j).map mmAV,133,true⟩)]) (fun j _ esc=>j<=c.states.length/\esc 15=false) (fun j=>c.states.length-j) 0 ?_ ?_ ?_ ?_
 ·exact⟨Nat.zero_le _,rfl⟩
 ·(simp only [go_sem,F])
  try rfl
 ·have F:=chAV.eq_1
  (simp only [go_sem,F])
  try rfl
 rintro j ws esc ⟨hj,e0⟩
 by_cases hlt:j<c.states.length
 ·obtain⟨s,hsk⟩: ∃s,c.states[j]? =some s:=⟨c.states[j],List.getElem?_eq_getElem hlt⟩
  have q1:=nlt hlt
  have q2:=zac hlt (by omega)
  have f0:=za1 env s
  have hn:=zr1 c act gone mem j
  have hle:=zsa c act gone mem j
  have hV:refV c act gone mem j=if zat s=true then(if gone.contains s.parent=true then(if s.kind=5 then zL (rinL c (undR c act s.parent)) else(kidZ c s.parent).filter fun k=>act.contains k) else ofL mem (j:Int)) else []:=by unfold refV; rw [hsk]; rfl
  unfold stAV at f0
  generalize refV c act gone mem j=V at*
  cases hm:zat s with
  | false=>
    rw [hm] at f0 hV
    rw [if_neg Bool.false_ne_true] at hV
    rw [hV] at hn
    rw [if_pos (show ([]:List Int).isEmpty=true from rfl)] at hn
    have F:=ai chAV.eq_1<|ai stAV.eq_1<|ai hsk<|ai q1<|ai q2<|e0
    repeat (first | refine st ?_ | refine cC f0 ?_)
    refine⟨j+1,⟨hlt,by simp only [go_sem,e0]⟩, ?_, ?_,by omega⟩
    ·(simp only [go_sem,F])
    ·have F:=ai chAV.eq_1<|hn
     (simp only [go_sem,F])
  | true=>
    rw [hm] at f0 hV
    rw [if_pos rfl] at hV
    have f1:=zqn env mem (j:Int) hml
    have f2:=zdF env gone s.parent hgl
    have f3:=fU s.parent
    have f4:=fI s.parent
    have f5:=fK s.parent
    have hKl:=zbz h.toRight s.parent true
    have hfa: ∀(u:Int),_:=fun u=>zdF env act u hl
    have hVZ:kidZ c s.parent=zL (kidsL c s.parent true):=rfl
    generalize kidsL c s.parent true=K at*
    rw [hVZ] at hV
    have F:=ai chAV.eq_1<|ai stAV.eq_1<|ai hsk<|ai q1<|e0
    repeat (first | refine st ?_ | refine cC f0 ?_ | refine cC f1 ?_ | refine cC f2 ?_)
    refine zqE (D:=Unit) (fun _ vs=>[(1, .seq 1 (act.map intAV)),(2, .seq 1 (gone.map intAV)),(3,memsAV mem),(4, .loc 4 (vs 4) 0 0),(9, .row 15 (vs 15)),(10,I j),(12, .seq 1 (V.map intAV))]) (fun _ _=>[(4,⟨5,[chAV c],26,false⟩),(15,⟨2,(remRTo c act gone mem j).map mmAV,133,true⟩)]) (fun _ _ esc=>esc 15=false) ?_ ?_
    ·refine zh8 ?_
     cases hg:gone.contains s.parent with
     | false=>
       rw [hg,if_neg Bool.false_ne_true] at hV
       rw [hV]
       have F:=hg
       repeat refine st ?_
       refine⟨_,Turned.refl _,(),by simp only [go_sem,e0], ?_, ?_⟩
       ·(simp only [go_sem,F])
       ·have F:=chAV.eq_1
        (simp only [go_sem,F])
     | true=>
       rw [hg,if_pos rfl] at hV
       by_cases hk5:s.kind=5
       ·have b5:(s.kind==5)=true:=by simp [hk5]
        rw [if_pos hk5] at hV
        rw [hV]
        have F:=ai chAV.eq_1<|ai stAV.eq_1<|ai hg<|b5
        repeat (first | refine st ?_ | refine cC f3 ?_ | refine cC f4 ?_)
        refine⟨_,Turned.frozen 47 12 ⟨1,(rinL c (undR c act s.parent)).map zae,3,true⟩ rfl (Nat.succ_ne_zero 0) (by simp only [go_sem]) (by simp only [go_sem]),(),by simp only [go_sem,e0], ?_, ?_⟩
        ·(simp only [go_sem,ze8])
        ·have F:=chAV.eq_1
         (simp only [go_sem,F])
       ·have b5:(s.kind==5)=false:=by simpa using hk5
        rw [if_neg hk5] at hV
        have F:=ai chAV.eq_1<|ai stAV.eq_1<|ai hg<|b5
        repeat (first | refine st ?_ | refine cC f5 ?_)
        refine zab (D:=Nat) (fun q vs=>[(1, .seq 1 (act.map intAV)),(2, .seq 1 (gone.map intAV)),(3,memsAV mem),(4, .loc 4 (vs 4) 0 0),(9, .row 15 (vs 15)),(10,I j),(12, .row 52 (vs 52)),(13, .row 51 (vs 51)),(14,I q)]) (fun q _=>[(4,⟨5,[chAV c],26,false⟩),(15,⟨2,(remRTo c act gone mem j).map mmAV,133,true⟩),(51,⟨1,K.map zae,3,true⟩),(52,⟨1,(keptTo act (zL K) q).map intAV,3,true⟩)]) (fun q _ esc=>q<=K.length/\esc 15=false/\esc 52=false) (fun q=>K.length-q) 0 ?_ ?_ ?_ ?_
        ·exact⟨Nat.zero_le _,by simp only [go_sem,e0],by simp only [go_sem]⟩
        ·(simp only [go_sem,F])
         try rfl
        ·have F:=chAV.eq_1
         (simp only [go_sem,F])
         try rfl
        rintro q xs fs ⟨hq,e1,e2⟩
        by_cases hlt3:q<K.length
        ·obtain⟨u,hu⟩: ∃u,K[q]? =some u:=⟨K[q],List.getElem?_eq_getElem hlt3⟩
         have r1:=nlt hlt3
         have r2:=zac hlt3 (by omega)
         have g0:=hfa (u:Int)
         have huz:(zL K)[q]? =some (u:Int):=by unfold zL; rw [List.getElem?_map,hu]; rfl
         have hks:=zsk (act:=act) huz
         have hkl:(keptTo act (zL K) q).length<=32:=Nat.le_trans (List.length_filter_le ..) (by rw [List.length_take]; omega)
         have hf:Fits ((keptTo act (zL K) q).length+1) 8:=zah (by omega) (by omega)
         generalize keptTo act (zL K) q=X at*
         cases hc:act.contains (u:Int) with
         | false=>
           rw [hc] at g0 hks
           rw [if_neg Bool.false_ne_true] at hks
           have F:=ai zae.eq_1<|ai hu<|ai r1<|ai r2<|ai e1<|e2
           repeat (first | refine st ?_ | refine cC g0 ?_)
           refine⟨q+1,⟨hlt3,by simp only [go_sem,e1],by simp only [go_sem,e2]⟩, ?_, ?_,by omega⟩
           ·(simp only [go_sem,F])
           ·have F:=ai chAV.eq_1<|hks
            (simp only [go_sem,F])
         | true=>
           rw [hc] at g0 hks
           rw [if_pos rfl] at hks
           have F:=ai zae.eq_1<|ai hu<|ai r1<|ai r2<|ai e1<|ai e2<|hf
           repeat (first | refine st ?_ | refine cC g0 ?_)
           refine⟨q+1,⟨hlt3,by simp only [go_sem,e1],by simp only [go_sem,e2]⟩, ?_, ?_,by omega⟩
           ·(simp only [go_sem,F])
           ·have F:=ai chAV.eq_1<|ai zae.eq_1<|hks
            (simp only [go_sem,List.map_append,F])
        ·obtain rfl:q=K.length:=by omega
         have r1: ¬(K.length:Int)< (K.length:Int):=by omega
         have hta:keptTo act (zL K) K.length=V:=by unfold keptTo; rw [List.take_of_length_le (by rw [zdQ]; exact Nat.le_refl _)]; exact hV.symm
         rw [hta]
         have F:=ai r1<|ai e1<|e2
         repeat refine st ?_
         refine⟨_,Turned.frozen 52 12 ⟨1,V.map intAV,3,true⟩ rfl (Nat.succ_ne_zero 0) (by simp only [go_sem]) (by simp only [go_sem]),(),by simp only [go_sem,e1], ?_, ?_⟩
         ·(simp only [go_sem,F])
         ·have F:=chAV.eq_1
          (simp only [go_sem,F])
    ·clear e0
     rintro-us es e0
     cases hve:V.isEmpty with
     | true=>
       rw [hve,if_pos rfl] at hn
       have hV0:V.length=0:=by simpa using hve
       have p1: ¬(0:Int)< (V.length:Int):=by omega
       have F:=ai p1<|ai q2<|e0
       repeat refine st ?_
       refine⟨j+1,⟨hlt,by simp only [go_sem,e0]⟩, ?_, ?_,by omega⟩
       ·(simp only [go_sem,F])
       ·have F:=ai chAV.eq_1<|hn
        (simp only [go_sem,F])
     | false=>
       rw [hve,if_neg Bool.false_ne_true] at hn
       have hV0:V.length≠0:=by
        intro e
        rw [List.length_eq_zero_iff.1 e] at hve
        cases hve
       have p1:(0:Int)< (V.length:Int):=by omega
       have hf:Fits ((remRTo c act gone mem j).length+1) 32:=zah (by omega) (by omega)
       have F:=ai p1<|ai q2<|ai e0<|hf
       repeat refine st ?_
       refine⟨j+1,⟨hlt,by simp only [go_sem,e0]⟩, ?_, ?_,by omega⟩
       ·(simp only [go_sem,F])
       ·have F:=ai chAV.eq_1<|ai mmAV.eq_1<|hn
        (simp only [go_sem,List.map_append,F])
 ·obtain rfl:j=c.states.length:=by omega
  have q1: ¬(c.states.length:Int)< (c.states.length:Int):=by omega
  have F:=ai chAV.eq_1<|ai q1<|e0
  repeat refine st ?_
  exact aR
theorem zrT (env:Env) (l:List MemD) (hl:l.length<=1000000) (hm: ∀m∈l,m.2.length<=1000000):Con Tryz.prog env 61 [memsAV l,memsAV l] (B true):=by
 refine zaa Tryz.func61 rfl Tryz.call61 (by rw [Tryz.ntmps61]; simp) ?_
 rw [Tryz.ntmps61,Tryz.results61]
 repeat refine st0 ?_
 refine zab (D:=Nat) (fun j vs=>[(0,memsAV l),(1,memsAV l),(5,I j)]) (fun _ _=>[]) (fun j _ _=>j<=l.length) (fun j=>l.length-j) 0 ?_ ?_ ?_ ?_
 ·exact Nat.zero_le _
 ·(simp only [go_sem])
  try rfl
 ·(simp only [go_sem])
  try rfl
 rintro j ws esc hj
 by_cases hlt:j<l.length
 ·obtain⟨x,hx⟩: ∃x,l[j]? =some x:=⟨l[j],List.getElem?_eq_getElem hlt⟩
  have q1:=nlt hlt
  have q2:=zac hlt (by omega)
  have hxl:=hm x (List.mem_of_getElem? hx)
  have F:=ai mmAV.eq_1<|ai hx<|q1
  repeat refine st ?_
  refine zab (D:=Nat) (fun k vs=>[(0,memsAV l),(1,memsAV l),(5,I j),(6,I k)]) (fun _ _=>[]) (fun k _ _=>k<=x.2.length) (fun k=>x.2.length-k) 0 ?_ ?_ ?_ ?_
  ·exact Nat.zero_le _
  ·(simp only [go_sem,F])
   try rfl
  ·(simp only [go_sem,F])
   try rfl
  rintro k us es hk
  by_cases hlt2:k<x.2.length
  ·obtain⟨y,hy⟩: ∃y,x.2[k]? =some y:=⟨x.2[k],List.getElem?_eq_getElem hlt2⟩
   have p1:=nlt hlt2
   have p2:=zac hlt2 (by omega)
   have F:=ai mmAV.eq_1<|ai hx<|ai hy<|ai q1<|ai p1<|p2
   repeat refine st ?_
   refine⟨k+1,hlt2, ?_, ?_,by omega⟩
   ·(simp only [go_sem,F])
   ·(simp only [go_sem,F])
  ·obtain rfl:k=x.2.length:=by omega
   have p1: ¬(x.2.length:Int)< (x.2.length:Int):=by omega
   have F:=ai mmAV.eq_1<|ai hx<|ai q1<|ai q2<|p1
   repeat refine st ?_
   refine⟨j+1,hlt, ?_, ?_,by omega⟩
   ·(simp only [go_sem,F])
   ·(simp only [go_sem,F])
 ·obtain rfl:j=l.length:=by omega
  have q1: ¬(l.length:Int)< (l.length:Int):=by omega
  have F:=q1
  repeat refine st ?_
  exact aR
end

end Go.Proofs.YtlmekdfleciejaaGreatDoor