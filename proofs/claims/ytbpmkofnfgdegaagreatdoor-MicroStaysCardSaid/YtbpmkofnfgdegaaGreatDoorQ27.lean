/- Package micro: which transitions are taken. -/
import Derived.Test.YtbpmkofnfgdegaaGreatDoorQ24
import Derived.Test.YtbpmkofnfgdegaaGreatDoorQ8
import Derived.Test.YtbpmkofnfgdegaaGreatDoorQ6
import Derived.Test.YtbpmkofnfgdegaaGreatDoorQ26
import Derived.Test.YtbpmkofnfgdegaaGreatDoorQ11
import Derived.Test.YtbpmkofnfgdegaaGreatDoorQ22
import Derived.Test.YtbpmkofnfgdegaaGreatDoorQ25
set_option maxRecDepth 100000
set_option maxHeartbeats 16000000
set_option linter.unusedSimpArgs false
namespace Go.Proofs.YtbpmkofnfgdegaaGreatDoor
open Go.Proofs.Tryz
open Go.RowKit
section
theorem zp7 (env:Env) (es:List (List AV)) (hl:es.length<=4096):Con prog env 228 [.seq 2 es] (.own 130 2 es):=by
 cases es with
 | nil=>
   refine Con.empty fun A cap=> ?_;cases A with
   | none=>
     refine qw func228 call228 ntmps228 results228 ?_;repeat refine st0 ?_
     (refine zal ?_;refine⟨_,(by show (zaG _ _ _).run _=some _;simp only[go_sem];rfl),?_⟩)
     exact RStr.own_nil _ _ (by decide)
   | some A=>
     refine qf func228 call228 ntmps228 results228 ?_;repeat refine st0 ?_
     exact aR0
 | cons d l=>
   have g1:Fits ((l.length+1)) 32:=zae (by simpa using hl) (by omega);refine qf func228 call228 ntmps228 results228 ?_;have F:=g1;repeat refine st ?_
   exact aR
theorem zoK (env:Env) (x:MemD) (h:Int) (hx:0<=x.1/\x.1<=1000000) (hh:0<=h/\h<=1000000):Con prog env 227 [.agg (mmAV x),I h] (I (x.1-h)):=by
 have q:IntKind.i64.wrap (x.1-h)=x.1-h:=IntWalk.i64_in _ (by omega);unfold mmAV;refine qf func227 call227 ntmps227 results227 ?_;have F:=q;repeat refine st ?_
 exact aR
theorem zlZ (env:Env) (l:List MemD) (x:Int) (hs:Srt l) (hz: ∀m∈l,0<=m.1/\m.1<=1000000) (hh:0<=x/\x<=1000000) (hl:l.length<=1000000):Con prog env 226 [memsAV l,I x, .lit (.func (.func 227) #[] #[])] (.tuple [I (posM l x),B (isM l x)]):=by
 have hle:=zmE x l;have hp:=fun {j:Nat} {y:MemD} (hy:l[j]? =some y)=>zrm (h:=x) hs hy;have hI:isM l x=match l[posM l x]? with|some y=>y.1==x|none=>false:=rfl
 generalize isM l x=b at*;generalize posM l x=p at*;refine qf func226 call226 ntmps226 results226 ?_;repeat refine st0 ?_
 refine zab (D:=Nat×Nat) (fun d _=>[(0,memsAV l),(1,I x),(2, .lit (.func (.func 227) #[] #[])),(8,I l.length),(9,I d.1),(10,I d.2)]) (fun _ _=>[]) (fun d _ _=>d.1<=p/\p<=d.2/\d.2<=l.length) (fun d=>d.2-d.1) (0,l.length) ?_ ?_ ?_ ?_
 ·exact⟨Nat.zero_le _,hle,Nat.le_refl _⟩
 ·(simp only[go_sem])
  try rfl
 ·exact qe0
 rintro⟨i,j⟩ ws esc ⟨h1,h2,h3⟩;simp only at h1 h2 h3;by_cases hlt:i<j
 ·have g1:=nlt hlt;have hm:(i+j)/2<l.length:=by omega
  obtain⟨y,hy⟩: ∃y,l[(i+j)/2]? =some y:=⟨l[(i+j)/2],List.getElem?_eq_getElem hm⟩;have hyp:=hp hy;have f1:=zoK env y x (hz y (List.mem_of_getElem? hy)) hh;have g2:IntKind.i64.wrap ((i:Int)+(j:Int))=((i+j:Nat):Int):=by rw[zaw (by omega) (by omega)];omega
  have g3:IntKind.u64.wrap ((i+j:Nat):Int)=((i+j:Nat):Int):=IntWalk.u64_in _ (by omega)
  have g4:IntKind.i64.wrap (((i+j:Nat):Int).fdiv (2^min 1 64))=(((i+j)/2:Nat):Int):=by
   rw[show ((i+j:Nat):Int).fdiv (2^min 1 64)=(((i+j)/2:Nat):Int) from(Int.ofNat_fdiv (i+j) 2).symm,zaw (by omega) (by omega)]
  have g5:(((i+j)/2:Nat):Int)< (l.length:Int):=by omega
  have g6:=zaa (k:=(i+j)/2) (n:=l.length) hm (by omega);generalize hmm:(i+j)/2=mm at*;unfold mmAV at f1;by_cases hb:y.1<x
  ·have q:y.1-x<0:=by omega
   have:=hyp.2 hb;have F:=ai9 mmAV.eq_1 g1 g2 g3 g4 g5 g6 hy q;repeat refine st ?_
   refine oC (zeG rfl (by simp only[go_sem,F];exact iR)) (f1) (by simp only[go_sem,F];exact iR) (by simp only[go_sem,F];exact⟨rfl,rfl⟩) ?_;repeat refine st ?_
   refine⟨(mm+1,j),⟨?_,?_,?_⟩,?_,?_,?_⟩
   ·simp only;omega
   ·exact h2
   ·exact h3
   ·exact qe
   ·exact qe
   ·simp only;omega
  ·have q: ¬y.1-x<0:=by omega
   have: ¬mm<p:=fun h=>hb (hyp.1 h);have F:=ai9 mmAV.eq_1 g1 g2 g3 g4 g5 g6 hy q;repeat refine st ?_
   refine oC (zeG rfl (by simp only[go_sem,F];exact iR)) (f1) (by simp only[go_sem,F];exact iR) (by simp only[go_sem,F];exact⟨rfl,rfl⟩) ?_;repeat refine st ?_
   refine⟨(i,mm),⟨?_,?_,?_⟩,?_,?_,?_⟩
   ·exact h1
   ·simp only;omega
   ·simp only;omega
   ·exact qe
   ·exact qe
   ·simp only;omega
 ·obtain rfl:i=j:=by omega
  obtain rfl:i=p:=by omega
  have g1:=nl i;by_cases hi:i<l.length
  ·have g2:=nlt hi;obtain⟨y,hy⟩:=gE hi;have f1:=zoK env y x (hz y (List.mem_of_getElem? hy)) hh;rw[hy]at hI;have hI:b=(y.1==x):=hI;unfold mmAV at f1;by_cases he:y.1=x
   ·have q:(y.1-x==0)=true:=by simp;omega
    rw[hI,show (y.1==x)=true by simpa using he];have F:=ai5 mmAV.eq_1 g1 g2 hy q;repeat refine st ?_
    refine oC (zeG rfl (by simp only[go_sem,F];exact iR)) (f1) (by simp only[go_sem,F];exact iR) (by simp only[go_sem,F];exact⟨rfl,rfl⟩) ?_;repeat refine st ?_
    exact aR
   ·have q:(y.1-x==0)=false:=by simp;omega
    rw[hI,show (y.1==x)=false by simpa using he];have F:=ai5 mmAV.eq_1 g1 g2 hy q;repeat refine st ?_
    refine oC (zeG rfl (by simp only[go_sem,F];exact iR)) (f1) (by simp only[go_sem,F];exact iR) (by simp only[go_sem,F];exact⟨rfl,rfl⟩) ?_;repeat refine st ?_
    exact aR
  ·have g2: ¬(i:Int)< (l.length:Int):=by omega
   rw[List.getElem?_eq_none (by omega)]at hI;have hI:b=false:=hI;rw[hI];have F:=ai g1 g2;repeat refine st ?_
   exact aR
theorem zv2 (l:List MemD) (p:Nat) (m:MemD):zhz p (mmAV m) (l.map mmAV)=(l.take p++m::l.drop p).map mmAV:=by
 unfold zhz;rw[List.map_append,List.map_cons,List.map_take,List.map_drop]
theorem zrj (env:Env) (l:List MemD) (m:MemD) (hs:Srt l) (hz: ∀m∈l,0<=m.1/\m.1<=1000000) (hh:0<=m.1/\m.1<=1000000) (hl:l.length<=4000):Con prog env 190 [memsAV l, .agg (mmAV m)] (.own 130 2 ((putM l m).map mmAV)):=by
 have f0:=zlZ env l m.1 hs hz hh (by omega);have f1:=zp7 env (l.map mmAV) (by rw[List.length_map];omega);cases hb:isM l m.1 with
 | true=>
   rw[hb]at f0;have hlt:=zwH hb;rw[znW hb];generalize posM l m.1=p at*;have q0:=nlt hlt;have hset:(l.map mmAV).set p [I m.1, .seq 1 (m.2.map intAV)]=(l.set p m).map mmAV:=by rw[List.map_set];rfl
   obtain⟨y,hy⟩:=gE hlt;refine qf func190 call190 ntmps190 results190 ?_;have F:=ai4 mmAV.eq_1 q0 hset hy;repeat refine tz2 f0 f1 ?_
   exact aR
 | false=>
   rw[hb]at f0;rw[znX hb, <-zv2];have hle:=zmE m.1 l;generalize posM l m.1=p at*;refine qf func190 call190 ntmps190 results190 ?_;have F:=mmAV.eq_1;repeat refine tz2 f0 f1 ?_
   refine ztq 24 27 rfl (row:=⟨2,l.map mmAV,130,true⟩) (row2:=⟨2,[mmAV m],130,true⟩) (i:=p) insM (Nat.succ_ne_zero 1) rfl rfl rfl rfl rfl (by decide) (by rw[List.length_map];exact hle) (by rw[List.length_map];omega) (by simp only[go_sem];exact iR) (by simp only[go_sem];exact iR) (by simp only[go_sem];exact iR) (by simp only[go_sem];exact iR) (by simp only[go_sem];exact iR) (by simp only[go_sem];exact iR) iR ?_;repeat refine st ?_
   exact aR
end
section
def okM (c:ChD) (l:List MemD):Prop:=Srt l/\ ∀m∈l,inZ c m.1=true
theorem zvP {c:ChD} {l:List MemD} {k:Nat} {v:List Int} (hk:k<c.states.length) (h:okM c l):okM c (putM l ((k:Int),v)):=
 ⟨zjy h.1,fun p hp=>by
  rcases (zgG h.1).1 hp with rfl|⟨h1,_⟩
  ·exact zar.2 hk
  ·exact h.2 p h1⟩
theorem zmK {c:ChD} {l:List MemD} (h:okM c l):l.length<=c.states.length:=by
 have hn:(l.map fun m=>m.1.toNat).Nodup:=by
  refine List.pairwise_map.2 (h.1.imp_of_mem fun {a b} ha hb hab=> ?_);have:=(zag.1 (h.2 a ha)).1;have:=(zag.1 (h.2 b hb)).1;omega
 have:=hn.length_le_of_subset (l₂:=List.range c.states.length) fun x hx=>by
  obtain⟨m,hm,rfl⟩:=List.mem_map.1 hx;have:=zag.1 (h.2 m hm);exact List.mem_range.2 (by omega)
 simpa using this
theorem zw4 {c:ChD} (hc:Right c) {l:List MemD} (h:okM c l): ∀m∈l,0<=m.1/\m.1<=1000000:=fun m hm=>by
 have:=zag.1 (h.2 m hm);have:=hc.few;omega
theorem zvf {c:ChD} {mem:List MemD} (h:zbd c mem=true):okM c mem:=by
 obtain⟨h1,h2⟩:=zhq h;refine⟨h1,fun m hm=> ?_⟩;obtain⟨k,s,e,hs,_⟩:=zrJ (h2 m hm);rw[e];exact zar.2 (List.getElem?_eq_some_iff.1 hs).1
theorem zum {c:ChD} {act:List Int} {i:Int} (h:manyI act (kidsL c i true)=1): ∃(p a:Nat),(kidsL c i true)[p]? =some a/\zfT c act i=[(a:Int)]/\ ∀(q y:Nat),(kidsL c i true)[q]? =some y->act.contains (y:Int)=decide (q=p):=by
 obtain⟨k,hk,hka,hl,hf⟩:=zjP h;obtain⟨a,ha,rfl⟩:=List.mem_map.1 hk;obtain⟨p,hp⟩:=List.mem_iff_getElem?.1 ha;refine⟨p,a,hp,hl,fun q y hy=> ?_⟩;by_cases e:q=p
 ·subst e;rw[hp]at hy;cases hy;rw[decide_eq_true rfl];exact List.contains_iff_mem.2 hka
 ·rw[decide_eq_false e];refine Bool.eq_false_iff.2 fun hc=>e ?_;have hm:(y:Int)∈(kidZ c i).filter fun k=>act.contains k:=List.mem_filter.2 ⟨List.mem_map.2 ⟨y,List.mem_of_getElem? hy,rfl⟩,hc⟩;rw[hf]at hm;have hya:(y:Int)=(a:Int):=List.mem_singleton.1 hm;have hya:y=a:=by omega
  subst hya;exact(List.getElem?_inj (List.getElem?_eq_some_iff.1 hy).1 (zaI c i true)).1 (hy.trans hp.symm)
theorem zph {c:ChD} {act gone:List Int} {o:List MemD} {j:Nat} {x:Int} (h:gone[j]? =some x):remTo c act gone o (j+1)=if zaD c x=true then memTo_ c act x (remTo c act gone o j) (memL c x) (memL c x).length else remTo c act gone o j:=by
 unfold remTo;exact za3 _ _ h
theorem zmN {c:ChD} {act:List Int} {i:Int} {o:List MemD} {M:List Nat} {m h:Nat} (hm:M[m]? =some h):memTo_ c act i o M (m+1)=putM (memTo_ c act i o M m) ((h:Int),newV c act i h):=by
 unfold memTo_;exact za3 _ _ hm
def zio (a:Nat) (p q:Nat):AV:=if q<=p then nilS else .seq 1 [zac a]
end
section
/-! As the document says -/
end
section
theorem zjs (env:Env) (c:ChD) (h:Full c) (hs:Small c) (act gone:List Int) (mem:List MemD) (hla:act.length<=4000) (hlg:gone.length<=1000000) (hlb:lgB c act=true) (hgo: ∀x∈gone,x∈act) (hm:zbd c mem=true):ConI prog env 135 [1001,1006] (fun _=>false) (fun g=>[zah c, .row 1001 (g 1001), .row 1006 (g 1006),memsAV mem]) (fun _=>[(1001,⟨1,act.map intAV,3,true⟩),(1006,⟨1,gone.map intAV,3,true⟩)]) (fun _=>[(1001,⟨1,act.map intAV,3,true⟩),(1006,⟨1,gone.map intAV,3,true⟩)]) (fun _=>memsAV (remL c act gone mem)):=by
 have f0:=zas env c hs;have hfew:=h.few;have hok:=zvf hm;have hml:=zmK hok;have f1:=zp1 env mem (by omega) (fun m hm'=>by have:=(zmM h hm m hm').2;omega);have hlgc:=zc4 hlb;show ConI _ _ _ _ _ _ _ _ fun _=>memsAV (remTo c act gone mem gone.length);unfold zah at f0 |-;refine qi func135 call135 ntmps135 results135 ?_;intro vs esc hesc;obtain⟨z1,z6⟩:=es2 hesc;have F:=ai z1 z6;repeat refine tz2 f0 f1 ?_
 refine zdN (Turned.frozen 21 10 ⟨2,mem.map mmAV,130,true⟩ rfl (Nat.succ_ne_zero 1) (by simp only[go_sem]) (by simp only[go_sem])) ?_;refine zab (D:=Nat) (fun j vs=>[(0, .ref 9 [tabCells c] 0 0),(1, .row 1001 (vs 1001)),(9, .loc 9 (vs 9) 0 0),(10,memsAV (remTo c act gone mem j)),(22, .row 1006 (vs 1006)),(23,I gone.length),(24,I j)]) (fun _ _=>[(9,⟨5,[chAV c],26,false⟩),(1001,⟨1,act.map intAV,3,true⟩),(1006,⟨1,gone.map intAV,3,true⟩)]) (fun j vs' esc'=>(j<=gone.length/\okM c (remTo c act gone mem j))/\(vs' 1001=vs 1001/\vs' 1006=vs 1006)/\esc' 1001=false/\esc' 1006=false) (fun j=>gone.length-j) 0 ?_ ?_ ?_ ?_
 ·exact⟨⟨Nat.zero_le _,hok⟩,by simp only[go_sem,and_self],by simp only[go_sem,z1,z6,and_self]⟩
 ·(simp only[go_sem,F])
  try rfl
 ·have F:=chAV.eq_1
  (simp only[go_sem,F])
  try rfl
 try clear z1 z6
 rintro j ws esc ⟨⟨hj,hO⟩,⟨w1,w6⟩,z1,z6⟩;by_cases hlt:j<gone.length
 ·obtain⟨x,hx⟩:=gE hlt;have q1:=nlt hlt;have q2:=zaa hlt (by omega);have hxa:=hgo x (List.mem_of_getElem? hx);obtain⟨s0,hs0,hz, -, -,hone, -⟩:=hlgc.of hxa;obtain⟨k,s,rfl,hsk,hat⟩:=zb9 hz;obtain rfl:s0=s:=by rw[hs0]at hat;cases hat;rfl
  have hk:=(List.getElem?_eq_some_iff.1 hsk).1;have q3:((k:Nat):Int)< (c.states.length:Int):=by omega
  have f2:=zo2 env c h k;have hpz:=zaV hs0;have hrs:=zph (c:=c) (act:=act) (o:=mem) hx;unfold zah at f2;generalize remTo c act gone mem j=o at*;by_cases hk1:s0.kind=1
  ·have b1:(s0.kind==1)=true:=by simp[hk1]
   rw[b1]at hpz;rw[hpz,if_pos rfl]at hrs
   have hML: ∀y∈memL c (k:Int),∃sy,c.states[y]? =some sy/\sy.parent=(k:Int)/\zaq sy=true:=fun y hy=>by
    obtain⟨sy,e1,_,e3,e4⟩:=zc3.1 hy;exact⟨sy,e1,e3,e4⟩
   have hMl:(memL c (k:Int)).length<=1000000:=by
    unfold memL;have:=List.length_filter_le (memP c (k:Int)) (List.range c.states.length);rw[List.length_range]at this;omega
   have f3:=zns env c h.toRight act hla (k:Int)
   have f4:=zr5 env c h (underL c act (k:Int)) (Nat.le_trans (List.length_filter_le ..) hla) (fun y hy=>by
    have hy:=(List.mem_filter.1 hy).1;obtain⟨_,_,hz,_⟩:=hlgc.of hy
    exact hz)
   have f5:=zaN env c h (k:Int);rw[if_pos (.inr hz)]at f5;have hone:=hone hk1;generalize memL c (k:Int)=M at*;unfold zah at f3 f4 f5;have F:=ai11 chAV.eq_1 stAV.eq_1 hx q1 q2 q3 hsk b1 bneA z1 z6;repeat refine tz1 f2 ?_
   refine zab (D:=Nat) (fun m vs=>[(0, .ref 9 [tabCells c] 0 0),(1, .row 1001 (vs 1001)),(9, .loc 9 (vs 9) 0 0),(10,memsAV (memTo_ c act k o M m)),(12,I k),(22, .row 1006 (vs 1006)),(23,I gone.length),(24,I j),(37, .row 37 (vs 37)),(38,I M.length),(39,I m)]) (fun _ _=>[(9,⟨5,[chAV c],26,false⟩),(37,⟨1,M.map zac,3,true⟩),(1001,⟨1,act.map intAV,3,true⟩),(1006,⟨1,gone.map intAV,3,true⟩)]) (fun m vs' esc'=>(m<=M.length/\okM c (memTo_ c act k o M m))/\(vs' 1001=vs 1001/\vs' 1006=vs 1006)/\esc' 1001=false/\esc' 1006=false) (fun m=>M.length-m) 0 ?_ ?_ ?_ ?_
   ·exact⟨⟨Nat.zero_le _,hO⟩,by simp only[go_sem,w1,w6,and_self],by simp only[go_sem,z1,z6,and_self]⟩
   ·(simp only[go_sem,F])
    try rfl
   ·have F:=ai3 chAV.eq_1 z1 z6
    (simp only[go_sem,F])
    try rfl
   try clear z1 z6 w1 w6
   rintro m us es ⟨⟨hml2,hO2⟩,⟨w1,w6⟩,z1,z6⟩;by_cases hlt2:m<M.length
   ·obtain⟨y,hy⟩:=gE hlt2;have p1:=nlt hlt2;have p2:=zaa hlt2 (by omega);obtain⟨sy,hsy,hpar,hmy⟩:=hML y (List.mem_of_getElem? hy);have hyl:=(List.getElem?_eq_some_iff.1 hsy).1;have p3:((y:Nat):Int)< (c.states.length:Int):=by omega
    have hms:=zmN (c:=c) (act:=act) (i:=(k:Int)) (o:=o) hy;have hnv:newV c act (k:Int) y=if sy.kind=5 then innerL c (underL c act (k:Int)) else zfT c act (k:Int):=by unfold newV;rw[hsy]
    have hO3:=zvP (v:=newV c act (k:Int) y) hyl hO2;rw[<-hms]at hO3;have hz2:=zw4 h.toRight hO2;have hl2:=zmK hO2;generalize memTo_ c act (k:Int) o M m=o2 at*;by_cases hk5:sy.kind=5
    ·have b5:(sy.kind==5)=true:=by simp[hk5]
     rw[if_pos hk5]at hnv;rw[hnv]at hms;have f6:Con prog env 190 [memsAV o2, .agg [I (y:Int), .seq 1 ((innerL c (underL c act (k:Int))).map intAV)]] (.own 130 2 ((putM o2 ((y:Int),innerL c (underL c act (k:Int)))).map mmAV)):=zrj env o2 ((y:Int),innerL c (underL c act (k:Int))) hO2.1 hz2 ⟨by simp only;omega,by simp only;omega⟩ (by omega);generalize innerL c (underL c act (k:Int))=V at*;generalize underL c act (k:Int)=U at*;refine zcA ?_;have F:=ai11 chAV.eq_1 stAV.eq_1 zac.eq_1 hy hsy p1 p2 p3 b5 z1 z6;repeat refine st ?_
     refine lL (f3.lend (za4 (fun _=>rfl) _)) ?_;repeat refine tz2 f4 f6 ?_
     refine⟨_,Turned.frozen 76 10 ⟨2,(putM o2 ((y:Int),V)).map mmAV,130,true⟩ rfl (Nat.succ_ne_zero 1) (by simp only[go_sem]) (by simp only[go_sem]),m+1,⟨⟨hlt2,hO3⟩,by simp only[go_sem,w1,w6,and_self],by simp only[go_sem,z1,z6,and_self]⟩,?_,?_,by omega⟩
     ·have F:=ai3 hms z1 z6
      (simp only[go_sem,F])
      try rfl
     ·have F:=ai3 chAV.eq_1 z1 z6;exact qe
    ·have b5:(sy.kind==5)=false:=by simpa using hk5
     rw[if_neg hk5]at hnv;rw[hnv]at hms
     have hkn:kidsL c (k:Int) true≠[]:=by
      have:=(zhH h hsy hmy).2.2.1;rw[hpar]at this;exact this
     have hkf:=zaS h.toRight (k:Int) true;obtain⟨p,a,hp,hlk,hpick⟩:=zum (hone hkn);rw[hlk]at hms;have f6:Con prog env 190 [memsAV o2, .agg [I (y:Int), .seq 1 [zac a]]] (.own 130 2 ((putM o2 ((y:Int),[(a:Int)])).map mmAV)):=zrj env o2 ((y:Int),[(a:Int)]) hO2.1 hz2 ⟨by simp only;omega,by simp only;omega⟩ (by omega);generalize kidsL c (k:Int) true=K at*;refine zcA ?_;have F:=ai11 chAV.eq_1 stAV.eq_1 zac.eq_1 hy hsy p1 p2 p3 b5 z1 z6;repeat refine tz1 f5 ?_
     refine zab (D:=Nat) (fun q vs=>[(0, .ref 9 [tabCells c] 0 0),(1, .row 1001 (vs 1001)),(9, .loc 9 (vs 9) 0 0),(10,memsAV o2),(12,I k),(14,I y),(15, .loc 15 (vs 15) 0 0),(22, .row 1006 (vs 1006)),(23,I gone.length),(24,I j),(37, .row 37 (vs 37)),(38,I M.length),(39,I m),(61, .row 61 (vs 61)),(62,I K.length),(63,I q)]) (fun q _=>[(9,⟨5,[chAV c],26,false⟩),(15,⟨2,[[I y,zio a p q]],130,false⟩),(37,⟨1,M.map zac,3,true⟩),(61,⟨1,K.map zac,3,true⟩),(1001,⟨1,act.map intAV,3,true⟩),(1006,⟨1,gone.map intAV,3,true⟩)]) (fun q vs' esc'=>(q<=K.length/\esc' 15=false)/\(vs' 1001=vs 1001/\vs' 1006=vs 1006)/\esc' 1001=false/\esc' 1006=false) (fun q=>K.length-q) 0 ?_ ?_ ?_ ?_
     ·exact⟨⟨Nat.zero_le _,by simp only[go_sem]⟩,by simp only[go_sem,w1,w6,and_self],by simp only[go_sem,z1,z6,and_self]⟩
     ·(simp only[go_sem,F])
      try rfl
     ·have F:=ai3 chAV.eq_1 z1 z6
      (simp only[go_sem,F])
      try rfl
     try clear z1 z6 w1 w6
     rintro q xs fs ⟨⟨hq,e5⟩,⟨w1,w6⟩,z1,z6⟩;by_cases hlt3:q<K.length
     ·obtain⟨u,hu⟩:=gE hlt3;have r1:=nlt hlt3;have r2:=zaa hlt3 (by omega);have g0:=zaB env act (u:Int) (by omega);rw[hpick q u hu]at g0;by_cases hqp:q=p
      ·subst hqp;rw[decide_eq_true rfl]at g0;obtain rfl:u=a:=by rw[hp]at hu;cases hu;rfl
       have c1:zio u q q=nilS:=by unfold zio;rw[if_pos (Nat.le_refl _)]
       have c2:zio u q (q+1)= .seq 1 [zac u]:=by unfold zio;rw[if_neg (by omega)]
       refine zcA ?_;have F:=ai9 chAV.eq_1 zac.eq_1 hu r1 r2 c1 e5 z1 z6;repeat refine st ?_
       refine lL (g0.lend rfl) ?_;repeat refine st ?_
       refine⟨_,Turned.sees [(71,xs 71+1, .seq 1 [zac u])] (fun z hz=> ?_),q+1,⟨⟨hlt3,?_⟩,?_,?_⟩,?_,?_,by omega⟩
       ·rw[List.mem_singleton.1 hz];refine⟨by simp only[go_sem],⟨1,[zac u],3,true⟩,by simp only[go_sem,zac],Nat.succ_ne_zero 0,rfl,rfl⟩
       ·simp only[seenSt,go_sem,e5,List.any_cons,List.any_nil]
       ·simp only[seenSt,go_sem,w1,w6,and_self]
       ·simp only[seenSt,go_sem,z1,z6,List.any_cons,List.any_nil,and_self]
       ·have F:=ai z1 z6;exact qe
       ·have F:=ai5 chAV.eq_1 zac.eq_1 c2 z1 z6;exact qe
      ·rw[decide_eq_false hqp]at g0
       have c1:zio a p (q+1)=zio a p q:=by
        unfold zio;by_cases e:q<=p
        ·rw[if_pos (by omega),if_pos e]
        ·rw[if_neg (by omega),if_neg e]
       have F:=ai8 chAV.eq_1 zac.eq_1 hu r1 r2 e5 z1 z6;repeat refine st ?_
       refine lL (g0.lend rfl) ?_;repeat refine st ?_
       refine⟨q+1,⟨⟨hlt3,by simp only[go_sem,e5]⟩,by simp only[go_sem,w1,w6,and_self],by simp only[go_sem,z1,z6,and_self]⟩,?_,?_,by omega⟩
       ·exact qe
       ·have F:=ai5 chAV.eq_1 zac.eq_1 c1 z1 z6;exact qe
     ·obtain rfl:q=K.length:=by omega
      have r1:=nl K.length
      have c1:zio a p K.length= .seq 1 [zac a]:=by
       unfold zio;rw[if_neg (by have:=(List.getElem?_eq_some_iff.1 hp).1;omega)]
      have F:=ai8 chAV.eq_1 zac.eq_1 r1 c1 p2 e5 z1 z6;repeat refine tz1 f6 ?_
      refine⟨_,Turned.frozen 76 10 ⟨2,(putM o2 ((y:Int),[(a:Int)])).map mmAV,130,true⟩ rfl (Nat.succ_ne_zero 1) (by simp only[go_sem]) (by simp only[go_sem]),m+1,⟨⟨hlt2,hO3⟩,by simp only[go_sem,w1,w6,and_self],by simp only[go_sem,z1,z6,and_self]⟩,?_,?_,by omega⟩
      ·have F:=ai3 hms z1 z6
       (simp only[go_sem,F])
       try rfl
      ·have F:=ai3 chAV.eq_1 z1 z6;exact qe
   ·obtain rfl:m=M.length:=by omega
    have p1:=nl M.length;rw[<-hrs]at hO2;have F:=ai4 p1 q2 z1 z6;repeat refine st ?_
    refine⟨j+1,⟨⟨hlt,hO2⟩,by simp only[go_sem,w1,w6,and_self],by simp only[go_sem,z1,z6,and_self]⟩,?_,?_,by omega⟩
    ·have F:=ai3 hrs z1 z6;exact qe
    ·have F:=ai3 chAV.eq_1 z1 z6;exact qe
  ·have b1:(s0.kind==1)=false:=by simpa using hk1
   rw[b1]at hpz;rw[hpz,if_neg Bool.false_ne_true]at hrs;rw[<-hrs]at hO;have F:=ai11 chAV.eq_1 stAV.eq_1 hx q1 q2 q3 hsk b1 bneA z1 z6;repeat refine tz1 f2 ?_
   refine⟨j+1,⟨⟨hlt,hO⟩,by simp only[go_sem,w1,w6,and_self],by simp only[go_sem,z1,z6,and_self]⟩,?_,?_,by omega⟩
   ·have F:=ai3 hrs z1 z6;exact qe
   ·have F:=ai3 chAV.eq_1 z1 z6;exact qe
 ·obtain rfl:j=gone.length:=by omega
  have q1:=nl gone.length;have F:=ai5 q1 z1 z6 w1 w6;repeat refine st ?_
  exact rI
theorem zko (env:Env) (a1 a8:Addr) (he:ChEnv env a1 a8) (c:ChD) (h:Full c) (hs:Small c) (act gone:List Int) (hl:act.length<=4000) (hgl:gone.length<=1000000) (mem:List MemD) (hml:mem.length<=1000000) (hF: ∀m∈mem,Fits m.2.length 8) (hb:lgB c act=true) (hm:zbd c mem=true) (hgo: ∀x∈gone,x∈act):ConI prog env 75 [1001,1006] (fun _=>false) (fun g=>[zah c, .row 1001 (g 1001), .row 1006 (g 1006),memsAV mem]) (fun _=>[(1001,⟨1,act.map intAV,3,true⟩),(1006,⟨1,gone.map intAV,3,true⟩)]) (fun _=>[(1001,⟨1,act.map intAV,3,true⟩),(1006,⟨1,gone.map intAV,3,true⟩)]) (fun _=> .tuple [memsAV (remL c act gone mem),nilE]):=by
 have f0:=zbg env a1 a8 he c h hs act (by omega);have f2:=zib env a1 a8 he c h hs mem hml hF;have f4:=zjs env c h hs act gone mem hl hgl hb hgo hm;unfold chkE at f0;unfold chkM at f2;rw[hb]at f0;rw[hm,if_pos rfl]at f2;simp only[if_true]at f0;have f0:=f0.lend rfl;unfold zah at f0 f2 f4 |-;refine qi func75 call75 ntmps75 results75 ?_;intro vs esc hesc;obtain⟨z1,z6⟩:=es2 hesc;have F:=ai z1 z6;repeat refine st ?_
 refine lL f0 ?_;repeat refine tz1 f2 ?_
 refine zab (D:=Nat) (fun j vs=>[(0, .ref 9 [tabCells c] 0 0),(1, .row 1001 (vs 1001)),(2, .row 1006 (vs 1006)),(3,memsAV mem),(25, .row 1006 (vs 1006)),(26,I gone.length),(27,I j)]) (fun _ _=>[(1001,⟨1,act.map intAV,3,true⟩),(1006,⟨1,gone.map intAV,3,true⟩)]) (fun j vs' esc'=>j<=gone.length/\(vs' 1001=vs 1001/\vs' 1006=vs 1006)/\esc' 1001=false/\esc' 1006=false) (fun j=>gone.length-j) 0 ?_ ?_ ?_ ?_
 ·exact⟨Nat.zero_le _,by simp only[go_sem,and_self],by simp only[go_sem,z1,z6,and_self]⟩
 ·(simp only[go_sem,F])
  try rfl
 ·(simp only[go_sem,F])
  try rfl
 try clear z1 z6
 rintro j ws esc ⟨hj,⟨w1,w6⟩,z1,z6⟩;by_cases hlt:j<gone.length
 ·obtain⟨x,hx⟩:=gE hlt;have q1:=nlt hlt;have q2:=zaa hlt (by omega);have g0:=zaB env act x (by omega);rw[List.contains_iff_mem.2 (hgo x (List.mem_of_getElem? hx))]at g0;have F:=ai5 hx q1 q2 z1 z6;repeat refine st ?_
  refine lL (g0.lend rfl) ?_;repeat refine st ?_
  refine⟨j+1,⟨hlt,by simp only[go_sem,w1,w6,and_self],by simp only[go_sem,z1,z6,and_self]⟩,?_,?_,by omega⟩
  ·exact qe
  ·exact qe
 ·obtain rfl:j=gone.length:=by omega
  have q1:=nl gone.length;have F:=ai5 q1 z1 z6 w1 w6;repeat refine st ?_
  refine iL [(1001,1001),(1006,1006)] f4 ?_;repeat refine st ?_
  exact rI
end
section
def wakeM:ChD:=⟨[99],0,[],[⟨[97],1, -1, -1,[],[]⟩,⟨[98],1, -1, -1,[],[]⟩],[⟨0,[120],[],[],1⟩]⟩
def zqB:List AV:=[Sg [99],I 0,nilS, .seq 6 [[Sg [97],I 1,I (-1),I (-1),nilS,nilS],[Sg [98],I 1,I (-1),I (-1),nilS,nilS]], .seq 5 [[I 0,Sg [120],nilS,nilS,I 1]]]
theorem zqU (n:List UInt8) (k p i:Int):Strs [Sg n,I k,I p,I i,nilS,nilS] (stAV ⟨n,k,p,i,[],[]⟩):= .cons (.refl _) (.cons (.refl _) (.cons (.refl _) (.cons (.refl _) (.cons (.nil 4) (.cons (.nil 4) .nil)))))
theorem zqy:Strs [.agg zqB] [.agg (chAV wakeM)]:=by
 refine .one (.agg (.cons (.refl _) (.cons (.refl _) (.cons (.nil 2) (.cons (.seqs ?_) (.cons (.seqs ?_) .nil))))))
 ·exact .cons (zqU ..) (.cons (zqU ..) .nil)
 ·exact .cons (.cons (.refl _) (.cons (.refl _) (.cons (.nil 2) (.cons (.nil 4) (.cons (.refl _) .nil))))) .nil
theorem zqA:zeP wakeM:=by simp[zeP,zlw,zlv,wakeM,maxLen]
theorem zks:chk wakeM=(0, -1):=by decide+kernel
theorem zqz:lgB wakeM [0]=true:=by decide+kernel
end
section
theorem zqn (env:Env) (a1 a8:Addr) (he:ChEnv env a1 a8) (c:ChD) (h:Full c) (hs:Small c) (act:List Int) (hl:act.length<=1000000) (k:Nat) (t:TrD) (ht:c.trans[k]? =some t) (hb:lgB c act=true) (h0: ¬t.target<0):
 ConI prog env 73 [1001,35] (fun i=>i==35) (fun g=>[zah c, .row 1001 (g 1001),I k]) (fun _=>[(1001,⟨1,act.map intAV,3,true⟩)]) (fun _=>[(1001,⟨1,act.map intAV,3,true⟩),(35,⟨1,(leaveR c act t).map intAV,3,true⟩)]) (fun g=> .tuple [.row 35 (g 35),nilE]):=by
 have f0:=zbg env a1 a8 he c h hs act hl;have f1:=zgD env c hs k t ht;have f2:=zf1 env c h.toRight hs t (h.src ht).1;have f3:=(zoc env c h.toRight act hl (domE c t.src t.target)).lend (za4 (fun _=>rfl) _);unfold chkE at f0;rw[hb]at f0;simp only[if_true]at f0;have f0:=f0.lend rfl;unfold leaveR;rw[if_neg h0];unfold trAV at f1 f2;unfold zah at f0 f1 f2 f3 |-;generalize (undR c act (domE c t.src t.target)).reverse=R at*;refine qi func73 call73 ntmps73 results73 ?_;intro vs esc hesc;have e0:=hesc 1001 (by simp);have F:=ai h0 e0;repeat refine st ?_
 refine lL f0 ?_;repeat refine tz2 f1 f2 ?_
 refine lL f3 ?_;repeat refine st ?_
 exact rI
/-! A step in which nothing is done: the chart of awake -/
end
section
theorem zj8 (env:Env) (G:List Int) (hG:G.length<=1000000) (i:Int):Con prog env 130 [I i, .ref 1 [[.seq 1 (G.map intAV)]] 0 0] (B (G.contains i)):=by
 have f0:=zaB env G i hG;refine qf func130 call130 ntmps130 results130 ?_;repeat refine tz01 f0 ?_
 exact aR0
theorem zfp {c:ChD} (h:Full c) (act:List Int) (t:TrD):(leaveR c act t).length<=32:=by
 unfold leaveR;split
 ·simp
 ·rw[List.length_reverse];unfold undR;exact Nat.le_trans (List.length_filter_le ..) (by rw[za9];exact zdg h.toRight act)
theorem zgs (env:Env) (a1 a8:Addr) (he:ChEnv env a1 a8) (c:ChD) (h:Full c) (hs:Small c) (act:List Int) (hl:act.length<=1000000) (hb:lgB c act=true) (a b:Nat) (ha:a<c.trans.length) (hbb:b<c.trans.length):Con prog env 72 [zah c,ints34 act,I a,I b] (B (zcY c act a b)):=by
 obtain⟨ta,hta⟩:=gE ha;obtain⟨tb,htb⟩:=gE hbb;have f0:=zl6 env a1 a8 he c h hs act hl a ta hta hb;have f1:=zl6 env a1 a8 he c h hs act hl b tb htb hb;have l0:=zfp h act ta;have l1:=zfp h act tb;have f2:=zeR env (leaveR c act ta) (fun i=>(leaveR c act tb).contains i) 130 [[.seq 1 ((leaveR c act tb).map intAV)]] (fun i=>zj8 env (leaveR c act tb) (by omega) i) (by omega);unfold zcY;rw[zci hta,zci htb];generalize leaveR c act ta=A at*;generalize leaveR c act tb=C at*;unfold zah at f0 f1 |-;refine qf func72 call72 ntmps72 results72 ?_;repeat refine tz02 f0 f1 ?_
 refine cC0 f2 ?_;repeat refine st0 ?_
 exact aR0
theorem zun {c:ChD} {act:List Int} {l:List Nat} {n k:Nat} (hk:k∈l) (h:zmV c act n k=false):takeL c act l n=l:=by
 unfold takeL;rw[if_neg];intro hh;rw[List.all_eq_true.1 hh k hk]at h;cases h
theorem ztK (env:Env) (a1 a8:Addr) (he:ChEnv env a1 a8) (c:ChD) (h:Full c) (hs:Small c) (x:InD) (d:Int) (hx:Asked c x d) (l:List Nat) (hl:l.length<=1000) (hk: ∀n∈l,n<c.trans.length) (n:Nat) (hn:n<c.trans.length):
 Con prog env 41 [.ref 15 [rnE c x d] 0 0, .seq 1 (l.map zac),I n] (.seq 1 ((takeL c x.1 l n).map zac)):=by
 have hfew:=h.few;have f0:=fun k hk=>zgs env a1 a8 he c h hs x.1 (by have:=hx.act;omega) hx.lg k n hk hn;have f1:=zaE env c;have f2:=fun i k=>zcC env c h.toRight i k;obtain⟨tn,htn⟩:=gE hn;have q5:=nlt hn;unfold zaj at f1 f2;unfold zah at f0 f1;refine qf func41 call41 ntmps41 results41 ?_;repeat refine st0 ?_
 refine zap 7 7 3 1 ?_;refine zab (D:=Nat) (fun j vs=>[(0, .ref 15 [rnE c x d] 0 0),(1, .seq 1 (l.map zac)),(2,I n),(7, .row 7 (vs 7)),(10, .seq 1 (l.map zac)),(11,I l.length),(12,I j)]) (fun j _=>[(7,⟨1,((l.take j).filter fun k=> !zcY c x.1 k n).map zac,3,true⟩)]) (fun j _ esc=>(j<=l.length/\(l.take j).all (zmV c x.1 n)=true)/\esc 7=false) (fun j=>l.length-j) 0 ?_ ?_ ?_ ?_
 ·exact⟨⟨Nat.zero_le _,rfl⟩,rfl⟩
 ·exact qe0
 ·(simp only[go_sem])
  try rfl
 rintro j ws esc ⟨⟨hj,hall⟩,e0⟩;have hfl:((l.take j).filter fun k=> !zcY c x.1 k n).length<=l.length:=Nat.le_trans (List.length_filter_le ..) (by rw[List.length_take];omega);have hf:Fits (((l.take j).filter fun k=> !zcY c x.1 k n).length+1) 8:=zae (by omega) (by omega);by_cases hlt:j<l.length
 ·obtain⟨k,hkk⟩:=gE hlt;have hkm:=List.mem_of_getElem? hkk;have hkl:=hk k hkm;obtain⟨tk,htk⟩:=gE hkl;have q1:=nlt hlt;have q2:=zaa hlt (by omega);have q3:=nlt hkl;have f3:=f0 k hkl;have f4:=f2 tk.src tn.src;have ht:=zbb hkk
  have hft:((l.take (j+1)).filter fun k=> !zcY c x.1 k n)=((l.take j).filter fun k=> !zcY c x.1 k n)++if zcY c x.1 k n=true then [] else [k]:=by
   rw[ht,List.filter_append]
   congr 1
   cases hq:zcY c x.1 k n<;>simp[hq]
  have hkp:zmV c x.1 n k=(!zcY c x.1 k n||aboveB c tk.src tn.src):=by unfold zmV;rw[zci htk,zci htn]
  have hat: ∀b,zmV c x.1 n k=b->(l.take (j+1)).all (zmV c x.1 n)=b:=fun b hb=>by rw[ht,List.all_append,hall];simp[hb]
  cases hc:zcY c x.1 k n with
  | false=>
    rw[hc]at f3 hft hkp;simp only[Bool.false_eq_true,if_false]at hft;have F:=ai8 rnE.eq_1 zac.eq_1 hkk q1 q2 q3 hf e0;repeat refine tz1 f3 ?_
    refine⟨j+1,⟨⟨hlt,hat _ (by rw[hkp];rfl)⟩,by simp only[go_sem,e0]⟩,?_,?_,by omega⟩
    ·exact qe
    ·have F:=ai3 zac.eq_1 hft @List.map_append.{0,0};exact qe
  | true=>
    rw[hc]at f3 hft hkp;simp only[if_true,List.append_nil]at hft;simp only[Bool.not_true,Bool.false_or]at hkp;cases hab:aboveB c tk.src tn.src with
    | true=>
      rw[hab]at f4 hkp;have F:=ai11 rnE.eq_1 trAV.eq_1 zac.eq_1 hkk htk htn q1 q2 q3 q5 e0;repeat refine tz3 f1 f3 f4 ?_
      refine⟨j+1,⟨⟨hlt,hat _ hkp⟩,by simp only[go_sem,e0]⟩,?_,?_,by omega⟩
      ·exact qe
      ·have F:=ai zac.eq_1 hft;exact qe
    | false=>
      rw[hab]at f4 hkp;rw[zun hkm hkp];have F:=ai11 rnE.eq_1 trAV.eq_1 zac.eq_1 hkk htk htn q1 q2 q3 q5 e0;repeat refine tz3 f1 f3 f4 ?_
      exact aR
 ·obtain rfl:j=l.length:=by omega
  have q1:=nl l.length;rw[List.take_length]at hall hf;have hr:takeL c x.1 l n=(l.filter fun k=> !zcY c x.1 k n)++[n]:=by unfold takeL;rw[if_pos hall]
  have hm:(takeL c x.1 l n).map zac=((l.filter fun k=> !zcY c x.1 k n).map zac)++[[I (n:Int)]]:=by rw[hr,List.map_append];rfl
  rw[hm,List.take_length];generalize (l.filter fun k=> !zcY c x.1 k n)=K at*;have F:=ai4 zac.eq_1 q1 hf e0;repeat refine st ?_
  refine zdN (Turned.frozen 7 6 ⟨1,K.map zac++[[I (n:Int)]],3,true⟩ rfl (Nat.succ_ne_zero 0) (by simp only[go_sem]) (by simp only[go_sem])) ?_;exact aR
def rcI (x:InD):Rc:=⟨0,0,0,x.1,x.2.1,x.2.2.1,x.2.2.2.1,x.2.2.2.2⟩
theorem zr8 (x:InD):inAV (rcI x)=inE x:=rfl
theorem zkN (env:Env) (a1 a8:Addr) (he:ChEnv env a1 a8) (c:ChD) (h:Full c) (hs:Small c) (x:InD) (hL:LiteI (rcI x)) (hn: ∀t∈x.2.2.2.1,t.1.length<=9223372036854775807) (hF: ∀m∈x.2.2.1,Fits m.2.length 8) (op:List UInt8) (d:Int) (hr:za6 c (rcI x)=true) (ho:x.2.2.2.2=false) (hd:zai d=true):Con prog env 29 [Sg op,zah c, .agg (inE x),I d] nilE:=by
 have f0:=zpG env a1 a8 he c h hs (rcI x) hL hn hF;unfold zmW at f0;rw[if_pos hr,zr8]at f0;have f1:=zbR env d;rw[hd]at f1;unfold zah inE at f0 |-;refine qf func29 call29 ntmps29 results29 ?_;have F:=ho;repeat refine tz2 f0 f1 ?_
 exact aR
end

end Go.Proofs.YtbpmkofnfgdegaaGreatDoor