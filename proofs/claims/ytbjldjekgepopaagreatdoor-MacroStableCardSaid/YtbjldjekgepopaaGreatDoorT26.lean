/- Package micro: which transitions are taken. -/
import Derived.Test.YtbjldjekgepopaaGreatDoorT25
set_option maxRecDepth 100000
set_option maxHeartbeats 16000000
set_option linter.unusedSimpArgs false
namespace Go.Proofs.YtbjldjekgepopaaGreatDoor
open Go.Proofs.Tryz
open Go.RowKit
section
theorem Gc (P Y Z X:List Value):cM (cM (P++Z) P.length Y) (P.length+Y.length) X=P++Y++X++(P++Y++Z.drop Y.length).drop (P.length+Y.length+X.length):=by
 have e1:cM (P++Z) P.length Y=P++Y++Z.drop Y.length:=by
  unfold cM;rw[NC,List.drop_append,Ly (by omega),Nat.add_sub_cancel_left,Mc];rfl
 rw[e1];unfold cM;rw[show (P++Y++Z.drop Y.length).take (P.length+Y.length)=P++Y from NC (by rw[K4])]
theorem Ge (P Q S X Y:List Value) (h:Q.length=Y.length):cM (cM (P++Q++S) (P.length+Y.length) X) P.length Y=P++Y++X++(P++Q++S).drop (P.length+Y.length+X.length):=by
 have e1:cM (P++Q++S) (P.length+Y.length) X=P++Q++X++(P++Q++S).drop (P.length+Y.length+X.length):=by
  unfold cM;rw[show (P++Q++S).take (P.length+Y.length)=P++Q from NC (by rw[K4,h])]
 rw[e1];generalize (P++Q++S).drop (P.length+Y.length+X.length)=T;unfold cM;rw[show (P++Q++X++T).take P.length=P by rw[LV,LV];exact NC rfl,show (P++Q++X++T).drop (P.length+Y.length)=X++T by rw[LV];exact List.drop_left' (by rw[K4,h])];simp only[LV]
theorem Ip (l:List Value) (a b:Nat):l=l.take a++(l.drop a).take b++l.drop (a+b):=by
 rw[LV, <-OL,Mq,Mq]
theorem KT:Insr prog 348 162 2:=by
 refine⟨O7 func348 (by kernel_rfl) rfl,fun w base i n v u xs ys hbw hx hy hd h1x h1y hi hn=> ?_⟩;by_cases he:i=n
 ·subst he;have hxl:=hx.1;rw[LP (by omega),Ly (by omega),Lm];exact Gk w base i v u xs ys hbw hx hy h1y hn
 ·obtain⟨g,cap,cur,rfl,hbg,hg,hnc,hcm,hsz,htk⟩:=sa hx (by omega);obtain⟨g2,c2,cur2,rfl,_,hg2,hc2,_,hsz2,htk2⟩:=sa hy (by omega);have hne:g2≠g:=fun e=>hd g rfl (by rw[e];rfl);have e2:fH cur2 0 1=ys:=by unfold fH;rw[<-htk2];rfl
  have e1:fH cur i n=xs.drop (i*2):=by
   unfold fH;rw[<-htk,List.drop_take]
   congr 1
   omega
  have hP:xs.take (i*2)=cur.toList.take (i*2):=by
   rw[<-htk,Ob,Mg (by omega)]
  have hPl:(xs.take (i*2)).length=i*2:=by rw[Kf,hx.1];omega
  have hYl:ys.length=2:=hy.1;have hXl:(xs.drop (i*2)).length=(n-i)*2:=by rw[M2,hx.1];omega
  have h1X: ∀x∈fH cur i n,x.oneCell'=true:=fun x hx'=>by rw[e1]at hx';exact h1x x (Mi hx')
  have h1Y: ∀x∈fH cur2 0 1,x.oneCell'=true:=fun x hx'=>by rw[e2]at hx';exact h1y x hx'
  have hlen:(xs.take (i*2)++ys++xs.drop (i*2)).length=(n+1)*2:=by
   rw[K4,K4,hPl,hYl,hXl];omega
  by_cases hroom:n+1<=cap
  ·refine(Ez w g cap i n g2 c2 cur cur2 hg hg2 hne (by omega) hroom (by unfold maxLen at hcm;omega) hsz hsz2 hc2 h1X h1Y hn).mono ?_;rintro ex w' ⟨rfl,h1,h2⟩;refine⟨_,rfl,h1,fun k hk=> .inl hk,hlen, .inr ⟨g,cap,_,rfl,hbg,h2,hroom,hcm,?_,?_⟩⟩
   ·simp only[MQ];rw[dl,dl,L9,hsz]
    ·rw[e1,hXl,L9,hsz];omega
    ·rw[dl,e2,hYl,L9,hsz]
     ·omega
     ·rw[e1,hXl,L9,hsz];omega
   ·rw[e1,e2];have hc:=Ip cur.toList (i*2) 2;rw[<-hP]at hc;have hQ:((cur.toList.drop (i*2)).take 2).length=ys.length:=by rw[Kf,M2,L9,hsz,hYl];omega
    have:=Ge (xs.take (i*2)) ((cur.toList.drop (i*2)).take 2) (cur.toList.drop (i*2+2)) (xs.drop (i*2)) ys hQ;rw[<-hc,hPl,hYl]at this;rw[show (i+1)*2=i*2+2 by omega];show (List.take _ (cM _ _ _))=_;rw[this];exact NC hlen
  ·refine(FB w g cap i n g2 c2 cur cur2 hg hg2 (by omega) hnc (by omega) hsz hsz2 hc2 h1X h1Y hn).mono ?_;rintro ex w' ⟨G,Z,rfl,h1,h2,h3,h4,h5⟩;refine⟨_,rfl,⟨h1.os,h1.tape,h1.output,h1.size,fun k hk _=>h1.block k hk (by simp)⟩,fun k hk=> .inr (by cases hk;exact K8 _),hlen, .inr ⟨w.heap.size,G,_,rfl,hbw,h5,h2,h3,?_,?_⟩⟩
   ·simp only[MQ];have hl0:(cur.toList.take (i*2)++Z).length=G*2:=by rw[K4,h4,Kf,L9,hsz];omega
    rw[dl,dl,hl0]
    ·rw[e2,hYl,hl0];omega
    ·rw[dl,e1,hXl,hl0]
     ·omega
     ·rw[e2,hYl,hl0];omega
   ·rw[e1,e2, <-hP];have:=Gc (xs.take (i*2)) ys Z (xs.drop (i*2));rw[hPl,hYl]at this;rw[show (i+1)*2=i*2+2 by omega];show (List.take _ (cM _ _ _))=_;rw[this];exact NC hlen
end
section
theorem CH (env:Env) (es:List (List AV)) (hl:es.length<=4096):Con prog env 347 [.seq 2 es] (.own 162 2 es):=by
 cases es with
 | nil=>
   refine Con.empty fun A cap=> ?_;cases A with
   | none=>
     refine qw func347 call347 ntmps347 results347 ?_;repeat refine st0 ?_
     (refine aN ?_;refine⟨_,(by show (an _ _ _).run _=some _;simp only[go_sem];rfl),?_⟩)
     exact ge.own_nil _ _ (by decide)
   | some A=>
     refine qf func347 call347 ntmps347 results347 ?_;repeat refine st0 ?_
     exact aR0
 | cons d l=>
   have g1:Fits ((l.length+1)) 32:=aG (by simpa using hl) (by omega);refine qf func347 call347 ntmps347 results347 ?_;have F:=g1;repeat refine st ?_
   exact aR
theorem AN (env:Env) (x:MemD) (h:Int) (hx:0<=x.1/\x.1<=1000000) (hh:0<=h/\h<=1000000):Con prog env 346 [.agg (mmAV x),I h] (I (x.1-h)):=by
 have q:IntKind.i64.wrap (x.1-h)=x.1-h:=NG _ (by omega);unfold mmAV;refine qf func346 call346 ntmps346 results346 ?_;have F:=q;repeat refine st ?_
 exact aR
theorem wP (env:Env) (l:List MemD) (x:Int) (hs:Srt l) (hz: ∀m∈l,0<=m.1/\m.1<=1000000) (hh:0<=x/\x<=1000000) (hl:l.length<=1000000):Con prog env 345 [memsAV l,I x, .lit (.func (.func 346) #[] #[])] (.tuple [I (posM l x),B (isM l x)]):=by
 have hle:=w7 x l;have hp:=fun {j:Nat} {y:MemD} (hy:l[j]? =some y)=>Cy (h:=x) hs hy;have hI:isM l x=match l[posM l x]? with|some y=>y.1==x|none=>false:=rfl
 generalize isM l x=b at*;generalize posM l x=p at*;refine qf func345 call345 ntmps345 results345 ?_;repeat refine st0 ?_
 refine lp0 (D:=Nat×Nat) (fun d _=>[(0,memsAV l),(1,I x),(2, .lit (.func (.func 346) #[] #[])),(8,I l.length),(9,I d.1),(10,I d.2)]) (fun _ _=>[]) (fun d _ _=>d.1<=p/\p<=d.2/\d.2<=l.length) (fun d=>d.2-d.1) (0,l.length) ⟨Ke _,hle,K8 _⟩ ?_;rintro⟨i,j⟩ ws esc ⟨h1,h2,h3⟩;simp only at h1 h2 h3;by_cases hlt:i<j
 ·have g1:=nlt hlt;have hm:(i+j)/2<l.length:=by omega
  obtain⟨y,hy⟩: ∃y,l[(i+j)/2]? =some y:=⟨l[(i+j)/2],KV hm⟩;have hyp:=hp hy;have f1:=AN env y x (hz y (K1 hy)) hh;have g2:IntKind.i64.wrap ((i:Int)+(j:Int))=((i+j:Nat):Int):=by rw[ae (by omega) (by omega)];omega
  have g3:IntKind.u64.wrap ((i+j:Nat):Int)=((i+j:Nat):Int):=IntWalk.u64_in _ (by omega)
  have g4:IntKind.i64.wrap (((i+j:Nat):Int).fdiv (2^min 1 64))=(((i+j)/2:Nat):Int):=by
   rw[show ((i+j:Nat):Int).fdiv (2^min 1 64)=(((i+j)/2:Nat):Int) from(PH (i+j) 2).symm,ae (by omega) (by omega)]
  have g5:(((i+j)/2:Nat):Int)< (l.length:Int):=by omega
  have g6:=aD (k:=(i+j)/2) (n:=l.length) hm (by omega);generalize hmm:(i+j)/2=mm at*;unfold mmAV at f1;by_cases hb:y.1<x
  ·have q:y.1-x<0:=by omega
   have:=hyp.2 hb;have F:=ai9 mmAV.eq_1 g1 g2 g3 g4 g5 g6 hy q;repeat refine st ?_
   refine oC (ja rfl (by simp only[go_sem,F];exact iR)) (f1) (by simp only[go_sem,F];exact iR) (by simp only[go_sem,F];exact⟨rfl,rfl⟩) ?_;repeat refine st ?_
   refine⟨(mm+1,j),⟨?_,?_,?_⟩,?_,?_,?_⟩
   ·simp only;omega
   ·exact h2
   ·exact h3
   ·exact qe
   ·exact qe
   ·simp only;omega
  ·have q: ¬y.1-x<0:=by omega
   have: ¬mm<p:=fun h=>hb (hyp.1 h);have F:=ai9 mmAV.eq_1 g1 g2 g3 g4 g5 g6 hy q;repeat refine st ?_
   refine oC (ja rfl (by simp only[go_sem,F];exact iR)) (f1) (by simp only[go_sem,F];exact iR) (by simp only[go_sem,F];exact⟨rfl,rfl⟩) ?_;repeat refine st ?_
   refine⟨(i,mm),⟨?_,?_,?_⟩,?_,?_,?_⟩
   ·exact h1
   ·simp only;omega
   ·simp only;omega
   ·exact qe
   ·exact qe
   ·simp only;omega
 ·obtain rfl:i=j:=by omega
  obtain rfl:i=p:=by omega
  have g1:=nl i;by_cases hi:i<l.length
  ·have g2:=nlt hi;obtain⟨y,hy⟩:=gE hi;have f1:=AN env y x (hz y (K1 hy)) hh;rw[hy]at hI;have hI:b=(y.1==x):=hI;unfold mmAV at f1;by_cases he:y.1=x
   ·have q:(y.1-x==0)=true:=by simp;omega
    rw[hI,show (y.1==x)=true by simpa using he];have F:=ai5 mmAV.eq_1 g1 g2 hy q;repeat refine st ?_
    refine oC (ja rfl (by simp only[go_sem,F];exact iR)) (f1) (by simp only[go_sem,F];exact iR) (by simp only[go_sem,F];exact⟨rfl,rfl⟩) ?_;repeat refine st ?_
    exact aR
   ·have q:(y.1-x==0)=false:=by simp;omega
    rw[hI,show (y.1==x)=false by simpa using he];have F:=ai5 mmAV.eq_1 g1 g2 hy q;repeat refine st ?_
    refine oC (ja rfl (by simp only[go_sem,F];exact iR)) (f1) (by simp only[go_sem,F];exact iR) (by simp only[go_sem,F];exact⟨rfl,rfl⟩) ?_;repeat refine st ?_
    exact aR
  ·have g2: ¬(i:Int)< (l.length:Int):=by omega
   rw[K7 (by omega)]at hI;have hI:b=false:=hI;rw[hI];have F:=ai g1 g2;repeat refine st ?_
   exact aR
theorem Ic (l:List MemD) (p:Nat) (m:MemD):ly p (mmAV m) (l.map mmAV)=(l.take p++m::l.drop p).map mmAV:=by
 unfold ly;rw[Ki,LI,List.map_take,List.map_drop]
theorem Cv (env:Env) (l:List MemD) (m:MemD) (hs:Srt l) (hz: ∀m∈l,0<=m.1/\m.1<=1000000) (hh:0<=m.1/\m.1<=1000000) (hl:l.length<=4000):Con prog env 328 [memsAV l, .agg (mmAV m)] (.own 162 2 ((kO l m).map mmAV)):=by
 have f0:=wP env l m.1 hs hz hh (by omega);have f1:=CH env (l.map mmAV) (by rw[Kl];omega);cases hb:isM l m.1 with
 | true=>
   rw[hb]at f0;have hlt:=Jb hb;rw[zM hb];generalize posM l m.1=p at*;have q0:=nlt hlt;have hset:(l.map mmAV).set p [I m.1, .seq 1 (m.2.map intAV)]=(l.set p m).map mmAV:=by rw[NX];rfl
   obtain⟨y,hy⟩:=gE hlt;refine qf func328 call328 ntmps328 results328 ?_;have F:=ai4 mmAV.eq_1 q0 hset hy;repeat refine tz2 f0 f1 ?_
   exact aR
 | false=>
   rw[hb]at f0;rw[zN hb, <-Ic];have hle:=w7 m.1 l;generalize posM l m.1=p at*;refine qf func328 call328 ntmps328 results328 ?_;have F:=mmAV.eq_1;repeat refine tz2 f0 f1 ?_
   refine Fh 24 27 rfl (row:=⟨2,l.map mmAV,162,true⟩) (row2:=⟨2,[mmAV m],162,true⟩) (i:=p) KT (LG 1) rfl rfl rfl rfl rfl (by decide) (by rw[Kl];exact hle) (by rw[Kl];omega) (by simp only[go_sem];exact iR) (by simp only[go_sem];exact iR) (by simp only[go_sem];exact iR) (by simp only[go_sem];exact iR) (by simp only[go_sem];exact iR) (by simp only[go_sem];exact iR) iR ?_;repeat refine st ?_
   exact aR
end
section
def okM (c:ChD) (l:List MemD):Prop:=Srt l/\ ∀m∈l,inZ c m.1=true
theorem IY {c:ChD} {l:List MemD} {k:Nat} {v:List Int} (hk:k<c.states.length) (h:okM c l):okM c (kO l ((k:Int),v)):=
 ⟨sY h.1,fun p hp=>by
  rcases (nF h.1).1 hp with rfl|⟨h1,_⟩
  ·exact aW.2 hk
  ·exact h.2 p h1⟩
theorem wi {c:ChD} {l:List MemD} (h:okM c l):l.length<=c.states.length:=by
 have hn:(l.map fun m=>m.1.toNat).Nodup:=by
  refine N7.2 (h.1.imp_of_mem fun {a b} ha hb hab=> ?_);have:=(aI.1 (h.2 a ha)).1;have:=(aI.1 (h.2 b hb)).1;omega
 have:=hn.length_le_of_subset (l₂:=List.range c.states.length) fun x hx=>by
  obtain⟨m,hm,rfl⟩:=K9.1 hx;have:=aI.1 (h.2 m hm);exact Kr.2 (by omega)
 simpa using this
theorem KC {c:ChD} (hc:Right c) {l:List MemD} (h:okM c l): ∀m∈l,0<=m.1/\m.1<=1000000:=fun m hm=>by
 have:=aI.1 (h.2 m hm);have:=hc.few;omega
theorem Hd {c:ChD} {mem:List MemD} (h:bY c mem=true):okM c mem:=by
 obtain⟨h1,h2⟩:=nq h;refine⟨h1,fun m hm=> ?_⟩;obtain⟨k,s,e,hs,_⟩:=DG (h2 m hm);rw[e];exact aW.2 (KW.1 hs).1
theorem Gg {c:ChD} {act:List Int} {i:Int} (h:manyI act (kidsL c i true)=1): ∃(p a:Nat),(kidsL c i true)[p]? =some a/\lD c act i=[(a:Int)]/\ ∀(q y:Nat),(kidsL c i true)[q]? =some y->act.contains (y:Int)=decide (q=p):=by
 obtain⟨k,hk,hka,hl,hf⟩:=sk h;obtain⟨a,ha,rfl⟩:=K9.1 hk;obtain⟨p,hp⟩:=Lw.1 ha;refine⟨p,a,hp,hl,fun q y hy=> ?_⟩;by_cases e:q=p
 ·subst e;rw[hp]at hy;cases hy;rw[LC rfl];exact K3.2 hka
 ·rw[Ky e];refine Ml.2 fun hc=>e ?_;have hm:(y:Int)∈(kidZ c i).filter fun k=>act.contains k:=Kb.2 ⟨K9.2 ⟨y,K1 hy,rfl⟩,hc⟩;rw[hf]at hm;have hya:(y:Int)=(a:Int):=Km.1 hm;have hya:y=a:=by omega
  subst hya;exact(List.getElem?_inj (KW.1 hy).1 (bI c i true)).1 (hy.trans hp.symm)
theorem Ay {c:ChD} {act gone:List Int} {o:List MemD} {j:Nat} {x:Int} (h:gone[j]? =some x):remTo c act gone o (j+1)=if av c x=true then memTo_ c act x (remTo c act gone o j) (memL c x) (memL c x).length else remTo c act gone o j:=by
 unfold remTo;exact bm _ _ h
theorem yW {c:ChD} {act:List Int} {i:Int} {o:List MemD} {M:List Nat} {m h:Nat} (hm:M[m]? =some h):memTo_ c act i o M (m+1)=kO (memTo_ c act i o M m) ((h:Int),rJ c act i h):=by
 unfold memTo_;exact bm _ _ hm
def nU (a:Nat) (p q:Nat):AV:=if q<=p then nilS else .seq 1 [aB a]
end
section
/-! As the document says -/
end
section
theorem t6 (env:Env) (c:ChD) (h:Full c) (hs:Small c) (act gone:List Int) (mem:List MemD) (hla:act.length<=4000) (hlg:gone.length<=1000000) (hlb:lgB c act=true) (hgo: ∀x∈gone,x∈act) (hm:bY c mem=true):ConI prog env 302 [1001,1006] (fun _=>false) (fun g=>[aC c, .row 1001 (g 1001), .row 1006 (g 1006),memsAV mem]) (fun _=>[(1001,⟨1,act.map intAV,3,true⟩),(1006,⟨1,gone.map intAV,3,true⟩)]) (fun _=>[(1001,⟨1,act.map intAV,3,true⟩),(1006,⟨1,gone.map intAV,3,true⟩)]) (fun _=>memsAV (remL c act gone mem)):=by
 have f0:=ak env c hs;have hfew:=h.few;have hok:=Hd hm;have hml:=wi hok;have f1:=Bv env mem (by omega) (fun m hm'=>by have:=(wm h hm m hm').2;omega);have hlgc:=e9 hlb;show ConI _ _ _ _ _ _ _ _ fun _=>memsAV (remTo c act gone mem gone.length);unfold aC at f0 |-;refine qi func302 call302 ntmps302 results302 ?_;intro vs esc hesc;obtain⟨z1,z6⟩:=es2 hesc;have F:=ai z1 z6;repeat refine tz2 f0 f1 ?_
 refine iB (Turned.frozen 21 10 ⟨2,mem.map mmAV,162,true⟩ rfl (LG 1) (by simp only[go_sem]) (by simp only[go_sem])) ?_;refine aK (D:=Nat) (fun j vs=>[(0, .ref 9 [tabCells c] 0 0),(1, .row 1001 (vs 1001)),(9, .loc 9 (vs 9) 0 0),(10,memsAV (remTo c act gone mem j)),(22, .row 1006 (vs 1006)),(23,I gone.length),(24,I j)]) (fun _ _=>[(9,⟨5,[aA c],26,false⟩),(1001,⟨1,act.map intAV,3,true⟩),(1006,⟨1,gone.map intAV,3,true⟩)]) (fun j vs' esc'=>(j<=gone.length/\okM c (remTo c act gone mem j))/\(vs' 1001=vs 1001/\vs' 1006=vs 1006)/\esc' 1001=false/\esc' 1006=false) (fun j=>gone.length-j) 0 ?_ ?_ ?_ ?_
 ·exact⟨⟨Ke _,hok⟩,by simp only[go_sem,Kn],by simp only[go_sem,z1,z6,Kn]⟩
 ·(simp only[go_sem,F])
  try rfl
 ·have F:=aA.eq_1
  (simp only[go_sem,F])
  try rfl
 try clear z1 z6
 rintro j ws esc ⟨⟨hj,hO⟩,⟨w1,w6⟩,z1,z6⟩;by_cases hlt:j<gone.length
 ·obtain⟨x,hx⟩:=gE hlt;have q1:=nlt hlt;have q2:=aD hlt (by omega);have hxa:=hgo x (K1 hx);obtain⟨s0,hs0,hz, -, -,hone, -⟩:=hlgc.of hxa;obtain⟨k,s,rfl,hsk,hat⟩:=dD hz;obtain rfl:s0=s:=by rw[hs0]at hat;cases hat;rfl
  have hk:=(KW.1 hsk).1;have q3:((k:Nat):Int)< (c.states.length:Int):=by omega
  have f2:=Ae env c h k;have hpz:=bc hs0;have hrs:=Ay (c:=c) (act:=act) (o:=mem) hx;unfold aC at f2;generalize remTo c act gone mem j=o at*;by_cases hk1:s0.kind=1
  ·have b1:(s0.kind==1)=true:=by simp[hk1]
   rw[b1]at hpz;rw[hpz,K0 rfl]at hrs
   have hML: ∀y∈memL c (k:Int),∃sy,c.states[y]? =some sy/\sy.parent=(k:Int)/\aS sy=true:=fun y hy=>by
    obtain⟨sy,e1,_,e3,e4⟩:=fW.1 hy;exact⟨sy,e1,e3,e4⟩
   have hMl:(memL c (k:Int)).length<=1000000:=by
    unfold memL;have:=Kw (I7 c (k:Int)) (List.range c.states.length);rw[OH]at this;omega
   have f3:=yk env c h.toRight act hla (k:Int)
   have f4:=FD env c h (underL c act (k:Int)) (Kh (Kw ..) hla) (fun y hy=>by
    have hy:=(Kb.1 hy).1;obtain⟨_,_,hz,_⟩:=hlgc.of hy
    exact hz)
   have f5:=bN env c h (k:Int);rw[K0 (.inr hz)]at f5;have hone:=hone hk1;generalize memL c (k:Int)=M at*;unfold aC at f3 f4 f5;have F:=ai11 aA.eq_1 aL.eq_1 hx q1 q2 q3 hsk b1 i7 z1 z6;repeat refine tz1 f2 ?_
   refine aK (D:=Nat) (fun m vs=>[(0, .ref 9 [tabCells c] 0 0),(1, .row 1001 (vs 1001)),(9, .loc 9 (vs 9) 0 0),(10,memsAV (memTo_ c act k o M m)),(12,I k),(22, .row 1006 (vs 1006)),(23,I gone.length),(24,I j),(37, .row 37 (vs 37)),(38,I M.length),(39,I m)]) (fun _ _=>[(9,⟨5,[aA c],26,false⟩),(37,⟨1,M.map aB,3,true⟩),(1001,⟨1,act.map intAV,3,true⟩),(1006,⟨1,gone.map intAV,3,true⟩)]) (fun m vs' esc'=>(m<=M.length/\okM c (memTo_ c act k o M m))/\(vs' 1001=vs 1001/\vs' 1006=vs 1006)/\esc' 1001=false/\esc' 1006=false) (fun m=>M.length-m) 0 ?_ ?_ ?_ ?_
   ·exact⟨⟨Ke _,hO⟩,by simp only[go_sem,w1,w6,Kn],by simp only[go_sem,z1,z6,Kn]⟩
   ·(simp only[go_sem,F])
    try rfl
   ·have F:=ai3 aA.eq_1 z1 z6
    (simp only[go_sem,F])
    try rfl
   try clear z1 z6 w1 w6
   rintro m us es ⟨⟨hml2,hO2⟩,⟨w1,w6⟩,z1,z6⟩;by_cases hlt2:m<M.length
   ·obtain⟨y,hy⟩:=gE hlt2;have p1:=nlt hlt2;have p2:=aD hlt2 (by omega);obtain⟨sy,hsy,hpar,hmy⟩:=hML y (K1 hy);have hyl:=(KW.1 hsy).1;have p3:((y:Nat):Int)< (c.states.length:Int):=by omega
    have hms:=yW (c:=c) (act:=act) (i:=(k:Int)) (o:=o) hy;have hnv:rJ c act (k:Int) y=if sy.kind=5 then innerL c (underL c act (k:Int)) else lD c act (k:Int):=by unfold rJ;rw[hsy]
    have hO3:=IY (v:=rJ c act (k:Int) y) hyl hO2;rw[<-hms]at hO3;have hz2:=KC h.toRight hO2;have hl2:=wi hO2;generalize memTo_ c act (k:Int) o M m=o2 at*;by_cases hk5:sy.kind=5
    ·have b5:(sy.kind==5)=true:=by simp[hk5]
     rw[K0 hk5]at hnv;rw[hnv]at hms;have f6:Con prog env 328 [memsAV o2, .agg [I (y:Int), .seq 1 ((innerL c (underL c act (k:Int))).map intAV)]] (.own 162 2 ((kO o2 ((y:Int),innerL c (underL c act (k:Int)))).map mmAV)):=Cv env o2 ((y:Int),innerL c (underL c act (k:Int))) hO2.1 hz2 ⟨by simp only;omega,by simp only;omega⟩ (by omega);generalize innerL c (underL c act (k:Int))=V at*;generalize underL c act (k:Int)=U at*;refine eO ?_;have F:=ai11 aA.eq_1 aL.eq_1 aB.eq_1 hy hsy p1 p2 p3 b5 z1 z6;repeat refine st ?_
     refine lL (f3.lend (bn (fun _=>rfl) _)) ?_;repeat refine tz2 f4 f6 ?_
     refine⟨_,Turned.frozen 76 10 ⟨2,(kO o2 ((y:Int),V)).map mmAV,162,true⟩ rfl (LG 1) (by simp only[go_sem]) (by simp only[go_sem]),m+1,⟨⟨hlt2,hO3⟩,by simp only[go_sem,w1,w6,Kn],by simp only[go_sem,z1,z6,Kn]⟩,?_,?_,by omega⟩
     ·have F:=ai3 hms z1 z6
      (simp only[go_sem,F])
      try rfl
     ·have F:=ai3 aA.eq_1 z1 z6;exact qe
    ·have b5:(sy.kind==5)=false:=by simpa using hk5
     rw[KZ hk5]at hnv;rw[hnv]at hms
     have hkn:kidsL c (k:Int) true≠[]:=by
      have:=(nz h hsy hmy).2.2.1;rw[hpar]at this;exact this
     have hkf:=bV h.toRight (k:Int) true;obtain⟨p,a,hp,hlk,hpick⟩:=Gg (hone hkn);rw[hlk]at hms;have f6:Con prog env 328 [memsAV o2, .agg [I (y:Int), .seq 1 [aB a]]] (.own 162 2 ((kO o2 ((y:Int),[(a:Int)])).map mmAV)):=Cv env o2 ((y:Int),[(a:Int)]) hO2.1 hz2 ⟨by simp only;omega,by simp only;omega⟩ (by omega);generalize kidsL c (k:Int) true=K at*;refine eO ?_;have F:=ai11 aA.eq_1 aL.eq_1 aB.eq_1 hy hsy p1 p2 p3 b5 z1 z6;repeat refine tz1 f5 ?_
     refine aK (D:=Nat) (fun q vs=>[(0, .ref 9 [tabCells c] 0 0),(1, .row 1001 (vs 1001)),(9, .loc 9 (vs 9) 0 0),(10,memsAV o2),(12,I k),(14,I y),(15, .loc 15 (vs 15) 0 0),(22, .row 1006 (vs 1006)),(23,I gone.length),(24,I j),(37, .row 37 (vs 37)),(38,I M.length),(39,I m),(61, .row 61 (vs 61)),(62,I K.length),(63,I q)]) (fun q _=>[(9,⟨5,[aA c],26,false⟩),(15,⟨2,[[I y,nU a p q]],162,false⟩),(37,⟨1,M.map aB,3,true⟩),(61,⟨1,K.map aB,3,true⟩),(1001,⟨1,act.map intAV,3,true⟩),(1006,⟨1,gone.map intAV,3,true⟩)]) (fun q vs' esc'=>(q<=K.length/\esc' 15=false)/\(vs' 1001=vs 1001/\vs' 1006=vs 1006)/\esc' 1001=false/\esc' 1006=false) (fun q=>K.length-q) 0 ?_ ?_ ?_ ?_
     ·exact⟨⟨Ke _,by simp only[go_sem]⟩,by simp only[go_sem,w1,w6,Kn],by simp only[go_sem,z1,z6,Kn]⟩
     ·(simp only[go_sem,F])
      try rfl
     ·have F:=ai3 aA.eq_1 z1 z6
      (simp only[go_sem,F])
      try rfl
     try clear z1 z6 w1 w6
     rintro q xs fs ⟨⟨hq,e5⟩,⟨w1,w6⟩,z1,z6⟩;by_cases hlt3:q<K.length
     ·obtain⟨u,hu⟩:=gE hlt3;have r1:=nlt hlt3;have r2:=aD hlt3 (by omega);have g0:=bA env act (u:Int) (by omega);rw[hpick q u hu]at g0;by_cases hqp:q=p
      ·subst hqp;rw[LC rfl]at g0;obtain rfl:u=a:=by rw[hp]at hu;cases hu;rfl
       have c1:nU u q q=nilS:=by unfold nU;rw[K0 (K8 _)]
       have c2:nU u q (q+1)= .seq 1 [aB u]:=by unfold nU;rw[KZ (by omega)]
       refine eO ?_;have F:=ai9 aA.eq_1 aB.eq_1 hu r1 r2 c1 e5 z1 z6;repeat refine st ?_
       refine lL (g0.lend rfl) ?_;repeat refine st ?_
       refine⟨_,Turned.sees [(71,xs 71+1, .seq 1 [aB u])] (fun z hz=> ?_),q+1,⟨⟨hlt3,?_⟩,?_,?_⟩,?_,?_,by omega⟩
       ·rw[Km.1 hz];refine⟨by simp only[go_sem],⟨1,[aB u],3,true⟩,by simp only[go_sem,aB],LG 0,rfl,rfl⟩
       ·simp only[seenSt,go_sem,e5,Mv,OJ]
       ·simp only[seenSt,go_sem,w1,w6,Kn]
       ·simp only[seenSt,go_sem,z1,z6,Mv,OJ,Kn]
       ·have F:=ai z1 z6;exact qe
       ·have F:=ai5 aA.eq_1 aB.eq_1 c2 z1 z6;exact qe
      ·rw[Ky hqp]at g0
       have c1:nU a p (q+1)=nU a p q:=by
        unfold nU;by_cases e:q<=p
        ·rw[K0 (by omega),K0 e]
        ·rw[KZ (by omega),KZ e]
       have F:=ai8 aA.eq_1 aB.eq_1 hu r1 r2 e5 z1 z6;repeat refine st ?_
       refine lL (g0.lend rfl) ?_;repeat refine st ?_
       refine⟨q+1,⟨⟨hlt3,by simp only[go_sem,e5]⟩,by simp only[go_sem,w1,w6,Kn],by simp only[go_sem,z1,z6,Kn]⟩,?_,?_,by omega⟩
       ·exact qe
       ·have F:=ai5 aA.eq_1 aB.eq_1 c1 z1 z6;exact qe
     ·obtain rfl:q=K.length:=by omega
      have r1:=nl K.length
      have c1:nU a p K.length= .seq 1 [aB a]:=by
       unfold nU;rw[KZ (by have:=(KW.1 hp).1;omega)]
      have F:=ai8 aA.eq_1 aB.eq_1 r1 c1 p2 e5 z1 z6;repeat refine tz1 f6 ?_
      refine⟨_,Turned.frozen 76 10 ⟨2,(kO o2 ((y:Int),[(a:Int)])).map mmAV,162,true⟩ rfl (LG 1) (by simp only[go_sem]) (by simp only[go_sem]),m+1,⟨⟨hlt2,hO3⟩,by simp only[go_sem,w1,w6,Kn],by simp only[go_sem,z1,z6,Kn]⟩,?_,?_,by omega⟩
      ·have F:=ai3 hms z1 z6
       (simp only[go_sem,F])
       try rfl
      ·have F:=ai3 aA.eq_1 z1 z6;exact qe
   ·obtain rfl:m=M.length:=by omega
    have p1:=nl M.length;rw[<-hrs]at hO2;have F:=ai4 p1 q2 z1 z6;repeat refine st ?_
    refine⟨j+1,⟨⟨hlt,hO2⟩,by simp only[go_sem,w1,w6,Kn],by simp only[go_sem,z1,z6,Kn]⟩,?_,?_,by omega⟩
    ·have F:=ai3 hrs z1 z6;exact qe
    ·have F:=ai3 aA.eq_1 z1 z6;exact qe
  ·have b1:(s0.kind==1)=false:=by simpa using hk1
   rw[b1]at hpz;rw[hpz,KZ LY]at hrs;rw[<-hrs]at hO;have F:=ai11 aA.eq_1 aL.eq_1 hx q1 q2 q3 hsk b1 i7 z1 z6;repeat refine tz1 f2 ?_
   refine⟨j+1,⟨⟨hlt,hO⟩,by simp only[go_sem,w1,w6,Kn],by simp only[go_sem,z1,z6,Kn]⟩,?_,?_,by omega⟩
   ·have F:=ai3 hrs z1 z6;exact qe
   ·have F:=ai3 aA.eq_1 z1 z6;exact qe
 ·obtain rfl:j=gone.length:=by omega
  have q1:=nl gone.length;have F:=ai5 q1 z1 z6 w1 w6;repeat refine st ?_
  exact rI
theorem uG (env:Env) (a1 a8:Addr) (he:ChEnv env a1 a8) (c:ChD) (h:Full c) (hs:Small c) (act gone:List Int) (hl:act.length<=4000) (hgl:gone.length<=1000000) (mem:List MemD) (hml:mem.length<=1000000) (hF: ∀m∈mem,Fits m.2.length 8) (hb:lgB c act=true) (hm:bY c mem=true) (hgo: ∀x∈gone,x∈act):ConI prog env 268 [1001,1006] (fun _=>false) (fun g=>[aC c, .row 1001 (g 1001), .row 1006 (g 1006),memsAV mem]) (fun _=>[(1001,⟨1,act.map intAV,3,true⟩),(1006,⟨1,gone.map intAV,3,true⟩)]) (fun _=>[(1001,⟨1,act.map intAV,3,true⟩),(1006,⟨1,gone.map intAV,3,true⟩)]) (fun _=> .tuple [memsAV (remL c act gone mem),nilE]):=by
 have f0:=cJ env a1 a8 he c h hs act (by omega);have f2:=ot env a1 a8 he c h hs mem hml hF;have f4:=t6 env c h hs act gone mem hl hgl hb hgo hm;unfold uD at f0;unfold Hr at f2;rw[hb]at f0;rw[hm,K0 rfl]at f2;simp only[L4]at f0;have f0:=f0.lend rfl;unfold aC at f0 f2 f4 |-;refine qi func268 call268 ntmps268 results268 ?_;intro vs esc hesc;obtain⟨z1,z6⟩:=es2 hesc;have F:=ai z1 z6;repeat refine st ?_
 refine lL f0 ?_;repeat refine tz1 f2 ?_
 refine lq gone.length (by omega) (fun j vs=>[(0, .ref 9 [tabCells c] 0 0),(1, .row 1001 (vs 1001)),(2, .row 1006 (vs 1006)),(3,memsAV mem),(25, .row 1006 (vs 1006)),(26,I gone.length),(27,I j)]) (fun _ _=>[(1001,⟨1,act.map intAV,3,true⟩),(1006,⟨1,gone.map intAV,3,true⟩)]) (fun j vs' esc'=>(vs' 1001=vs 1001/\vs' 1006=vs 1006)/\esc' 1001=false/\esc' 1006=false) ⟨by simp only[go_sem,Kn],by simp only[go_sem,z1,z6,Kn]⟩ ?_ ?_
 ·try clear z1 z6
  rintro j ws esc hlt q1 q2 ⟨⟨w1,w6⟩,z1,z6⟩;obtain⟨x,hx⟩:=gE hlt;have g0:=bA env act x (by omega);rw[K3.2 (hgo x (K1 hx))]at g0;have F:=ai5 hx q1 q2 z1 z6;repeat refine st ?_
  refine lL (g0.lend rfl) ?_;repeat refine st ?_
  exact qn (j+1) ⟨hlt,by simp only[go_sem,w1,w6,Kn],by simp only[go_sem,z1,z6,Kn]⟩
 ·try clear z1 z6
  rintro ws esc q1 ⟨⟨w1,w6⟩,z1,z6⟩;have F:=ai5 q1 z1 z6 w1 w6;repeat refine st ?_
  refine iL [(1001,1001),(1006,1006)] f4 ?_;repeat refine st ?_
  exact rI
end
section
end
section
theorem CW (env:Env) (a1 a8:Addr) (he:ChEnv env a1 a8) (c:ChD) (h:Full c) (hs:Small c) (act:List Int) (hl:act.length<=1000000) (k:Nat) (t:TrD) (ht:c.trans[k]? =some t) (hb:lgB c act=true) (h0: ¬t.target<0):
 ConI prog env 226 [1001,35] (fun i=>i==35) (fun g=>[aC c, .row 1001 (g 1001),I k]) (fun _=>[(1001,⟨1,act.map intAV,3,true⟩)]) (fun _=>[(1001,⟨1,act.map intAV,3,true⟩),(35,⟨1,(leaveR c act t).map intAV,3,true⟩)]) (fun g=> .tuple [.row 35 (g 35),nilE]):=by
 have f0:=cJ env a1 a8 he c h hs act hl;have f1:=mr env c hs k t ht;have f2:=mC env c h.toRight hs t (h.src ht).1;have f3:=(z8 env c h.toRight act hl (domE c t.src t.target)).lend (bn (fun _=>rfl) _);unfold uD at f0;rw[hb]at f0;simp only[L4]at f0;have f0:=f0.lend rfl;unfold leaveR;rw[KZ h0];unfold bi at f1 f2;unfold aC at f0 f1 f2 f3 |-;generalize (undR c act (domE c t.src t.target)).reverse=R at*;refine qi func226 call226 ntmps226 results226 ?_;intro vs esc hesc;have e0:=hesc 1001 (by simp);have F:=ai h0 e0;repeat refine st ?_
 refine lL f0 ?_;repeat refine tz2 f1 f2 ?_
 refine lL f3 ?_;repeat refine st ?_
 exact rI
/-! A step in which nothing is done: the chart of awake -/
end
section
theorem uC (env:Env) (G:List Int) (hG:G.length<=1000000) (i:Int):Con prog env 228 [I i, .ref 1 [[.seq 1 (G.map intAV)]] 0 0] (B (G.contains i)):=by
 have f0:=bA env G i hG;refine qf func228 call228 ntmps228 results228 ?_;repeat refine lZ f0 ?_
 exact aR0
theorem k7 {c:ChD} (h:Full c) (act:List Int) (t:TrD):(leaveR c act t).length<=32:=by
 unfold leaveR;split
 ·simp
 ·rw[M8];unfold undR;exact Kh (Kw ..) (by rw[bg];exact gH h.toRight act)
theorem mf (env:Env) (a1 a8:Addr) (he:ChEnv env a1 a8) (c:ChD) (h:Full c) (hs:Small c) (act:List Int) (hl:act.length<=1000000) (hb:lgB c act=true) (a b:Nat) (ha:a<c.trans.length) (hbb:b<c.trans.length):Con prog env 157 [aC c,ints34 act,I a,I b] (B (dx c act a b)):=by
 obtain⟨ta,hta⟩:=gE ha;obtain⟨tb,htb⟩:=gE hbb;have f0:=vp env a1 a8 he c h hs act hl a ta hta hb;have f1:=vp env a1 a8 he c h hs act hl b tb htb hb;have l0:=k7 h act ta;have l1:=k7 h act tb;have f2:=ju env (leaveR c act ta) (fun i=>(leaveR c act tb).contains i) 228 [[.seq 1 ((leaveR c act tb).map intAV)]] (fun i=>uC env (leaveR c act tb) (by omega) i) (by omega);unfold dx;rw[eP hta,eP htb];generalize leaveR c act ta=A at*;generalize leaveR c act tb=C at*;unfold aC at f0 f1 |-;refine qf func157 call157 ntmps157 results157 ?_;repeat refine yt f0 f1 ?_
 refine cC0 f2 ?_;repeat refine st0 ?_
 exact aR0
theorem Gh {c:ChD} {act:List Int} {l:List Nat} {n k:Nat} (hk:k∈l) (h:uI c act n k=false):takeL c act l n=l:=by
 unfold takeL;rw[KZ];intro hh;rw[K2.1 hh k hk]at h;cases h
theorem GD (env:Env) (a1 a8:Addr) (he:ChEnv env a1 a8) (c:ChD) (h:Full c) (hs:Small c) (x:InD) (d:Int) (hx:Asked c x d) (l:List Nat) (hl:l.length<=1000) (hk: ∀n∈l,n<c.trans.length) (n:Nat) (hn:n<c.trans.length):
 Con prog env 97 [.ref 15 [rnE c x d] 0 0, .seq 1 (l.map aB),I n] (.seq 1 ((takeL c x.1 l n).map aB)):=by
 have hfew:=h.few;have f0:=fun k hk=>mf env a1 a8 he c h hs x.1 (by have:=hx.act;omega) hx.lg k n hk hn;have f1:=bD env c;have f2:=fun i k=>eX env c h.toRight i k;obtain⟨tn,htn⟩:=gE hn;have q5:=nlt hn;unfold aP at f1 f2;unfold aC at f0 f1;refine qf func97 call97 ntmps97 results97 ?_;repeat refine st0 ?_
 refine aZ 7 7 3 1 ?_;refine lp0 (D:=Nat) (fun j vs=>[(0, .ref 15 [rnE c x d] 0 0),(1, .seq 1 (l.map aB)),(2,I n),(7, .row 7 (vs 7)),(10, .seq 1 (l.map aB)),(11,I l.length),(12,I j)]) (fun j _=>[(7,⟨1,((l.take j).filter fun k=> !dx c x.1 k n).map aB,3,true⟩)]) (fun j _ esc=>(j<=l.length/\(l.take j).all (uI c x.1 n)=true)/\esc 7=false) (fun j=>l.length-j) 0 ⟨⟨Ke _,rfl⟩,rfl⟩ ?_;rintro j ws esc ⟨⟨hj,hall⟩,e0⟩;have hfl:((l.take j).filter fun k=> !dx c x.1 k n).length<=l.length:=Kh (Kw ..) (by rw[Kf];omega);have hf:Fits (((l.take j).filter fun k=> !dx c x.1 k n).length+1) 8:=aG (by omega) (by omega);by_cases hlt:j<l.length
 ·obtain⟨k,hkk⟩:=gE hlt;have hkm:=K1 hkk;have hkl:=hk k hkm;obtain⟨tk,htk⟩:=gE hkl;have q1:=nlt hlt;have q2:=aD hlt (by omega);have q3:=nlt hkl;have f3:=f0 k hkl;have f4:=f2 tk.src tn.src;have ht:=cg hkk
  have hft:((l.take (j+1)).filter fun k=> !dx c x.1 k n)=((l.take j).filter fun k=> !dx c x.1 k n)++if dx c x.1 k n=true then [] else [k]:=by
   rw[ht,LL]
   congr 1
   cases hq:dx c x.1 k n<;>simp[hq]
  have hkp:uI c x.1 n k=(!dx c x.1 k n||aboveB c tk.src tn.src):=by unfold uI;rw[eP htk,eP htn]
  have hat: ∀b,uI c x.1 n k=b->(l.take (j+1)).all (uI c x.1 n)=b:=fun b hb=>by rw[ht,Nt,hall];simp[hb]
  cases hc:dx c x.1 k n with
  | false=>
    rw[hc]at f3 hft hkp;simp only[LA,Lf]at hft;have F:=ai8 rnE.eq_1 aB.eq_1 hkk q1 q2 q3 hf e0;repeat refine tz1 f3 ?_
    refine⟨j+1,⟨⟨hlt,hat _ (by rw[hkp];rfl)⟩,by simp only[go_sem,e0]⟩,?_,?_,by omega⟩
    ·exact qe
    ·have F:=ai3 aB.eq_1 hft @Ki.{0,0};exact qe
  | true=>
    rw[hc]at f3 hft hkp;simp only[L4,Lm]at hft;simp only[MR,Lu]at hkp;cases hab:aboveB c tk.src tn.src with
    | true=>
      rw[hab]at f4 hkp;have F:=ai11 rnE.eq_1 bi.eq_1 aB.eq_1 hkk htk htn q1 q2 q3 q5 e0;repeat refine tz3 f1 f3 f4 ?_
      refine⟨j+1,⟨⟨hlt,hat _ hkp⟩,by simp only[go_sem,e0]⟩,?_,?_,by omega⟩
      ·exact qe
      ·have F:=ai aB.eq_1 hft;exact qe
    | false=>
      rw[hab]at f4 hkp;rw[Gh hkm hkp];have F:=ai11 rnE.eq_1 bi.eq_1 aB.eq_1 hkk htk htn q1 q2 q3 q5 e0;repeat refine tz3 f1 f3 f4 ?_
      exact aR
 ·obtain rfl:j=l.length:=by omega
  have q1:=nl l.length;rw[Kp]at hall hf;have hr:takeL c x.1 l n=(l.filter fun k=> !dx c x.1 k n)++[n]:=by unfold takeL;rw[K0 hall]
  have hm:(takeL c x.1 l n).map aB=((l.filter fun k=> !dx c x.1 k n).map aB)++[[I (n:Int)]]:=by rw[hr,Ki];rfl
  rw[hm,Kp];generalize (l.filter fun k=> !dx c x.1 k n)=K at*;have F:=ai4 aB.eq_1 q1 hf e0;repeat refine st ?_
  refine iB (Turned.frozen 7 6 ⟨1,K.map aB++[[I (n:Int)]],3,true⟩ rfl (LG 0) (by simp only[go_sem]) (by simp only[go_sem])) ?_;exact aR
def rcI (x:InD):Rc:=⟨0,0,0,x.1,x.2.1,x.2.2.1,x.2.2.2.1,x.2.2.2.2⟩
theorem lH (x:InD):iF (rcI x)=inE x:=rfl
theorem E1 (env:Env) (a1 a8:Addr) (he:ChEnv env a1 a8) (c:ChD) (h:Full c) (hs:Small c) (x:InD) (hL:LiteI (rcI x)) (hn: ∀t∈x.2.2.2.1,t.1.length<=9223372036854775807) (hF: ∀m∈x.2.2.1,Fits m.2.length 8) (op:List UInt8) (d:Int) (hr:ap c (rcI x)=true) (ho:x.2.2.2.2=false) (hd:aJ d=true):Con prog env 93 [Sg op,aC c, .agg (inE x),I d] nilE:=by
 have f0:=j8 env a1 a8 he c h hs (rcI x) hL hn hF;unfold nN at f0;rw[K0 hr,lH]at f0;have f1:=bw env d;rw[hd]at f1;unfold aC inE at f0 |-;refine qf func93 call93 ntmps93 results93 ?_;have F:=ho;repeat refine tz2 f0 f1 ?_
 exact aR
theorem BD (env:Env) (a1 a8:Addr) (he:ChEnv env a1 a8) (c:ChD) (h:Full c) (hs:Small c) (x:InD) (hL:LiteI (rcI x)) (hn: ∀t∈x.2.2.2.1,t.1.length<=9223372036854775807) (hF: ∀m∈x.2.2.1,Fits m.2.length 8) (op:List UInt8) (d:Int) (hr:ap c (rcI x)=true) (ho:x.2.2.2.2=false) (hd:aJ d=false):Con prog env 93 [Sg op,aC c, .agg (inE x),I d] (errV (-1) (sentV a1)):=by
 have f0:=j8 env a1 a8 he c h hs (rcI x) hL hn hF;unfold nN at f0;rw[K0 hr,lH]at f0;have f1:=bw env d;rw[hd]at f1;have f2:=ug env a1 a8 he op;unfold aC inE at f0 |-;refine qf func93 call93 ntmps93 results93 ?_;have F:=ho;repeat refine tz3 f0 f1 f2 ?_
 exact aR
end

end Go.Proofs.YtbjldjekgepopaaGreatDoor