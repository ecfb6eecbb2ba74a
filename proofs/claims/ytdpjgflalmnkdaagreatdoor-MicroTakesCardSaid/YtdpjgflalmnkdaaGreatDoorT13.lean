/- Flags of active states, how many are active, plain; slices.Sort of ints. -/
import Derived.Test.YtdpjgflalmnkdaaGreatDoorT12
import Derived.Shelf.Slices.In.SortNone
set_option maxRecDepth 100000
set_option maxHeartbeats 4000000
set_option linter.unusedSimpArgs false
namespace Go.Proofs.YtdpjgflalmnkdaaGreatDoor
open Go.Proofs.Tryz
section
open Go.RowKit
def ib (m:Nat):List AV:=[.lit (.int .u32 m)]
def lU (c:ChD) (i:Nat):List Nat:=(List.range c.states.length).map fun j=>if j<i then mask c j else 0
def B4 (c:ChD) (i:Nat) (s:StD):Bool:=s.kind != 4&&s.kind != 5&&(((kidsL c i true).length:Int)==0)
def cd (c:ChD):Nat->Nat
 |0=>0
 | i+1=>match c.states[i]? with
   |some s=>if B4 c i s then cd c i||| 2^i else cd c i
   |none=>cd c i
theorem uw (c:ChD):(lU c 0).map ib=List.replicate c.states.length [.lit (.int .u32 0)]:=by
 unfold lU;rw[Ms]
 have: ∀n:Nat,(List.range n).map (ib ∘ fun(j:Nat)=>if j<0 then mask c j else 0)=List.replicate n [.lit (.int .u32 0)]:=fun n=>by
  rw[List.eq_replicate_iff];refine⟨by simp,fun b hb=> ?_⟩;obtain⟨j,_,rfl⟩:=Kb.1 hb;rfl
 exact this _
theorem jq {c:ChD} {i j:Nat} (hj:j<c.states.length):(lU c i)[j]? =some (if j<i then mask c j else 0):=by
 unfold lU;rw[K9,MB hj];rfl
theorem dQ (c:ChD) (i:Nat):(lU c i).length=c.states.length:=by simp[lU]
theorem zZ {c:ChD} {i:Nat} (hi:i<c.states.length):(lU c i).set i (mask c i)=lU c (i+1):=by
 apply LY;intro k;by_cases hk:k<c.states.length
 ·rw[jq hk,Lu,dQ];by_cases e:i=k
  ·subst e;simp[hi]
  ·rw[K2 e,jq hk];by_cases e2:k<i
   ·rw[K5 e2,K5 (by omega)]
   ·rw[K2 e2,K2 (by omega)]
 ·rw[Kf (by rw[M4,dQ];omega),Kf (by rw[dQ];omega)]
theorem El {c:ChD} {i:Nat} (hi:i<c.states.length) (h0:mask c i=0):lU c i=lU c (i+1):=by
 rw[<-zZ hi,h0];apply LY;intro k;rw[Lu,dQ];by_cases e:i=k
 ·subst e;rw[jq hi];simp[hi]
 ·rw[K2 e]
theorem x9 {a b:Nat} (ha:a<4294967296) (hb:b<4294967296):sK .or .u32 (a:Int) (b:Int)=((a||| b:Nat):Int):=by
 have hx:a||| b<2^32:=Oq (by omega) (by omega);show IntKind.u32.wrap ((BitVec.ofInt 32 (a:Int)||| BitVec.ofInt 32 (b:Int)).toNat:Int)=_;rw[BitVec.toNat_or,ofInt_u32 a ha,ofInt_u32 b hb,Nr];omega
theorem qo {p:Nat} (hp:p<32):IntKind.u32.wrap (1*2^min p 32)=((2^p:Nat):Int):=by
 have h:=iq p hp;have key: ∀q:Nat,q<4294967296->(q:Int)%4294967296=q:=fun q h=>by omega
 rw[show min p 32=p by omega,Nr,Int.one_mul,show ((2:Int)^p)=((2^p:Nat):Int) by rw[Ob];rfl];exact key _ h
theorem mj {c:ChD} : ∀ {i:Nat},i<=32->cd c i<4294967296
 |0,_=>by show 0<4294967296;decide
 | i+1,h=>by
   have ih:=mj (c:=c) (i:=i) (by omega);have h2:=iq i (by omega);unfold cd;split
   ·split
    ·exact Oq (n:=32) ih h2
    ·exact ih
   ·exact ih
/-! What is beneath -/
def xO (m:Nat):List Nat:=(List.range 32).filter fun(b:Nat)=>m/2^b%2==1
theorem qp (m:Nat):setOf m=(xO m).map fun(b:Nat)=>(b:Int):=rfl
theorem Dh (m b:Nat):(m/2^b%2==1)=m.testBit b:=by
 rw[Nat.testBit_eq_decide_div_mod_eq];rfl
theorem tP {m b:Nat} :b∈xO m↔b<32/\m.testBit b=true:=by
 unfold xO;rw[Ke,Kw,Dh]
theorem CE (m:Nat):(xO m).Nodup:=OI Lp List.nodup_range
def benN (c:ChD):Nat->Nat->Nat
 |0,_=>0
 |i+1,j=>if (mask c i).testBit j then benN c i j||| 2^i else benN c i j
theorem sN {c:ChD} : ∀ {i:Nat} (j:Nat),i<=32->benN c i j<4294967296
 |0,_,_=>by show 0<4294967296;decide
 | i+1,j,h=>by
   have ih:=sN (c:=c) (i:=i) j (by omega);have h2:=iq i (by omega);unfold benN;split
   ·exact Oq (n:=32) ih h2
   ·exact ih
def vq (c:ChD) (i:Nat):List Nat:=(List.range c.states.length).map (benN c i)
def lJ (c:ChD) (i m:Nat):List Nat:=(List.range c.states.length).map fun(j:Nat)=>if j∈(xO (mask c i)).take m then benN c i j||| 2^i else benN c i j
theorem lI (c:ChD) (i m:Nat):(lJ c i m).length=c.states.length:=by simp[lJ]
theorem CC (c:ChD) (i:Nat):lJ c i 0=vq c i:=by
 unfold lJ vq;apply MN;intro j _;simp
theorem Fi {c:ChD} (h:c.states.length<=32) (i:Nat):lJ c i (xO (mask c i)).length=vq c (i+1):=by
 unfold lJ vq;apply MN;intro j hj;have hj:=Kw.1 hj;rw[Kt];show _=if (mask c i).testBit j then benN c i j||| 2^i else benN c i j
 by_cases hb:(mask c i).testBit j=true
 ·rw[K5 (tP.2 ⟨by omega,hb⟩),K5 hb]
 ·rw[K2 (fun hm=>hb (tP.1 hm).2),K2 hb]
theorem Ha {c:ChD} {i m k:Nat} (hk:(xO (mask c i))[m]? =some k) (hn:k<c.states.length):(lJ c i m)[k]? =some (benN c i k):=by
 unfold lJ;rw[K9,MB hn];simp only[Kp,K1];rw[K2];intro hm;obtain⟨q,hq⟩:=MA.1 hm;rw[LG]at hq;split at hq
 ·rename_i hlt;obtain⟨h1,h2⟩:=K0.1 hk;obtain⟨h3,h4⟩:=K0.1 hq;exact(LQ.1 (CE (mask c i))) q m h3 h1 hlt (h4.trans h2.symm)
 ·cases hq
theorem Fh {c:ChD} {i m k:Nat} (hk:(xO (mask c i))[m]? =some k) (hn:k<c.states.length):(lJ c i m).set k (benN c i k||| 2^i)=lJ c i (m+1):=by
 apply LY;intro j;rw[Lu,lI];by_cases hj:j<c.states.length
 ·unfold lJ;rw[K9,MB hj,K9,MB hj,Ky,hk];simp only[Kp,OJ,Kx,Kl];by_cases e:k=j
  ·subst e;simp[hn]
  ·rw[K2 e];simp[MU e]
 ·rw[Kf (by rw[lI];omega),Kf (by rw[lI];omega)];by_cases e:k=j
  ·omega
  ·rw[K2 e]
theorem Fg (c:ChD):(vq c 0).map ib=List.replicate c.states.length [.lit (.int .u32 0)]:=by
 rw[<-uw];unfold vq lU
 congr 1
theorem CF {c:ChD} (h:Right c) {i m k:Nat} (hk:(xO (mask c i))[m]? =some k):k<i:=by
 have:=(tP.1 (K4 hk)).2;rw[rP h,Kh]at this;have:=jb h 40 _ _ this;omega
theorem sW {c:ChD} (h:Right c):(walkL c (-1)).length<=c.states.length:=by
 have:=(j9 h 40 (-1) (by omega) (by have:=h.few;omega)).length_le_of_subset (l₂:=List.range c.states.length) fun m hm=>Kw.2 ((iD h m).1 hm);simpa using this
def x7 (c:ChD):List Nat:=rankAll (walkL c (-1)) 0 (List.replicate c.states.length 0)
def aP (c:ChD):AV:= .ref 7 [[.seq 1 (c.states.map fun s=>[I s.parent]), .seq 1 (c.states.map fun s=>[I s.kind]), .seq 1 ((lU c c.states.length).map ib), .seq 1 ((vq c c.states.length).map ib), .seq 1 ((x7 c).map aB), .seq 1 ((walkL c (-1)).map aB), .lit (.int .u32 (cd c c.states.length))]] 0 0
end
section
open Go.RowKit
theorem GO (env:Env) (a1 a8:Addr) (he:ChEnv env a1 a8) (hT: ∀W,env.inv W->TabAt W) (c:ChD) (hc:Right c) (hch:qC a1 a8 c= .lit .nilIface) (hcf:jS c):Con prog env 49 [.agg (aA c)] (.tuple [aP c, .lit .nilIface]):=by
 have hlen:=hc.few;have f0:=BJ env a1 a8 he c hcf;rw[hch]at f0;refine w5 func49 rfl call49 (by rw[ntmps49];simp) ?_;rw[ntmps49,results49];have F:=aA.eq_1;refine bn ?_;repeat refine tz1 f0 ?_
 refine bn ?_;repeat refine tz1 f0 ?_
 refine bn ?_;repeat refine tz1 f0 ?_
 have m0: ¬(c.states.length:Int)<0:=by omega
 have m1: ¬(16777216:Int)< (c.states.length:Int):=by omega
 have m2: ¬(281474976710656:Int)<4*(c.states.length:Int):=by omega
 have m3: ¬(281474976710656:Int)<8*(c.states.length:Int):=by omega
 have F:=ai5 aA.eq_1 m0 m1 m2 m3;refine bn ?_;repeat refine tz1 f0 ?_
 refine bn ?_;repeat refine tz1 f0 ?_
 refine nC 28 9000 0 0 3 1 ?_;refine nC 28 9001 0 1 3 1 ?_
 refine aI (D:=Nat) (fun i vs'=>[(1, .loc 1 (vs' 1) 0 0),(6, .loc 6 (vs' 6) 0 0),(30,stsAV c.states),(31,I c.states.length),(32,I i)])
  (fun i vs'=>[(1,⟨5,[aA c],26,false⟩),(6,⟨1,[[.loc 28 (vs' 28) 0 0]],102,false⟩),(28,⟨7,[[.row 9000 (vs' 9000), .row 9001 (vs' 9001), .row 22 (vs' 22), .row 24 (vs' 24), .row 26 (vs' 26),nilS, .lit (.int .u32 (cd c i))]],161,false⟩),
   (22,⟨1,(lU c i).map ib,159,true⟩),(24,⟨1,List.replicate c.states.length [.lit (.int .u32 0)],159,true⟩),(26,⟨1,List.replicate c.states.length [I 0],3,true⟩),
   (9000,⟨1,(c.states.take i).map fun s=>[I s.parent],3,true⟩),(9001,⟨1,(c.states.take i).map fun s=>[I s.kind],3,true⟩)])
  (fun i vs' esc'=>i<=c.states.length/\esc' 22=false/\esc' 24=false/\esc' 26=false/\esc' 28=false/\esc' 9000=false/\esc' 9001=false) (fun i=>c.states.length-i) 0 ?_ ?_ ?_ ?_
 ·refine⟨Kj _,?_,?_,?_,?_,?_,?_⟩<;>simp only[go_sem]
 ·exact qe
 ·have F:=ai aA.eq_1 cd.eq_1
  (simp only[go_sem,F])
  rw[uw]
 rintro i ws esc ⟨hi,e0,e1,e2,e3,e4,e5⟩;by_cases hlt:i<c.states.length
 ·obtain⟨s,hs,_⟩:=aQ hlt;have g1:=nlt hlt;have g2:=aD hlt (by omega);have f1:=gX env c i (by omega);have hpar:=hc.par i s hs;have hf:Fits (i+1) 8:=⟨by omega,by omega⟩;have hti:(c.states.take i).length=i:=by rw[Kg];omega
  have htk:c.states.take (i+1)=c.states.take i++[s]:=by rw[Ky,hs];rfl
  have hmi:=jq (c:=c) (i:=i) hlt;rw[K2 (Nat.lt_irrefl i)]at hmi
  have hl:cd c (i+1)=if B4 c i s then cd c i||| 2^i else cd c i:=by
   show (match c.states[i]? with|some s=>if B4 c i s then cd c i||| 2^i else cd c i|none=>cd c i)=_;rw[hs]
  have g6:=x9 (a:=cd c i) (b:=2^i) (mj (by omega)) (iq i (by omega));have g7:=qo (p:=i) (by omega);by_cases hp:0<=s.parent
  ·obtain⟨p,hp⟩: ∃p:Nat,s.parent=p:=⟨s.parent.toNat,by omega⟩;have hmp:=jq (c:=c) (i:=i) (j:=p) (by omega);rw[K5 (by omega)]at hmp;have g3:((p:Nat):Int)< (c.states.length:Int):=by omega
   have g4:=qo (p:=p) (by omega)
   have hnx:mask c i=mask c p||| 2^p:=by
    have:=uz hc (aV.2 hlt);rw[dw hs,hp]at this;rw[this,K5 (by omega),Ln]
   have g5:=x9 (a:=mask c p) (b:=2^p) (mH hc (by omega)) (iq p (by omega));rw[<-hnx]at g5;have hms:=zZ (c:=c) hlt;cases q4:(s.kind != 4)<;>cases q5:(s.kind != 5)<;>cases q0:(((kidsL c i true).length:Int)==0);all_goals have F:=ai12 aA.eq_1 aK.eq_1 g1 g2 g6 g7 hs hp hf hti hmi<|ai12 @dQ ib.eq_1 q4 q5 q0 e0 e1 e2 e3 e4 e5<|ai4 g3 g4 g5 hmp
   all_goals (repeat refine tz1 f1 ?_)
   all_goals (refine⟨i+1,⟨hlt,?_,?_,?_,?_,?_,?_⟩,?_,?_,by omega⟩)
   all_goals (first|(show _=false;simp only[go_sem,e0,e1,e2,e3,e4,e5];done)|skip)
   all_goals have F:=ai12 aA.eq_1 aK.eq_1 g1 g2 g6 g7 hs hp hf hti hmi<|ai12 @dQ ib.eq_1 q4 q5 q0 e0 e1 e2 e3 e4 e5<|ai9 g3 g4 g5 hmp hl B4.eq_1 htk @Ka.{0,0} @NT.{0,0}
   all_goals ((simp only[go_sem, <-hms,F]))
  ·have hp:s.parent= -1:=by omega
   have hm0:mask c i=0:=by
    have:=uz hc (aV.2 hlt);rw[dw hs,hp]at this;rw[this,K2 (by omega)]
   have hms:=El hlt hm0;cases q4:(s.kind != 4)<;>cases q5:(s.kind != 5)<;>cases q0:(((kidsL c i true).length:Int)==0);all_goals have F:=ai12 aA.eq_1 aK.eq_1 g1 g2 g6 g7 hs hp hf hti hmi<|ai11 @dQ ib.eq_1 q4 q5 q0 e0 e1 e2 e3 e4 e5
   all_goals (repeat refine tz1 f1 ?_)
   all_goals (refine⟨i+1,⟨hlt,?_,?_,?_,?_,?_,?_⟩,?_,?_,by omega⟩)
   all_goals (first|(show _=false;simp only[go_sem,e0,e1,e2,e3,e4,e5];done)|skip)
   all_goals have F:=ai12 aA.eq_1 aK.eq_1 g1 g2 g6 g7 hs hp hf hti hmi<|ai12 @dQ ib.eq_1 q4 q5 q0 e0 e1 e2 e3 e4 e5<|ai5 hl B4.eq_1 htk @Ka.{0,0} hms
   all_goals ((simp only[go_sem,F]))
 obtain rfl:i=c.states.length:=by omega
 have g1:=nl c.states.length;have hta:c.states.take c.states.length=c.states:=Kt;have F:=ai9 aA.eq_1 g1 e0 e1 e2 e3 e4 e5 hta;repeat refine tz1 f0 ?_
 refine tW ?_;refine bn ?_;repeat refine tz1 f0 ?_
 refine mU ?_
 refine Fq (D:=Nat) (fun i vs'=>[(1, .loc 1 (vs' 1) 0 0),(6, .loc 6 (vs' 6) 0 0),(108, .row 22 (vs' 22)),(109,I c.states.length),(110,I i)])
  (fun i vs'=>[(1,⟨5,[aA c],26,false⟩),(6,⟨1,[[.loc 28 (vs' 28) 0 0]],102,false⟩),(28,⟨7,[[.row 9000 (vs' 9000), .row 9001 (vs' 9001), .row 22 (vs' 22), .row 24 (vs' 24), .row 26 (vs' 26),nilS, .lit (.int .u32 (cd c c.states.length))]],161,false⟩),
   (22,⟨1,(lU c c.states.length).map ib,159,true⟩),(24,⟨1,(vq c i).map ib,159,true⟩),(26,⟨1,List.replicate c.states.length [I 0],3,true⟩),
   (9000,⟨1,c.states.map fun s=>[I s.parent],3,true⟩),(9001,⟨1,c.states.map fun s=>[I s.kind],3,true⟩)])
  (fun i vs' esc'=>i<=c.states.length/\esc' 22=false/\esc' 24=false/\esc' 26=false/\esc' 28=false/\esc' 9000=false/\esc' 9001=false) (fun i=>c.states.length-i) 0 ?_ ?_ ?_ ?_
 ·refine⟨Kj _,?_,?_,?_,?_,?_,?_⟩<;>simp only[go_sem,e0,e1,e2,e3,e4,e5]
 ·have F:=@dQ;exact qe
 ·have F:=ai aA.eq_1 hta
  (simp only[go_sem,F])
  rw[Fg]
 try clear e0 e1 e2 e3 e4 e5
 rintro i ws esc ⟨hi,e0,e1,e2,e3,e4,e5⟩;by_cases hlt:i<c.states.length
 ·have g1:=nlt hlt;have g2:=aD hlt (by omega);have hm:=jq (c:=c) (i:=c.states.length) hlt;rw[K5 hlt]at hm;have F:=ai12 aA.eq_1 g1 g2 hm @dQ ib.eq_1 e0 e1 e2 e3 e4 e5;refine bn ?_;repeat refine tz1 f0 ?_
  refine bn ?_;repeat refine tz1 f0 ?_
  refine tW ?_;refine mU ?_;refine bn ?_;repeat refine tz1 f0 ?_
  refine bn ?_;repeat refine tz1 f0 ?_
  refine mU ?_
  refine CJ (D:=Unit) (f:=103) (first:= #[.int .u32 (mask c i)]) (ks:=(setOf (mask c i)).map (Value.int .i64))
   (fun m _ vs'=>[(1,⟨5,[aA c],26,false⟩),(6,⟨1,[[.loc 28 (vs' 28) 0 0]],102,false⟩),(9,⟨1,[[I i]],3,false⟩),(28,⟨7,[[.row 9000 (vs' 9000), .row 9001 (vs' 9001), .row 22 (vs' 22), .row 24 (vs' 24), .row 26 (vs' 26),nilS, .lit (.int .u32 (cd c c.states.length))]],161,false⟩),
    (22,⟨1,(lU c c.states.length).map ib,159,true⟩),(24,⟨1,(lJ c i m).map ib,159,true⟩),(26,⟨1,List.replicate c.states.length [I 0],3,true⟩),
    (9000,⟨1,c.states.map fun s=>[I s.parent],3,true⟩),(9001,⟨1,c.states.map fun s=>[I s.kind],3,true⟩)])
   (fun m _ vs' esc'=>(vs' 1=ws 1/\vs' 6=ws 6/\vs' 22=ws 22/\vs' 9=ws 9+1)/\esc' 22=false/\esc' 24=false/\esc' 26=false/\esc' 28=false/\esc' 9000=false/\esc' 9001=false) ()
   (by simp only[go_sem,hm,ib]) (by decide) ((Bn (mask c i) (mH hc (by omega))).mono hT) ?_ ?_ ?_ ?_
  ·refine⟨⟨?_,?_,?_,?_⟩,?_,?_,?_,?_,?_,?_⟩<;>simp only[go_sem,e0,e1,e2,e3,e4,e5]
  ·(simp only[go_sem,F])
   rw[CC]
  ·rintro m _ v vs' esc' -⟨⟨q1,q2,q3,q4⟩,e0,e1,e2,e3,e4,e5⟩ hk
   obtain⟨k,hkL,rfl⟩: ∃k,(xO (mask c i))[m]? =some k/\v= .int .i64 (k:Nat):=by
    rw[qp,Ms,K9]at hk;obtain⟨k,h1,h2⟩:=Lc.1 hk;exact⟨k,h1,h2.symm⟩
   have hki:=CF hc hkL;have g3:((k:Nat):Int)< (c.states.length:Int):=by omega
   have hb:=Ha hkL (by omega);have hs:=Fh hkL (by omega);have g4:=qo (p:=i) (by omega);have g5:=x9 (a:=benN c i k) (b:=2^i) (sN k (by omega)) (iq i (by omega));have F:=ai12 aA.eq_1 q1 q2 q3 q4 g3 g4 g5 hb @lI ib.eq_1<|ai6 e0 e1 e2 e3 e4 e5;repeat refine st ?_
   refine⟨(),⟨⟨?_,?_,?_,?_⟩,?_,?_,?_,?_,?_,?_⟩,?_⟩;all_goals (first|(simp only[go_sem,q1,q2,q3,q4,e0,e1,e2,e3,e4,e5];done)|skip)
   have F:=ai7 aA.eq_1 q1 q2 q3 q4 @NT.{0,0} ib.eq_1
   (simp only[go_sem, <-hs,F])
  ·rintro _ vs' esc' -⟨⟨q1,q2,q3,q4⟩,e0,e1,e2,e3,e4,e5⟩;have hks:(setOf (mask c i)).length=(xO (mask c i)).length:=by rw[qp,Ko]
   have hall:=Fi (c:=c) hlen i;refine xR ?_;have F:=ai7 aA.eq_1 q1 q2 q3 q4 g1 g2;repeat refine st ?_
   refine⟨i+1,⟨hlt,?_,?_,?_,?_,?_,?_⟩,?_,?_,by omega⟩;all_goals (first|(show _=false;simp only[go_sem,e0,e1,e2,e3,e4,e5];done)|skip)
   ·have F:=ai5 aA.eq_1 q1 q2 q3 q4;exact qe
   ·have F:=ai7 aA.eq_1 q1 q2 q3 q4 hks hall;exact qe
 ·obtain rfl:i=c.states.length:=by omega
  have g1:=nl c.states.length;have F:=ai8 aA.eq_1 g1 e0 e1 e2 e3 e4 e5;refine bn ?_;repeat refine st ?_
  refine bn ?_;repeat refine st ?_
  refine xR ?_;refine nC 28 9002 0 5 3 1 ?_;refine fV [(9000,⟨1,c.states.map fun s=>[I s.parent],3,true⟩),(9001,⟨1,c.states.map fun s=>[I s.kind],3,true⟩),(22,⟨1,(lU c c.states.length).map ib,159,true⟩),(24,⟨1,(vq c c.states.length).map ib,159,true⟩)] ?_ ?_
  ·exact qe
  refine kh [(1, .loc 1 (ws 1) 0 0),(6, .loc 6 (ws 6) 0 0)] [(1,⟨5,[aA c],26,false⟩),(6,⟨1,[[.loc 28 (ws 28) 0 0]],102,false⟩),(28,⟨7,[[.seq 1 (c.states.map fun s=>[I s.parent]), .seq 1 (c.states.map fun s=>[I s.kind]), .seq 1 ((lU c c.states.length).map ib), .seq 1 ((vq c c.states.length).map ib), .row 26 (ws 26), .row 9002 (ws 9002+1), .lit (.int .u32 (cd c c.states.length))]],161,false⟩),
   (26,⟨1,List.replicate c.states.length [I 0],3,true⟩),(9002,⟨1,[],3,true⟩)] ?_ ?_ ?_
  ·exact qe0
  ·have F:=aA.eq_1;exact qe
  have hwl:=sW hc
  have f1:xo prog env 104 c (c.states.map fun s=>[I s.parent]) (c.states.map fun s=>[I s.kind]) ((lU c c.states.length).map ib) ((vq c c.states.length).map ib) (.int .u32 (cd c c.states.length)) (-1) [] (List.replicate c.states.length 0):=
   yv env c hc _ _ _ _ _ 40 (-1) [] (List.replicate c.states.length 0) (by omega) (by omega) (by simp) (by simp;omega)
  unfold xo at f1;have F:=ai10 aA.eq_1 TR.eq_1 aB.eq_1 @List.map_replicate.{0,0} e0 e1 e2 e3 e4 e5;repeat refine st ?_
  refine iL [(1000,28),(1001,26),(1002,9002)] f1 ?_;repeat refine st ?_
  refine fV [(26,⟨1,(x7 c).map aB,3,true⟩),(9002,⟨1,(walkL c (-1)).map aB,3,true⟩)] ?_ ?_
  ·have F:=x7.eq_1;exact qe
  refine kh [(2, .loc 28 (ws 28) 0 0),(3, .lit .nilIface)] [(28,⟨7,[[.seq 1 (c.states.map fun s=>[I s.parent]), .seq 1 (c.states.map fun s=>[I s.kind]), .seq 1 ((lU c c.states.length).map ib), .seq 1 ((vq c c.states.length).map ib), .seq 1 ((x7 c).map aB), .seq 1 ((walkL c (-1)).map aB), .lit (.int .u32 (cd c c.states.length))]],161,false⟩)] ?_ ?_ ?_
  ·exact qe0
  ·have F:=aA.eq_1;exact qe
  (refine aM ?_;refine⟨_,(by show (ae _ _ _).run _=some _;simp only[go_sem];rfl),?_⟩)
  exact fo.refl _
end
section
open Go.RowKit
abbrev U32 (m:Nat):AV:= .lit (.int .u32 m)
theorem yx (env:Env) (c:ChD):Con prog env 174 [aP c] (I c.states.length):=by
 refine qf func174 call174 ntmps174 results174 ?_;have F:=aP.eq_1;repeat refine st ?_
 exact aR
theorem qh (env:Env) (c:ChD) (i:Int):Con prog env 111 [aP c,I i] (B (inZ c i)):=by
 have f0:=yx env c;refine qf func111 call111 ntmps111 results111 ?_;unfold inZ;by_cases h0:0<=i
 ·by_cases h1:i< (c.states.length:Int)
  ·have F:=ai h0 h1;repeat refine tz1 f0 ?_
   exact aR
  ·have F:=ai h0 h1;repeat refine tz1 f0 ?_
   exact aR
 ·have F:=h0;repeat refine tz1 f0 ?_
  exact aR
theorem wj (env:Env) (c:ChD) (hc:Right c) (i:Int):Con prog env 63 [aP c,I i] (.own 3 1 ((upL c i).map fun k=>[I k])):=by
 have hlen:=hc.few;refine qf func63 call63 ntmps63 results63 ?_;repeat refine st0 ?_
 refine aj 5 5 3 1 ?_;have hul:(upL c i).length<=40:=lK 40 i;refine lp0 (D:=Int×List Int) (fun d vs=>[(0,aP c),(1,I d.1),(5, .row 5 (vs 5))]) (fun d _=>[(5,⟨1,d.2.map fun k=>[I k],3,true⟩)]) (fun d _ esc=>upL c i=d.2++upL c d.1/\esc 5=false) (fun d=>(d.1+1).toNat) (i,[]) ⟨rfl,rfl⟩ ?_;rintro⟨d,l⟩ ws esc ⟨hu,e0⟩;simp only at hu;have f0:=qh env c d;cases hz:inZ c d with
 | false=>
   rw[cK hz,Lo]at hu;rw[hz]at f0;have F:=ai hu e0;repeat refine tz1 f0 ?_
   exact aR
 | true=>
   obtain⟨k,s,rfl,hs,ha⟩:=cF hz;have hp:=dw hs;have hlt:=dM hc hz;rw[hp]at hlt;rw[qd hc hz,hp]at hu;rw[hz]at f0
   have hl:l.length+1<=40:=by
    have:=LF List.length hu;rw[K8,Ks]at this;omega
   have g1:((k:Nat):Int)< (c.states.length:Int):=by have:=(aH.1 hz).2;omega
   have hf:Fits (l.length+1) 8:=⟨by omega,by omega⟩;have F:=ai5 aP.eq_1 g1 hs hf e0;repeat refine tz1 f0 ?_
   refine⟨(s.parent,l++[s.parent]),⟨?_,?_⟩,?_,?_,?_⟩
   ·show upL c i=(l++[s.parent])++upL c s.parent;rw[hu,LM];rfl
   ·show _=false;simp only[go_sem,e0]
   ·have F:=aP.eq_1;exact qe
   ·have F:=ai aP.eq_1 @Ka.{0,0};exact qe
   ·show (s.parent+1).toNat< ((k:Int)+1).toNat;omega
theorem yy (env:Env) (m:Nat) (hm:m<4294967296) (k:Nat) (hk:k<32):Con prog env 131 [U32 m,I k] (B (m.testBit k)):=by
 have hq:m/2^k<4294967296:=Nat.lt_of_le_of_lt (Nat.div_le_self ..) hm
 have g0:((m:Int)).fdiv (2^min k 32)=((m/2^k:Nat):Int):=by
  rw[show min k 32=k by omega,show ((2:Int)^k)=((2^k:Nat):Int) by rw[Ob];rfl];exact(PN _ _).symm
 have g1:sK .and .u32 ((m/2^k:Nat):Int) 1=((m/2^k%2:Nat):Int):=by
  have:=u32_and (m/2^k) 1 hq (by decide);rw[Nat.and_one_is_mod]at this;exact this
 have g2:((((m/2^k%2:Nat):Int))==1)=m.testBit k:=by
  rw[<-Dh];rcases Nat.mod_two_eq_zero_or_one (m/2^k) with h|h<;>rw[h]<;>rfl
 refine qf func131 call131 ntmps131 results131 ?_;have F:=ai3 g0 g1 g2;repeat refine st ?_
 exact aR
def nS (m:Nat) (l:List Nat) (j:Nat):List Nat:=(l.take j).filter fun k=>m.testBit k
theorem E8 {m:Nat} {l:List Nat} {j k:Nat} (h:l[j]? =some k):nS m l (j+1)=if m.testBit k then nS m l j++[k] else nS m l j:=by
 unfold nS;rw[Ky,h,LE];cases hb:m.testBit k<;>simp[hb]
theorem G2 (m:Nat) (l:List Nat) (j:Nat):(nS m l j).length<=l.length:=by
 unfold nS;exact Km (Kq ..) (by rw[Kg];omega)
theorem xu (env:Env) (c:ChD) (hc:Right c) (m:Nat) (hm:m<4294967296):Con prog env 112 [aP c,U32 m] (.own 3 1 (((walkL c (-1)).filter fun k=>m.testBit k).map aB)):=by
 have hlen:=hc.few;have hwl:=sW hc;have htop:=iD hc;refine qf func112 call112 ntmps112 results112 ?_;have F:=aP.eq_1;repeat refine st ?_
 generalize walkL c (-1)=W at*;refine aj 5 5 3 1 ?_;refine aI (D:=Nat) (fun j vs=>[(1,U32 m),(5, .row 5 (vs 5)),(13, .seq 1 (W.map aB)),(14,I W.length),(15,I j)]) (fun j _=>[(5,⟨1,(nS m W j).map aB,3,true⟩)]) (fun j _ esc=>j<=W.length/\esc 5=false) (fun j=>W.length-j) 0 ?_ ?_ ?_ ?_
 ·exact⟨Kj _,rfl⟩
 ·exact qe
 ·(simp only[go_sem,F])
  rfl
 rintro j ws esc ⟨hj,e0⟩;by_cases hlt:j<W.length
 ·obtain⟨k,hk⟩:=gE hlt;have hk32:k<32:=by have:=(htop k).1 (K4 hk);omega
  have f0:=yy env m hm k hk32;have g1:=nlt hlt;have g2:=aD hlt (by omega);have hpl:=G2 m W j;have hf:Fits ((nS m W j).length+1) 8:=⟨by omega,by omega⟩;have hn:=E8 (m:=m) hk;cases hb:m.testBit k with
  | true=>
    rw[hb]at f0;rw[hb,K5 rfl]at hn;have F:=ai6 g1 g2 hk aB.eq_1 hf e0;repeat refine tz1 f0 ?_
    refine⟨j+1,⟨hlt,by simp only[go_sem,e0]⟩,?_,?_,by omega⟩
    ·exact qe
    ·have F:=ai3 hn aB.eq_1 @Ka.{0,0};exact qe
  | false=>
    rw[hb]at f0;rw[hb,K2 LO]at hn;have F:=ai6 g1 g2 hk aB.eq_1 hf e0;repeat refine tz1 f0 ?_
    refine⟨j+1,⟨hlt,by simp only[go_sem,e0]⟩,?_,?_,by omega⟩
    ·exact qe
    ·have F:=ai3 hn aB.eq_1 @Ka.{0,0};exact qe
 ·obtain rfl:j=W.length:=by omega
  have g1:=nl W.length;have hall:nS m W W.length=W.filter fun k=>m.testBit k:=by unfold nS;rw[Kt]
  have F:=ai3 g1 hall e0;repeat refine st ?_
  exact aR
def Cs (l:List Int) (j:Nat):Nat:=(l.take j).foldl (fun m k=>m||| 2^k.toNat) 0
theorem Eg {l:List Int} {j:Nat} {k:Int} (h:l[j]? =some k):Cs l (j+1)=Cs l j||| 2^k.toNat:=by
 unfold Cs;rw[Ky,h,Oo];rfl
theorem tM: ∀(l:List Int) (m b:Nat),(l.foldl (fun m k=>m||| 2^k.toNat) m).testBit b=(m.testBit b||l.any fun k=>k.toNat==b)
 |[],m,b=>by simp
 | k::l,m,b=>by
   rw[Oa,tM l,OP,NY,NX,Bool.or_assoc];rfl
theorem rE {c:ChD} (hc:Right c) {l:List Int} : ∀ {j:Nat},(∀k∈l.take j,inZ c k=true)->Cs l j<4294967296:=fun {j} h=>by
 have hlen:=hc.few;apply Nat.lt_pow_two_of_testBit (n:=32);intro b hb;unfold Cs;rw[tM,Nat.zero_testBit,M2,Nh];intro k hk;have:=aH.1 (h k hk);simp;omega
theorem Eh {c:ChD} {l:List Int} (h:l.all (inZ c)=true):((walkL c (-1)).filter fun k=>(Cs l l.length).testBit k)=sortL c l:=by
 unfold sortL;rw[K5 h];apply MG;intro k _;unfold Cs;rw[tM,Nat.zero_testBit,M2,Kt,LC,Lj,K6];constructor
 ·rintro⟨x,h1,h2⟩;have:=(aH.1 (K7.1 h x h1)).1;have h2:x.toNat=k:=by simpa using h2
  rw[show (k:Int)=x by omega];exact h1
 ·exact fun h1=>⟨k,h1,by simp⟩
theorem zB {c:ChD} {l:List Int} {j:Nat} {k:Int} (h:(l.take j).all (inZ c)=true) (hk:l[j]? =some k) (hz:inZ c k=true):(l.take (j+1)).all (inZ c)=true:=by
 rw[Ky,hk,OH,h];simp[hz]
theorem zG {c:ChD} {l:List Int} {j:Nat} {k:Int} (hk:l[j]? =some k) (hz:inZ c k=false):sortL c l=[]:=by
 unfold sortL;rw[K2];intro h;have:=K7.1 h k (K4 hk);rw[hz]at this;cases this
abbrev intAV (k:Int):List AV:=[I k]
theorem fP (env:Env) (c:ChD) (hc:Right c) (l:List Int) (hl:l.length<=1000000):Con prog env 53 [aP c, .seq 1 (l.map intAV)] (.own 3 1 ((sortL c l).map aB)):=by
 have hlen:=hc.few;refine qw func53 call53 ntmps53 results53 ?_;repeat refine st0 ?_
 refine aI (D:=Nat) (fun j _=>[(0,aP c),(5,U32 (Cs l j)),(8, .seq 1 (l.map intAV)),(9,I l.length),(10,I j)]) (fun _ _=>[]) (fun j _ _=>j<=l.length/\(l.take j).all (inZ c)=true) (fun j=>l.length-j) 0 ?_ ?_ ?_ ?_
 ·exact⟨Kj _,rfl⟩
 ·(simp only[go_sem])
  rfl
 ·exact qe0
 rintro j ws esc ⟨hj,hall⟩;by_cases hlt:j<l.length
 ·obtain⟨k,hk⟩:=gE hlt;have g1:=nlt hlt;have g2:=aD hlt (by omega);have f0:=qh env c k;cases hz:inZ c k with
  | false=>
    rw[hz]at f0;have F:=ai3 g1 g2 hk;repeat refine tz1 f0 ?_
    (refine aM ?_;refine⟨_,(by show (ae _ _ _).run _=some _;simp only[go_sem,F];rfl),?_⟩)
    rw[zG hk hz];exact fo.own_nil _ _ (by decide)
  | true=>
    rw[hz]at f0;have hr:=aH.1 hz;obtain⟨p,rfl⟩: ∃p:Nat,k=p:=⟨k.toNat,by omega⟩;have g3:=qo (p:=p) (by omega);have hsm:=rE hc (j:=j) (fun k hk=>K7.1 hall k hk);have g4:=x9 hsm (iq p (by omega));have hn:=Eg hk;rw[Ln]at hn;have F:=ai5 g1 g2 g3 g4 hk;repeat refine tz1 f0 ?_
    refine⟨j+1,⟨hlt,zB hall hk hz⟩,?_,?_,by omega⟩
    ·have F:=ai6 g1 g2 g3 g4 hk hn;exact qe
    ·(simp only[go_sem,g1,g2,g3,g4,hk,hn])
 ·obtain rfl:j=l.length:=by omega
  have g1:=nl l.length;have hsm:=rE hc (j:=l.length) (fun k hk=>K7.1 hall k hk);rw[Kt]at hall;have f1:=xu env c hc _ hsm;rw[Eh hall]at f1;have F:=g1;repeat refine tz1 f1 ?_
  (refine aM ?_;refine⟨_,(by show (ae _ _ _).run _=some _;simp only[go_sem,F];rfl),?_⟩)
  exact fo.refl _
end
section
open Go.RowKit Go.Sort Go.Shelf Go.Lib
def flagA (n:Nat) (act:List Int):List (List AV):=(List.range n).map fun k:Nat=>[B (act.contains (k:Int))]
theorem eT (n:Nat) (act:List Int):(flagA n act).length=n:=by unfold flagA;simp
theorem js {n:Nat} {act:List Int} {k:Nat} (hk:k<n):(flagA n act)[k]? =some [B (act.contains (k:Int))]:=by
 unfold flagA;rw[K9,MB hk];rfl
theorem FY (n:Nat):List.replicate n [B false]=flagA n []:=by
 unfold flagA;apply LY;intro j;rw[K9];by_cases h:j<n
 ·rw[MB h,List.getElem?_replicate_of_lt h];rfl
 ·rw[Kf (by simp;omega),Kf (by simp;omega)];rfl
theorem zo {n:Nat} {act:List Int} {i:Int} (h: ∀k:Nat,k<n->(k:Int)≠i):flagA n (act++[i])=flagA n act:=by
 unfold flagA;apply MN;intro k hk;have:=h k (Kw.1 hk);simp;exact fun e=>absurd e this
theorem HD {n:Nat} {act:List Int} {k:Nat} (hk:k<n):(flagA n act).set k [B true]=flagA n (act++[(k:Int)]):=by
 apply LY;intro j;by_cases hj:j<n
 ·rw[js hj];by_cases e:k=j
  ·subst e;rw[N4 (by rw[eT];exact hk)];simp
  ·rw[NP e,js hj];simp;exact fun e2=>absurd (by omega) e
 ·rw[Kf (by rw[M4,eT];omega),Kf (by rw[eT];omega)]
theorem wx {act:List Int} {ks:List Nat} {j k:Nat} (hk:ks[j]? =some k):manyI act (ks.take (j+1))=manyI act (ks.take j)+if act.contains (k:Int)=true then 1 else 0:=by
 unfold manyI;rw[Ky,hk,LE,K8];simp only[OJ,MZ,PF];split<;>rfl
theorem bc (l:List Nat):(zL l).map intAV=l.map aB:=by simp only[zL,Ms];rfl
theorem an (l:List Nat):(zL l).length=l.length:=Ko ..
theorem pm {l:List Nat} {j k:Nat} (h:l[j]? =some k):(zL l)[j]? =some (k:Int):=by unfold zL;rw[K9,h];rfl
/-! slices.Sort of ints -/
def rY (k:Int):List Value:=[.int .i64 k]
def bN (l:List Int):List Int:=l.mergeSort fun x y=>decide (x<=y)
theorem rZ {w:World} {g:Nat} {l:List Int} (h:Holds id w g 0 (l.map (Value.int .i64)).toArray):Holds (Value.int .i64) w g 0 l.toArray:=fun j hj=>by
 have hj':j<l.length:=by simpa using hj
 have:=h j (by simpa using hj');rw[NA _ j (by simpa using hj')]at this;rw[NA _ j hj];simpa using this
theorem Tryz.sortIEnter: ∀(args:Array Value) (w:World),(callFunc 175 args).run prog w= .ok (.enter 175 args) w:=Od func175 (by kernel_rfl) rfl
theorem pK (l:List Int) (hl:l.length<4611686018427387904):Turns prog 175 [] 3 1 (l.map rY) ((bN l).map rY):=by
 by_cases h0:l=[]
 ·subst h0;rw[show bN []=[] by simp[bN]];exact lv Tryz.sortIEnter fun p cap w=>Any.slices_Sort_int_none Tryz.sortI p cap w
 ·refine jc (by rw[Ko];exact Lw.2 h0) Tryz.sortIEnter (by simp[bN]) (fun x hx=> ?_) (fun x hx=> ?_) fun w g cap hH hg=> ?_
  ·obtain⟨y,_,rfl⟩:=Kb.1 hx;rfl
  ·obtain⟨y,_,rfl⟩:=Kb.1 hx;exact⟨rfl,fun u hu=>by rw[Kl.1 hu];rfl⟩
  ·have hH:Holds id w g 0 (l.map (Value.int .i64)).toArray:=by rw[<-dR];exact hH
   have:=Any.slices_Sort_int Tryz.sortI g 0 cap l w (rZ hH) hg hl;rw[Ko];refine(show Calls prog 175 #[.slice (some ⟨g,0,none⟩) l.length cap] w _ from this).mono ?_;rintro ex w' ⟨rfl,n,os,rfl⟩;refine⟨rfl,n,os,?_⟩;rw[jF,show ((bN l).map rY).flatten=(bN l).map (Value.int .i64) from dR (Value.int .i64) _];simp[bN]
end

end Go.Proofs.YtdpjgflalmnkdaaGreatDoor