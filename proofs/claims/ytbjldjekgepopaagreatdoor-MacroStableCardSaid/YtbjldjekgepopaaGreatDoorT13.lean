/- What comes to states that are entered, plain: as the program says and as the document says. No program is named here. -/
import Derived.Test.YtbjldjekgepopaaGreatDoorT12
import Derived.Shelf.Slices.In.SortNone
set_option maxRecDepth 100000
set_option maxHeartbeats 4000000
set_option linter.unusedSimpArgs false
namespace Go.Proofs.YtbjldjekgepopaaGreatDoor
open Go.Proofs.Tryz
section
open Go.RowKit
def iW (m:Nat):List AV:=[.lit (.int .u32 m)]
def lA (c:ChD) (i:Nat):List Nat:=(List.range c.states.length).map fun j=>if j<i then mask c j else 0
def B9 (c:ChD) (i:Nat) (s:StD):Bool:=s.kind != 4&&s.kind != 5&&(((kidsL c i true).length:Int)==0)
def cV (c:ChD):Nat->Nat
 |0=>0
 | i+1=>match c.states[i]? with
   |some s=>if B9 c i s then cV c i||| 2^i else cV c i
   |none=>cV c i
theorem uf (c:ChD):(lA c 0).map iW=List.replicate c.states.length [.lit (.int .u32 0)]:=by
 unfold lA;rw[Mk]
 have: ∀n:Nat,(List.range n).map (iW ∘ fun(j:Nat)=>if j<0 then mask c j else 0)=List.replicate n [.lit (.int .u32 0)]:=fun n=>by
  rw[List.eq_replicate_iff];refine⟨by simp,fun b hb=> ?_⟩;obtain⟨j,_,rfl⟩:=K9.1 hb;rfl
 exact this _
theorem je {c:ChD} {i j:Nat} (hj:j<c.states.length):(lA c i)[j]? =some (if j<i then mask c j else 0):=by
 unfold lA;rw[K5,Lx hj];rfl
theorem dM (c:ChD) (i:Nat):(lA c i).length=c.states.length:=by simp[lA]
theorem zU {c:ChD} {i:Nat} (hi:i<c.states.length):(lA c i).set i (mask c i)=lA c (i+1):=by
 apply LQ;intro k;by_cases hk:k<c.states.length
 ·rw[je hk,Ln,dM];by_cases e:i=k
  ·subst e;simp[hi]
  ·rw[KZ e,je hk];by_cases e2:k<i
   ·rw[K0 e2,K0 (by omega)]
   ·rw[KZ e2,KZ (by omega)]
 ·rw[K7 (by rw[MV,dM];omega),K7 (by rw[dM];omega)]
theorem Em {c:ChD} {i:Nat} (hi:i<c.states.length) (h0:mask c i=0):lA c i=lA c (i+1):=by
 rw[<-zU hi,h0];apply LQ;intro k;rw[Ln,dM];by_cases e:i=k
 ·subst e;rw[je hi];simp[hi]
 ·rw[KZ e]
theorem xb {a b:Nat} (ha:a<4294967296) (hb:b<4294967296):sH .or .u32 (a:Int) (b:Int)=((a||| b:Nat):Int):=by
 have hx:a||| b<2^32:=Oh (by omega) (by omega);show IntKind.u32.wrap ((BitVec.ofInt 32 (a:Int)||| BitVec.ofInt 32 (b:Int)).toNat:Int)=_;rw[BitVec.toNat_or,ofInt_u32 a ha,ofInt_u32 b hb,Ng];omega
theorem qo {p:Nat} (hp:p<32):IntKind.u32.wrap (1*2^min p 32)=((2^p:Nat):Int):=by
 have h:=ib p hp;have key: ∀q:Nat,q<4294967296->(q:Int)%4294967296=q:=fun q h=>by omega
 rw[show min p 32=p by omega,Ng,Int.one_mul,show ((2:Int)^p)=((2^p:Nat):Int) by rw[O2];rfl];exact key _ h
theorem mT {c:ChD} : ∀ {i:Nat},i<=32->cV c i<4294967296
 |0,_=>by show 0<4294967296;decide
 | i+1,h=>by
   have ih:=mT (c:=c) (i:=i) (by omega);have h2:=ib i (by omega);unfold cV;split
   ·split
    ·exact Oh (n:=32) ih h2
    ·exact ih
   ·exact ih
/-! What is beneath -/
def xM (m:Nat):List Nat:=(List.range 32).filter fun(b:Nat)=>m/2^b%2==1
theorem qp (m:Nat):setOf m=(xM m).map fun(b:Nat)=>(b:Int):=rfl
theorem Dk (m b:Nat):(m/2^b%2==1)=m.testBit b:=by
 rw[Nat.testBit_eq_decide_div_mod_eq];rfl
theorem tK {m b:Nat} :b∈xM m↔b<32/\m.testBit b=true:=by
 unfold xM;rw[Kb,Kr,Dk]
theorem CL (m:Nat):(xM m).Nodup:=Nw Lk List.nodup_range
def benN (c:ChD):Nat->Nat->Nat
 |0,_=>0
 |i+1,j=>if (mask c i).testBit j then benN c i j||| 2^i else benN c i j
theorem sJ {c:ChD} : ∀ {i:Nat} (j:Nat),i<=32->benN c i j<4294967296
 |0,_,_=>by show 0<4294967296;decide
 | i+1,j,h=>by
   have ih:=sJ (c:=c) (i:=i) j (by omega);have h2:=ib i (by omega);unfold benN;split
   ·exact Oh (n:=32) ih h2
   ·exact ih
def vh (c:ChD) (i:Nat):List Nat:=(List.range c.states.length).map (benN c i)
def kp (c:ChD) (i m:Nat):List Nat:=(List.range c.states.length).map fun(j:Nat)=>if j∈(xM (mask c i)).take m then benN c i j||| 2^i else benN c i j
theorem ko (c:ChD) (i m:Nat):(kp c i m).length=c.states.length:=by simp[kp]
theorem CK (c:ChD) (i:Nat):kp c i 0=vh c i:=by
 unfold kp vh;apply MF;intro j _;simp
theorem F9 {c:ChD} (h:c.states.length<=32) (i:Nat):kp c i (xM (mask c i)).length=vh c (i+1):=by
 unfold kp vh;apply MF;intro j hj;have hj:=Kr.1 hj;rw[Kp];show _=if (mask c i).testBit j then benN c i j||| 2^i else benN c i j
 by_cases hb:(mask c i).testBit j=true
 ·rw[K0 (tK.2 ⟨by omega,hb⟩),K0 hb]
 ·rw[KZ (fun hm=>hb (tK.1 hm).2),KZ hb]
theorem HR {c:ChD} {i m k:Nat} (hk:(xM (mask c i))[m]? =some k) (hn:k<c.states.length):(kp c i m)[k]? =some (benN c i k):=by
 unfold kp;rw[K5,Lx hn];simp only[Kg,KX];rw[KZ];intro hm;obtain⟨q,hq⟩:=Lw.1 hm;rw[Kz]at hq;split at hq
 ·rename_i hlt;obtain⟨h1,h2⟩:=KW.1 hk;obtain⟨h3,h4⟩:=KW.1 hq;exact(LH.1 (CL (mask c i))) q m h3 h1 hlt (h4.trans h2.symm)
 ·cases hq
theorem F8 {c:ChD} {i m k:Nat} (hk:(xM (mask c i))[m]? =some k) (hn:k<c.states.length):(kp c i m).set k (benN c i k||| 2^i)=kp c i (m+1):=by
 apply LQ;intro j;rw[Ln,ko];by_cases hj:j<c.states.length
 ·unfold kp;rw[K5,Lx hj,K5,Lx hj,Kv,hk];simp only[Kg,Nx,Kt,Km];by_cases e:k=j
  ·subst e;simp[hn]
  ·rw[KZ e];simp[MJ e]
 ·rw[K7 (by rw[ko];omega),K7 (by rw[ko];omega)];by_cases e:k=j
  ·omega
  ·rw[KZ e]
theorem F7 (c:ChD):(vh c 0).map iW=List.replicate c.states.length [.lit (.int .u32 0)]:=by
 rw[<-uf];unfold vh lA
 congr 1
theorem CM {c:ChD} (h:Right c) {i m k:Nat} (hk:(xM (mask c i))[m]? =some k):k<i:=by
 have:=(tK.1 (K1 hk)).2;rw[rO h,K6]at this;have:=jg h 40 _ _ this;omega
theorem yp {c:ChD} (h:Right c):(walkL c (-1)).length<=c.states.length:=by
 have:=(jV h 40 (-1) (by omega) (by have:=h.few;omega)).length_le_of_subset (l₂:=List.range c.states.length) fun m hm=>Kr.2 ((jG h m).1 hm);simpa using this
def x9 (c:ChD):List Nat:=rankAll (walkL c (-1)) 0 (List.replicate c.states.length 0)
def aP (c:ChD):AV:= .ref 7 [[.seq 1 (c.states.map fun s=>[I s.parent]), .seq 1 (c.states.map fun s=>[I s.kind]), .seq 1 ((lA c c.states.length).map iW), .seq 1 ((vh c c.states.length).map iW), .seq 1 ((x9 c).map aB), .seq 1 ((walkL c (-1)).map aB), .lit (.int .u32 (cV c c.states.length))]] 0 0
end
section
open Go.RowKit
theorem GC (env:Env) (a1 a8:Addr) (he:ChEnv env a1 a8) (hT: ∀W,env.inv W->TabAt W) (c:ChD) (hc:Right c) (hch:pu a1 a8 c= .lit .nilIface) (hcf:i6 c):Con prog env 65 [.agg (aA c)] (.tuple [aP c, .lit .nilIface]):=by
 have hlen:=hc.few;have f0:=BK env a1 a8 he c hcf;rw[hch]at f0;refine wN func65 rfl call65 (by rw[ntmps65];simp) ?_;rw[ntmps65,results65];have F:=aA.eq_1;refine bf ?_;repeat refine tz1 f0 ?_
 refine bf ?_;repeat refine tz1 f0 ?_
 refine bf ?_;repeat refine tz1 f0 ?_
 have m0: ¬(c.states.length:Int)<0:=by omega
 have m1: ¬(16777216:Int)< (c.states.length:Int):=by omega
 have m2: ¬(281474976710656:Int)<4*(c.states.length:Int):=by omega
 have m3: ¬(281474976710656:Int)<8*(c.states.length:Int):=by omega
 have F:=ai5 aA.eq_1 m0 m1 m2 m3;refine bf ?_;repeat refine tz1 f0 ?_
 refine bf ?_;repeat refine tz1 f0 ?_
 refine nC 28 9000 0 0 3 1 ?_;refine nC 28 9001 0 1 3 1 ?_
 refine aK (D:=Nat) (fun i vs'=>[(1, .loc 1 (vs' 1) 0 0),(6, .loc 6 (vs' 6) 0 0),(30,stsAV c.states),(31,I c.states.length),(32,I i)])
  (fun i vs'=>[(1,⟨5,[aA c],26,false⟩),(6,⟨1,[[.loc 28 (vs' 28) 0 0]],138,false⟩),(28,⟨7,[[.row 9000 (vs' 9000), .row 9001 (vs' 9001), .row 22 (vs' 22), .row 24 (vs' 24), .row 26 (vs' 26),nilS, .lit (.int .u32 (cV c i))]],212,false⟩),
   (22,⟨1,(lA c i).map iW,210,true⟩),(24,⟨1,List.replicate c.states.length [.lit (.int .u32 0)],210,true⟩),(26,⟨1,List.replicate c.states.length [I 0],3,true⟩),
   (9000,⟨1,(c.states.take i).map fun s=>[I s.parent],3,true⟩),(9001,⟨1,(c.states.take i).map fun s=>[I s.kind],3,true⟩)])
  (fun i vs' esc'=>i<=c.states.length/\esc' 22=false/\esc' 24=false/\esc' 26=false/\esc' 28=false/\esc' 9000=false/\esc' 9001=false) (fun i=>c.states.length-i) 0 ?_ ?_ ?_ ?_
 ·refine⟨Ke _,?_,?_,?_,?_,?_,?_⟩<;>simp only[go_sem]
 ·exact qe
 ·have F:=ai aA.eq_1 cV.eq_1
  (simp only[go_sem,F])
  rw[uf]
 rintro i ws esc ⟨hi,e0,e1,e2,e3,e4,e5⟩;by_cases hlt:i<c.states.length
 ·obtain⟨s,hs,_⟩:=aQ hlt;have g1:=nlt hlt;have g2:=aD hlt (by omega);have f1:=gI env c i (by omega);have hpar:=hc.par i s hs;have hf:Fits (i+1) 8:=⟨by omega,by omega⟩;have hti:(c.states.take i).length=i:=by rw[Kf];omega
  have htk:c.states.take (i+1)=c.states.take i++[s]:=by rw[Kv,hs];rfl
  have hmi:=je (c:=c) (i:=i) hlt;rw[KZ (Nat.lt_irrefl i)]at hmi
  have hl:cV c (i+1)=if B9 c i s then cV c i||| 2^i else cV c i:=by
   show (match c.states[i]? with|some s=>if B9 c i s then cV c i||| 2^i else cV c i|none=>cV c i)=_;rw[hs]
  have g6:=xb (a:=cV c i) (b:=2^i) (mT (by omega)) (ib i (by omega));have g7:=qo (p:=i) (by omega);by_cases hp:0<=s.parent
  ·obtain⟨p,hp⟩: ∃p:Nat,s.parent=p:=⟨s.parent.toNat,by omega⟩;have hmp:=je (c:=c) (i:=i) (j:=p) (by omega);rw[K0 (by omega)]at hmp;have g3:((p:Nat):Int)< (c.states.length:Int):=by omega
   have g4:=qo (p:=p) (by omega)
   have hnx:mask c i=mask c p||| 2^p:=by
    have:=uj hc (aW.2 hlt);rw[dh hs,hp]at this;rw[this,K0 (by omega),Lj]
   have g5:=xb (a:=mask c p) (b:=2^p) (ln hc (by omega)) (ib p (by omega));rw[<-hnx]at g5;have hms:=zU (c:=c) hlt;cases q4:(s.kind != 4)<;>cases q5:(s.kind != 5)<;>cases q0:(((kidsL c i true).length:Int)==0);all_goals have F:=ai12 aA.eq_1 aL.eq_1 g1 g2 g6 g7 hs hp hf hti hmi<|ai12 @dM iW.eq_1 q4 q5 q0 e0 e1 e2 e3 e4 e5<|ai4 g3 g4 g5 hmp
   all_goals (repeat refine tz1 f1 ?_)
   all_goals (refine⟨i+1,⟨hlt,?_,?_,?_,?_,?_,?_⟩,?_,?_,by omega⟩)
   all_goals (first|(show _=false;simp only[go_sem,e0,e1,e2,e3,e4,e5];done)|skip)
   all_goals have F:=ai12 aA.eq_1 aL.eq_1 g1 g2 g6 g7 hs hp hf hti hmi<|ai12 @dM iW.eq_1 q4 q5 q0 e0 e1 e2 e3 e4 e5<|ai9 g3 g4 g5 hmp hl B9.eq_1 htk @Ki.{0,0} @NX.{0,0}
   all_goals ((simp only[go_sem, <-hms,F]))
  ·have hp:s.parent= -1:=by omega
   have hm0:mask c i=0:=by
    have:=uj hc (aW.2 hlt);rw[dh hs,hp]at this;rw[this,KZ (by omega)]
   have hms:=Em hlt hm0;cases q4:(s.kind != 4)<;>cases q5:(s.kind != 5)<;>cases q0:(((kidsL c i true).length:Int)==0);all_goals have F:=ai12 aA.eq_1 aL.eq_1 g1 g2 g6 g7 hs hp hf hti hmi<|ai11 @dM iW.eq_1 q4 q5 q0 e0 e1 e2 e3 e4 e5
   all_goals (repeat refine tz1 f1 ?_)
   all_goals (refine⟨i+1,⟨hlt,?_,?_,?_,?_,?_,?_⟩,?_,?_,by omega⟩)
   all_goals (first|(show _=false;simp only[go_sem,e0,e1,e2,e3,e4,e5];done)|skip)
   all_goals have F:=ai12 aA.eq_1 aL.eq_1 g1 g2 g6 g7 hs hp hf hti hmi<|ai12 @dM iW.eq_1 q4 q5 q0 e0 e1 e2 e3 e4 e5<|ai5 hl B9.eq_1 htk @Ki.{0,0} hms
   all_goals ((simp only[go_sem,F]))
 obtain rfl:i=c.states.length:=by omega
 have g1:=nl c.states.length;have hta:c.states.take c.states.length=c.states:=Kp;have F:=ai9 aA.eq_1 g1 e0 e1 e2 e3 e4 e5 hta;repeat refine tz1 f0 ?_
 refine tM ?_;refine bf ?_;repeat refine tz1 f0 ?_
 refine mF ?_
 refine Fb (D:=Nat) (fun i vs'=>[(1, .loc 1 (vs' 1) 0 0),(6, .loc 6 (vs' 6) 0 0),(108, .row 22 (vs' 22)),(109,I c.states.length),(110,I i)])
  (fun i vs'=>[(1,⟨5,[aA c],26,false⟩),(6,⟨1,[[.loc 28 (vs' 28) 0 0]],138,false⟩),(28,⟨7,[[.row 9000 (vs' 9000), .row 9001 (vs' 9001), .row 22 (vs' 22), .row 24 (vs' 24), .row 26 (vs' 26),nilS, .lit (.int .u32 (cV c c.states.length))]],212,false⟩),
   (22,⟨1,(lA c c.states.length).map iW,210,true⟩),(24,⟨1,(vh c i).map iW,210,true⟩),(26,⟨1,List.replicate c.states.length [I 0],3,true⟩),
   (9000,⟨1,c.states.map fun s=>[I s.parent],3,true⟩),(9001,⟨1,c.states.map fun s=>[I s.kind],3,true⟩)])
  (fun i vs' esc'=>i<=c.states.length/\esc' 22=false/\esc' 24=false/\esc' 26=false/\esc' 28=false/\esc' 9000=false/\esc' 9001=false) (fun i=>c.states.length-i) 0 ?_ ?_ ?_ ?_
 ·refine⟨Ke _,?_,?_,?_,?_,?_,?_⟩<;>simp only[go_sem,e0,e1,e2,e3,e4,e5]
 ·have F:=@dM;exact qe
 ·have F:=ai aA.eq_1 hta
  (simp only[go_sem,F])
  rw[F7]
 try clear e0 e1 e2 e3 e4 e5
 rintro i ws esc ⟨hi,e0,e1,e2,e3,e4,e5⟩;by_cases hlt:i<c.states.length
 ·have g1:=nlt hlt;have g2:=aD hlt (by omega);have hm:=je (c:=c) (i:=c.states.length) hlt;rw[K0 hlt]at hm;have F:=ai12 aA.eq_1 g1 g2 hm @dM iW.eq_1 e0 e1 e2 e3 e4 e5;refine bf ?_;repeat refine tz1 f0 ?_
  refine bf ?_;repeat refine tz1 f0 ?_
  refine tM ?_;refine mF ?_;refine bf ?_;repeat refine tz1 f0 ?_
  refine bf ?_;repeat refine tz1 f0 ?_
  refine mF ?_
  refine CQ (D:=Unit) (f:=118) (first:= #[.int .u32 (mask c i)]) (ks:=(setOf (mask c i)).map (Value.int .i64))
   (fun m _ vs'=>[(1,⟨5,[aA c],26,false⟩),(6,⟨1,[[.loc 28 (vs' 28) 0 0]],138,false⟩),(9,⟨1,[[I i]],3,false⟩),(28,⟨7,[[.row 9000 (vs' 9000), .row 9001 (vs' 9001), .row 22 (vs' 22), .row 24 (vs' 24), .row 26 (vs' 26),nilS, .lit (.int .u32 (cV c c.states.length))]],212,false⟩),
    (22,⟨1,(lA c c.states.length).map iW,210,true⟩),(24,⟨1,(kp c i m).map iW,210,true⟩),(26,⟨1,List.replicate c.states.length [I 0],3,true⟩),
    (9000,⟨1,c.states.map fun s=>[I s.parent],3,true⟩),(9001,⟨1,c.states.map fun s=>[I s.kind],3,true⟩)])
   (fun m _ vs' esc'=>(vs' 1=ws 1/\vs' 6=ws 6/\vs' 22=ws 22/\vs' 9=ws 9+1)/\esc' 22=false/\esc' 24=false/\esc' 26=false/\esc' 28=false/\esc' 9000=false/\esc' 9001=false) ()
   (by simp only[go_sem,hm,iW]) (by decide) ((Bs (mask c i) (ln hc (by omega))).mono hT) ?_ ?_ ?_ ?_
  ·refine⟨⟨?_,?_,?_,?_⟩,?_,?_,?_,?_,?_,?_⟩<;>simp only[go_sem,e0,e1,e2,e3,e4,e5]
  ·(simp only[go_sem,F])
   rw[CK]
  ·rintro m _ v vs' esc' -⟨⟨q1,q2,q3,q4⟩,e0,e1,e2,e3,e4,e5⟩ hk
   obtain⟨k,hkL,rfl⟩: ∃k,(xM (mask c i))[m]? =some k/\v= .int .i64 (k:Nat):=by
    rw[qp,Mk,K5]at hk;obtain⟨k,h1,h2⟩:=L1.1 hk;exact⟨k,h1,h2.symm⟩
   have hki:=CM hc hkL;have g3:((k:Nat):Int)< (c.states.length:Int):=by omega
   have hb:=HR hkL (by omega);have hs:=F8 hkL (by omega);have g4:=qo (p:=i) (by omega);have g5:=xb (a:=benN c i k) (b:=2^i) (sJ k (by omega)) (ib i (by omega));have F:=ai12 aA.eq_1 q1 q2 q3 q4 g3 g4 g5 hb @ko iW.eq_1<|ai6 e0 e1 e2 e3 e4 e5;repeat refine st ?_
   refine⟨(),⟨⟨?_,?_,?_,?_⟩,?_,?_,?_,?_,?_,?_⟩,?_⟩;all_goals (first|(simp only[go_sem,q1,q2,q3,q4,e0,e1,e2,e3,e4,e5];done)|skip)
   have F:=ai7 aA.eq_1 q1 q2 q3 q4 @NX.{0,0} iW.eq_1
   (simp only[go_sem, <-hs,F])
  ·rintro _ vs' esc' -⟨⟨q1,q2,q3,q4⟩,e0,e1,e2,e3,e4,e5⟩;have hks:(setOf (mask c i)).length=(xM (mask c i)).length:=by rw[qp,Kl]
   have hall:=F9 (c:=c) hlen i;refine xQ ?_;have F:=ai7 aA.eq_1 q1 q2 q3 q4 g1 g2;repeat refine st ?_
   refine⟨i+1,⟨hlt,?_,?_,?_,?_,?_,?_⟩,?_,?_,by omega⟩;all_goals (first|(show _=false;simp only[go_sem,e0,e1,e2,e3,e4,e5];done)|skip)
   ·have F:=ai5 aA.eq_1 q1 q2 q3 q4;exact qe
   ·have F:=ai7 aA.eq_1 q1 q2 q3 q4 hks hall;exact qe
 ·obtain rfl:i=c.states.length:=by omega
  have g1:=nl c.states.length;have F:=ai8 aA.eq_1 g1 e0 e1 e2 e3 e4 e5;refine bf ?_;repeat refine st ?_
  refine bf ?_;repeat refine st ?_
  refine xQ ?_;refine nC 28 9002 0 5 3 1 ?_;refine be [(9000,⟨1,c.states.map fun s=>[I s.parent],3,true⟩),(9001,⟨1,c.states.map fun s=>[I s.kind],3,true⟩),(22,⟨1,(lA c c.states.length).map iW,210,true⟩),(24,⟨1,(vh c c.states.length).map iW,210,true⟩)] ?_ ?_
  ·exact qe
  refine nc [(1, .loc 1 (ws 1) 0 0),(6, .loc 6 (ws 6) 0 0)] [(1,⟨5,[aA c],26,false⟩),(6,⟨1,[[.loc 28 (ws 28) 0 0]],138,false⟩),(28,⟨7,[[.seq 1 (c.states.map fun s=>[I s.parent]), .seq 1 (c.states.map fun s=>[I s.kind]), .seq 1 ((lA c c.states.length).map iW), .seq 1 ((vh c c.states.length).map iW), .row 26 (ws 26), .row 9002 (ws 9002+1), .lit (.int .u32 (cV c c.states.length))]],212,false⟩),
   (26,⟨1,List.replicate c.states.length [I 0],3,true⟩),(9002,⟨1,[],3,true⟩)] ?_ ?_ ?_
  ·exact qe0
  ·have F:=aA.eq_1;exact qe
  have hwl:=yp hc
  have f1:xt prog env 119 c (c.states.map fun s=>[I s.parent]) (c.states.map fun s=>[I s.kind]) ((lA c c.states.length).map iW) ((vh c c.states.length).map iW) (.int .u32 (cV c c.states.length)) (-1) [] (List.replicate c.states.length 0):=
   yq env c hc _ _ _ _ _ 40 (-1) [] (List.replicate c.states.length 0) (by omega) (by omega) (by simp) (by simp;omega)
  unfold xt at f1;have F:=ai10 aA.eq_1 TR.eq_1 aB.eq_1 @List.map_replicate.{0,0} e0 e1 e2 e3 e4 e5;repeat refine st ?_
  refine iL [(1000,28),(1001,26),(1002,9002)] f1 ?_;repeat refine st ?_
  refine be [(26,⟨1,(x9 c).map aB,3,true⟩),(9002,⟨1,(walkL c (-1)).map aB,3,true⟩)] ?_ ?_
  ·have F:=x9.eq_1;exact qe
  refine nc [(2, .loc 28 (ws 28) 0 0),(3, .lit .nilIface)] [(28,⟨7,[[.seq 1 (c.states.map fun s=>[I s.parent]), .seq 1 (c.states.map fun s=>[I s.kind]), .seq 1 ((lA c c.states.length).map iW), .seq 1 ((vh c c.states.length).map iW), .seq 1 ((x9 c).map aB), .seq 1 ((walkL c (-1)).map aB), .lit (.int .u32 (cV c c.states.length))]],212,false⟩)] ?_ ?_ ?_
  ·exact qe0
  ·have F:=aA.eq_1;exact qe
  (refine aN ?_;refine⟨_,(by show (an _ _ _).run _=some _;simp only[go_sem];rfl),?_⟩)
  exact ge.refl _
end
section
open Go.RowKit
abbrev U32 (m:Nat):AV:= .lit (.int .u32 m)
theorem yu (env:Env) (c:ChD):Con prog env 210 [aP c] (I c.states.length):=by
 refine qf func210 call210 ntmps210 results210 ?_;have F:=aP.eq_1;repeat refine st ?_
 exact aR
theorem qd (env:Env) (c:ChD) (i:Int):Con prog env 126 [aP c,I i] (B (inZ c i)):=by
 have f0:=yu env c;refine qf func126 call126 ntmps126 results126 ?_;unfold inZ;by_cases h0:0<=i
 ·by_cases h1:i< (c.states.length:Int)
  ·have F:=ai h0 h1;repeat refine tz1 f0 ?_
   exact aR
  ·have F:=ai h0 h1;repeat refine tz1 f0 ?_
   exact aR
 ·have F:=h0;repeat refine tz1 f0 ?_
  exact aR
theorem wV (env:Env) (c:ChD) (hc:Right c) (i:Int):Con prog env 153 [aP c,I i] (.own 3 1 ((upL c i).map fun k=>[I k])):=by
 have hlen:=hc.few;refine qf func153 call153 ntmps153 results153 ?_;repeat refine st0 ?_
 refine aZ 5 5 3 1 ?_;have hul:(upL c i).length<=40:=mh 40 i;refine lp0 (D:=Int×List Int) (fun d vs=>[(0,aP c),(1,I d.1),(5, .row 5 (vs 5))]) (fun d _=>[(5,⟨1,d.2.map fun k=>[I k],3,true⟩)]) (fun d _ esc=>upL c i=d.2++upL c d.1/\esc 5=false) (fun d=>(d.1+1).toNat) (i,[]) ⟨rfl,rfl⟩ ?_;rintro⟨d,l⟩ ws esc ⟨hu,e0⟩;simp only at hu;have f0:=qd env c d;cases hz:inZ c d with
 | false=>
   rw[cE hz,Lm]at hu;rw[hz]at f0;have F:=ai hu e0;repeat refine tz1 f0 ?_
   exact aR
 | true=>
   obtain⟨k,s,rfl,hs,ha⟩:=dD hz;have hp:=dh hs;have hlt:=dH hc hz;rw[hp]at hlt;rw[qb hc hz,hp]at hu;rw[hz]at f0
   have hl:l.length+1<=40:=by
    have:=Kx List.length hu;rw[K4,Kj]at this;omega
   have g1:((k:Nat):Int)< (c.states.length:Int):=by have:=(aI.1 hz).2;omega
   have hf:Fits (l.length+1) 8:=⟨by omega,by omega⟩;have F:=ai5 aP.eq_1 g1 hs hf e0;repeat refine tz1 f0 ?_
   refine⟨(s.parent,l++[s.parent]),⟨?_,?_⟩,?_,?_,?_⟩
   ·show upL c i=(l++[s.parent])++upL c s.parent;rw[hu,LV];rfl
   ·show _=false;simp only[go_sem,e0]
   ·have F:=aP.eq_1;exact qe
   ·have F:=ai aP.eq_1 @Ki.{0,0};exact qe
   ·show (s.parent+1).toNat< ((k:Int)+1).toNat;omega
theorem yv (env:Env) (m:Nat) (hm:m<4294967296) (k:Nat) (hk:k<32):Con prog env 211 [U32 m,I k] (B (m.testBit k)):=by
 have hq:m/2^k<4294967296:=Nat.lt_of_le_of_lt (Nat.div_le_self ..) hm
 have g0:((m:Int)).fdiv (2^min k 32)=((m/2^k:Nat):Int):=by
  rw[show min k 32=k by omega,show ((2:Int)^k)=((2^k:Nat):Int) by rw[O2];rfl];exact(PH _ _).symm
 have g1:sH .and .u32 ((m/2^k:Nat):Int) 1=((m/2^k%2:Nat):Int):=by
  have:=u32_and (m/2^k) 1 hq (by decide);rw[Nat.and_one_is_mod]at this;exact this
 have g2:((((m/2^k%2:Nat):Int))==1)=m.testBit k:=by
  rw[<-Dk];rcases Nat.mod_two_eq_zero_or_one (m/2^k) with h|h<;>rw[h]<;>rfl
 refine qf func211 call211 ntmps211 results211 ?_;have F:=ai3 g0 g1 g2;repeat refine st ?_
 exact aR
def nG (m:Nat) (l:List Nat) (j:Nat):List Nat:=(l.take j).filter fun k=>m.testBit k
theorem E8 {m:Nat} {l:List Nat} {j k:Nat} (h:l[j]? =some k):nG m l (j+1)=if m.testBit k then nG m l j++[k] else nG m l j:=by
 unfold nG;rw[Kv,h,LL];cases hb:m.testBit k<;>simp[hb]
theorem GR (m:Nat) (l:List Nat) (j:Nat):(nG m l j).length<=l.length:=by
 unfold nG;exact Kh (Kw ..) (by rw[Kf];omega)
theorem xx (env:Env) (c:ChD) (hc:Right c) (m:Nat) (hm:m<4294967296):Con prog env 127 [aP c,U32 m] (.own 3 1 (((walkL c (-1)).filter fun k=>m.testBit k).map aB)):=by
 have hlen:=hc.few;have hwl:=yp hc;have htop:=jG hc;refine qf func127 call127 ntmps127 results127 ?_;have F:=aP.eq_1;repeat refine st ?_
 generalize walkL c (-1)=W at*;refine aZ 5 5 3 1 ?_;refine aK (D:=Nat) (fun j vs=>[(1,U32 m),(5, .row 5 (vs 5)),(13, .seq 1 (W.map aB)),(14,I W.length),(15,I j)]) (fun j _=>[(5,⟨1,(nG m W j).map aB,3,true⟩)]) (fun j _ esc=>j<=W.length/\esc 5=false) (fun j=>W.length-j) 0 ?_ ?_ ?_ ?_
 ·exact⟨Ke _,rfl⟩
 ·exact qe
 ·(simp only[go_sem,F])
  rfl
 rintro j ws esc ⟨hj,e0⟩;by_cases hlt:j<W.length
 ·obtain⟨k,hk⟩:=gE hlt;have hk32:k<32:=by have:=(htop k).1 (K1 hk);omega
  have f0:=yv env m hm k hk32;have g1:=nlt hlt;have g2:=aD hlt (by omega);have hpl:=GR m W j;have hf:Fits ((nG m W j).length+1) 8:=⟨by omega,by omega⟩;have hn:=E8 (m:=m) hk;cases hb:m.testBit k with
  | true=>
    rw[hb]at f0;rw[hb,K0 rfl]at hn;have F:=ai6 g1 g2 hk aB.eq_1 hf e0;repeat refine tz1 f0 ?_
    refine⟨j+1,⟨hlt,by simp only[go_sem,e0]⟩,?_,?_,by omega⟩
    ·exact qe
    ·have F:=ai3 hn aB.eq_1 @Ki.{0,0};exact qe
  | false=>
    rw[hb]at f0;rw[hb,KZ LY]at hn;have F:=ai6 g1 g2 hk aB.eq_1 hf e0;repeat refine tz1 f0 ?_
    refine⟨j+1,⟨hlt,by simp only[go_sem,e0]⟩,?_,?_,by omega⟩
    ·exact qe
    ·have F:=ai3 hn aB.eq_1 @Ki.{0,0};exact qe
 ·obtain rfl:j=W.length:=by omega
  have g1:=nl W.length;have hall:nG m W W.length=W.filter fun k=>m.testBit k:=by unfold nG;rw[Kp]
  have F:=ai3 g1 hall e0;repeat refine st ?_
  exact aR
def Cz (l:List Int) (j:Nat):Nat:=(l.take j).foldl (fun m k=>m||| 2^k.toNat) 0
theorem Eg {l:List Int} {j:Nat} {k:Int} (h:l[j]? =some k):Cz l (j+1)=Cz l j||| 2^k.toNat:=by
 unfold Cz;rw[Kv,h,Og];rfl
theorem tB: ∀(l:List Int) (m b:Nat),(l.foldl (fun m k=>m||| 2^k.toNat) m).testBit b=(m.testBit b||l.any fun k=>k.toNat==b)
 |[],m,b=>by simp
 | k::l,m,b=>by
   rw[O0,tB l,OG,NQ,Mv,Bool.or_assoc];rfl
theorem rC {c:ChD} (hc:Right c) {l:List Int} : ∀ {j:Nat},(∀k∈l.take j,inZ c k=true)->Cz l j<4294967296:=fun {j} h=>by
 have hlen:=hc.few;apply Nat.lt_pow_two_of_testBit (n:=32);intro b hb;unfold Cz;rw[tB,Nat.zero_testBit,Lu,NA];intro k hk;have:=aI.1 (h k hk);simp;omega
theorem Eh {c:ChD} {l:List Int} (h:l.all (inZ c)=true):((walkL c (-1)).filter fun k=>(Cz l l.length).testBit k)=sortL c l:=by
 unfold sortL;rw[K0 h];apply MZ;intro k _;unfold Cz;rw[tB,Nat.zero_testBit,Lu,Kp,LD,L8,K3];constructor
 ·rintro⟨x,h1,h2⟩;have:=(aI.1 (K2.1 h x h1)).1;have h2:x.toNat=k:=by simpa using h2
  rw[show (k:Int)=x by omega];exact h1
 ·exact fun h1=>⟨k,h1,by simp⟩
theorem GE {c:ChD} {l:List Int} {j:Nat} {k:Int} (h:(l.take j).all (inZ c)=true) (hk:l[j]? =some k) (hz:inZ c k=true):(l.take (j+1)).all (inZ c)=true:=by
 rw[Kv,hk,Nt,h];simp[hz]
theorem GI {c:ChD} {l:List Int} {j:Nat} {k:Int} (hk:l[j]? =some k) (hz:inZ c k=false):sortL c l=[]:=by
 unfold sortL;rw[KZ];intro h;have:=K2.1 h k (K1 hk);rw[hz]at this;cases this
abbrev intAV (k:Int):List AV:=[I k]
theorem eu (env:Env) (c:ChD) (hc:Right c) (l:List Int) (hl:l.length<=1000000):Con prog env 69 [aP c, .seq 1 (l.map intAV)] (.own 3 1 ((sortL c l).map aB)):=by
 have hlen:=hc.few;refine qw func69 call69 ntmps69 results69 ?_;repeat refine st0 ?_
 refine aK (D:=Nat) (fun j _=>[(0,aP c),(5,U32 (Cz l j)),(8, .seq 1 (l.map intAV)),(9,I l.length),(10,I j)]) (fun _ _=>[]) (fun j _ _=>j<=l.length/\(l.take j).all (inZ c)=true) (fun j=>l.length-j) 0 ?_ ?_ ?_ ?_
 ·exact⟨Ke _,rfl⟩
 ·(simp only[go_sem])
  rfl
 ·exact qe0
 rintro j ws esc ⟨hj,hall⟩;by_cases hlt:j<l.length
 ·obtain⟨k,hk⟩:=gE hlt;have g1:=nlt hlt;have g2:=aD hlt (by omega);have f0:=qd env c k;cases hz:inZ c k with
  | false=>
    rw[hz]at f0;have F:=ai3 g1 g2 hk;repeat refine tz1 f0 ?_
    (refine aN ?_;refine⟨_,(by show (an _ _ _).run _=some _;simp only[go_sem,F];rfl),?_⟩)
    rw[GI hk hz];exact ge.own_nil _ _ (by decide)
  | true=>
    rw[hz]at f0;have hr:=aI.1 hz;obtain⟨p,rfl⟩: ∃p:Nat,k=p:=⟨k.toNat,by omega⟩;have g3:=qo (p:=p) (by omega);have hsm:=rC hc (j:=j) (fun k hk=>K2.1 hall k hk);have g4:=xb hsm (ib p (by omega));have hn:=Eg hk;rw[Lj]at hn;have F:=ai5 g1 g2 g3 g4 hk;repeat refine tz1 f0 ?_
    refine⟨j+1,⟨hlt,GE hall hk hz⟩,?_,?_,by omega⟩
    ·have F:=ai6 g1 g2 g3 g4 hk hn;exact qe
    ·(simp only[go_sem,g1,g2,g3,g4,hk,hn])
 ·obtain rfl:j=l.length:=by omega
  have g1:=nl l.length;have hsm:=rC hc (j:=l.length) (fun k hk=>K2.1 hall k hk);rw[Kp]at hall;have f1:=xx env c hc _ hsm;rw[Eh hall]at f1;have F:=g1;repeat refine tz1 f1 ?_
  (refine aN ?_;refine⟨_,(by show (an _ _ _).run _=some _;simp only[go_sem,F];rfl),?_⟩)
  exact ge.refl _
end
section
open Go.RowKit Go.Sort Go.Shelf Go.Lib
def flagA (n:Nat) (act:List Int):List (List AV):=(List.range n).map fun k:Nat=>[B (act.contains (k:Int))]
theorem eH (n:Nat) (act:List Int):(flagA n act).length=n:=by unfold flagA;simp
theorem jf {n:Nat} {act:List Int} {k:Nat} (hk:k<n):(flagA n act)[k]? =some [B (act.contains (k:Int))]:=by
 unfold flagA;rw[K5,Lx hk];rfl
theorem FP (n:Nat):List.replicate n [B false]=flagA n []:=by
 unfold flagA;apply LQ;intro j;rw[K5];by_cases h:j<n
 ·rw[Lx h,List.getElem?_replicate_of_lt h];rfl
 ·rw[K7 (by simp;omega),K7 (by simp;omega)];rfl
theorem zp {n:Nat} {act:List Int} {i:Int} (h: ∀k:Nat,k<n->(k:Int)≠i):flagA n (act++[i])=flagA n act:=by
 unfold flagA;apply MF;intro k hk;have:=h k (Kr.1 hk);simp;exact fun e=>absurd e this
theorem Gn {n:Nat} {act:List Int} {k:Nat} (hk:k<n):(flagA n act).set k [B true]=flagA n (act++[(k:Int)]):=by
 apply LQ;intro j;by_cases hj:j<n
 ·rw[jf hj];by_cases e:k=j
  ·subst e;rw[NV (by rw[eH];exact hk)];simp
  ·rw[NJ e,jf hj];simp;exact fun e2=>absurd (by omega) e
 ·rw[K7 (by rw[MV,eH];omega),K7 (by rw[eH];omega)]
theorem wo {act:List Int} {ks:List Nat} {j k:Nat} (hk:ks[j]? =some k):manyI act (ks.take (j+1))=manyI act (ks.take j)+if act.contains (k:Int)=true then 1 else 0:=by
 unfold manyI;rw[Kv,hk,LL,K4];simp only[Nx,MO,Oz];split<;>rfl
theorem eB (l:List Nat):(zL l).map intAV=l.map aB:=by simp only[zL,Mk];rfl
theorem bg (l:List Nat):(zL l).length=l.length:=Kl ..
theorem A7 {l:List Nat} {j k:Nat} (h:l[j]? =some k):(zL l)[j]? =some (k:Int):=by unfold zL;rw[K5,h];rfl
/-! slices.Sort of ints -/
def r6 (k:Int):List Value:=[.int .i64 k]
def bS (l:List Int):List Int:=l.mergeSort fun x y=>decide (x<=y)
theorem r8 {w:World} {g:Nat} {l:List Int} (h:Holds id w g 0 (l.map (Value.int .i64)).toArray):Holds (Value.int .i64) w g 0 l.toArray:=fun j hj=>by
 have hj':j<l.length:=by simpa using hj
 have:=h j (by simpa using hj');rw[Mw _ j (by simpa using hj')]at this;rw[Mw _ j hj];simpa using this
theorem Tryz.sortIEnter: ∀(args:Array Value) (w:World),(callFunc 246 args).run prog w= .ok (.enter 246 args) w:=O7 func246 (by kernel_rfl) rfl
theorem oz (l:List Int) (hl:l.length<4611686018427387904):Turns prog 246 [] 3 1 (l.map r6) ((bS l).map r6):=by
 by_cases h0:l=[]
 ·subst h0;rw[show bS []=[] by simp[bS]];exact l6 Tryz.sortIEnter fun p cap w=>Any.slices_Sort_int_none Tryz.sortI p cap w
 ·refine jY (by rw[Kl];exact MG.2 h0) Tryz.sortIEnter (by simp[bS]) (fun x hx=> ?_) (fun x hx=> ?_) fun w g cap hH hg=> ?_
  ·obtain⟨y,_,rfl⟩:=K9.1 hx;rfl
  ·obtain⟨y,_,rfl⟩:=K9.1 hx;exact⟨rfl,fun u hu=>by rw[Km.1 hu];rfl⟩
  ·have hH:Holds id w g 0 (l.map (Value.int .i64)).toArray:=by rw[<-dN];exact hH
   have:=Any.slices_Sort_int Tryz.sortI g 0 cap l w (r8 hH) hg hl;rw[Kl];refine(show Calls prog 246 #[.slice (some ⟨g,0,none⟩) l.length cap] w _ from this).mono ?_;rintro ex w' ⟨rfl,n,os,rfl⟩;refine⟨rfl,n,os,?_⟩;rw[iz,show ((bS l).map r6).flatten=(bS l).map (Value.int .i64) from dN (Value.int .i64) _];simp[bS]
end
section
open Go.RowKit
def av (c:ChD) (i:Int):Bool:=match at_ c i with
 |some s=>s.kind==1
 |none=>false
def lF (c:ChD) (i:Int):Int:=match at_ c i with
 |some s=>s.initial
 |none=> -1
def aboveB (c:ChD) (k i:Int):Bool:=(upL c i).contains k
def Bu (c:ChD) (tg i:Int):Bool:=decide (i<0)||(av c i&&aboveB c i tg)
def domE (c:ChD) (src tg:Int):Int:=((upL c src).find? (Bu c tg)).getD (-1)
theorem vJ {α:Type} {p:α->Bool} {l:List α} {j:Nat} {x:α} (h:l[j]? =some x):(l.drop j).find? p=if p x=true then some x else(l.drop (j+1)).find? p:=by
 obtain⟨hj,rfl⟩:=KW.1 h;rw[M6 hj,List.find?_cons];cases p l[j]<;>rfl
abbrev kidZ (c:ChD) (i:Int):List Int:=zL (kidsL c i true)
theorem bK {c:ChD} (h:Right c) {i k:Int} (hk:k∈kidZ c i):inZ c k=true/\aO c k=i/\i<k:=by
 obtain⟨j,hj,rfl⟩:=K9.1 hk;obtain⟨s,hs,hp,_⟩:=xg hj;refine⟨aW.2 (KW.1 hs).1,by rw[dh hs,hp],?_⟩;have:=h.par j s hs;omega
theorem rX (c:ChD) (i:Int):(kidZ c i).Nodup:=by
 unfold kidZ zL;exact List.Pairwise.map _ (fun a b hne he=>hne (by omega)) (bI c i true)
/-! What comes with a state -/
def np (c:ChD) (l:List Int) (i:Int):List Int:=
 if av c i=true then(if (kidZ c i).any (fun k=>l.contains k)=true then [] else if 0<=lF c i then [lF c i] else []) else kidZ c i
def im (c:ChD) (l:List Int) (i:Int):List Int:=(np c l i).filter fun k=> !l.contains k
def iP (c:ChD):Nat->List Int->List Int->List Int
 |0,l,_=>l
 |_+1,l,[]=>l
 |f+1,l,i::r=>iP c f (l++im c l i) (r++im c l i)
def missL (c:ChD) (l:List Int):Nat:=((List.range c.states.length).filter fun k:Nat=> !l.contains (k:Int)).length
def growL (c:ChD) (l:List Int):List Int:=iP c (missL c l+l.length) l l
inductive Gr (c:ChD) (l:List Int):Int->Prop
 |base {x:Int} (h:x∈l):Gr c l x
 |ini {p:Int} (h:Gr c l p) (hp:av c p=true) (hn: ∀k∈kidZ c p,k∉l) (h0:0<=lF c p):Gr c l (lF c p)
 |par {p k:Int} (h:Gr c l p) (hp:av c p=false) (hk:k∈kidZ c p):Gr c l k
theorem kQ {c:ChD} (h:Full c) {p:Int} (hp:av c p=true) (h0:0<=lF c p):lF c p∈kidZ c p:=by
 unfold av at hp;unfold lF at h0 |-;cases ha:at_ c p with
 |none=>rw[ha]at hp;cases hp
 | some s=>
   rw[ha]at hp h0;simp only at hp h0 |-
   have hz:0<=p:=by
    unfold at_ at ha;split at ha
    ·assumption
    ·cases ha
   obtain⟨k,rfl⟩: ∃k:Nat,p=k:=⟨p.toNat,by omega⟩;rw[bH]at ha;have hk:s.kind=1:=by simpa using hp
   rcases h.cases ha with⟨_,h2|⟨j,hj,e⟩⟩|⟨e,_⟩|⟨e,_⟩|⟨e|e,_⟩
   ·omega
   ·rw[e];exact K9.2 ⟨j,hj,rfl⟩
   all_goals omega
theorem zR {c:ChD} (h:Full c) {l:List Int} {i k:Int} (hk:k∈np c l i):k∈kidZ c i:=by
 unfold np at hk;split at hk
 ·rename_i hp;split at hk
  ·cases hk
  ·split at hk
   ·rename_i h0;rw[Km.1 hk];exact kQ h hp h0
   ·cases hk
 ·exact hk
theorem eT {c:ChD} (h:Full c) {l:List Int} {i k:Int} (hk:k∈im c l i):k∉l/\inZ c k=true/\aO c k=i:=by
 obtain⟨h1,h2⟩:=Kb.1 hk;obtain⟨q1,q2,_⟩:=bK h.toRight (zR h h1);exact⟨by simpa using h2,q1,q2⟩
theorem rK (c:ChD) (l:List Int) (i:Int):(np c l i).Nodup:=by
 unfold np;split
 ·split
  ·exact PI
  ·split
   ·simp
   ·exact PI
 ·exact rX c i
theorem ej (c:ChD) (l:List Int) (i:Int):(im c l i).Nodup:=(rK c l i).sublist Lk
theorem rh {α:Type} (p q:α->Bool): ∀l:List α,(l.filter fun x=>p x&& !q x).length+(l.filter fun x=>p x&&q x).length=(l.filter p).length
 |[]=>rfl
 | x::l=>by
   have:=rh p q l;simp only[MO];cases p x<;>cases q x<;>simp<;>omega
theorem nJ {c:ChD} {l a:List Int} (hn:a.Nodup) (ha: ∀k∈a,k∉l/\inZ c k=true):missL c (l++a)+a.length<=missL c l:=by
 have e:=rh (fun k:Nat=> !l.contains (k:Int)) (fun k:Nat=>a.contains (k:Int)) (List.range c.states.length)
 have e1:missL c (l++a)=((List.range c.states.length).filter fun k:Nat=> !l.contains (k:Int)&& !a.contains (k:Int)).length:=by
  unfold missL
  congr 1
  apply MZ;intro k _;simp[List.contains_eq_mem]
 have e2:a.length<=((List.range c.states.length).filter fun k:Nat=> !l.contains (k:Int)&&a.contains (k:Int)).length:=by
  have:(a.map Int.toNat).Nodup:=by
   refine List.Pairwise.map (R:=fun x y=>x≠y/\0<=x/\0<=y) _ (fun x y hxy=>by omega) ?_;refine Np ?_ hn;intro x y hx hy hne;exact⟨hne,(aI.1 (ha x hx).2).1,(aI.1 (ha y hy).2).1⟩
  have:=this.length_le_of_subset (l₂:=(List.range c.states.length).filter fun k:Nat=> !l.contains (k:Int)&&a.contains (k:Int)) fun x hx=>by
   obtain⟨y,hy,rfl⟩:=K9.1 hx;obtain⟨y1,y2⟩:=ha y hy;have y3:=aI.1 y2;rw[Kb,Kr];have e:((y.toNat:Nat):Int)=y:=by omega
   refine⟨by omega,?_⟩;rw[e];simp[y1,hy]
  simpa using this
 unfold missL at e1 |-;omega
structure Grown (c:ChD) (l0 l t:List Int):Prop where
 sub: ∀x∈l0,x∈l
 todo: ∀x∈t,x∈l
 nd:t.Nodup
 gr: ∀x∈l,Gr c l0 x
 par: ∀x∈l,x∉l0->aO c x∈l/\aO c x∉t
 done: ∀p∈l,p∉t->(av c p=true->(∀k∈kidZ c p,k∉l0)->0<=lF c p->lF c p∈l)/\(av c p=false-> ∀k∈kidZ c p,k∈l)
theorem Grown.step {c:ChD} (h:Full c) {l0 l r:List Int} {i:Int} (g:Grown c l0 l (i::r)):Grown c l0 (l++im c l i) (r++im c l i):=by
 have hi:=g.todo i (by simp);obtain⟨n1,n2⟩:=M1.1 g.nd
 have old: ∀k∈kidZ c i,k∈l->k∈l0:=fun k hk hl=>M5 fun hn=>by
  have:=(g.par k hl hn).2;rw[(bK h.toRight hk).2.1]at this;exact this (by simp)
 have hgr: ∀x∈im c l i,Gr c l0 x:=fun x hx=>by
  obtain⟨h1,h2⟩:=Kb.1 hx;have h1':=h1;unfold np at h1;split at h1
  ·rename_i hp;split at h1
   ·cases h1
   ·rename_i hany;split at h1
    ·rename_i h0;rw[Km.1 h1];refine .ini (g.gr i hi) hp (fun k hk hl=>hany ?_) h0;rw[L8];exact⟨k,hk,by simpa using g.sub k hl⟩
    ·cases h1
  ·rename_i hp;exact .par (g.gr i hi) (by simpa using hp) h1
 refine⟨fun x hx=>LR _ (g.sub x hx),fun x hx=> ?_,?_,fun x hx=> ?_,fun x hx hn=> ?_,fun p hp hpt=> ?_⟩
 ·rcases Kt.1 hx with hx|hx
  ·exact LR _ (g.todo x (Lq _ hx))
  ·exact MW _ hx
 ·rw[ML];refine⟨n2,ej c l i,fun x hx y hy e=> ?_⟩;subst e;exact(eT h hy).1 (g.todo x (Lq _ hx))
 ·rcases Kt.1 hx with hx|hx
  ·exact g.gr x hx
  ·exact hgr x hx
 ·rcases Kt.1 hx with hx|hx
  ·obtain⟨q1,q2⟩:=g.par x hx hn;refine⟨LR _ q1,fun hh=> ?_⟩;rcases Kt.1 hh with hh|hh
   ·exact q2 (Lq _ hh)
   ·exact(eT h hh).1 q1
  ·obtain⟨q1,_,q3⟩:=eT h hx;rw[q3];refine⟨LR _ hi,fun hh=> ?_⟩;rcases Kt.1 hh with hh|hh
   ·exact n1 hh
   ·exact(eT h hh).1 hi
 ·have hpl:p∈l:=by
   rcases Kt.1 hp with hp|hp
   ·exact hp
   ·exact absurd (MW _ hp) hpt
  by_cases e:p=i
  ·subst e
   have key: ∀k∈np c l p,k∈l++im c l p:=fun k hk=>by
    by_cases hl:k∈l
    ·exact LR _ hl
    ·exact MW _ (Kb.2 ⟨hk,by simpa using hl⟩)
   refine⟨fun hpp hno h0=>key _ ?_,fun hpp k hk=>key k ?_⟩
   ·unfold np;rw[K0 hpp,KZ ?_,K0 h0]
    ·simp
    ·rw[L8];rintro⟨k,hk,hl⟩;exact hno k hk (old k hk (by simpa using hl))
   ·unfold np;rw[KZ (by rw[hpp];simp)];exact hk
  ·have hpt':p∉i::r:=fun hh=>by
    rcases Kk.1 hh with rfl|hh
    ·exact e rfl
    ·exact hpt (LR _ hh)
   obtain⟨q1,q2⟩:=g.done p hpl hpt';exact⟨fun a b d=>LR _ (q1 a b d),fun a k hk=>LR _ (q2 a k hk)⟩
theorem Grown.all {c:ChD} {l0 l:List Int} (g:Grown c l0 l []) {x:Int} :x∈l↔Gr c l0 x:=by
 refine⟨g.gr x,fun h=> ?_⟩
 induction h with
 |base h=>exact g.sub _ h
 |ini _ hp hn h0 ih=>exact(g.done _ ih (by simp)).1 hp hn h0
 |par _ hp hk ih=>exact(g.done _ ih (by simp)).2 hp _ hk
theorem Grown.grow {c:ChD} (h:Full c) {l0:List Int} : ∀(f:Nat) (l t:List Int),Grown c l0 l t->missL c l+t.length<=f->Grown c l0 (iP c f l t) []
 | 0,l,t,g,hf=>by
   have:t=[]:=LJ (by omega);subst this;exact g
 |f+1,l,[],g,hf=>g
 | f+1,l,i::r,g,hf=>by
   unfold iP;refine Grown.grow h f _ _ (g.step h) ?_;have:=nJ (c:=c) (l:=l) (ej c l i) fun k hk=>⟨(eT h hk).1,(eT h hk).2.1⟩;simp only[K4,Kj]at hf |-;omega
theorem vB {c:ChD} (h:Full c) {l0:List Int} : ∀ {f g:Nat} {l t:List Int},Grown c l0 l t->missL c l+t.length<=f->missL c l+t.length<=g->iP c f l t=iP c g l t
 |0,0,_,_,_,_,_=>rfl
 | 0,g+1,l,t,_,hf,_=>by
   have:t=[]:=LJ (by omega);subst this;rfl
 | f+1,0,l,t,_,_,hg=>by
   have:t=[]:=LJ (by omega);subst this;rfl
 |f+1,g+1,l,[],_,_,_=>rfl
 | f+1,g+1,l,i::r,gr,hf,hg=>by
   have:=nJ (c:=c) (l:=l) (ej c l i) fun k hk=>⟨(eT h hk).1,(eT h hk).2.1⟩;simp only[Kj]at hf hg;unfold iP;exact vB h (gr.step h) (by rw[K4];omega) (by rw[K4];omega)
theorem pR {c:ChD} {l:List Int} (hn:l.Nodup):Grown c l l l:=⟨fun _ h=>h,fun _ h=>h,hn,fun _ h=> .base h,fun _ h hh=>absurd h hh,fun _ h hh=>absurd h hh⟩
theorem fX {c:ChD} (h:Full c) {l:List Int} (hn:l.Nodup) {x:Int} :x∈growL c l↔Gr c l x:=((pR hn).grow h _ _ _ (K8 _)).all
theorem Gr.real {c:ChD} (h:Full c) {l:List Int} {x:Int} (g:Gr c l x):x∈l\/(x∈kidZ c (aO c x)/\Gr c l (aO c x)/\(av c (aO c x)=true->x=lF c (aO c x)/\ ∀k∈kidZ c (aO c x),k∉l)):=by
 cases g with
 |base h=>exact .inl h
 | ini g hp hn h0=>
   rename_i p;have hk:=kQ h hp h0;have e:=(bK h.toRight hk).2.1;rw[e];exact .inr ⟨hk,g,fun _=>⟨rfl,hn⟩⟩
 | par g hp hk=>
   have e:=(bK h.toRight hk).2.1;rw[e];exact .inr ⟨hk,g,fun hh=>by rw[hp]at hh;cases hh⟩
theorem Gr.in {c:ChD} (h:Full c) {l:List Int} (hl: ∀x∈l,inZ c x=true) {x:Int} (g:Gr c l x):inZ c x=true:=by
 rcases g.real h with hx|⟨hx,_⟩
 ·exact hl x hx
 ·exact(bK h.toRight hx).1
theorem Gr.congr {c:ChD} {l l':List Int} (h: ∀x,x∈l↔x∈l') {x:Int} (g:Gr c l x):Gr c l' x:=by
 induction g with
 |base hx=>exact .base ((h _).1 hx)
 |ini _ hp hn h0 ih=>exact .ini ih hp (fun k hk hh=>hn k hk ((h k).2 hh)) h0
 |par _ hp hk ih=>exact .par ih hp hk
/-! As the document says -/
theorem kX {l:List Int} {ks:List Nat} :manyI l ks=0↔ ∀k∈zL ks,k∉l:=by
 unfold manyI;rw[M0,Mm];constructor
 ·intro h k hk;obtain⟨j,hj,rfl⟩:=K9.1 hk;simpa using h j hj
 ·intro h k hk;simpa using h k (K9.2 ⟨k,hk,rfl⟩)
theorem I5 (c:ChD) (l:List Int):missL c l<=c.states.length:=by
 unfold missL;exact Kh (Kw ..) (by simp)
/-! The ways up of some states -/
def addU (o:List Int) (i:Int):List Int:=if o.contains i=true then o else o++[i]
def upTo (c:ChD) (d:Int) (o U:List Int) (m:Nat):List Int:=(U.take m).foldl (fun o k=>if 0<=k/\aboveB c d k=true then addU o k else o) o
def upsTo (c:ChD) (d:Int) (l:List Int) (j:Nat):List Int:=(l.take j).foldl (fun o i=>upTo c d (addU o i) (upL c i) (upL c i).length) []
def upsL (c:ChD) (l:List Int) (d:Int):List Int:=upsTo c d l l.length
theorem bm {α β:Type} (f:β->α->β) (b:β) {l:List α} {j:Nat} {x:α} (h:l[j]? =some x):(l.take (j+1)).foldl f b=f ((l.take j).foldl f b) x:=by
 rw[Kv,h,Og];rfl
theorem tO {o:List Int} {i x:Int} :x∈addU o i↔x∈o\/x=i:=by
 unfold addU;split
 ·rename_i h;have h:=K3.1 h;exact⟨.inl,fun hh=>hh.elim id fun e=>e ▸ h⟩
 ·rw[Kt,Km]
theorem mI {o:List Int} (h:o.Nodup) (i:Int):(addU o i).Nodup:=by
 unfold addU;split
 ·exact h
 ·rename_i hh;rw[ML];refine⟨h,by simp,fun x hx y hy e=> ?_⟩;rw[Km.1 hy]at e;subst e;exact hh (K3.2 hx)
theorem wT {c:ChD} {d:Int} {U:List Int} : ∀(m:Nat) {o:List Int},m<=U.length->o.Nodup->(upTo c d o U m).Nodup/\ ∀x,x∈upTo c d o U m↔x∈o\/(x∈U.take m/\0<=x/\aboveB c d x=true)
 |0,o,_,hn=>⟨hn,fun x=>by simp[upTo]⟩
 | m+1,o,hm,hn=>by
   obtain⟨k,hk⟩: ∃k,U[m]? =some k:=⟨U[m],KV (by omega)⟩;obtain⟨q1,q2⟩:=wT (c:=c) (d:=d) (U:=U) m (o:=o) (by omega) hn;have e:upTo c d o U (m+1)=if 0<=k/\aboveB c d k=true then addU (upTo c d o U m) k else upTo c d o U m:=bm _ _ hk
   have e2: ∀x,x∈U.take (m+1)↔x∈U.take m\/x=k:=fun x=>by rw[Kv,hk];simp
   rw[e];split
   ·rename_i hc;refine⟨mI q1 k,fun x=> ?_⟩;rw[tO,q2,e2];constructor
    ·rintro((a|⟨a,b⟩)|rfl)
     ·exact .inl a
     ·exact .inr ⟨.inl a,b⟩
     ·exact .inr ⟨.inr rfl,hc⟩
    ·rintro(a|⟨a|rfl,b⟩)
     ·exact .inl (.inl a)
     ·exact .inl (.inr ⟨a,b⟩)
     ·exact .inr rfl
   ·rename_i hc;refine⟨q1,fun x=> ?_⟩;rw[q2,e2];constructor
    ·rintro(a|⟨a,b⟩)
     ·exact .inl a
     ·exact .inr ⟨.inl a,b⟩
    ·rintro(a|⟨a|rfl,b⟩)
     ·exact .inl a
     ·exact .inr ⟨a,b⟩
     ·exact absurd b hc
theorem sR {c:ChD} {d:Int} {l:List Int} : ∀(j:Nat),j<=l.length->(upsTo c d l j).Nodup/\ ∀x,x∈upsTo c d l j↔x∈l.take j\/ ∃i∈l.take j,x∈upL c i/\0<=x/\aboveB c d x=true
 |0,_=>⟨PI,fun x=>by simp[upsTo]⟩
 | j+1,hj=>by
   obtain⟨k,hk⟩: ∃k,l[j]? =some k:=⟨l[j],KV (by omega)⟩;obtain⟨q1,q2⟩:=sR (c:=c) (d:=d) (l:=l) j (by omega);have e:upsTo c d l (j+1)=upTo c d (addU (upsTo c d l j) k) (upL c k) (upL c k).length:=bm _ _ hk;have e2: ∀x,x∈l.take (j+1)↔x∈l.take j\/x=k:=fun x=>by rw[Kv,hk];simp
   obtain⟨p1,p2⟩:=wT (c:=c) (d:=d) (U:=upL c k) _ (K8 _) (mI q1 k);rw[e];refine⟨p1,fun x=> ?_⟩;rw[p2,tO,q2,Kp];simp only[e2];constructor
   ·rintro(((a|⟨i,a,b⟩)|rfl)|b)
    ·exact .inl (.inl a)
    ·exact .inr ⟨i, .inl a,b⟩
    ·exact .inl (.inr rfl)
    ·exact .inr ⟨k, .inr rfl,b⟩
   ·rintro((a|rfl)|⟨i,a|rfl,b⟩)
    ·exact .inl (.inl (.inl a))
    ·exact .inl (.inr rfl)
    ·exact .inl (.inl (.inr ⟨i,a,b⟩))
    ·exact .inr b
theorem iV {c:ChD} {d:Int} {l:List Int} :(upsL c l d).Nodup/\ ∀x,x∈upsL c l d↔x∈l\/ ∃i∈l,x∈upL c i/\0<=x/\aboveB c d x=true:=by
 have:=sR (c:=c) (d:=d) (l:=l) _ (K8 _);rw[Kp]at this;exact this
def pr (c:ChD) (l:List Int) (d:Int) (i:Nat):Bool:=l.contains (i:Int)||l.any fun k=>aboveB c (i:Int) k&&aboveB c d (i:Int)
def pathL (c:ChD) (l:List Int) (d:Int):List Nat:=(List.range c.states.length).filter (pr c l d)
theorem iD {c:ChD} (h:Right c) {k i:Int} (ha:k∈upL c i) (h0:0<=k):inZ c k=true/\k<i:=by
 have:=jg h 40 i k ha
 have hi:inZ c i=true:=by
  cases hh:inZ c i with
  |true=>rfl
  |false=>rw[cE hh]at ha;simp at ha
 have:=aI.1 hi;exact⟨aI.2 ⟨h0,by omega⟩,by omega⟩
theorem sZ {c:ChD} (h:Right c) {l:List Int} (hl: ∀x∈l,inZ c x=true) {d x:Int} :x∈zL (pathL c l d)↔x∈upsL c l d:=by
 rw[iV.2];constructor
 ·intro hx;obtain⟨i,hi,rfl⟩:=K9.1 hx;obtain⟨_,hb⟩:=Kb.1 hi;unfold pr at hb;rw[Lb,L8]at hb;rcases hb with hb|⟨k,hk,hb⟩
  ·exact .inl (by simpa using hb)
  ·rw[KY]at hb;exact .inr ⟨k,hk,by simpa[aboveB]using hb.1,by omega,hb.2⟩
 ·intro hx
  have hz:inZ c x=true:=by
   rcases hx with hx|⟨i,_,h1,h2,_⟩
   ·exact hl x hx
   ·exact(iD h h1 h2).1
  have h3:=aI.1 hz;refine K9.2 ⟨x.toNat,Kb.2 ⟨Kr.2 (by omega),?_⟩,by omega⟩;have e:((x.toNat:Nat):Int)=x:=by omega
  unfold pr;rw[e,Lb,L8];rcases hx with hx|⟨i,h0,h1,h2,h4⟩
  ·exact .inl (by simpa using hx)
  ·exact .inr ⟨i,h0,by rw[KY];exact⟨by simpa[aboveB]using h1,h4⟩⟩
end

end Go.Proofs.YtbjldjekgepopaaGreatDoor