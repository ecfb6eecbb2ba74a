/- Running on, walked: end, ready, Send. -/
import Derived.Test.YtbjldjekgepopaaGreatDoorT28
set_option maxRecDepth 100000
set_option maxHeartbeats 16000000
set_option linter.unusedSimpArgs false
namespace Go.Proofs.YtbjldjekgepopaaGreatDoor
open Go.Proofs.Tryz
open Go.RowKit
section
theorem Av (env:Env) (l:List MemD) (hl:l.length<=9223372036854775807) (hm: ∀m∈l,m.2.length<=9223372036854775807):Con prog env 45 [.seq 2 (l.map mmAV), .seq 2 (l.map mmAV)] (B true):=by
 refine qf func45 call45 ntmps45 results45 ?_;repeat refine st0 ?_
 refine lq0 l.length (by omega) (fun j vs=>[(0, .seq 2 (l.map mmAV)),(1, .seq 2 (l.map mmAV)),(5,I j)]) (fun _ _=>[]) (fun _ _ _=>True) trivial ?_ ?_
 ·rintro j ws esc hlt q1 q2 _;obtain⟨x,hx⟩:=gE hlt;have hxl:=hm x (K1 hx);have F:=ai3 mmAV.eq_1 hx q1;repeat refine st ?_
  refine lq x.2.length (by omega) (fun k vs=>[(0, .seq 2 (l.map mmAV)),(1, .seq 2 (l.map mmAV)),(5,I j),(6,I k)]) (fun _ _=>[]) (fun _ _ _=>True) trivial ?_ ?_
  ·rintro k us es hlt2 p1 p2 _;obtain⟨y,hy⟩:=gE hlt2;have F:=ai7 mmAV.eq_1 intAV.eq_1 hx hy q1 p1 p2;repeat refine st ?_
   exact qn (k+1) ⟨hlt2,trivial⟩
  ·rintro us es p1 _;have F:=ai5 mmAV.eq_1 hx q1 q2 p1;repeat refine st ?_
   exact qn (j+1) ⟨hlt,trivial⟩
 ·rintro ws esc q1 _;have F:=q1;repeat refine st ?_
  exact aR
theorem pG (env:Env) (A V:List Int) (x:InD) (h:Ca x) (hA:A.length=x.1.length) (hV:V.length=x.2.1.length):Con prog env 17 [.agg (inE (A,V,x.2.2)), .agg (inE x)] (B ((A==x.1)&&(V==x.2.1))):=by
 have h0:maxLen=9223372036854775807:=rfl;have f0:=Av env x.2.2.1 (h0 ▸ h.2.1.1) fun m hm=>h0 ▸ h.2.1.2 m hm;have hT:x.2.2.2.1.length<=9223372036854775807:=h0 ▸ h.2.2.1;have hA2:x.1.length<=9223372036854775807:=h0 ▸ h.1.1;have hV2:x.2.1.length<=9223372036854775807:=h0 ▸ h.1.2;have k1:((A.length:Int) != (x.1.length:Int))=false:=by simp[hA]
 have k2:((V.length:Int) != (x.2.1.length:Int))=false:=by simp[hV]
 refine qf func17 call17 ntmps17 results17 ?_;have F:=ai3 inE.eq_1 k1 k2;repeat refine tz1 f0 ?_
 refine aK (D:=Nat) (fun i vs=>[(2, .loc 2 (vs 2) 0 0),(3, .loc 3 (vs 3) 0 0),(5,I i)]) (fun _ _=>[(2,⟨5,[inE (A,V,x.2.2)],31,false⟩),(3,⟨5,[inE x],31,false⟩)]) (fun i _ _=>i<=x.2.2.2.1.length) (fun i=>x.2.2.2.1.length-i) 0 ?_ ?_ ?_ ?_
 ·exact Ke _
 ·exact qe
 ·have F:=inE.eq_1;exact qe
 rintro i ws esc hi;by_cases hlt:i<x.2.2.2.1.length
 ·obtain⟨t,ht⟩:=gE hlt;have q1:=nlt hlt;have q2:=aD hlt (by omega);have F:=ai5 inE.eq_1 tmAV.eq_1 q1 q2 ht;repeat refine st ?_
  refine⟨i+1,hlt,?_,?_,by omega⟩
  ·exact qe
  ·have F:=inE.eq_1;exact qe
 have q1: ¬(i:Int)< (x.2.2.2.1.length:Int):=by omega
 have F:=ai inE.eq_1 q1;repeat refine st ?_
 try clear hi hlt q1
 refine aK (D:=Nat) (fun i vs=>[(2, .loc 2 (vs 2) 0 0),(3, .loc 3 (vs 3) 0 0),(6,I i)]) (fun _ _=>[(2,⟨5,[inE (A,V,x.2.2)],31,false⟩),(3,⟨5,[inE x],31,false⟩)]) (fun i _ _=>i<=A.length/\A.take i=x.1.take i) (fun i=>A.length-i) 0 ?_ ?_ ?_ ?_
 ·exact⟨Ke _,rfl⟩
 ·exact qe
 ·have F:=inE.eq_1;exact qe
 try clear ws esc
 rintro i ws esc ⟨hi,ht⟩;by_cases hlt:i<A.length
 ·obtain⟨u,hu,_⟩:=aQ hlt;obtain⟨v,hv,_⟩:=aQ (show i<x.1.length by omega);have q1:=nlt hlt;have q3:=nlt (show i<x.1.length by omega);have q2:=aD hlt (by omega);cases e:(u==v)
  ·rw[uQ hu hv (by simpa using e)];have F:=ai9 inE.eq_1 intAV.eq_1 q1 q2 q3 hu hv e i7;repeat refine st ?_
   exact aR
  ·have F:=ai9 inE.eq_1 intAV.eq_1 q1 q2 q3 hu hv e i7;repeat refine st ?_
   refine⟨i+1,⟨hlt,take_same ht hu hv (by simpa using e)⟩,?_,?_,by omega⟩
   ·exact qe
   ·have F:=inE.eq_1;exact qe
 have q1: ¬(i:Int)< (A.length:Int):=by omega
 rw[zC ht (by omega) (by omega),LK];have F:=ai inE.eq_1 q1;repeat refine st ?_
 try clear hi hlt q1 ht
 have F:=inE.eq_1;refine lq V.length (by omega) (fun i vs=>[(2, .loc 2 (vs 2) 0 0),(3, .loc 3 (vs 3) 0 0),(7,I i)]) (fun _ _=>[(2,⟨5,[inE (A,V,x.2.2)],31,false⟩),(3,⟨5,[inE x],31,false⟩)]) (fun i _ _=>V.take i=x.2.1.take i) rfl ?_ ?_
 ·try clear ws esc
  rintro i ws esc hlt q1 q2 ht;obtain⟨u,hu,_⟩:=aQ hlt;obtain⟨v,hv,_⟩:=aQ (show i<x.2.1.length by omega);have q3:=nlt (show i<x.2.1.length by omega);cases e:(u==v)
  ·rw[uQ hu hv (by simpa using e)];have F:=ai9 inE.eq_1 intAV.eq_1 q1 q2 q3 hu hv e i7;repeat refine st ?_
   exact aR
  ·have F:=ai9 inE.eq_1 intAV.eq_1 q1 q2 q3 hu hv e i7;repeat refine st ?_
   refine⟨i+1,⟨hlt,take_same ht hu hv (by simpa using e)⟩,?_,?_,by omega⟩
   ·exact qe
   ·have F:=inE.eq_1;exact qe
 try clear ws esc
 rintro ws esc q1 ht;rw[zC ht (by omega) (by omega)];have F:=ai inE.eq_1 q1;repeat refine st ?_
 exact aR
end
section
end
section
theorem sb {c:ChD} (h:Full c) {mem:List MemD} (hm:bY c mem=true):mem.length<=32/\ ∀m∈mem,Fits m.2.length 8:=
 ⟨Kh (wi (Hd hm)) h.few,fun m hm'=>aG (Kh (wm h hm m hm').2 (by decide)) (by omega)⟩
theorem Ij {c:ChD} (h:Full c) {act:List Int} {f:List Nat} (hF:Fit c act f):f.length<=64:=by
 have hnd:f.Nodup:=hF.two.imp fun h=>h.1
 have:=hnd.length_le_of_subset (l₂:=List.range c.trans.length) fun n hn=>by
  obtain⟨t,ht,_⟩:=hF.real n hn;exact Kr.2 (KW.1 ht).1
 have hftr:=h.ftr;simp at this;omega
theorem Jd {c:ChD} {act:List Int} {f:List Nat} (hF:Fit c act f): ∀n∈f,∃t,c.trans[n]? =some t:=fun n hn=>by
 obtain⟨t,ht,_⟩:=hF.real n hn;exact⟨t,ht⟩
theorem Fp (env:Env) (a1 a2 a8:Addr) (c:ChD) (d now:Int) (E:RunEnv env a1 a2 a8 c d now) (x:InD) (hI:InstOk c x) (hA:x.1.length<=100) (hV:x.2.1.length<=4096) (hT:Fits x.2.2.2.1.length 24) (ts:List Nat) (hf:Fit c x.1 ts) (fr:Con prog env 93 [Sg [109,105,99,114,111,46,83,116,101,112],aC c, .agg (inE x),I d] nilE):
 Con prog env 139 [aC c, .agg (inE x), .seq 1 (ts.map aB),I d,I now] (uH a2 a8 (stepP c d now (fp x) ts)):=by
 obtain⟨m1,m2⟩:=sb E.h hI.mem;obtain⟨_,hmem⟩:=kx E.h hI.lg hI.mem (xi E.h hI.lg hf);obtain⟨m3,m4⟩:=sb E.h hmem;have htl:=Ij E.h hf
 exact Fo env a1 a2 a8 c d now E x hA hV (by omega) m2 hT ts fr (Ik env a1 a8 E.he c E.h E.hs d now (fp x) (show x.1.length<=1000 by omega) hI.lg ts hf (by omega))
  (GF env a1 a2 a8 c d now E (fp x) hI.beg hA hI.lg hI.mem (show x.2.2.1.length<=1000000 by omega) m2 ts (Jd hf) htl (xi E.h hI.lg hf) hmem ⟨show (remL c x.1 (zL (sortL c (goneR c x.1 ts))) x.2.2.1).length<=1000000 by omega,m4⟩ fun r2 k1 k2 k3=>(yz E.h hI.lg hf E.hd E.hn hmem k1 k2 k3).1)
end
section
structure InstFew (c:ChD) (x:InD):Prop where
 act:x.1.length<=32
 vars:x.2.1.length<=4096
 mem:x.2.2.1.length<=32
 mems: ∀m∈x.2.2.1,Fits m.2.length 8
 tms:x.2.2.2.1.length<=8
 nms: ∀t∈x.2.2.2.1,t.1.length<=32
theorem gy {c:ChD} (h:Full c) (hv:c.vars.length<=4096) {x:InD} (hI:InstOk c x):InstFew c x:=by
 obtain⟨m1,m2⟩:=sb h hI.mem;have hal:=Gb hI.lg;have hfew:=h.few
 exact⟨by omega,by rw[hI.len];exact hv,m1,m2,hI.tml,fun t ht=>by
  have:=(hI.tms.each t ht).1;unfold bX at this;simp only[KY,K6]at this
  exact this.1.1⟩
structure MaEnv (env:Env) (a1 a2 a6 a8:Addr) (c:ChD) (now:Int):Prop where
 he:ChEnv env a1 a8
 h2:env 2=some (sentV a2)
 h6:env 6=some (sentV a6)
 h:Full c
 hs:Small c
 hn:0<=now/\now<=1099511627776
theorem qx {env:Env} {a1 a8:Addr} (he:ChEnv env a1 a8) {c:ChD} (h:Full c) (hs:Small c) {x:InD} {d:Int} (hb:ap c (rcI x)=true) (ho:x.2.2.2.2=false) (hd:aJ d=true) (op:List UInt8):Con prog env 93 [Sg op,aC c, .agg (inE x),I d] nilE:=by
 have k:=gy h hs.vars (eS hb);have k1:=k.act;have k2:=k.vars;have k3:=k.mem;have k4:=k.tms;exact E1 env a1 a8 he c h hs x ⟨show x.1.length<=1000000 by omega,show x.2.1.length<=1000000 by omega,show x.2.2.1.length<=1000000 by omega,show x.2.2.2.1.length<=9223372036854775807 by omega⟩ (fun t ht=>Kh (k.nms t ht) (by omega)) k.mems op d hb ho hd
theorem vZ {env:Env} {a1 a2 a8:Addr} (he:ChEnv env a1 a8) (h2:env 2=some (sentV a2)) {c:ChD} (h:Full c) (hs:Small c) {x:InD} {d:Int} (hb:ap c (rcI x)=true) (ho:x.2.2.2.2=false) (hd:aJ d=true) (ev:List UInt8):Con prog env 49 [aC c, .agg (inE x),Sg ev,I d] (xJ a2 (xm c x.1 (woX c x.1 x.2.1 d) ev (innL c (x.1.map Int.toNat)))):=by
 have hI:=eS hb;have k:=(gy h hs.vars hI).act;obtain⟨l,hl,hk⟩:=wt hI.lg;rw[DD hl];exact yn env a1 a2 a8 he h2 c h hs x d ⟨by omega,hI.len,hI.fit,hd,hI.lg⟩ ev (qx he h hs hb ho hd _) l hl hk
theorem EK {env:Env} {a1 a2 a6 a8:Addr} {c:ChD} {now:Int} (E:MaEnv env a1 a2 a6 a8 c now) {x:InD} {d:Int} (hb:ap c (rcI x)=true) (ho:x.2.2.2.2=false) (hd:aJ d=true) {ts:List Nat} (hf:Fit c x.1 ts):Con prog env 139 [aC c, .agg (inE x), .seq 1 (ts.map aB),I d,I now] (uH a2 a8 (stepP c d now (fp x) ts)):=by
 have hI:=eS hb;have k:=gy E.h E.hs.vars hI;have k1:=k.act;have k4:=k.tms;exact Fp env a1 a2 a8 c d now ⟨E.he,E.h2,E.h,E.hs,hd,E.hn⟩ x hI (by omega) k.vars (aG (Kh k4 (by omega)) (by omega)) ts hf (qx E.he E.h E.hs hb ho hd _)
theorem lu (env:Env) (a1 a8:Addr) (he:ChEnv env a1 a8) (s:List UInt8):Con prog env 41 [Sg s] (errV (-1) (sentV a1)):=by
 have h1:=gX he.e1;have f1:=bT env s a1;refine qf func41 call41 ntmps41 results41 ?_;have F:=h1;repeat refine tz1 f1 ?_
 exact aR
def RQe (c:ChD) (now:Int) (F:Nat) (o:Bool) (m:MaD) (g:Nat->Nat):List AV:=[.ref 9 [tabCells c] 0 0,ints34 m.x.1,ints34 m.x.2.1, .seq 2 (m.x.2.2.1.map mmAV), .seq 2 (m.x.2.2.2.1.map tmAV),B m.x.2.2.2.2, .row 1002 (g 1002), .row 1001 (g 1001),I m.steps,B o,I m.data,I now,I F]
def RQ (c:ChD) (now:Int) (F:Nat) (o:Bool) (m:MaD) (g:Nat->Nat):List (Nat×Row):=[(1000,⟨13,[RQe c now F o m g],103,false⟩),(1001,⟨1,m.said.map intAV,3,true⟩),(1002,⟨2,m.wait.map tmAV,33,true⟩)]
def gr2 (k:Nat):Bool:=k==1001||k==1002
def lS (a2 a6 a8:Addr):ErD->AV
 |none=>nilE
 |some (k,ps)=>errV (ps.headD (-1)) (chainV ps.tail (sentV (if k=2 then a2 else if k=6 then a6 else a8)))
theorem aM (a2 a6 a8:Addr) (e:ErD) (L:Nat->Nat->Option (Nat×Nat)):(lS a2 a6 a8 e).ren L=lS a2 a6 a8 e:=by rcases e with _|⟨_,_⟩<;>rfl
theorem zW (env:Env) (a2 a6 a8:Addr) (h8:env 7=some (sentV a8)) (c:ChD) (now:Int) (F:Nat) (m:MaD) (outs:List Int) (rais:List (List UInt8×Int)) (hm:m.said.length<=256) (hw:m.wait.length<=16) (ho:outs.length<=256) (hr:rais.length<=16):
 ConI prog env 62 [1000,1001,1002] gr2 (fun g=>[.loc 1000 (g 1000) 0 0, .agg [ints34 outs, .seq 2 (rais.map tmAV)]]) (RQ c now F false m) (RQ c now F false (addP m outs rais).1) (fun _=>lS a2 a6 a8 (addP m outs rais).2):=by
 have g1:=gX h8;have f0:=bT env [109,97,99,114,111,46,97,100,100] a8;have q0:Fits (m.said.length+outs.length) 8:=aG (by omega) (by omega);have q1:Fits (m.wait.length+rais.length) 24:=aG (by omega) (by omega);have l1:(m.said++outs).length=m.said.length+outs.length:=K4;have l2:(m.wait++rais).length=m.wait.length+rais.length:=K4;unfold addP;by_cases k:256< (m.said++outs).length\/16< (m.wait++rais).length
 ·rw[K0 k];show ConI _ _ _ _ _ _ _ _ fun _=>errV (-1) (sentV a8);unfold RQ RQe;simp only[Ki];by_cases k1:(256:Int)< ((m.said.length+outs.length:Nat):Int)
  ·refine qi func62 call62 ntmps62 results62 ?_;intro vs esc hesc;obtain⟨e0,e1,e2⟩:=es3 hesc;have F:=ai8 gr2.eq_1 g1 q0 q1 k1 e0 e1 e2;repeat refine tz1 f0 ?_
   exact rI
  ·have k2:(16:Int)< ((m.wait.length+rais.length:Nat):Int):=by omega
   refine qi func62 call62 ntmps62 results62 ?_;intro vs esc hesc;obtain⟨e0,e1,e2⟩:=es3 hesc;have F:=ai9 gr2.eq_1 g1 q0 q1 k1 k2 e0 e1 e2;repeat refine tz1 f0 ?_
   exact rI
 ·rw[KZ k];have k1: ¬(256:Int)< ((m.said.length+outs.length:Nat):Int):=by omega
  have k2: ¬(16:Int)< ((m.wait.length+rais.length:Nat):Int):=by omega
  show ConI _ _ _ _ _ _ _ _ fun _=>nilE;unfold RQ RQe;simp only[Ki];refine qi func62 call62 ntmps62 results62 ?_;intro vs esc hesc;obtain⟨e0,e1,e2⟩:=es3 hesc;have F:=ai8 gr2.eq_1 q0 q1 k1 k2 e0 e1 e2;repeat refine st ?_
  exact rI
theorem El {env:Env} {a1 a2 a6 a8:Addr} {c:ChD} {now:Int} (E:MaEnv env a1 a2 a6 a8 c now) {F:Nat} {m:MaD} (hm:MaOk c F m) (ho:m.x.2.2.2.2=false) {l:List Nat} (hf:Fit c m.x.1 l):
 ConI prog env 84 [1000,1001,1002] gr2 (fun g=>[.loc 1000 (g 1000) 0 0, .seq 1 (l.map aB)]) (RQ c now F false m) (RQ c now F false (mstepM c now F m l).1) (fun _=>lS a2 a6 a8 (mstepM c now F m l).2):=by
 have g6:=gX E.h6;have f6:=bT env [109,97,99,114,111,46,115,116,101,112] a6;have fs:=EK E hm.inst ho hm.data hf;unfold mstepM;by_cases k:F<=m.steps
 ·rw[K0 k];have k1:(F:Int)<=(m.steps:Int):=by omega
  show ConI _ _ _ _ _ _ _ _ fun _=>errV (-1) (sentV a6);refine qi func84 call84 ntmps84 results84 ?_;intro vs esc hesc;obtain⟨e0,e1,e2⟩:=es3 hesc;have F:=ai8 RQ.eq_1 RQe.eq_1 gr2.eq_1 g6 k1 e0 e1 e2;repeat refine tz1 f6 ?_
  exact rI
 rw[KZ k];have k1: ¬(F:Int)<=(m.steps:Int):=by omega
 have hs:=qh E.h hm.data E.hn (eS hm.inst) ho hf;unfold aC inE at fs;rcases hX:stepP c m.data now (fp m.x) l with⟨r,_|⟨k,ps⟩⟩
 ·rw[hX]at fs hs;obtain⟨s1,_,_⟩:=hs rfl;have fa:=zW env a2 a6 a8 E.he.e8 c now F ⟨inR r,m.said,m.steps+1,m.wait,m.data⟩ r.outs r.rais hm.said hm.wait s1.outs s1.rais;have hst:=hm.steps;have k2:IntKind.i64.wrap ((m.steps:Int)+1)=((m.steps+1:Nat):Int):=aD (show m.steps<F by omega) (by have:=hm.fuel;omega);unfold uH at fs;unfold RQ RQe at fa;unfold JU;simp only at fs fa |-;generalize addP _ r.outs r.rais=Y at*;unfold inR at fa;simp only at fa;unfold RQ RQe;refine qi func84 call84 ntmps84 results84 ?_;intro vs esc hesc;obtain⟨e0,e1,e2⟩:=es3 hesc;have F:=ai6 gr2.eq_1 k1 k2 e0 e1 e2;repeat (first|refine oO rfl (by simp only[go_sem,aM,F];exact⟨rfl,rfl⟩) ?_|refine gR ?_|refine gO ?_|refine oC rfl (fs) (by simp only[go_sem,aM,F];exact iR) (by simp only[go_sem,aM,F];exact⟨rfl,rfl⟩) ?_|refine oZ (jm ?_)|refine oZ ?_|refine oS ?_|refine gT ?_|refine gD mixed ?_|refine oB ?_|refine oK ?_|(refine oX ?_;simp only[bJ,ba, ↓reduceIte,Nat.reduceEqDiff,reduceCtorEq])|refine oY (by simp only[go_sem,aM,F];exact iR) ?_|refine oN (by simp only[go_sem,aM,F];exact iR) ?_)
  refine iC [(1000,1000),(1001,1001),(1002,1002)] rfl (fa) (by decide) (by decide) (by simp only[go_sem,aM,F]<;>rfl) (by simp only[go_sem,aM,F,Kn]<;>trivial) (by simp only[go_sem,aM,F,Kn]<;>trivial) (by intro o;simp only[go_sem,aM,F,behind,Kn]<;>trivial) (by intro o;simp only[go_sem,aM,F]<;>rfl) (by simp only[go_sem,aM,F,behind];exact iR) (by simp only[go_sem,aM,F,behind];exact iR) ?_;repeat (first|refine oO rfl (by simp only[go_sem,aM,F];exact⟨rfl,rfl⟩) ?_|refine gR ?_|refine gO ?_|refine oZ (jm ?_)|refine oZ ?_|refine oS ?_|refine gT ?_|refine gD mixed ?_|refine oB ?_|refine oK ?_|(refine oX ?_;simp only[bJ,ba, ↓reduceIte,Nat.reduceEqDiff,reduceCtorEq])|refine oY (by simp only[go_sem,aM,F];exact iR) ?_|refine oN (by simp only[go_sem,aM,F];exact iR) ?_)
  (refine aN ?_;(try simp only[bJ,ba, ↓reduceIte,Nat.reduceEqDiff,reduceCtorEq]);refine qv ?_ ?_<;>simp only[go_sem,aM,F,O5,Kn,PP,OU,AV.tuple.injEq,Nu,ne_eq])
 ·rw[hX]at fs;unfold uH at fs;have hk:=IK c m.data now (fp m.x) l (k,ps) (by rw[hX])
  have ea:cN a2 a8 (some (k,ps))=errV (ps.headD (-1)) (chainV ps.tail (sentV (if k=2 then a2 else if k=6 then a6 else a8))):=by
   unfold cN;simp only;rcases hk with rfl|rfl<;>rfl
  simp only[ea]at fs;show ConI _ _ _ _ _ _ _ _ fun _=>errV (-1) (errV (ps.headD (-1)) (chainV ps.tail (sentV (if k=2 then a2 else if k=6 then a6 else a8))));generalize chainV ps.tail _=V at*;refine qi func84 call84 ntmps84 results84 ?_;intro vs esc hesc;obtain⟨e0,e1,e2⟩:=es3 hesc;have F:=ai7 RQ.eq_1 RQe.eq_1 gr2.eq_1 k1 e0 e1 e2;repeat refine tz1 fs ?_
  exact rI
theorem wn {env:Env} {a1 a2 a6 a8:Addr} {c:ChD} {now:Int} (E:MaEnv env a1 a2 a6 a8 c now) {F:Nat} {m:MaD} (hm:MaOk c F m) (ho:m.x.2.2.2.2=false) (ev:List UInt8):
 ConI prog env 43 [1000,1001,1002] gr2 (fun g=>[.loc 1000 (g 1000) 0 0,Sg ev]) (RQ c now F false m) (RQ c now F false (atM c now F m ev).1.1) (fun _=> .tuple [B (atM c now F m ev).2,lS a2 a6 a8 (atM c now F m ev).1.2]):=by
 have fe:=vZ E.he E.h2 E.h E.hs hm.inst ho hm.data ev;change Con _ _ _ _ (xJ a2 (d7 c m ev)) at fe;unfold aC inE at fe;unfold atM;cases hv:d7 c m ev with
 | error n=>
   rw[hv]at fe;unfold xJ at fe;show ConI _ _ _ _ _ _ _ _ fun _=> .tuple [B false,errV (1000+(n:Nat)) (sentV a2)];refine qi func43 call43 ntmps43 results43 ?_;intro vs esc hesc;obtain⟨e0,e1,e2⟩:=es3 hesc;have F:=ai6 RQ.eq_1 RQe.eq_1 gr2.eq_1 e0 e1 e2;repeat refine tz1 fe ?_
   exact rI
 | ok f=>
   rw[hv]at fe;unfold xJ at fe;simp only at fe;cases f with
   | nil=>
     show ConI _ _ _ _ _ _ _ _ fun _=> .tuple [B false,nilE];refine qi func43 call43 ntmps43 results43 ?_;intro vs esc hesc;obtain⟨e0,e1,e2⟩:=es3 hesc;have F:=ai6 RQ.eq_1 RQe.eq_1 gr2.eq_1 e0 e1 e2;repeat refine tz1 fe ?_
     exact rI
   | cons k l=>
     have fs:=El E hm ho (v7 E.h (eS hm.inst).lg hv);simp only;generalize mstepM c now F m (k::l)=Y at*;have q0:(((k::l).map aB).length:Int)≠0:=by simp;omega
     simp only[LI]at fe fs;refine qi func43 call43 ntmps43 results43 ?_;intro vs esc hesc;obtain⟨e0,e1,e2⟩:=es3 hesc;have F:=ai6 RQ.eq_1 RQe.eq_1 gr2.eq_1 e0 e1 e2;repeat (first|refine oO rfl (by simp only[go_sem,aM,F];exact⟨rfl,rfl⟩) ?_|refine gR ?_|refine gO ?_|refine oC rfl (fe) (by simp only[go_sem,aM,F];exact iR) (by simp only[go_sem,aM,F];exact⟨rfl,rfl⟩) ?_|refine oZ (jm ?_)|refine oZ ?_|refine oS ?_|refine gT ?_|refine gD mixed ?_|refine oB ?_|refine oK ?_|(refine oX ?_;simp only[bJ,ba, ↓reduceIte,Nat.reduceEqDiff,reduceCtorEq])|refine oY (by simp only[go_sem,aM,F];exact iR) ?_|refine oN (by simp only[go_sem,aM,F];exact iR) ?_)
     refine iC [(1000,1000),(1001,1001),(1002,1002)] rfl (fs) (by decide) (by decide) (by simp only[go_sem,aM,F]<;>rfl) (by simp only[go_sem,aM,F,Kn]<;>trivial) (by simp only[go_sem,aM,F,Kn]<;>trivial) (by intro o;simp only[go_sem,aM,F,behind,Kn]<;>trivial) (by intro o;simp only[go_sem,aM,F]<;>rfl) (by simp only[go_sem,aM,F,behind];exact iR) (by simp only[go_sem,aM,F,behind];exact iR) ?_;repeat (first|refine oO rfl (by simp only[go_sem,aM,F];exact⟨rfl,rfl⟩) ?_|refine gR ?_|refine gO ?_|refine oZ (jm ?_)|refine oZ ?_|refine oS ?_|refine gT ?_|refine gD mixed ?_|refine oB ?_|refine oK ?_|(refine oX ?_;simp only[bJ,ba, ↓reduceIte,Nat.reduceEqDiff,reduceCtorEq])|refine oY (by simp only[go_sem,aM,F];exact iR) ?_|refine oN (by simp only[go_sem,aM,F];exact iR) ?_)
     (refine aN ?_;(try simp only[bJ,ba, ↓reduceIte,Nat.reduceEqDiff,reduceCtorEq]);refine qv ?_ ?_<;>simp only[go_sem,aM,F,O5,Kn,PP,OU,AV.tuple.injEq,Nu,ne_eq])
end
section
def m0 (x:InD) (d:Int):MaD:=⟨x,[],0,[],d⟩
def NM:Nat:=5000
def JM (c:ChD) (now:Int) (F:Nat):MaD×ErD->MaD×ErD
 |(m,none)=>onM c now F NM m
 |y=>y
def io (c:ChD) (now:Int) (F:Nat) (x:InD) (ev:List UInt8) (d:Int):MaD×ErD:=JM c now F (atM c now F (m0 x d) ev).1
def settleM (c:ChD) (now:Int) (F:Nat) (x:InD) (d:Int):MaD×ErD:=onM c now F NM (m0 x d)
def Cf (c:ChD) (now:Int) (F:Nat):MaD×ErD:=match cq c now with
 |(r,none)=>JM c now F (addP (m0 (inR r) 0) r.outs r.rais)
 |(r,some e)=>(m0 (inR r) 0,some (e.1, -1::e.2.headD (-1)::e.2.tail))
theorem Fq {c:ChD} {F:Nat} {x:InD} {d:Int} (hb:ap c (rcI x)=true) (hd:aJ d=true) (hF:F<=256):MaOk c F (m0 x d):=⟨hb,hd,Ke _,fun e he=>by simp[m0]at he,Ke _,Ke _,hF⟩
theorem Je {c:ChD} {F:Nat} {m:MaD} (h:MaOk c F m):rj F m<NM:=by
 have h1:=h.fuel;have h2:=h.wait;unfold rj NM;have:(F-m.steps)*17<=256*17:=LE _ (by omega);omega
section
variable {c:ChD} (h:Full c) {now:Int} (hn:0<=now/\now<=1099511627776)
include h hn
theorem Jg {F:Nat} {y:MaD×ErD} (hy:y.2=none->MaOk c F y.1) (he:(JM c now F y).2=none):MaOk c F (JM c now F y).1/\y.2=none:=by
 obtain⟨m,_|e⟩:=y
 ·exact⟨(BN h hn NM m (hy rfl) he).1,rfl⟩
 ·cases he
theorem IM {F:Nat} {x:InD} {ev:List UInt8} {d:Int} (hm:MaOk c F (m0 x d)) (ho:x.2.2.2.2=false) (he:(io c now F x ev d).2=none):MaOk c F (io c now F x ev d).1:=
 (Jg h hn (fun q=>(nf h hn hm ho q).1) he).1
theorem ET {F:Nat} {x:InD} {d:Int} (hm:MaOk c F (m0 x d)) (he:(settleM c now F x d).2=none):MaOk c F (settleM c now F x d).1:=(BN h hn NM _ hm he).1
omit h hn in
theorem EW {F F':Nat} (hF:F<=F') {x:InD} {ev:List UInt8} {d:Int} (he:(io c now F x ev d).2=none):io c now F' x ev d=io c now F x ev d:=by
 have ha:=xS hF (c:=c) (now:=now) (m:=m0 x d) (ev:=ev);unfold io at he |-;rcases hA:atM c now F (m0 x d) ev with⟨⟨m,_|e⟩,b⟩
 ·rw[hA]at he ha;rw[ha rfl];exact wh hF NM m he
 ·rw[hA]at he;cases he
theorem EV {F F1:Nat} (hF:F1<=F) {x:InD} {ev:List UInt8} {d:Int} (hm:MaOk c F (m0 x d)) (ho:x.2.2.2.2=false) (he:(io c now F x ev d).2=none) (hlt:F1< (io c now F x ev d).1.steps):(io c now F1 x ev d).2=some (6,[-1]):=by
 have ha:=xR (c:=c) (now:=now) (F:=F) (F1:=F1) (m:=m0 x d) (ev:=ev);have hk:=nf h hn hm ho (ev:=ev);unfold io at he hlt |-;rcases hA:atM c now F (m0 x d) ev with⟨⟨m,_|e⟩,b⟩
 ·rw[hA]at he hlt ha hk;obtain⟨k1,_,k3⟩:=hk rfl;rcases ha rfl (Ke _) hF with q|⟨q,q2⟩
  ·rcases hB:atM c now F1 (m0 x d) ev with⟨⟨m2,_|e⟩,b2⟩
   ·rw[hB]at q;cases q
   ·rw[hB]at q;exact q
  rw[q];refine wb h hn hF NM m k1 he ?_ hlt;rcases k3 with⟨q3,q4,_⟩|⟨_,q4⟩
  ·have:=q2 q3;simp only at q4 this;omega
  ·simp only at q4;rw[q4];exact Ke _
 ·rw[hA]at he;cases he
theorem HT {F:Nat} (hF:F<=256) (hv: ∀v∈c.vars,aJ v.start=true):((cq c now).2=none->(addP (m0 (inR (cq c now).1) 0) (cq c now).1.outs (cq c now).1.rais).2=none->MaOk c F (addP (m0 (inR (cq c now).1) 0) (cq c now).1.outs (cq c now).1.rais).1):=by
 intro h1 h2;obtain⟨k1,k2,_⟩:=pU h hn hv h1;unfold addP at h2 |-;split at h2
 ·cases h2
 rename_i hc;rw[KZ hc];simp only[m0,Mc]at hc |-;exact⟨k1,rfl,show (cq c now).1.rais.length<=16 by omega,k2.raf,show (cq c now).1.outs.length<=256 by omega,Ke _,hF⟩
end
end
section
attribute [local go_sem] dv nD
theorem yh (env:Env) (es:List (List AV)) (hl:Fits es.length 24):Con prog env 140 [.seq 2 es] (.own 33 2 es):=by
 cases es with
 | nil=>
   refine Con.empty fun A cap=> ?_;cases A with
   | none=>
     refine qw func140 call140 ntmps140 results140 ?_;repeat refine st0 ?_
     (refine aN ?_;refine⟨_,(by show (an _ _ _).run _=some _;simp only[go_sem];rfl),?_⟩)
     exact ge.own_nil _ _ (by decide)
   | some A=>
     refine qf func140 call140 ntmps140 results140 ?_;repeat refine st0 ?_
     exact aR0
 | cons d l=>
   have g1:Fits (l.length+1) 24:=hl;refine qf func140 call140 ntmps140 results140 ?_;have F:=g1;repeat refine st ?_
   exact aR
theorem rS {P:Program} {rs:List ResultVar} {ids:List Nat} {grown:Nat->Bool} {vs0:Nat->Nat} {post:(Nat->Nat)->List (Nat×Row)} {res:(Nat->Nat)->AV} {s:St} (h:Ha P rs ids grown vs0 post res .ret s:=by
 refine qv ?_ ?_<;>simp only[go_sem,F,O5,Kn,PP,OU,AV.tuple.injEq,Nu,ne_eq]):Ha P rs ids grown vs0 post res .ret s:=h
theorem HW {P:Program} {env:Env} {nt:Nat} {c:Code} {Q:Exit->St->Prop} {s:St} (r:Nat) (h:awp P env nt c Q { s with rows:=upd s.rows r none }):awp P env nt c Q s:=
 AZ (s':={ s with rows:=upd s.rows r none }) ⟨fun _=> .inl rfl,fun k=>by
  by_cases e:k=r
  ·subst e;exact .inr (upd_same _ _ _)
  ·exact .inl (upd_ne _ _ _ e),rfl,rfl⟩ h
def ovM:MaD×ErD->Bool
 |(m,none)=>m.x.2.2.2.2
 |_=>false
theorem I4 {env:Env} {a1 a2 a6 a8:Addr} {c:ChD} {now:Int} (E:MaEnv env a1 a2 a6 a8 c now) {fu:Nat} {m:MaD} (hm:MaOk c fu m):
 ConI prog env 85 [1000,1001,1002] gr2 (fun g=>[.loc 1000 (g 1000) 0 0]) (RQ c now fu false m) (RQ c now fu (ovM (onM c now fu NM m)) (onM c now fu NM m).1) (fun _=>lS a2 a6 a8 (onM c now fu NM m).2):=by
 obtain⟨X,hX⟩: ∃X,onM c now fu NM m=X:=⟨_,rfl⟩;have hfar:=Je hm;rw[hX];refine qi func85 call85 ntmps85 results85 ?_;intro vs esc hesc;obtain⟨e0,e1,e2⟩:=es3 hesc;have F:=ai6 RQ.eq_1 RQe.eq_1 gr2.eq_1 e0 e1 e2;repeat refine st ?_
 refine vj ?_;repeat refine st ?_
 refine vk ?_;show awp _ _ _ _ _ _;repeat refine st ?_
 refine lp (D:=MaD×Nat) (fun _ vs'=>[(0, .loc 1000 (vs' 1000) 0 0)]) (fun y vs'=>RQ c now fu false y.1 vs') (fun y vs' esc'=>(MaOk c fu y.1/\onM c now fu y.2 y.1=X/\rj fu y.1<y.2)/\vs' 1000=vs 1000/\esc' 1000=false/\esc' 1001=false/\esc' 1002=false) (fun y=>rj fu y.1) (m,NM) ⟨⟨hm,hX,hfar⟩,by simp only[go_sem,e0,e1,e2,Kn]⟩ ?_;try clear e0 e1 e2 hesc hfar hX hm
 rintro⟨m,n⟩ ws esc ⟨⟨hm,hX,hfar⟩,v0,e0,e1,e2⟩;simp only at hm hX hfar;obtain⟨n,rfl⟩: ∃k,n=k+1:=⟨n-1,by omega⟩;unfold onM at hX;by_cases ho:m.x.2.2.2.2=true
 ·rw[K0 ho]at hX;subst hX;have hov:ovM (m,none)=true:=ho;have hq:lS a2 a6 a8 none= .lit .nilIface:=rfl;show awp _ _ _ _ _ _;have F:=ai10 RQ.eq_1 RQe.eq_1 gr2.eq_1 hov hq ho v0 e0 e1 e2;repeat refine st ?_
  show awp _ _ _ _ _ _;refine aN ?_;simp only[bJ,ba,nk];exact rS
 rw[KZ ho]at hX;have ho:m.x.2.2.2.2=false:=by simpa using ho
 have fa:=wn E hm ho [];have ha:=nf E.h E.hn hm ho (ev:=[]);have hfa:=Hy E.h E.hn hm ho (ev:=[]);rcases hA:atM c now fu m []with⟨⟨m1,_|e⟩,b⟩
 ·rw[hA]at hX fa ha hfa;obtain⟨b1,b2,b3⟩:=ha rfl;obtain⟨f1,f2⟩:=hfa rfl;simp only at hX fa b1 b2 b3 f1 f2;cases b with
  | true=>
    simp only at hX;unfold lS RQ RQe at fa;have F:=ai8 RQ.eq_1 RQe.eq_1 gr2.eq_1 ho v0 e0 e1 e2;repeat refine st ?_
    refine iL [(1000,1000),(1001,1001),(1002,1002)] fa ?_;repeat refine st ?_
    refine⟨(m1,n),⟨⟨b1,hX,by have:=f2 rfl;simp only;omega⟩,?_⟩,?_,?_,?_⟩
    ·simp only[go_sem,v0,e0,e1,e2,Kn]
    ·exact qe
    ·exact qe
    ·exact f2 rfl
  | false=>
    obtain rfl:m1=m:=by rcases b3 with⟨q,_⟩|⟨_,q⟩;cases q;exact q
    unfold lS RQ RQe at fa;simp only at hX;cases hw:m1.wait with
    | nil=>
      rw[hw]at hX;simp only at hX;subst hX;have hov:ovM (m1,none)=false:=ho;have hq:lS a2 a6 a8 none= .lit .nilIface:=rfl;show awp _ _ _ _ _ _;have F:=ai11 RQ.eq_1 RQe.eq_1 gr2.eq_1 hov hq hw ho v0 e0 e1 e2;repeat refine st ?_
      refine iL [(1000,1000),(1001,1001),(1002,1002)] fa ?_;repeat refine st ?_
      refine aN ?_;simp only[bJ,ba,nk];exact rS
    | cons e w=>
      rw[hw]at hX;simp only at hX;have q0:m1.wait[0]? =some e:=by rw[hw];rfl
      have q5:(0:Int)< (m1.wait.length:Int):=by rw[hw];simp only[Kj];omega
      have q6:((m1.wait.length:Int)==0)=false:=by rw[ND];omega
      have F:=ai9 RQ.eq_1 RQe.eq_1 gr2.eq_1 q6 ho v0 e0 e1 e2;repeat refine st ?_
      refine iL [(1000,1000),(1001,1001),(1002,1002)] fa ?_
      iterate 20 (refine st ?_)
      refine be [(1002,⟨2,m1.wait.map tmAV,33,true⟩)] ?_ ?_
      ·exact qe
      have hm2:=C3 hm hw;have fc:=yh env (w.map tmAV) (by rw[Kl];have:=hm2.wait;exact aG (by simp only at this;omega) (by omega));have fb:=wn E hm2 ho e.1;have hb:=nf E.h E.hn hm2 ho (ev:=e.1);have hfb:=Hy E.h E.hn hm2 ho (ev:=e.1);have q3:(m1.wait.drop 1).take (m1.wait.length-1)=w:=by rw[hw,List.drop_one,List.tail_cons,Kj,Ms,Kp]
      have q4:(1:Int)<=(m1.wait.length:Int):=by rw[hw];simp only[Kj];omega
      rcases hB:atM c now fu { m1 with wait:=w,data:=e.2 } e.1 with⟨⟨m2,er⟩,b⟩;rw[hB]at hX fb hb hfb;simp only at hX fb hb hfb;unfold RQ RQe at fb;simp only at fb;have F:=ai12 RQ.eq_1 RQe.eq_1 gr2.eq_1 tmAV.eq_1 q0 q3 q4 q5 q6 ho v0<|ai3 e0 e1 e2;repeat (first|refine oO rfl (by simp only[go_sem,aM,F];exact⟨rfl,rfl⟩) ?_|refine gR ?_|refine gO ?_|refine oC rfl (fc) (by simp only[go_sem,aM,F];exact iR) (by simp only[go_sem,aM,F];exact⟨rfl,rfl⟩) ?_|refine oZ (jm ?_)|refine oZ ?_|refine oS ?_|refine gT ?_|refine gD mixed ?_|refine oB ?_|refine oK ?_|(refine oX ?_;simp only[bJ,ba, ↓reduceIte,Nat.reduceEqDiff,reduceCtorEq])|refine oY (by simp only[go_sem,aM,F];exact iR) ?_|refine oN (by simp only[go_sem,aM,F];exact iR) ?_)
      refine iC [(1000,1000),(1001,1001),(1002,41)] rfl (fb) (by decide) (by decide) (by simp only[go_sem,aM,F]<;>rfl) (by simp only[go_sem,aM,F,Kn]<;>trivial) (by simp only[go_sem,aM,F,Kn]<;>trivial) (by intro o;simp only[go_sem,aM,F,behind,Kn]<;>trivial) (by intro o;simp only[go_sem,aM,F]<;>rfl) (by simp only[go_sem,aM,F,behind];exact iR) (by simp only[go_sem,aM,F,behind];exact iR) ?_
      iterate 6 (refine st ?_)
      show awp _ _ _ _ _ _;refine HW 1002 ?_;refine Ix 41 1002 ⟨2,m2.wait.map tmAV,33,true⟩ (by decide) (by simp only[go_sem]) (by simp only[go_sem]) (LG 1) rfl ?_;rcases er with _|⟨k,ps⟩
      ·obtain⟨g1,_,g3⟩:=hb rfl;obtain⟨h1,h2⟩:=hfb rfl;have hlt:rj fu { m1 with wait:=w,data:=e.2 } <rj fu m1:=by unfold rj;rw[hw];simp
       unfold lS;simp only at hX h1 |-;have F:=ai7 RQ.eq_1 RQe.eq_1 gr2.eq_1 v0 e0 e1 e2;repeat refine st ?_
       refine⟨(m2,n),⟨⟨g1,hX,by simp only;omega⟩,?_⟩,?_,?_,by simp only;omega⟩
       ·simp only[go_sem,v0,e0,e1,e2,Kn]
       ·exact qe
       ·exact qe
      ·simp only at hX;subst hX;have hov:ovM (m2,some (k,ps))=false:=rfl;unfold lS;simp only;have F:=ai8 RQ.eq_1 RQe.eq_1 gr2.eq_1 hov v0 e0 e1 e2;repeat refine st ?_
       refine aN ?_;simp only[bJ,ba,nk];exact rS
 ·rw[hA]at hX fa;simp only at hX fa;subst hX;have hov:ovM (m1,some e)=false:=rfl;obtain⟨k,ps⟩:=e;unfold lS RQ RQe at fa;simp only at fa;show awp _ _ _ _ _ _;unfold lS;simp only;have F:=ai9 RQ.eq_1 RQe.eq_1 gr2.eq_1 hov ho v0 e0 e1 e2;repeat refine st ?_
  refine iL [(1000,1000),(1001,1001),(1002,1002)] fa ?_;repeat refine st ?_
  show awp _ _ _ _ _ _;refine aN ?_;simp only[bJ,ba,nk];exact rS
end
section
def eL (c:ChD) (x:InD) (ev:List UInt8) (d n f:Int):List AV:=[Sg c.name,I c.initial,varsAV c.vars,stsAV c.states,trsAV c.trans,ints34 x.1,ints34 x.2.1, .seq 2 (x.2.2.1.map mmAV), .seq 2 (x.2.2.2.1.map tmAV),B x.2.2.2.2,Sg ev,I d,I n,I f]
theorem jy (env:Env) (c:ChD):Con prog env 23 [.agg (aA c)] (B (rR c)):=by
 unfold rR;refine qf func23 call23 ntmps23 results23 ?_;have F:=aA.eq_1;exact gz0
theorem rQ (env:Env) (a1 a8:Addr) (he:ChEnv env a1 a8) (hT: ∀W,env.inv W->TabAt W) (c:ChD) (hcf:i6 c) (h:jl c=true):Con prog env 11 [.agg (aA c)] (aC c):=by
 have f0:=jy env c;have f1:=li env c;unfold jl at h;rw[KY]at h;rw[h.1]at f0;rw[h.2]at f1;rw[LW]at h;have f2:=uU env a1 a8 he hT c (Ji h.2) hcf;unfold aC at f2 |-;refine qf func11 call11 ntmps11 results11 ?_;repeat refine Aa f0 f1 f2 ?_
 exact aR0
theorem pM (env:Env) (c:ChD) (h:jl c=false):Con prog env 11 [.agg (aA c)] (.lit (.pointer none)):=by
 have f0:=jy env c;have f1:=li env c;unfold jl at h;cases h1:rR c
 ·rw[h1]at f0;refine qf func11 call11 ntmps11 results11 ?_;repeat refine yt f0 f1 ?_
  exact aR0
 rw[h1]at f0;rw[h1,LK]at h;rw[h]at f1;refine qf func11 call11 ntmps11 results11 ?_;repeat refine yt f0 f1 ?_
 exact aR0
def ic (c:ChD) (x:InD):Bool:= !jl c||decide (60< (x.1.length:Int))||decide (60< (x.2.2.1.length:Int))||decide (60< (x.2.1.length:Int))
theorem pA (env:Env) (c:ChD) (x:InD) (ev:List UInt8) (d n f:Int):Con prog env 12 [.agg (eL c x ev d n f)] (B (ic c x)):=by
 have f0:=jy env c;have f1:=li env c;unfold aA at f0 f1;unfold ic jl;refine qf func12 call12 ntmps12 results12 ?_;have F:=eL.eq_1;exact gz2 f0 f1
def AW (n f:Int):Bool:=decide (0<=n)&&decide (n<=1099511627776)&&decide (0<=f)&&decide (f<=256)
theorem jx (ad:Nat->Addr) (mo:More) (k:Nat) (hk:1<=k/\k<=9) (p:Int) (ps:List Int):Con prog (aY ad mo) 18 [errV p (chainV ps (sentV (ad k))),I k] (B true):=by
 have f0:Con prog (aY ad mo) 46 [errV p (chainV ps (sentV (ad k)))] (I k):=CE ad mo k hk (p::ps);have b0:(((k:Nat):Int)==0)=false:=by simp;omega
 generalize chainV ps (sentV (ad k))=X at*;refine qf func18 call18 ntmps18 results18 ?_;have F:=b0;repeat refine tz1 f0 ?_
 exact aR
theorem pN (env:Env) (a1 a8:Addr) (he:ChEnv env a1 a8) (op:List UInt8) (c:ChD) (n f:Int):Con prog env 60 [Sg op,aC c,I n,I f] (if AW n f=true then nilE else errV (-1) (sentV a1)):=by
 have e:(if AW n f=true then nilE else errV (-1) (sentV a1))=if n<0 then errV (-1) (sentV a1) else if 1099511627776<n then errV (-1) (sentV a1) else if f<0 then errV (-1) (sentV a1) else if 256<f then errV (-1) (sentV a1) else nilE:=by
  unfold AW;by_cases h1:n<0<;>by_cases h2:1099511627776<n<;>by_cases h3:f<0<;>by_cases h4:256<f<;>simp[h1,h2,h3,h4]<;>omega
 rw[e];have f0:=lu env a1 a8 he op;unfold aC;refine qf func60 call60 ntmps60 results60 ?_;have F:=trivial;exact gz1 f0
end
section
def ir:List AV:=[nilS,nilS,nilS,nilS,B false]
def dO:List AV:=[nilS,I 0,B false]
def b9 (e:AV):AV:= .tuple [.agg ir, .agg dO,e]
def Br (a2 a6 a8:Addr) (g:Nat->Nat):MaD×ErD->AV
 |(m,none)=> .tuple [.agg (inE m.x), .agg [.row 1001 (g 1001),I m.steps,B m.x.2.2.2.2],nilE]
 |(_,some (k,ps))=>b9 (errV (-1) (errV (ps.headD (-1)) (chainV ps.tail (sentV (if k=2 then a2 else if k=6 then a6 else a8)))))
def lj (a2 a6 a8:Addr):MaD×ErD->AV
 |(m,none)=> .tuple [.agg (inE m.x), .agg [ints34 m.said,I m.steps,B m.x.2.2.2.2],nilE]
 |(_,some (k,ps))=>b9 (errV (-1) (errV (ps.headD (-1)) (chainV ps.tail (sentV (if k=2 then a2 else if k=6 then a6 else a8)))))
theorem o0 {env:Env} {a1 a2 a6 a8:Addr} {c:ChD} {now:Int} (E:MaEnv env a1 a2 a6 a8 c now) {fu:Nat} {m:MaD} (hm:MaOk c fu m) (op:List UInt8):
 ConI prog env 44 [1000,1001,1002] gr2 (fun g=>[.loc 1000 (g 1000) 0 0,Sg op,nilE]) (RQ c now fu false m) (RQ c now fu (ovM (onM c now fu NM m)) (onM c now fu NM m).1) (fun g=>Br a2 a6 a8 g (onM c now fu NM m)):=by
 have f0:=I4 E hm;generalize onM c now fu NM m=X at*;rcases X with⟨m1,_|⟨k,ps⟩⟩
 ·unfold Br;unfold ovM lS RQ RQe at f0;unfold ovM RQ RQe inE;simp only at f0 |-;refine qi func44 call44 ntmps44 results44 ?_;intro vs esc hesc;obtain⟨e0,e1,e2⟩:=es3 hesc;have F:=ai4 gr2.eq_1 e0 e1 e2;repeat refine st ?_
  refine iL [(1000,1000),(1001,1001),(1002,1002)] f0 ?_;repeat refine st ?_
  exact rI
 ·unfold Br b9 ir dO;unfold ovM lS RQ RQe at f0;unfold ovM RQ RQe;simp only at f0 |-;have f1:=fU env op (ps.headD (-1)) (chainV ps.tail (sentV (if k=2 then a2 else if k=6 then a6 else a8)));refine qi func44 call44 ntmps44 results44 ?_;intro vs esc hesc;obtain⟨e0,e1,e2⟩:=es3 hesc;have F:=ai4 gr2.eq_1 e0 e1 e2;repeat refine st ?_
  refine iL [(1000,1000),(1001,1001),(1002,1002)] f0 ?_;repeat refine tz1 f1 ?_
  exact rI
theorem o4 (env:Env) (es:Nat->Nat->List AV) (S W:List (List AV)) (op:List UInt8) (p:Int) (e:AV):
 ConI prog env 44 [1000,1001,1002] gr2 (fun g=>[.loc 1000 (g 1000) 0 0,Sg op,errV p e]) (fun g=>[(1000,⟨13,[es (g 1001) (g 1002)],103,false⟩),(1001,⟨1,S,3,true⟩),(1002,⟨2,W,33,true⟩)]) (fun g=>[(1000,⟨13,[es (g 1001) (g 1002)],103,false⟩),(1001,⟨1,S,3,true⟩),(1002,⟨2,W,33,true⟩)]) (fun _=>b9 (errV (-1) (errV p e))):=by
 have f1:=fU env op p e;unfold b9 ir dO;refine qi func44 call44 ntmps44 results44 ?_;intro vs esc hesc;obtain⟨e0,e1,e2⟩:=es3 hesc;have F:=ai4 gr2.eq_1 e0 e1 e2;repeat refine tz1 f1 ?_
 exact rI
def t7 (a1 a7:Addr) (c:ChD) (x:InD) (d n f:Int):AV:=if ap c (rcI x)=false then errV (-1) (errV (-1) (sentV a1)) else if x.2.2.2.2=true then errV (-1) (sentV a7) else if aJ d=false then errV (-1) (sentV a1) else if AW n f=true then nilE else errV (-1) (sentV a1)
theorem iO (env:Env) (a1 a7 a8:Addr) (he:ChEnv env a1 a8) (h7:env 1=some (sentV a7)) (c:ChD) (h:Full c) (hs:Small c) (x:InD) (hL:LiteI (rcI x)) (hn: ∀t∈x.2.2.2.1,t.1.length<=9223372036854775807) (hF: ∀m∈x.2.2.1,Fits m.2.length 8) (op:List UInt8) (d n f:Int):
 Con prog env 40 [Sg op,aC c, .agg (inE x),I d,I n,I f] (t7 a1 a7 c x d n f):=by
 have g7:=gX h7;have f0:=j8 env a1 a8 he c h hs (rcI x) hL hn hF;have f1:=bw env d;have f2:=pN env a1 a8 he op c n f;have f3:=fU env op (-1) (sentV a1);have f4:=bT env op a7;have f5:=lu env a1 a8 he op;rw[lH]at f0;unfold nN at f0;unfold t7;unfold aC at f0 f2 |-;unfold inE at f0 |-;cases hr:ap c (rcI x)
 ·rw[hr,KZ LY]at f0;rw[K0 rfl];refine qf func40 call40 ntmps40 results40 ?_;repeat refine yt f0 f3 ?_
  exact aR0
 rw[hr,K0 rfl]at f0;rw[KZ (by simp)];by_cases ho:x.2.2.2.2=true
 ·rw[K0 ho];refine qf func40 call40 ntmps40 results40 ?_;have F:=ai ho g7;repeat refine tz2 f0 f4 ?_
  exact aR
 rw[KZ ho];have ho:x.2.2.2.2=false:=by simpa using ho
 cases hd:aJ d
 ·rw[hd]at f1;rw[K0 rfl];refine qf func40 call40 ntmps40 results40 ?_;have F:=ho;repeat refine tz3 f0 f1 f5 ?_
  exact aR
 rw[hd]at f1;rw[KZ (by simp)];cases hbn:AW n f
 ·rw[hbn,KZ LY]at f2;rw[KZ LY];refine qf func40 call40 ntmps40 results40 ?_;have F:=ho;repeat refine tz3 f0 f1 f2 ?_
  exact aR
 ·rw[hbn,K0 rfl]at f2;rw[K0 rfl];refine qf func40 call40 ntmps40 results40 ?_;have F:=ho;repeat refine tz3 f0 f1 f2 ?_
  exact aR
theorem BS (env:Env) (c:ChD) (x:InD) (ev:List UInt8) (d n f:Int) (p:Int) (e:AV) (fr:Con prog env 40 [Sg [109,97,99,114,111,46,83,101,110,100],aC c, .agg (inE x),I d,I n,I f] (errV p e)):Con prog env 16 [aC c, .agg (inE x), .agg [Sg ev,I d],I n,I f] (b9 (errV p e)):=by
 unfold b9 ir dO;unfold aC inE at fr |-;refine qf func16 call16 ntmps16 results16 ?_;repeat refine lZ fr ?_
 exact aR0
def nmB (ev:List UInt8):Bool:= !(ev == [])&& !decide (37< (ev.length:Int))
theorem BR (env:Env) (a1 a8:Addr) (he:ChEnv env a1 a8) (c:ChD) (x:InD) (ev:List UInt8) (hn:nmB ev=false) (d n f:Int) (fr:Con prog env 40 [Sg [109,97,99,114,111,46,83,101,110,100],aC c, .agg (inE x),I d,I n,I f] nilE):Con prog env 16 [aC c, .agg (inE x), .agg [Sg ev,I d],I n,I f] (b9 (errV (-1) (sentV a1))):=by
 have f1:=lu env a1 a8 he [109,97,99,114,111,46,83,101,110,100];unfold b9 ir dO;unfold aC inE at fr |-;unfold nmB at hn;cases h1:ev == []
 ·rw[h1,Li,LK,MN,K6]at hn;refine qf func16 call16 ntmps16 results16 ?_;have F:=ai h1 hn;repeat refine tz2 fr f1 ?_
  show awp _ _ _ _ _ _;exact aR
 ·refine qf func16 call16 ntmps16 results16 ?_;have F:=h1;repeat refine tz2 fr f1 ?_
  show awp _ _ _ _ _ _;exact aR
theorem ue {env:Env} {a1 a2 a6 a8:Addr} {c:ChD} {now:Int} (E:MaEnv env a1 a2 a6 a8 c now) {fu:Nat} {x:InD} {ev:List UInt8} {d:Int} (hb:ap c (rcI x)=true) (ho:x.2.2.2.2=false) (hd:aJ d=true) (hF:fu<=256) (hn:nmB ev=true) (fr:Con prog env 40 [Sg [109,97,99,114,111,46,83,101,110,100],aC c, .agg (inE x),I d,I now,I fu] nilE):
 Con prog env 16 [aC c, .agg (inE x), .agg [Sg ev,I d],I now,I fu] (lj a2 a6 a8 (io c now fu x ev d)):=by
 have hm:=Fq hb hd hF;have k:=gy E.h E.hs.vars (eS hb);have k1:=k.act;have k2:=k.vars;have k3:=k.mem;have f2:=lv env x (by omega) (by omega) (by omega) k.mems (aG (Kh k.tms (by omega)) (by omega));have fa:=wn E hm ho ev;have ha:=nf E.h E.hn hm ho (ev:=ev);unfold nmB at hn;rw[KY,L3,L3,LN]at hn;obtain⟨n1,n2⟩:=hn;unfold io;rcases hA:atM c now fu (m0 x d) ev with⟨⟨m,_|⟨k,ps⟩⟩,b⟩
 ·rw[hA]at fa ha;obtain⟨a3,_,_⟩:=ha rfl;have fe:=o0 E a3 [109,97,99,114,111,46,83,101,110,100];show Con _ _ _ _ (lj a2 a6 a8 (onM c now fu NM m));simp only at fe fa;generalize onM c now fu NM m=X at*;unfold aC inE at fr |-;obtain⟨A,V,M,T,O⟩:=x;unfold m0 RQ RQe lS at fa;unfold RQ RQe at fe;simp only at*;rcases X with⟨m1,_|⟨k,ps⟩⟩
  ·unfold Br ovM inE at fe;unfold lj inE;simp only at fe |-;refine qf func16 call16 ntmps16 results16 ?_;have F:=ai3 gr2.eq_1 n1 n2;repeat refine tz1 fr ?_
   refine iL [(8,9001),(11,9002),(14,9003)] f2 ?_
   iterate 8 (refine st ?_)
   show awp _ _ _ _ _ _;refine be [(9001,⟨1,A.map intAV,3,true⟩),(9002,⟨1,V.map intAV,3,true⟩),(9003,⟨2,T.map tmAV,108,true⟩)] ?_ ?_
   ·exact qe
   refine nC 49 9005 0 6 33 2 ?_;refine nC 49 9004 0 7 3 1 ?_;repeat refine st ?_
   refine iL [(1000,49),(1001,9004),(1002,9005)] fa ?_;repeat refine st ?_
   refine iL [(1000,49),(1001,9004),(1002,9005)] fe ?_;repeat refine st ?_
   exact aR
  ·unfold Br ovM b9 ir dO at fe;unfold lj b9 ir dO;simp only at fe |-;refine qf func16 call16 ntmps16 results16 ?_;have F:=ai3 gr2.eq_1 n1 n2;repeat refine tz1 fr ?_
   refine iL [(8,9001),(11,9002),(14,9003)] f2 ?_
   iterate 8 (refine st ?_)
   show awp _ _ _ _ _ _;refine be [(9001,⟨1,A.map intAV,3,true⟩),(9002,⟨1,V.map intAV,3,true⟩),(9003,⟨2,T.map tmAV,108,true⟩)] ?_ ?_
   ·exact qe
   refine nC 49 9005 0 6 33 2 ?_;refine nC 49 9004 0 7 3 1 ?_;repeat refine st ?_
   refine iL [(1000,49),(1001,9004),(1002,9005)] fa ?_;repeat refine st ?_
   refine iL [(1000,49),(1001,9004),(1002,9005)] fe ?_;repeat refine st ?_
   exact aR
 ·rw[hA]at fa;have fe:=o4 env (fun a b=>RQe c now fu false m fun k=>if k=1001 then a else b) (m.said.map intAV) (m.wait.map tmAV) [109,97,99,114,111,46,83,101,110,100] (ps.headD (-1)) (chainV ps.tail (sentV (if k=2 then a2 else if k=6 then a6 else a8)));show Con _ _ _ _ (b9 (errV (-1) (errV (ps.headD (-1)) (chainV ps.tail (sentV (if k=2 then a2 else if k=6 then a6 else a8))))));unfold aC inE at fr |-;obtain⟨A,V,M,T,O⟩:=x;unfold m0 RQ RQe lS at fa;unfold RQe b9 ir dO at fe;unfold b9 ir dO;simp only[L4,Nat.reduceEqDiff,Lf]at*;refine qf func16 call16 ntmps16 results16 ?_;have F:=ai3 gr2.eq_1 n1 n2;repeat refine tz1 fr ?_
  refine iL [(8,9001),(11,9002),(14,9003)] f2 ?_
  iterate 8 (refine st ?_)
  show awp _ _ _ _ _ _;refine be [(9001,⟨1,A.map intAV,3,true⟩),(9002,⟨1,V.map intAV,3,true⟩),(9003,⟨2,T.map tmAV,108,true⟩)] ?_ ?_
  ·exact qe
  refine nC 49 9005 0 6 33 2 ?_;refine nC 49 9004 0 7 3 1 ?_;repeat refine st ?_
  refine iL [(1000,49),(1001,9004),(1002,9005)] fa ?_;repeat refine st ?_
  refine iL [(1000,49),(1001,9004),(1002,9005)] fe ?_;repeat refine st ?_
  exact aR
end

end Go.Proofs.YtbjldjekgepopaaGreatDoor