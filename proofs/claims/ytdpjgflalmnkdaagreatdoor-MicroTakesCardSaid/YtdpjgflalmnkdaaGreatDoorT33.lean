/- The law MicroTakes. -/
import Derived.Test.YtdpjgflalmnkdaaGreatDoorT32
set_option maxRecDepth 100000
set_option maxHeartbeats 16000000
set_option linter.unusedSimpArgs false
namespace Go.Proofs.YtdpjgflalmnkdaaGreatDoor
open Go.Proofs.Tryz
open Go.RowKit
theorem ma (ad:Nat->Addr) (c:ChD) (hcf:jS c) (x:InD) (hx:rj x) (ev:List UInt8) (d n:Int):Con prog (cE ad cz) 3 [.agg (jk c x ev d n)] (B true):=by
 have he:=Gj ad;have hT:=Eu ad;have h2:cE ad cz 2=some (sentV (ad 2)):=rfl;have tk:=fun(k:Nat) hk (p:Int) (ps:List Int)=>xv ad cz k hk p ps;have fa:=CK (cE ad cz) (ad 1) (ad 2) (ad 8) he h2 hT;have fr:=yL (cE ad cz) c x ev d n;cases hg:mP c with
 | false=>
   have fm:=yb (cE ad cz) c hg;unfold kV at fr;rw[hg,Lx,OS,OS,OS]at fr;unfold aA at fm;unfold jk at fr |-;refine qf func3 call3 ntmps3 results3 ?_;repeat refine GE fm fr fa ?_
   exact aR0
 |true=>
 have h:=FU hg;have hs:=sb (DV hg);have fm:=BX (cE ad cz) (ad 1) (ad 8) he hT c hcf hg;unfold aA aJ at fm;cases hr:kV c x with
 | true=>
   rw[hr]at fr;unfold jk at fr |-;refine qf func3 call3 ntmps3 results3 ?_;repeat refine GE fm fr fa ?_
   exact aR0
 |false=>
 rw[hr]at fr;unfold kV at hr;rw[hg,M1,M2,Np,Np,LZ,LZ,LZ]at hr;obtain⟨⟨l1,l2⟩,l3⟩:=hr;obtain⟨hF,hTm⟩:=HF hx;have hL:LiteI (rcI x):=⟨show x.1.length<=1000000 by omega,show x.2.1.length<=1000000 by omega,show x.2.2.1.length<=1000000 by omega,hTm.2⟩;have hnm: ∀t∈x.2.2.2.1,t.1.length<=9223372036854775807:=fun t ht=>nZ (hx.1.2.2.2 t ht);have fy:=yQ (cE ad cz) c h x hL hF ev d n;by_cases hy:rdyI c x d=0
 case neg=>
  have q0:(rdyI c x d != 0)=true:=by simpa using hy
  generalize rdyI c x d=y at*;unfold jk at fr fy |-;refine qf func3 call3 ntmps3 results3 ?_;have F:=q0;repeat refine tz4 fm fr fy fa ?_
  exact aR
 obtain⟨b1,b2,b3⟩:=GY hy;rw[hy]at fy;by_cases q1:n<0
 ·unfold jk at fr fy |-;refine qf func3 call3 ntmps3 results3 ?_;have F:=q1;repeat refine tz4 fm fr fy fa ?_
  exact aR
 by_cases q2:1099511627776<n
 ·unfold jk at fr fy |-;refine qf func3 call3 ntmps3 results3 ?_;have F:=ai q1 q2;repeat refine tz4 fm fr fy fa ?_
  exact aR
 have hI:=xA b1;have hA:Asked c x d:=Hf b1 b3 (by omega);obtain⟨l,hl,hk⟩:=DC hA.lg;have rdy:=fun op=>uh (cE ad cz) (ad 1) (ad 8) he c h hs x hL hnm hF op d b1 b2 b3;have fe:=pk (cE ad cz) (ad 1) (ad 2) (ad 8) he h2 c h hs x d hA ev (rdy _) l hl hk
 have hi: ∀i∈innL c l,(i:Int)∈x.1:=fun i hi=>by
  rw[hl];exact Kb.2 ⟨i,Iw h hk hi,rfl⟩
 have hfit: ∀f,u0 c x.1 (woX c x.1 x.2.1 d) ev (innL c l)= .ok f->Fit c x.1 f:=fun f hf=>HT h (cx hA.lg) hi hf;unfold aJ inE at fe;cases hv:u0 c x.1 (woX c x.1 x.2.1 d) ev (innL c l) with
 | error m=>
   rw[hv]at fe;simp only[IG]at fe;have ft:Con prog (cE ad cz) 9 [errV (1000+(m:Nat)) (sentV (ad 2)),I 2] (B true):=tk 2 (by omega) (1000+(m:Nat)) [];generalize sentV (ad 2)=E2 at*;generalize 1000+(m:Int)=P at*;unfold jk at fr fy |-;refine qf func3 call3 ntmps3 results3 ?_;have F:=ai q1 q2;repeat refine tz6 fm fr fy fe ft fa ?_
   exact aR
 |ok f=>
 have hf:=hfit f hv;rw[hv]at fe;simp only[IG]at fe;have hn:0<=n/\n<=1099511627776:=⟨by omega,by omega⟩;have E:RunEnv (cE ad cz) (ad 1) (ad 2) (ad 8) c d n:=⟨he,h2,h,hs,b3,hn⟩;obtain⟨hvl,_⟩:=H8 (DV hg);have hVl:=hI.len;have fs:=wA (cE ad cz) (ad 1) (ad 2) (ad 8) c d n E x hI (by omega) (by omega) hTm f hf (rdy _);have fw:=BA (cE ad cz) c h hvl d n b3 hn x hI (by omega) f hf;have hsr:=A6 h b3 hn hI b2 hf;have her:=Ci c d n (dD x) f;try clear rdy hfit hi hv
 unfold aJ inE at fs;unfold aA inE at fw;rcases hX:stepP c d n (dD x) f with⟨r,_|⟨k,ps⟩⟩
 ·rw[hX]at fs fw hsr;obtain⟨hrr,hir,_⟩:=hsr rfl;have hrf:=I5 h hvl hrr hir;obtain⟨m1,m2⟩:=JD hrf;have f3:=yR (cE ad cz) r.act r.vars (inR r) m1 rfl rfl;rw[show ((r.act==(inR r).1)&&(r.vars==(inR r).2.1))=true by simp[inR]]at f3;have f4:=mg (cE ad cz) c h (rcI (inR r)) m2 hrf.mems;rw[hir]at f4;change Con _ _ _ [.agg (aA c), .agg (inE (inR r))] _ at f4;have f5:=tf (cE ad cz) r.outs (by have:r.outs.length<=256:=hrr.outs;omega);unfold uS at fs;unfold rsA rrA at fw;unfold inR inE at f3 f4;unfold aA at f4;simp only at fs fw f3 f4;unfold jk at fr fy |-;refine qf func3 call3 ntmps3 results3 ?_;have F:=ai q1 q2;repeat (first|refine st ?_|refine cC fm ?_|refine cC fr ?_|refine cC fy ?_|refine cC fe ?_|refine cC fs ?_|refine cC fw ?_|refine cC f3 ?_|refine cC f4 ?_|refine cC f5 ?_|refine cC fa ?_)
  exact aR
 ·rw[hX]at fs fw her;have hk:=her (k,ps) rfl;simp only at hk;have hk0:((k:Int)==0)=false:=uZ her rfl;have hk1:((k:Int) != 0)=true:=by simp;omega
  have hak:(if k=2 then ad 2 else ad 8)=ad k:=by
   rcases hk with rfl|rfl<;>rfl
  have t3:=tk k (by omega) (-1) (ps.headD (-1)::ps.tail);change Con _ _ _ [errV (-1) (errV (ps.headD (-1)) (chainV ps.tail (sentV (ad k)))),I (k:Nat)] _ at t3;unfold uS cv at fs;unfold rsA at fw;simp only at fs fw;rw[hak]at fs;generalize chainV ps.tail (sentV (ad k))=EK at*;unfold jk at fr fy |-;refine qf func3 call3 ntmps3 results3 ?_;have F:=ai3 q1 q2 hk1;repeat refine tz8 fm fr fy fe fs fw t3 fa ?_
  exact aR
end Go.Proofs.YtdpjgflalmnkdaaGreatDoor
