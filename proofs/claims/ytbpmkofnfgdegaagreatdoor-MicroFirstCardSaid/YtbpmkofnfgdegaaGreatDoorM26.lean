/- The law MicroFirst. -/
import Derived.Test.YtbpmkofnfgdegaaGreatDoorM25
import Derived.Test.YtbpmkofnfgdegaaGreatDoorM6
import Derived.Test.YtbpmkofnfgdegaaGreatDoorM14
import Derived.Test.YtbpmkofnfgdegaaGreatDoorM8
set_option maxRecDepth 100000
set_option maxHeartbeats 16000000
set_option linter.unusedSimpArgs false
namespace Go.Proofs.YtbpmkofnfgdegaaGreatDoor
open Go.Proofs.Tryz
open Go.RowKit
section
theorem zm2 (env:Env) (l:List MemD) (hl:l.length<=9223372036854775807) (hm: ∀m∈l,m.2.length<=9223372036854775807):Con prog env 37 [.seq 2 (l.map mmAV), .seq 2 (l.map mmAV)] (B true):=by
 refine qf func37 call37 ntmps37 results37 ?_;repeat refine st0 ?_
 refine zab (D:=Nat) (fun j vs=>[(0, .seq 2 (l.map mmAV)),(1, .seq 2 (l.map mmAV)),(5,I j)]) (fun _ _=>[]) (fun j _ _=>j<=l.length) (fun j=>l.length-j) 0 ?_ ?_ ?_ ?_
 ·exact Nat.zero_le _
 ·(simp only [go_sem])
  try rfl
 ·(simp only [go_sem])
  try rfl
 rintro j ws esc hj;by_cases hlt:j<l.length
 ·obtain⟨x,hx⟩: ∃x,l[j]? =some x:=⟨l[j],List.getElem?_eq_getElem hlt⟩;have q1:=nlt hlt;have q2:=zaa hlt (by omega);have hxl:=hm x (List.mem_of_getElem? hx);have F:=ai3 mmAV.eq_1 hx q1;repeat refine st ?_
  refine zab (D:=Nat) (fun k vs=>[(0, .seq 2 (l.map mmAV)),(1, .seq 2 (l.map mmAV)),(5,I j),(6,I k)]) (fun _ _=>[]) (fun k _ _=>k<=x.2.length) (fun k=>x.2.length-k) 0 ?_ ?_ ?_ ?_
  ·exact Nat.zero_le _
  ·(simp only [go_sem,F])
   try rfl
  ·(simp only [go_sem,F])
   try rfl
  rintro k us es hk;by_cases hlt2:k<x.2.length
  ·obtain⟨y,hy⟩: ∃y,x.2[k]? =some y:=⟨x.2[k],List.getElem?_eq_getElem hlt2⟩;have p1:=nlt hlt2;have p2:=zaa hlt2 (by omega);have F:=ai7 mmAV.eq_1 intAV.eq_1 hx hy q1 p1 p2;repeat refine st ?_
   refine⟨k+1,hlt2, ?_, ?_,by omega⟩
   ·exact qe
   ·exact qe
  ·obtain rfl:k=x.2.length:=by omega
   have p1: ¬(x.2.length:Int)< (x.2.length:Int):=by omega
   have F:=ai5 mmAV.eq_1 hx q1 q2 p1;repeat refine st ?_
   refine⟨j+1,hlt, ?_, ?_,by omega⟩
   ·exact qe
   ·exact qe
 ·obtain rfl:j=l.length:=by omega
  have q1: ¬(l.length:Int)< (l.length:Int):=by omega
  have F:=q1;repeat refine st ?_
  exact aR
theorem zgf (env:Env) (A V:List Int) (x:InD) (h:ztF x) (hA:A.length=x.1.length) (hV:V.length=x.2.1.length):Con prog env 11 [.agg (inE (A,V,x.2.2)), .agg (inE x)] (B ((A==x.1)&&(V==x.2.1))):=by
 have h0:maxLen=9223372036854775807:=rfl;have f0:=zm2 env x.2.2.1 (h0 ▸ h.2.1.1) fun m hm=>h0 ▸ h.2.1.2 m hm;have hT:x.2.2.2.1.length<=9223372036854775807:=h0 ▸ h.2.2.1;have hA2:x.1.length<=9223372036854775807:=h0 ▸ h.1.1;have hV2:x.2.1.length<=9223372036854775807:=h0 ▸ h.1.2;have k1:((A.length:Int) != (x.1.length:Int))=false:=by simp [hA]
 have k2:((V.length:Int) != (x.2.1.length:Int))=false:=by simp [hV]
 refine qf func11 call11 ntmps11 results11 ?_;have F:=ai3 inE.eq_1 k1 k2;repeat (first | refine st ?_ | refine cC f0 ?_)
 refine zab (D:=Nat) (fun i vs=>[(2, .loc 2 (vs 2) 0 0),(3, .loc 3 (vs 3) 0 0),(5,I i)]) (fun _ _=>[(2,⟨5,[inE (A,V,x.2.2)],31,false⟩),(3,⟨5,[inE x],31,false⟩)]) (fun i _ _=>i<=x.2.2.2.1.length) (fun i=>x.2.2.2.1.length-i) 0 ?_ ?_ ?_ ?_
 ·exact Nat.zero_le _
 ·exact qe
 ·have F:=inE.eq_1;exact qe
 rintro i ws esc hi;by_cases hlt:i<x.2.2.2.1.length
 ·obtain⟨t,ht⟩: ∃t,x.2.2.2.1[i]? =some t:=⟨x.2.2.2.1[i],List.getElem?_eq_getElem hlt⟩;have q1:=nlt hlt;have q2:=zaa hlt (by omega);have F:=ai5 inE.eq_1 tmAV.eq_1 q1 q2 ht;repeat refine st ?_
  refine⟨i+1,hlt, ?_, ?_,by omega⟩
  ·exact qe
  ·have F:=inE.eq_1;exact qe
 have q1: ¬(i:Int)< (x.2.2.2.1.length:Int):=by omega
 have F:=ai inE.eq_1 q1;repeat refine st ?_
 try clear hi hlt q1
 refine zab (D:=Nat) (fun i vs=>[(2, .loc 2 (vs 2) 0 0),(3, .loc 3 (vs 3) 0 0),(6,I i)]) (fun _ _=>[(2,⟨5,[inE (A,V,x.2.2)],31,false⟩),(3,⟨5,[inE x],31,false⟩)]) (fun i _ _=>i<=A.length/\A.take i=x.1.take i) (fun i=>A.length-i) 0 ?_ ?_ ?_ ?_
 ·exact⟨Nat.zero_le _,rfl⟩
 ·exact qe
 ·have F:=inE.eq_1;exact qe
 try clear ws esc
 rintro i ws esc ⟨hi,ht⟩;by_cases hlt:i<A.length
 ·obtain⟨u,hu,_⟩:=zal hlt;obtain⟨v,hv,_⟩:=zal (show i<x.1.length by omega);have q1:=nlt hlt;have q3:=nlt (show i<x.1.length by omega);have q2:=zaa hlt (by omega);cases e:(u==v)
  ·rw [ziT hu hv (by simpa using e)];have F:=ai9 inE.eq_1 intAV.eq_1 q1 q2 q3 hu hv e bneA;repeat refine st ?_
   exact aR
  ·have F:=ai9 inE.eq_1 intAV.eq_1 q1 q2 q3 hu hv e bneA;repeat refine st ?_
   refine⟨i+1,⟨hlt,take_same ht hu hv (by simpa using e)⟩, ?_, ?_,by omega⟩
   ·exact qe
   ·have F:=inE.eq_1;exact qe
 have q1: ¬(i:Int)< (A.length:Int):=by omega
 rw [zlU ht (by omega) (by omega),Bool.true_and];have F:=ai inE.eq_1 q1;repeat refine st ?_
 try clear hi hlt q1 ht
 refine zab (D:=Nat) (fun i vs=>[(2, .loc 2 (vs 2) 0 0),(3, .loc 3 (vs 3) 0 0),(7,I i)]) (fun _ _=>[(2,⟨5,[inE (A,V,x.2.2)],31,false⟩),(3,⟨5,[inE x],31,false⟩)]) (fun i _ _=>i<=V.length/\V.take i=x.2.1.take i) (fun i=>V.length-i) 0 ?_ ?_ ?_ ?_
 ·exact⟨Nat.zero_le _,rfl⟩
 ·exact qe
 ·have F:=inE.eq_1;exact qe
 try clear ws esc
 rintro i ws esc ⟨hi,ht⟩;by_cases hlt:i<V.length
 ·obtain⟨u,hu,_⟩:=zal hlt;obtain⟨v,hv,_⟩:=zal (show i<x.2.1.length by omega);have q1:=nlt hlt;have q3:=nlt (show i<x.2.1.length by omega);have q2:=zaa hlt (by omega);cases e:(u==v)
  ·rw [ziT hu hv (by simpa using e)];have F:=ai9 inE.eq_1 intAV.eq_1 q1 q2 q3 hu hv e bneA;repeat refine st ?_
   exact aR
  ·have F:=ai9 inE.eq_1 intAV.eq_1 q1 q2 q3 hu hv e bneA;repeat refine st ?_
   refine⟨i+1,⟨hlt,take_same ht hu hv (by simpa using e)⟩, ?_, ?_,by omega⟩
   ·exact qe
   ·have F:=inE.eq_1;exact qe
 have q1: ¬(i:Int)< (V.length:Int):=by omega
 rw [zlU ht (by omega) (by omega)];have F:=ai inE.eq_1 q1;repeat refine st ?_
 exact aR
end
section
theorem zne (env:Env) (a:Addr) (h7:env 0=some (sentV a)) (now:Int):Con prog env 21 [.lit (.pointer none),I now] (.tuple [.agg [nilS,nilS,nilS,nilS,B false], .agg [nilS,nilS],errV (-1) (sentV a)]):=by
 have g1:=zgx h7;have f1:=zbD env [109,105,99,114,111,46,70,105,114,115,116] a;refine qf func21 call21 ntmps21 results21 ?_;have F:=g1;repeat (first | refine st ?_ | refine cC f1 ?_)
 exact aR
theorem zkX (env:Env) (c:ChD):Con prog env 53 [.agg (chAV c), .seq 2 []] (B true):=by
 refine qf func53 call53 ntmps53 results53 ?_;have F:=chAV.eq_1;repeat (first | refine zag ?_ | refine st ?_ | refine zad 40 ?_)
 exact aR
theorem zeX (ad:Nat->Addr) (c:ChD) (hcf:zdZ c) (now:Int):Con prog (zaP ad zaS) 5 [.agg (chAV c),I now] (B true):=by
 have he:=zrl ad;have hT:=zph ad;have h2:zaP ad zaS 2=some (sentV (ad 2)):=rfl;have h7:zaP ad zaS 0=some (sentV (ad 7)):=rfl;have t7:Con prog (zaP ad zaS) 17 [errV (-1) (sentV (ad 7)),I 7] (B true):=zd3 ad zaS 7 (by omega) (-1) [];have t1:Con prog (zaP ad zaS) 17 [errV (-1) (sentV (ad 1)),I 1] (B true):=zd3 ad zaS 1 (by omega) (-1) [];have tk:=fun(k:Nat) hk (p:Int) (ps:List Int)=>zd3 ad zaS k hk p ps;have fa:=zlD (zaP ad zaS) (ad 1) (ad 8) he hT;have fq:=zne (zaP ad zaS) (ad 7) h7 now;have fl:=zeb (zaP ad zaS) c;have fr:=zeT (zaP ad zaS) c;cases hg:zg4 c with
 | false=>
   have fm:=zk6 (zaP ad zaS) c hg;generalize sentV (ad 7)=E7 at*;unfold chAV at fm fl fr;unfold zg4 at hg;cases hl:zgo c with
   | false=>
     rw [hl] at fl;refine qf func5 call5 ntmps5 results5 ?_;have F:=chAV.eq_1;repeat (first | refine st ?_ | refine cC fq ?_ | refine cC fm ?_ | refine cC t7 ?_ | refine cC fl ?_ | refine cC fr ?_ | refine cC fa ?_)
     exact aR
   | true=>
     rw [hl] at fl hg;rw [Bool.true_and] at hg;rw [hg] at fr;refine qf func5 call5 ntmps5 results5 ?_;have F:=chAV.eq_1;repeat (first | refine st ?_ | refine cC fq ?_ | refine cC fm ?_ | refine cC t7 ?_ | refine cC fl ?_ | refine cC fr ?_ | refine cC fa ?_)
     exact aR
 | true=>
 have h:=zpG hg;have hs:=zh2 (zpF hg);obtain⟨hvl,hv⟩:=zrW (zpF hg);have fm:=zns (zaP ad zaS) (ad 1) (ad 8) he hT c hcf hg;try clear fl fr
 have sN:Con prog (zaP ad zaS) 11 [.agg [nilS,nilS,nilS,nilS,B false], .agg [nilS,nilS,nilS,nilS,B false]] (B true):=by
  have f:=zgf (zaP ad zaS) [] [] ([],[],[],[],false) ⟨⟨Nat.zero_le _,Nat.zero_le _⟩,⟨Nat.zero_le _,fun m hm=>by simp at hm⟩,Nat.zero_le _,fun m hm=>by simp at hm⟩ rfl rfl;exact f.args (.cons (.agg (.cons (.nil 1) (.cons (.nil 1) (.cons (.nil 2) (.cons (.nil 2) (.cons (.refl _) .nil)))))) (.cons (.agg (.cons (.nil 1) (.cons (.nil 1) (.cons (.nil 2) (.cons (.nil 2) (.cons (.refl _) .nil)))))) .nil))
 by_cases hn:0<=now/\now<=1099511627776
 case neg=>
  have f0:=zn0 (zaP ad zaS) (ad 1) (ad 8) he c now hn;generalize sentV (ad 7)=E7 at*;generalize sentV (ad 1)=E1 at*;unfold chAV zai at fm;unfold zai at f0;by_cases h0:now<0
  ·refine qf func5 call5 ntmps5 results5 ?_;have F:=ai chAV.eq_1 h0;repeat (first | refine st ?_ | refine cC fq ?_ | refine cC fm ?_ | refine cC t7 ?_ | refine cC f0 ?_ | refine cC t1 ?_ | refine cC sN ?_ | refine cC fa ?_)
   exact aR
  ·have h1:1099511627776<now:=by omega
   refine qf func5 call5 ntmps5 results5 ?_;have F:=ai3 chAV.eq_1 h0 h1;repeat (first | refine st ?_ | refine cC fq ?_ | refine cC fm ?_ | refine cC t7 ?_ | refine cC f0 ?_ | refine cC t1 ?_ | refine cC sN ?_ | refine cC fa ?_)
   exact aR
 have h0: ¬now<0:=by omega
 have h1: ¬1099511627776<now:=by omega
 have E:RunEnv (zaP ad zaS) (ad 1) (ad 2) (ad 8) c 0 now:=⟨he,h2,h,hs,rfl,hn⟩;have f0:=znZ (zaP ad zaS) (ad 1) (ad 2) (ad 8) c now E hv;have f1:=zm9 (zaP ad zaS) c h hvl now hn hv;have her:=zrH c 0 now (startR c) (zL (tbegL c (-1)));change ErOk (firstP c now).2 at her;have hfr:=zli h hn hv;rcases hX:firstP c now with⟨r,_ | ⟨k,ps⟩⟩
 ·rw [hX] at f0 f1 hfr;obtain⟨hi,hrr,hmm⟩:=hfr rfl;simp only at hi hrr hmm
  have hlg:lgB c r.act=true:=by
   unfold zbI at hi;simp only [Bool.and_eq_true] at hi;exact hi.1.1.1.1.1
  have hal:=zrk hlg;have hfew:=h.few;have hvr:=hrr.len;have htl:=hrr.tml
  have hn32: ∀t∈r.tms,t.1.length<=32:=fun t ht=>by
   have:=(hrr.tms.each t ht).1;unfold zax at this;simp only [Bool.and_eq_true,decide_eq_true_eq] at this;exact this.1.1
  have hml:maxLen=9223372036854775807:=rfl;have f3:=zgf (zaP ad zaS) r.act r.vars (inR r) ⟨⟨show r.act.length<=maxLen by omega,show r.vars.length<=maxLen by omega⟩,⟨show r.mem.length<=maxLen by rw [hmm]; exact Nat.zero_le _,show ∀m∈r.mem,_ by rw [hmm]; intro m hm; simp at hm⟩,show r.tms.length<=maxLen by omega,show ∀t∈r.tms,few_tm t from fun t ht=>by have:=hn32 t ht; unfold few_tm; omega⟩ rfl rfl;rw [show ((r.act==(inR r).1)&&(r.vars==(inR r).2.1))=true by simp [inR]] at f3;have f4:=zic (zaP ad zaS) c h (rcI (inR r)) ⟨show r.act.length<=1000000 by omega,show r.vars.length<=1000000 by omega,show r.mem.length<=1000000 by rw [hmm]; exact Nat.zero_le _,show r.tms.length<=9223372036854775807 by omega⟩ (by show Con _ _ _ [_,memsAV r.mem] (B (zjq c r.mem)); rw [hmm]; exact zkX (zaP ad zaS) c);rw [hi] at f4;change Con _ _ _ [.agg (chAV c), .agg (inE (inR r))] _ at f4;have f5:=zh5 (zaP ad zaS) r.outs (by have:=hrr.outs; omega);have f6:=zf4 (zaP ad zaS) r.rais (by have:=hrr.rais; omega);generalize sentV (ad 7)=E7 at*;unfold zjM at f0;unfold rrA at f1;unfold inR inE at f3 f4;unfold chAV zai at fm;unfold zai at f0;unfold chAV at f1 f4;simp only at f0 f1 f3 f4;refine qf func5 call5 ntmps5 results5 ?_;have F:=ai3 chAV.eq_1 h0 h1;repeat (first | refine st ?_ | refine cC fq ?_ | refine cC fm ?_ | refine cC t7 ?_ | refine cC f0 ?_ | refine cC f1 ?_ | refine cC f3 ?_ | refine cC f4 ?_ | refine cC f5 ?_ | refine cC f6 ?_ | refine cC fa ?_)
  exact aR
 ·rw [hX] at f0 f1 her;have hk:=her (k,ps) rfl;simp only at hk;have hk0:((k:Int)==0)=false:=zrF her rfl;have hk1:((k:Int) != 0)=true:=by simp; omega
  have hak:(if k=2 then ad 2 else ad 8)=ad k:=by
   rcases hk with rfl | rfl<;>rfl
  have t3:=tk k (by omega) (-1) (ps.headD (-1)::ps.tail);change Con _ _ _ [errV (-1) (errV (ps.headD (-1)) (chainV ps.tail (sentV (ad k)))),I (k:Nat)] _ at t3;unfold zjM errA at f0;simp only at f0;rw [hak] at f0;generalize sentV (ad 7)=E7 at*;generalize chainV ps.tail (sentV (ad k))=EK at*;unfold rrA at f1;unfold chAV zai at fm;unfold zai at f0;unfold chAV at f1;simp only at f1;refine qf func5 call5 ntmps5 results5 ?_;have F:=ai4 chAV.eq_1 h0 h1 hk1;repeat (first | refine st ?_ | refine cC fq ?_ | refine cC fm ?_ | refine cC t7 ?_ | refine cC f0 ?_ | refine cC f1 ?_ | refine cC t3 ?_ | refine cC sN ?_ | refine cC fa ?_)
  exact aR
end

end Go.Proofs.YtbpmkofnfgdegaaGreatDoor