/- Reverse and Compact of the library at ints: the shelf's contracts laid at this program. -/
import Derived.Test.YtbpmkofnfgdegaaGreatDoorQ16
import Derived.Test.YtbpmkofnfgdegaaGreatDoorQ8
import Derived.Test.YtbpmkofnfgdegaaGreatDoorQ6
import Derived.Test.YtbpmkofnfgdegaaGreatDoorQ17
import Derived.Test.YtbpmkofnfgdegaaGreatDoorQ14
import Derived.Test.YtbpmkofnfgdegaaGreatDoorQ13
import Derived.Shelf.Slices.Reverse
import Derived.Shelf.Slices.CompactI
set_option linter.unusedSimpArgs false
namespace Go.Proofs.YtbpmkofnfgdegaaGreatDoor
open Go.Proofs.Tryz
open Go.RowKit
set_option maxRecDepth 100000
set_option maxHeartbeats 8000000
theorem zkQ (env:Env) (c:ChD) (hc:Right c) (i:Int):Con prog env 42 [.agg (chAV c),I i] (.own 3 1 ((upL c i).map intAV)):=by
 have hlen:=hc.few;have hul:(upL c i).length<=40:=zf9 40 i;refine qf func42 call42 ntmps42 results42 ?_;have F:=chAV.eq_1;repeat refine st ?_
 refine zab (D:=Int×List Int) (fun d vs=>[(1,I d.1),(2, .loc 2 (vs 2) 0 0),(5, .row 7 (vs 7)),(6,I d.2.length)]) (fun d _=>[(2,⟨5,[chAV c],26,false⟩),(7,⟨1,d.2.map intAV,3,true⟩)]) (fun d _ esc=>upL c i=d.2++upL c d.1/\esc 7=false/\(d.2=[]\/d.2.length<40-(d.1+1).toNat\/d.1<40)) (fun d=>(d.1+1).toNat) (i,[]) ?_ ?_ ?_ ?_
 ·exact⟨rfl,rfl, .inl rfl⟩
 ·(simp only[go_sem,F])
  try rfl
 ·have F:=chAV.eq_1
  (simp only[go_sem,F])
  try rfl
 rintro⟨d,l⟩ ws esc ⟨hu,e0, -⟩;simp only at hu;have f0:=zmB env c d;have hll:l.length<=40:=by have:=congrArg List.length hu;rw[List.length_append]at this;omega
 cases hz:inZ c d with
 | false=>
   rw[hz]at f0;rw[zbr hz,List.append_nil]at hu;by_cases h40:l.length<40
   ·have q1:(l.length:Int)<40:=by omega
    have F:=ai4 chAV.eq_1 q1 hu e0;repeat refine tz1 f0 ?_
    exact aR
   ·have q1: ¬(l.length:Int)<40:=by omega
    have F:=ai4 chAV.eq_1 q1 hu e0;repeat refine tz1 f0 ?_
    exact aR
 | true=>
   rw[hz]at f0;obtain⟨k,s,rfl,hs,ha⟩:=zb9 hz;have hp:=zck hs;have hlt:=zb0 hc hz;rw[hp]at hlt;rw[zjf hc hz,hp]at hu
   have hl:l.length+1<=40:=by
    have:=congrArg List.length hu;rw[List.length_append,List.length_cons]at this;omega
   have q1:(l.length:Int)<40:=by omega
   have q2:((k:Nat):Int)< (c.states.length:Int):=by have:=(zag.1 hz).2;omega
   have q3:IntKind.i64.wrap ((l.length:Int)+1)=((l.length+1:Nat):Int):=zaa (Nat.lt_succ_self _) (by omega);have hf:Fits (l.length+1) 8:=⟨by omega,by omega⟩;have F:=ai8 chAV.eq_1 stAV.eq_1 q1 q2 q3 hs hf e0;repeat refine tz1 f0 ?_
   refine⟨(s.parent,l++[s.parent]),⟨?_,by simp only[go_sem,e0],?_⟩,?_,?_,?_⟩
   ·show upL c i=(l++[s.parent])++upL c s.parent;rw[hu,List.append_assoc];rfl
   ·exact .inr (.inr (by show s.parent<40;omega))
   ·simp only[List.length_append,List.length_singleton];exact qe
   ·have F:=ai chAV.eq_1 @List.map_append.{0,0};exact qe
   ·show (s.parent+1).toNat< ((k:Int)+1).toNat;omega
theorem zc2 (env:Env) (c:ChD) (hc:Right c) (k i:Int):Con prog env 13 [.agg (chAV c),I k,I i] (B (aboveB c k i)):=by
 have hul:(upL c i).length<=40:=zf9 40 i;have f0:=zkQ env c hc i;have f1:=zdC env (upL c i) k (by omega);unfold chAV at f0;unfold aboveB;refine qf func13 call13 ntmps13 results13 ?_;have F:=chAV.eq_1;repeat refine tz2 f0 f1 ?_
 exact aR
theorem zqj {c:ChD} (hc:Right c) {k i:Nat} (_hi:i<c.states.length):(mask c i).testBit k=aboveB c k i:=by
 unfold aboveB upL mask;rw[zjH hc,Bool.eq_iff_iff,decide_eq_true_eq,List.contains_iff_mem]
theorem zcC (env:Env) (c:ChD) (hc:Right c) (k i:Int):Con prog env 85 [zaj c,I k,I i] (B (aboveB c k i)):=by
 have hlen:=hc.few;have f0:=zjg env c i;cases hz:inZ c i with
 | false=>
   rw[hz]at f0;have:aboveB c k i=false:=by unfold aboveB;rw[zbr hz];rfl
   rw[this];refine qf func85 call85 ntmps85 results85 ?_;repeat refine tz01 f0 ?_
   exact aR0
 | true=>
   rw[hz]at f0;obtain⟨m,s,rfl,hs,ha⟩:=zb9 hz;have hm:=(List.getElem?_eq_some_iff.1 hs).1;by_cases e:k= -1
   ·subst e;have:aboveB c (-1) m=true:=by unfold aboveB;rw[List.contains_iff_mem];exact zjd hc (m+1) m hz (by omega)
    rw[this];refine qf func85 call85 ntmps85 results85 ?_;repeat refine tz01 f0 ?_
    exact aR0
   ·have e1:(k == -1)=false:=by simpa using e
    have f1:=zjg env c k;cases hk:inZ c k with
    | false=>
      rw[hk]at f1
      have:aboveB c k m=false:=by
       cases hb:aboveB c k m with
       |false=>rfl
       | true=>
         unfold aboveB at hb;have h1:=ze8 hc 40 _ _ (List.contains_iff_mem.1 hb);rw[zag.2 ⟨by omega,by omega⟩]at hk;cases hk
      rw[this];refine qf func85 call85 ntmps85 results85 ?_;have F:=e1;repeat refine tz2 f0 f1 ?_
      exact aR
    | true=>
      rw[hk]at f1;obtain⟨p,sp,rfl,hps,_⟩:=zb9 hk;have hpl:=(List.getElem?_eq_some_iff.1 hps).1;have hml:mask c m<4294967296:=zfP hc (by omega);have f2:=znF env (mask c m) hml p (by omega);rw[zqj hc hm]at f2;have g1:(mkTo c c.states.length)[m]? =some (mask c m):=by rw[zeY hm,if_pos hm]
      have g2:((m:Nat):Int)< (c.states.length:Int):=by omega
      have g3:=zbU c c.states.length;refine qf func85 call85 ntmps85 results85 ?_;have F:=ai6 zaj.eq_1 umAV.eq_1 e1 g1 g2 g3;repeat refine tz3 f0 f1 f2 ?_
      exact aR
def zaT:List Int->Int->Nat->Int
 |[],_,_=> -1
 |x::l,v,k=>if x=v then k else zaT l v (k+1)
theorem zsb {l:List Int} {v:Int} {k:Nat} {x:Int} (h:l[k]? =some x) (hn:zaT l v 0=zaT (l.drop k) v k):(x=v->zaT l v 0=k)/\(x≠v->zaT l v 0=zaT (l.drop (k+1)) v (k+1)):=by
 obtain⟨hk,rfl⟩:=List.getElem?_eq_some_iff.1 h;rw[List.drop_eq_getElem_cons hk]at hn;simp only[zaT]at hn;exact⟨fun e=>by rw[hn,if_pos e],fun e=>by rw[hn,if_neg e]⟩
theorem zsc (v:Int): ∀(l:List Int) (k:Nat),decide (0<=zaT l v k)=l.contains v
 |[],k=>rfl
 | x::l,k=>by
   have ih:=zsc v l (k+1);by_cases e:x=v
   ·have e1:zaT (x::l) v k=k:=if_pos e;rw[e1,Bool.eq_iff_iff,decide_eq_true_eq,List.contains_iff_mem];exact⟨fun _=>by rw[e];exact List.mem_cons_self ..,fun _=>by omega⟩
   ·have e1:zaT (x::l) v k=zaT l v (k+1):=if_neg e;rw[e1,ih,Bool.eq_iff_iff,List.contains_iff_mem,List.contains_iff_mem,List.mem_cons];exact⟨.inr,fun h=>h.resolve_left fun h=>e h.symm⟩
theorem zpQ (env:Env) (l:List Int) (v:Int) (hl:l.length<=1000000):Con prog env 84 [.seq 1 (l.map intAV),I v] (I (zaT l v 0)):=by
 refine qf func84 call84 ntmps84 results84 ?_;repeat refine st0 ?_
 refine zab (D:=Nat) (fun k _=>[(0, .seq 1 (l.map intAV)),(1,I v),(7,I l.length),(8,I k)]) (fun _ _=>[]) (fun k _ _=>k<=l.length/\zaT l v 0=zaT (l.drop k) v k) (fun k=>l.length-k) 0 ?_ ?_ ?_ ?_
 ·exact⟨Nat.zero_le _,rfl⟩
 ·exact qe0
 ·exact qe0
 rintro k ws esc ⟨hk,hi⟩;by_cases hlt:k<l.length
 ·obtain⟨x,hx,_⟩:=zak hlt;obtain⟨yes,no⟩:=zsb hx hi;have k1:=nlt hlt;have k2:=zaa hlt (by omega);by_cases e:x=v
  ·rw[yes e];have k3:(v==x)=true:=by simp[e]
   have F:=ai4 k1 k2 k3 hx;repeat refine st ?_
   exact aR
  ·have k3:(v==x)=false:=by simpa using fun h=>e h.symm
   have F:=ai4 k1 k2 k3 hx;repeat refine st ?_
   refine⟨k+1,⟨hlt,no e⟩,?_,?_,?_⟩
   ·exact qe
   ·exact qe
   ·omega
 ·have k1: ¬(k:Int)< (l.length:Int):=by omega
  rw[hi,List.drop_of_length_le (by omega),show zaT [] v k= -1 from rfl];have F:=k1;repeat refine st ?_
  exact aR
theorem zaB (env:Env) (l:List Int) (v:Int) (hl:l.length<=1000000):Con prog env 40 [.seq 1 (l.map intAV),I v] (B (l.contains v)):=by
 have h:=zsc v l 0;refine qf func40 call40 ntmps40 results40 ?_;repeat refine tz01 (zpQ env l v hl) ?_
 (refine zal ?_;show (zaG _ _ _).run _=some _;simp only[go_sem])
 exact congrArg B h
theorem zgD (env:Env) (c:ChD) (hs:Small c) (k:Nat) (t:TrD) (ht:c.trans[k]? =some t):Con prog env 131 [zah c,I k] (.tuple [.agg (trAV t),B true]):=by
 have f0:=zas env c hs;have hk:=(List.getElem?_eq_some_iff.1 ht).1;have g1:((k:Nat):Int)< (c.trans.length:Int):=by omega
 have g2: ¬(c.trans.length:Int)<=(k:Int):=by omega
 have g3: ¬((k:Nat):Int)<0:=by omega
 refine qf func131 call131 ntmps131 results131 ?_;have F:=ai6 chAV.eq_1 trAV.eq_1 g1 g2 g3 ht;repeat refine tz1 f0 ?_
 exact aR
theorem zjz {c:ChD} {k:Nat} {s:StD} (hs:c.states[k]? =some s):zaD c k=(s.kind==1):=by unfold zaD;rw[zaM,hs]
theorem zf1 (env:Env) (c:ChD) (hc:Right c) (hs:Small c) (t:TrD) (_hsrc:inZ c t.src=true):Con prog env 134 [zah c, .agg (trAV t)] (I (domE c t.src t.target)):=by
 have hlen:=hc.few;have f0:=zas env c hs;have f1:=zaE env c;have f2:=zmb env c hc t.src;have hul:(upL c t.src).length<=40:=zf9 40 t.src
 have hrange: ∀x∈upL c t.src,x<0\/inZ c x=true:=fun x hx=>by
  rcases Int.lt_or_le x 0 with h|h
  ·exact .inl h
  ·exact .inr (zc9 hc hx h).1
 unfold domE;generalize upL c t.src=U at*;unfold zah at f0 f1 |-;refine qf func134 call134 ntmps134 results134 ?_;have F:=trAV.eq_1;repeat refine tz3 f0 f1 f2 ?_
 refine zab (D:=Nat) (fun j vs=>[(0, .ref 9 [tabCells c] 0 0),(3, .loc 3 (vs 3) 0 0),(5, .loc 5 (vs 5) 0 0),(14, .row 14 (vs 14)),(15,I U.length),(16,I j)]) (fun j _=>[(3,⟨5,[trAV t],52,false⟩),(5,⟨5,[chAV c],26,false⟩),(14,⟨1,U.map intAV,3,true⟩)]) (fun j _ _=>j<=U.length/\U.find? (domP c t.target)=(U.drop j).find? (domP c t.target)) (fun j=>U.length-j) 0 ?_ ?_ ?_ ?_
 ·exact⟨Nat.zero_le _,rfl⟩
 ·have F:=ai trAV.eq_1 chAV.eq_1
  (simp only[go_sem,F])
  try rfl
 ·have F:=ai trAV.eq_1 chAV.eq_1
  (simp only[go_sem,F])
  try rfl
 rintro j ws esc ⟨hj,hf⟩;by_cases hlt:j<U.length
 ·obtain⟨x,hx⟩:=gE hlt;have q1:=nlt hlt;have q2:=zaa hlt (by omega);rw[zhO hx]at hf;rcases hrange x (List.mem_of_getElem? hx) with h0|hz
  ·have hd:domP c t.target x=true:=by unfold domP;rw[decide_eq_true h0];rfl
   rw[hd]at hf;simp only[if_true]at hf;rw[hf,Option.getD_some];have F:=ai hx q1;repeat (first|refine oO rfl (by simp only[go_sem,h0,F];exact⟨rfl,rfl⟩) ?_|refine gR ?_|refine gO ?_|refine oZ (zlS ?_)|refine oZ ?_|refine oS ?_|refine gT ?_|refine gD mixed ?_|refine oB ?_|refine oK ?_|(refine oX ?_;simp only[zcV,zdr, ↓reduceIte,Nat.reduceEqDiff,reduceCtorEq])|refine oY (by simp only[go_sem,h0,F];exact iR) ?_|refine oN (by simp only[go_sem,h0,F];exact iR) ?_)
   (refine zal ?_;show (zaG _ _ _).run _=some _;simp only[go_sem,h0,F])
  ·obtain⟨k,s,rfl,hsk,_⟩:=zb9 hz;have hk:=(List.getElem?_eq_some_iff.1 hsk).1;have h0: ¬((k:Nat):Int)<0:=by omega
   have q3:((k:Nat):Int)< (c.states.length:Int):=by omega
   have hdp:domP c t.target (k:Int)=(zaD c (k:Int)&&aboveB c (k:Int) t.target):=by unfold domP;rw[decide_eq_false h0,Bool.false_or]
   have hpl:=zjz hsk;have f3:=zcC env c hc k t.target;cases hk1:(s.kind==1) with
   | false=>
     rw[hdp,hpl,hk1,Bool.false_and]at hf;simp only[Bool.false_eq_true,if_false]at hf;have F:=ai10 trAV.eq_1 chAV.eq_1 stAV.eq_1 hx hsk q1 q2 q3 h0 hk1;repeat refine tz1 f1 ?_
     refine⟨j+1,⟨hlt,hf⟩,?_,?_,by omega⟩
     ·exact qe
     ·have F:=ai trAV.eq_1 chAV.eq_1;exact qe
   | true=>
     rw[hdp,hpl,hk1,Bool.true_and]at hf;cases hab:aboveB c (k:Int) t.target with
     | false=>
       rw[hab]at hf f3;simp only[Bool.false_eq_true,if_false]at hf;unfold zaj at f1 f3;have F:=ai10 trAV.eq_1 chAV.eq_1 stAV.eq_1 hx hsk q1 q2 q3 h0 hk1;repeat refine tz2 f1 f3 ?_
       refine⟨j+1,⟨hlt,hf⟩,?_,?_,by omega⟩
       ·exact qe
       ·have F:=ai trAV.eq_1 chAV.eq_1;exact qe
     | true=>
       rw[hab]at hf f3;simp only[if_true]at hf;rw[hf,Option.getD_some];unfold zaj at f1 f3;have F:=ai10 trAV.eq_1 chAV.eq_1 stAV.eq_1 hx hsk q1 q2 q3 h0 hk1;repeat refine tz2 f1 f3 ?_
       exact aR
 ·obtain rfl:j=U.length:=by omega
  have q1:=nl U.length;rw[List.drop_length]at hf;rw[hf];simp only[List.find?_nil,Option.getD_none];have F:=q1;repeat refine st ?_
  exact aR
theorem Full.src {c:ChD} (h:Full c) {k:Nat} {t:TrD} (ht:c.trans[k]? =some t):inZ c t.src=true/\(t.target= -1\/inZ c t.target=true):=by
 have:=h.tr k t ht;unfold zch at this;simp only[Bool.and_eq_true,Bool.or_eq_true,beq_iff_eq,decide_eq_true_eq]at this;refine⟨?_,this.2.imp id fun q=>zag.2 q⟩;have h1:=this.1.1.1.1;unfold zav at h1;split at h1
 ·rename_i s hs;unfold at_ at hs;split at hs
  ·rename_i h0;have:=(List.getElem?_eq_some_iff.1 hs).1;exact zag.2 ⟨h0,by omega⟩
  ·cases hs
 ·cases h1
theorem zjw (env:Env) (c:ChD) (hc:Right c) (t:TrD) (_hsrc:inZ c t.src=true):Con prog env 14 [.agg (chAV c), .agg (trAV t)] (I (domE c t.src t.target)):=by
 have hlen:=hc.few;have f2:=zkQ env c hc t.src;have hul:(upL c t.src).length<=40:=zf9 40 t.src
 have hrange: ∀x∈upL c t.src,x= -1\/inZ c x=true:=fun x hx=>by
  rcases Int.lt_or_le x 0 with h|h
  ·have:=(ze8 hc 40 _ _ hx).1;exact .inl (by omega)
  ·exact .inr (zc9 hc hx h).1
 unfold domE;generalize upL c t.src=U at*;unfold chAV at f2;refine qf func14 call14 ntmps14 results14 ?_;have F:=ai trAV.eq_1 chAV.eq_1;repeat refine tz1 f2 ?_
 refine zab (D:=Nat) (fun j vs=>[(2, .loc 2 (vs 2) 0 0),(3, .loc 3 (vs 3) 0 0),(5, .row 10 (vs 10)),(6,I j)]) (fun j _=>[(2,⟨5,[chAV c],26,false⟩),(3,⟨5,[trAV t],52,false⟩),(10,⟨1,U.map intAV,3,true⟩)]) (fun j _ _=>j<=U.length/\U.find? (domP c t.target)=(U.drop j).find? (domP c t.target)) (fun j=>U.length-j) 0 ?_ ?_ ?_ ?_
 ·exact⟨Nat.zero_le _,rfl⟩
 ·have F:=ai trAV.eq_1 chAV.eq_1
  (simp only[go_sem,F])
  try rfl
 ·have F:=ai trAV.eq_1 chAV.eq_1
  (simp only[go_sem,F])
  try rfl
 rintro j ws esc ⟨hj,hf⟩;by_cases hlt:j<U.length
 ·obtain⟨x,hx⟩:=gE hlt;have q1:=nlt hlt;have q2:=zaa hlt (by omega);rw[zhO hx]at hf;rcases hrange x (List.mem_of_getElem? hx) with rfl|hz
  ·have hd:domP c t.target (-1)=true:=by unfold domP;rw[decide_eq_true (by omega)];rfl
   rw[hd]at hf;simp only[if_true]at hf;rw[hf,Option.getD_some];have F:=ai hx q1;repeat refine st ?_
   exact aR
  ·obtain⟨k,s,rfl,hsk,_⟩:=zb9 hz;have hk:=(List.getElem?_eq_some_iff.1 hsk).1;have h0:(((k:Nat):Int) == -1)=false:=by simp
   have q3:((k:Nat):Int)< (c.states.length:Int):=by omega
   have hdp:domP c t.target (k:Int)=(zaD c (k:Int)&&aboveB c (k:Int) t.target):=by unfold domP;rw[decide_eq_false (by omega),Bool.false_or]
   have hpl:=zjz hsk;have f3:=zc2 env c hc k t.target;unfold chAV at f3;cases hk1:(s.kind==1) with
   | false=>
     rw[hdp,hpl,hk1,Bool.false_and]at hf;simp only[Bool.false_eq_true,if_false]at hf;have F:=ai10 trAV.eq_1 chAV.eq_1 stAV.eq_1 hx hsk q1 q2 q3 h0 hk1;repeat refine tz1 f3 ?_
     refine⟨j+1,⟨hlt,hf⟩,?_,?_,by omega⟩
     ·exact qe
     ·have F:=ai trAV.eq_1 chAV.eq_1;exact qe
   | true=>
     rw[hdp,hpl,hk1,Bool.true_and]at hf;cases hab:aboveB c (k:Int) t.target with
     | false=>
       rw[hab]at hf f3;simp only[Bool.false_eq_true,if_false]at hf;have F:=ai10 trAV.eq_1 chAV.eq_1 stAV.eq_1 hx hsk q1 q2 q3 h0 hk1;repeat refine tz1 f3 ?_
       refine⟨j+1,⟨hlt,hf⟩,?_,?_,by omega⟩
       ·exact qe
       ·have F:=ai trAV.eq_1 chAV.eq_1;exact qe
     | true=>
       rw[hab]at hf f3;simp only[if_true]at hf;rw[hf,Option.getD_some];have F:=ai10 trAV.eq_1 chAV.eq_1 stAV.eq_1 hx hsk q1 q2 q3 h0 hk1;repeat refine tz1 f3 ?_
       exact aR
 ·obtain rfl:j=U.length:=by omega
  have q1:=nl U.length;rw[List.drop_length]at hf;rw[hf];simp only[List.find?_nil,Option.getD_none];have F:=q1;repeat refine st ?_
  exact aR
end Go.Proofs.YtbpmkofnfgdegaaGreatDoor
namespace Go.Proofs
def Tryz.revI_ren:Go.Shelf.Ren:=⟨fun|112=>137|n=>n,fun|28=>27|3=>3|4=>4|0=>0|n=>n,fun|n=>n⟩
theorem Tryz.revI:Go.Proofs.Lays.n112 prog Tryz.revI_ren:={
 mixed:=by kernel_rfl
 f112:=func137.trans (congrArg some (by kernel_rfl))
 t0:=Tryz.underlying0
 a0:=Tryz.isAgg0
 z0:=Tryz.sizeOf0
 v0:=Tryz.zeroValue0
 t3:=Tryz.underlying3
 a3:=Tryz.isAgg3
 z3:=Tryz.sizeOf3
 v3:=Tryz.zeroValue3
 t4:=Tryz.underlying4
 a4:=Tryz.isAgg4
 z4:=Tryz.sizeOf4
 v4:=Tryz.zeroValue4
 t28:=Tryz.underlying27
 a28:=Tryz.isAgg27
 z28:=Tryz.sizeOf27
 v28:=Tryz.zeroValue27 }
def Tryz.compI_ren:Go.Shelf.Ren:=⟨fun|20=>260|n=>n,fun|22=>27|3=>3|4=>4|0=>0|n=>n,fun|n=>n⟩
theorem Tryz.compI:Go.Proofs.Lays2.n20 prog Tryz.compI_ren:={
 mixed:=by kernel_rfl
 f20:=func260.trans (congrArg some (by kernel_rfl))
 t0:=Tryz.underlying0
 a0:=Tryz.isAgg0
 z0:=Tryz.sizeOf0
 v0:=Tryz.zeroValue0
 t3:=Tryz.underlying3
 a3:=Tryz.isAgg3
 z3:=Tryz.sizeOf3
 v3:=Tryz.zeroValue3
 t4:=Tryz.underlying4
 a4:=Tryz.isAgg4
 z4:=Tryz.sizeOf4
 v4:=Tryz.zeroValue4
 t22:=Tryz.underlying27
 a22:=Tryz.isAgg27
 z22:=Tryz.sizeOf27
 v22:=Tryz.zeroValue27
 i3:=by kernel_rfl }
end Go.Proofs
namespace Go.Proofs.YtbpmkofnfgdegaaGreatDoor
open Go.Proofs.Tryz
open Go.RowKit Go.Sort Go.Shelf Go.Lib
theorem Tryz.revIEnter: ∀(args:Array Value) (w:World),(callFunc 137 args).run prog w= .ok (.enter 137 args) w:=enters_of func137 (by kernel_rfl) rfl
theorem Tryz.compIEnter: ∀(args:Array Value) (w:World),(callFunc 260 args).run prog w= .ok (.enter 260 args) w:=enters_of func260 (by kernel_rfl) rfl
theorem ziy (l:List Int) (hl:l.length<=9223372036854775807):Turns prog 137 [] 3 1 (l.map intC) (l.reverse.map intC):=by
 by_cases h0:l=[]
 ·subst h0;exact zfF Tryz.revIEnter fun p cap w=>Any.slices_Reverse_int_empty Tryz.revI p cap w
 ·refine zex (by rw[List.length_map];exact List.length_pos_iff.2 h0) Tryz.revIEnter (by simp) (fun x hx=> ?_) (fun x hx=> ?_) fun w g cap hH hg=> ?_
  ·obtain⟨y,_,rfl⟩:=List.mem_map.1 hx;rfl
  ·obtain⟨y,_,rfl⟩:=List.mem_map.1 hx;exact⟨rfl,fun u hu=>by rw[List.mem_singleton.1 hu];rfl⟩
  ·have hH:Holds id w g 0 (l.map (Value.int .i64)).toArray:=by rw[<-zbW];exact hH
   have:=Any.slices_Reverse_int Tryz.revI g 0 cap l w (ziM hH) hl;rw[List.length_map];refine(show Calls prog 137 #[.slice (some ⟨g,0,none⟩) l.length cap] w _ from this).mono ?_;rintro ex w' ⟨rfl,n,rfl⟩;refine⟨rfl,n, #[],?_⟩;have hgr: ∀W:World,grow W #[]=W:=fun W=>by simp[grow]
   rw[hgr,zea,show (l.reverse.map intC).flatten=l.reverse.map (Value.int .i64) from zbW (Value.int .i64) _];simp
theorem zp4 (l:List Int) (hl:l.length<=9223372036854775807):Cuts prog 260 3 1 (l.map intC) ((Lib.compact l).map intC):=by
 refine⟨Tryz.compIEnter,fun x hx=> ?_,fun w base v ho=> ?_⟩
 ·obtain⟨y,_,rfl⟩:=List.mem_map.1 hx;exact⟨rfl,fun u hu=>by rw[List.mem_singleton.1 hu];rfl⟩
 rw[show (l.map intC).flatten=l.map (Value.int .i64) from zbW (Value.int .i64) _,List.length_map]at ho;rw[show ((Lib.compact l).map intC).flatten=(Lib.compact l).map (Value.int .i64) from zbW (Value.int .i64) _,List.length_map];by_cases h0:l=[]
 ·subst h0
  obtain⟨p,cap,rfl⟩: ∃p cap,v= .slice p 0 cap:=by
   rcases ho.2 with⟨rfl,_⟩|⟨g,cap,cur,rfl,_⟩
   ·exact⟨_,_,rfl⟩
   ·exact⟨_,_,rfl⟩
  refine(show Calls prog 260 #[.slice p 0 cap] w _ from Any.slices_Compact_int_empty Tryz.compI p cap w).mono ?_;rintro ex w' ⟨rfl,rfl⟩;exact⟨_,rfl,rfl,⟨rfl,rfl,rfl,Nat.le_refl _,fun _ _ _=>rfl⟩,fun _ h=>h,ho⟩
 ·rcases ho.2 with⟨_,h⟩|⟨g,cap,cur,rfl,hbase,hb,h1,h2,h3,h4⟩
  ·exact absurd (List.eq_nil_of_length_eq_zero h) h0
  have hg:g<w.heap.size:=(Array.getElem?_eq_some_iff.1 hb).1
  have hH:Holds (Value.int .i64) w g 0 l.toArray:=fun j hj=>by
   have hj':j<l.length:=by simpa using hj
   have e1:(cur.toList.take (l.length*1))[j]? =(l.map (Value.int .i64))[j]? :=by rw[h4]
   rw[List.getElem?_take_of_lt (by omega),List.getElem?_map,List.getElem?_eq_getElem hj']at e1;refine⟨?_,by simp[World.frozen?,hb]⟩;simp only[World.cell?,hb,Nat.zero_add,Option.isSome_none,Bool.false_eq_true,if_false];rw[<-Array.getElem?_toList,e1,getElem!_pos _ j hj];rfl
  have hcl:(Lib.compact l).length<=l.length:=by
   unfold Lib.compact Lib.compactUpTo;rw[List.length_map];exact Nat.le_trans (List.length_filter_le ..) (by simp)
  refine(show Calls prog 260 #[.slice (some ⟨g,0,none⟩) l.length cap] w _ from Any.slices_Compact_int Tryz.compI g 0 cap l w hH hl h1).mono ?_;rintro ex w' ⟨rfl,q,rfl⟩;rw[zea];generalize hF:((Lib.compact l++List.replicate (l.length-(Lib.compact l).length) 0).toArray.map (Value.int .i64))=F;have hFs:F.size=l.length:=by rw[<-hF];simp;omega
  have hgr: ∀W:World,grow W #[]=W:=fun W=>by simp[grow]
  have e2:=heap_put (n:=q) (os:= #[]) F hb;have e3:=ze0 (w:=w) (g:=g) (n:=q) (os:= #[]) F;rw[hgr]at e2 e3;refine⟨_,rfl,rfl,e3,fun _ h=>h,⟨by rw[List.length_map,Nat.mul_one], .inr ⟨g,cap,_,rfl,hbase,e2,Nat.le_trans hcl h1,h2,by simp[putCells,h3],?_⟩⟩⟩;have ht:=zjh cur F (by rw[hFs,h3];omega);rw[Nat.mul_one]
  have:((putCells id 0 F cur).toList.take (Lib.compact l).length)=(F.toList).take (Lib.compact l).length:=by
   rw[<-ht,List.take_take,Nat.min_eq_left (by omega)]
  rw[this, <-hF];simp
end Go.Proofs.YtbpmkofnfgdegaaGreatDoor
