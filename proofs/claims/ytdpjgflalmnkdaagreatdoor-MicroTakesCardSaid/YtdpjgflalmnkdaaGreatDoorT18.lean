/- Reverse and Compact of the library at ints: the shelf's contracts laid at this program. -/
import Derived.Test.YtdpjgflalmnkdaaGreatDoorT17
import Derived.Shelf.Slices.Reverse
import Derived.Shelf.Slices.CompactI
namespace Go.Proofs.YtdpjgflalmnkdaaGreatDoor
open Go.Proofs.Tryz
open Go.RowKit
theorem Turned.frozen {s:St} (r t:Nat) (row:Row) (hp:row.pure=true) (hrz:row.sz≠0) (hr:s.rows r=some row) (ht:s.f t= .row r (s.vs r)):Turned s ((s.show r).put (some t) (.seq row.sz row.es)):=fun x a w m hS=>by
 obtain⟨S',q1,q2,q3⟩:=hS.show r row hr hrz hp;have hv:=hS.slot t;rw[ht]at hv;have hv1:a.tmps.getD t undef=m.ρ r:=hv.row_.2 rfl row hr;exact⟨_,q1.tell t (.seq row.sz row.es) (by rw[hv1];exact .val q3)⟩
theorem Turned.nil {s:St} (t sz:Nat) (ht:s.f t= .lit (.slice none 0 0)):Turned s (s.put (some t) (.seq sz [])):=fun x a w m hS=>by
 have hv:=hS.slot t;rw[ht]at hv;have hv1:=hv.lit_;exact⟨_,hS.tell t (.seq sz []) (by rw[hv1];exact .val (Str.nil sz _ _ _ (.lit _)))⟩
section
variable {P:Program} {env:Env} {nt:Nat} {s:St}
theorem Dj {c rest:Code} {Q':Exit->St->Prop} {D:Type} (F:D->(Nat->Nat)->List (Nat×AV)) (R:D->(Nat->Nat)->List (Nat×Row)) (inv:D->(Nat->Nat)->(Nat->Bool)->Prop)
 (h1:awp P env nt c (bT (fun s=> ∃d,inv d s.vs s.esc/\cG s (F d s.vs)/\bh s (R d s.vs)) Q') s) (h2: ∀d vs esc,inv d vs esc->awp P env nt rest Q' (head (F d vs) (R d vs) vs esc)):
 awp P env nt c (bT (awp P env nt rest Q') Q') s:=
 tQ h1 fun e s hq=>by
  cases e with
  | normal=>
    obtain⟨d,q1,q2,q3⟩:=hq;exact kh _ _ q2 q3 (h2 d _ _ q1)
  |_=>exact hq
end
def Ij (Q:Exit->St->Prop):Exit->St->Prop
 | .goto _,_=>False
 |e,s=>Q e s
theorem dL {P:Program} {b:Frame} {a:Act} {k:List Item} {cs:List Frame} {w:World} {c:Code} :step P (lone (b.atR a (.code (.scope c)::k)) cs w)= .next (lone (b.atR a (.code c:: .inScope c::k)) cs w):=
 step_lone_go (by simp[stepG,stepG.exec,Frame.atR])
theorem qU {P:Program} {b:Frame} {a:Act} {k:List Item} {cs:List Frame} {w:World} {c:Code} :step P (lone (b.atR a (.inScope c::k)) cs w)= .next (lone (b.atR a k) cs w):=
 step_lone_go (by simp[stepG,stepG.exec,Frame.atR])
theorem xt {F:Fence} {n:Nat} {P:Program} {Q:Exit->Act->World->Prop} {a:Act} {w:World} {c:Code} (h:c.wpIn F n P (Exit.noGoto Q) a w):(Code.scope c).wpIn F n P Q a w:=by
 intro b k cs hro hb hr;have h0:(lone (b.atR a (.code (.scope c)::k)) cs w).fenced P F:=fenced_calm hb hr rfl;obtain⟨e,a₁,w₁,hq,harr⟩:=h b (.inScope c::k) cs hro hb hr;cases e with
 |normal=>exact⟨.normal,a₁,w₁,hq, .head h0 dL (StepsIn.trans harr (.one (fenced_calm hb hr rfl) qU))⟩
 | exit id=>
   have hx:exitTo id (.inScope c::k)=exitTo id k:=by simp[exitTo]
   exact⟨.exit id,a₁,w₁,hq,fun k' hk=> .head h0 dL (harr.1 k' (by rw[hx];exact hk)),
    fun hr' hk=>let ⟨k₁,h1,h2⟩:=harr.2 hr' (by rw[hx];exact hk);⟨k₁,h1, .head h0 dL h2⟩⟩
 |goto l=>exact hq.elim
 |ret=>exact⟨_,a₁,w₁,hq, .of_steps (.one h0 dL) harr⟩
 |panic ch=>exact⟨_,a₁,w₁,hq, .of_steps (.one h0 dL) harr⟩
 |outgrown=>exact⟨_,a₁,w₁,hq, .of_steps (.one h0 dL) harr⟩
theorem Fl {P:Program} {env:Env} {nt:Nat} {Q:Exit->St->Prop} {s:St} {c:Code} (h:awp P env nt c (Ij Q) s):awp P env nt (.scope c) Q s:=fun ro x he hn a w m hS=>
 xt (Mg (h ro x he hn a w m hS) fun e a' w' ⟨s',m',q,hs⟩=>by
  cases e with
  |goto l=>exact q.elim
  |_=>exact⟨s',m',q,hs⟩)
end Go.Proofs.YtdpjgflalmnkdaaGreatDoor
set_option linter.unusedSimpArgs false
namespace Go.Proofs.YtdpjgflalmnkdaaGreatDoor
open Go.Proofs.Tryz
open Go.RowKit
set_option maxRecDepth 100000
set_option maxHeartbeats 8000000
theorem uj (env:Env) (c:ChD) (hc:Right c) (i:Int):Con prog env 145 [.agg (aA c),I i] (.own 3 1 ((upL c i).map intAV)):=by
 have hlen:=hc.few;have hul:(upL c i).length<=40:=lK 40 i;refine qf func145 call145 ntmps145 results145 ?_;have F:=aA.eq_1;repeat refine st ?_
 refine aI (D:=Int×List Int) (fun d vs=>[(1,I d.1),(2, .loc 2 (vs 2) 0 0),(5, .row 7 (vs 7)),(6,I d.2.length)]) (fun d _=>[(2,⟨5,[aA c],26,false⟩),(7,⟨1,d.2.map intAV,3,true⟩)]) (fun d _ esc=>upL c i=d.2++upL c d.1/\esc 7=false/\(d.2=[]\/d.2.length<40-(d.1+1).toNat\/d.1<40)) (fun d=>(d.1+1).toNat) (i,[]) ?_ ?_ ?_ ?_
 ·exact⟨rfl,rfl, .inl rfl⟩
 ·(simp only[go_sem,F])
  try rfl
 ·have F:=aA.eq_1
  (simp only[go_sem,F])
  try rfl
 rintro⟨d,l⟩ ws esc ⟨hu,e0, -⟩;simp only at hu;have f0:=rA env c d;have hll:l.length<=40:=by have:=LF List.length hu;rw[K8]at this;omega
 cases hz:inZ c d with
 | false=>
   rw[hz]at f0;rw[cK hz,Lo]at hu;by_cases h40:l.length<40
   ·have q1:(l.length:Int)<40:=by omega
    have F:=ai4 aA.eq_1 q1 hu e0;repeat refine tz1 f0 ?_
    exact aR
   ·have q1: ¬(l.length:Int)<40:=by omega
    have F:=ai4 aA.eq_1 q1 hu e0;repeat refine tz1 f0 ?_
    exact aR
 | true=>
   rw[hz]at f0;obtain⟨k,s,rfl,hs,ha⟩:=cF hz;have hp:=dw hs;have hlt:=dM hc hz;rw[hp]at hlt;rw[qd hc hz,hp]at hu
   have hl:l.length+1<=40:=by
    have:=LF List.length hu;rw[K8,Ks]at this;omega
   have q1:(l.length:Int)<40:=by omega
   have q2:((k:Nat):Int)< (c.states.length:Int):=by have:=(aH.1 hz).2;omega
   have q3:IntKind.i64.wrap ((l.length:Int)+1)=((l.length+1:Nat):Int):=aD (Nat.lt_succ_self _) (by omega);have hf:Fits (l.length+1) 8:=⟨by omega,by omega⟩;have F:=ai8 aA.eq_1 aK.eq_1 q1 q2 q3 hs hf e0;repeat refine tz1 f0 ?_
   refine⟨(s.parent,l++[s.parent]),⟨?_,by simp only[go_sem,e0],?_⟩,?_,?_,?_⟩
   ·show upL c i=(l++[s.parent])++upL c s.parent;rw[hu,LM];rfl
   ·exact .inr (.inr (by show s.parent<40;omega))
   ·simp only[K8,LI];exact qe
   ·have F:=ai aA.eq_1 @Ka.{0,0};exact qe
   ·show (s.parent+1).toNat< ((k:Int)+1).toNat;omega
theorem gM (env:Env) (c:ChD) (hc:Right c) (k i:Int):Con prog env 144 [.agg (aA c),I k,I i] (B (aboveB c k i)):=by
 have hul:(upL c i).length<=40:=lK 40 i;have f0:=uj env c hc i;have f1:=cL env (upL c i) k (by omega);unfold aA at f0;unfold aboveB;refine qf func144 call144 ntmps144 results144 ?_;have F:=aA.eq_1;repeat refine tz2 f0 f1 ?_
 exact aR
theorem CN {c:ChD} (hc:Right c) {k i:Nat} (_hi:i<c.states.length):(mask c i).testBit k=aboveB c k i:=by
 unfold aboveB upL mask;rw[sn hc,LC,Kh,K6]
theorem eu (env:Env) (c:ChD) (hc:Right c) (k i:Int):Con prog env 68 [aP c,I k,I i] (B (aboveB c k i)):=by
 have hlen:=hc.few;have f0:=qh env c i;cases hz:inZ c i with
 | false=>
   rw[hz]at f0;have:aboveB c k i=false:=by unfold aboveB;rw[cK hz];rfl
   rw[this];refine qf func68 call68 ntmps68 results68 ?_;repeat refine kB f0 ?_
   exact aR0
 | true=>
   rw[hz]at f0;obtain⟨m,s,rfl,hs,ha⟩:=cF hz;have hm:=(K0.1 hs).1;by_cases e:k= -1
   ·subst e;have:aboveB c (-1) m=true:=by unfold aboveB;rw[K6];exact qb hc (m+1) m hz (by omega)
    rw[this];refine qf func68 call68 ntmps68 results68 ?_;repeat refine kB f0 ?_
    exact aR0
   ·have e1:(k == -1)=false:=by simpa using e
    have f1:=qh env c k;cases hk:inZ c k with
    | false=>
      rw[hk]at f1
      have:aboveB c k m=false:=by
       cases hb:aboveB c k m with
       |false=>rfl
       | true=>
         unfold aboveB at hb;have h1:=jb hc 40 _ _ (K6.1 hb);rw[aH.2 ⟨by omega,by omega⟩]at hk;cases hk
      rw[this];refine qf func68 call68 ntmps68 results68 ?_;have F:=e1;repeat refine tz2 f0 f1 ?_
      exact aR
    | true=>
      rw[hk]at f1;obtain⟨p,sp,rfl,hps,_⟩:=cF hk;have hpl:=(K0.1 hps).1;have hml:mask c m<4294967296:=mH hc (by omega);have f2:=yy env (mask c m) hml p (by omega);rw[CN hc hm]at f2;have g1:(lU c c.states.length)[m]? =some (mask c m):=by rw[jq hm,K5 hm]
      have g2:((m:Nat):Int)< (c.states.length:Int):=by omega
      have g3:=dQ c c.states.length;refine qf func68 call68 ntmps68 results68 ?_;have F:=ai6 aP.eq_1 ib.eq_1 e1 g1 g2 g3;repeat refine tz3 f0 f1 f2 ?_
      exact aR
def ba:List Int->Int->Nat->Int
 |[],_,_=> -1
 |x::l,v,k=>if x=v then k else ba l v (k+1)
theorem FO {l:List Int} {v:Int} {k:Nat} {x:Int} (h:l[k]? =some x) (hn:ba l v 0=ba (l.drop k) v k):(x=v->ba l v 0=k)/\(x≠v->ba l v 0=ba (l.drop (k+1)) v (k+1)):=by
 obtain⟨hk,rfl⟩:=K0.1 h;rw[MP hk]at hn;simp only[ba]at hn;exact⟨fun e=>by rw[hn,K5 e],fun e=>by rw[hn,K2 e]⟩
theorem DL (v:Int): ∀(l:List Int) (k:Nat),decide (0<=ba l v k)=l.contains v
 |[],k=>rfl
 | x::l,k=>by
   have ih:=DL v l (k+1);by_cases e:x=v
   ·have e1:ba (x::l) v k=k:=K5 e;rw[e1,LC,Kh,K6];exact⟨fun _=>by rw[e];exact N6 ..,fun _=>by omega⟩
   ·have e1:ba (x::l) v k=ba l v (k+1):=K2 e;rw[e1,ih,LC,K6,K6,Kr];exact⟨.inr,fun h=>h.resolve_left fun h=>e h.symm⟩
theorem Bb (env:Env) (l:List Int) (v:Int) (hl:l.length<=1000000):Con prog env 66 [.seq 1 (l.map intAV),I v] (I (ba l v 0)):=by
 refine qf func66 call66 ntmps66 results66 ?_;repeat refine st0 ?_
 refine lq0 l.length (by omega) (fun k _=>[(0, .seq 1 (l.map intAV)),(1,I v),(7,I l.length),(8,I k)]) (fun _ _=>[]) (fun k _ _=>ba l v 0=ba (l.drop k) v k) rfl ?_ ?_
 ·rintro k ws esc hlt k1 k2 hi;obtain⟨x,hx,_⟩:=aQ hlt;obtain⟨yes,no⟩:=FO hx hi;by_cases e:x=v
  ·rw[yes e];have k3:(v==x)=true:=by simp[e]
   have F:=ai4 k1 k2 k3 hx;repeat refine st ?_
   exact aR
  ·have k3:(v==x)=false:=by simpa using fun h=>e h.symm
   have F:=ai4 k1 k2 k3 hx;repeat refine st ?_
   exact qn (k+1) ⟨hlt,no e⟩
 ·rintro ws esc k1 hi;rw[hi,La (by omega),show ba [] v l.length= -1 from rfl];have F:=k1;repeat refine st ?_
  exact aR
theorem bG (env:Env) (l:List Int) (v:Int) (hl:l.length<=1000000):Con prog env 26 [.seq 1 (l.map intAV),I v] (B (l.contains v)):=by
 have h:=DL v l 0;refine qf func26 call26 ntmps26 results26 ?_;repeat refine kB (Bb env l v hl) ?_
 (refine aM ?_;show (ae _ _ _).run _=some _;simp only[go_sem])
 exact LF B h
theorem nO (env:Env) (c:ChD) (hs:Small c) (k:Nat) (t:TrD) (ht:c.trans[k]? =some t):Con prog env 134 [aJ c,I k] (.tuple [.agg (az t),B true]):=by
 have f0:=ao env c hs;have hk:=(K0.1 ht).1;have g1:((k:Nat):Int)< (c.trans.length:Int):=by omega
 have g2: ¬(c.trans.length:Int)<=(k:Int):=by omega
 have g3: ¬((k:Nat):Int)<0:=by omega
 refine qf func134 call134 ntmps134 results134 ?_;have F:=ai6 aA.eq_1 az.eq_1 g1 g2 g3 ht;repeat refine tz1 f0 ?_
 exact aR
theorem sk {c:ChD} {k:Nat} {s:StD} (hs:c.states[k]? =some s):ah c k=(s.kind==1):=by unfold ah;rw[bI,hs]
theorem mR (env:Env) (c:ChD) (hc:Right c) (hs:Small c) (t:TrD) (_hsrc:inZ c t.src=true):Con prog env 137 [aJ c, .agg (az t)] (I (domE c t.src t.target)):=by
 have hlen:=hc.few;have f0:=ao env c hs;have f1:=bL env c;have f2:=wj env c hc t.src;have hul:(upL c t.src).length<=40:=lK 40 t.src
 have hrange: ∀x∈upL c t.src,x<0\/inZ c x=true:=fun x hx=>by
  rcases OR x 0 with h|h
  ·exact .inl h
  ·exact .inr (gG hc hx h).1
 unfold domE;generalize upL c t.src=U at*;unfold aJ at f0 f1 |-;refine qf func137 call137 ntmps137 results137 ?_;have F:=az.eq_1;repeat refine tz3 f0 f1 f2 ?_
 have F:=ai az.eq_1 aA.eq_1;refine lq U.length (by omega) (fun j vs=>[(0, .ref 9 [tabCells c] 0 0),(3, .loc 3 (vs 3) 0 0),(5, .loc 5 (vs 5) 0 0),(14, .row 14 (vs 14)),(15,I U.length),(16,I j)]) (fun j _=>[(3,⟨5,[az t],65,false⟩),(5,⟨5,[aA c],26,false⟩),(14,⟨1,U.map intAV,3,true⟩)]) (fun j _ _=>U.find? (qR c t.target)=(U.drop j).find? (qR c t.target)) rfl ?_ ?_
 ·rintro j ws esc hlt q1 q2 hf;obtain⟨x,hx⟩:=gE hlt;rw[ge hx]at hf;rcases hrange x (K4 hx) with h0|hz
  ·have hd:qR c t.target x=true:=by unfold qR;rw[LK h0];rfl
   rw[hd]at hf;simp only[L1]at hf;rw[hf,Lb];have F:=ai hx q1;repeat (first|refine oO rfl (by simp only[go_sem,h0,F];exact⟨rfl,rfl⟩) ?_|refine gR ?_|refine gO ?_|refine oZ (sC ?_)|refine oZ ?_|refine oS ?_|refine gT ?_|refine gD mixed ?_|refine oB ?_|refine oK ?_|(refine oX ?_;simp only[bT,eQ, ↓reduceIte,Nat.reduceEqDiff,reduceCtorEq])|refine oY (by simp only[go_sem,h0,F];exact iR) ?_|refine oN (by simp only[go_sem,h0,F];exact iR) ?_)
   (refine aM ?_;show (ae _ _ _).run _=some _;simp only[go_sem,h0,F])
  ·obtain⟨k,s,rfl,hsk,_⟩:=cF hz;have hk:=(K0.1 hsk).1;have h0: ¬((k:Nat):Int)<0:=by omega
   have q3:((k:Nat):Int)< (c.states.length:Int):=by omega
   have hdp:qR c t.target (k:Int)=(ah c (k:Int)&&aboveB c (k:Int) t.target):=by unfold qR;rw[LD h0,M2]
   have hpl:=sk hsk;have f3:=eu env c hc k t.target;cases hk1:(s.kind==1) with
   | false=>
     rw[hdp,hpl,hk1,LJ]at hf;simp only[Ku,Ld]at hf;have F:=ai10 az.eq_1 aA.eq_1 aK.eq_1 hx hsk q1 q2 q3 h0 hk1;repeat refine tz1 f1 ?_
     refine⟨j+1,⟨hlt,hf⟩,?_,?_,by omega⟩
     ·exact qe
     ·have F:=ai az.eq_1 aA.eq_1;exact qe
   | true=>
     rw[hdp,hpl,hk1,LN]at hf;cases hab:aboveB c (k:Int) t.target with
     | false=>
       rw[hab]at hf f3;simp only[Ku,Ld]at hf;unfold aP at f1 f3;have F:=ai10 az.eq_1 aA.eq_1 aK.eq_1 hx hsk q1 q2 q3 h0 hk1;repeat refine tz2 f1 f3 ?_
       refine⟨j+1,⟨hlt,hf⟩,?_,?_,by omega⟩
       ·exact qe
       ·have F:=ai az.eq_1 aA.eq_1;exact qe
     | true=>
       rw[hab]at hf f3;simp only[L1]at hf;rw[hf,Lb];unfold aP at f1 f3;have F:=ai10 az.eq_1 aA.eq_1 aK.eq_1 hx hsk q1 q2 q3 h0 hk1;repeat refine tz2 f1 f3 ?_
       exact aR
 ·rintro ws esc q1 hf;rw[Ls]at hf;rw[hf];simp only[NZ,M5];have F:=q1;repeat refine st ?_
  exact aR
theorem Full.src {c:ChD} (h:Full c) {k:Nat} {t:TrD} (ht:c.trans[k]? =some t):inZ c t.src=true/\(t.target= -1\/inZ c t.target=true):=by
 have:=h.tr k t ht;unfold dU at this;simp only[K3,Ll,L5,Kh]at this;refine⟨?_,this.2.imp id fun q=>aH.2 q⟩;have h1:=this.1.1.1.1;unfold ap at h1;split at h1
 ·rename_i s hs;unfold at_ at hs;split at hs
  ·rename_i h0;have:=(K0.1 hs).1;exact aH.2 ⟨h0,by omega⟩
  ·cases hs
 ·cases h1
theorem lR (env:Env) (c:ChD) (hc:Right c) (t:TrD) (_hsrc:inZ c t.src=true):Con prog env 78 [.agg (aA c), .agg (az t)] (I (domE c t.src t.target)):=by
 have hlen:=hc.few;have f2:=uj env c hc t.src;have hul:(upL c t.src).length<=40:=lK 40 t.src
 have hrange: ∀x∈upL c t.src,x= -1\/inZ c x=true:=fun x hx=>by
  rcases OR x 0 with h|h
  ·have:=(jb hc 40 _ _ hx).1;exact .inl (by omega)
  ·exact .inr (gG hc hx h).1
 unfold domE;generalize upL c t.src=U at*;unfold aA at f2;refine qf func78 call78 ntmps78 results78 ?_;have F:=ai az.eq_1 aA.eq_1;repeat refine tz1 f2 ?_
 have F:=ai az.eq_1 aA.eq_1;refine lq U.length (by omega) (fun j vs=>[(2, .loc 2 (vs 2) 0 0),(3, .loc 3 (vs 3) 0 0),(5, .row 10 (vs 10)),(6,I j)]) (fun j _=>[(2,⟨5,[aA c],26,false⟩),(3,⟨5,[az t],65,false⟩),(10,⟨1,U.map intAV,3,true⟩)]) (fun j _ _=>U.find? (qR c t.target)=(U.drop j).find? (qR c t.target)) rfl ?_ ?_
 ·rintro j ws esc hlt q1 q2 hf;obtain⟨x,hx⟩:=gE hlt;rw[ge hx]at hf;rcases hrange x (K4 hx) with rfl|hz
  ·have hd:qR c t.target (-1)=true:=by unfold qR;rw[LK (by omega)];rfl
   rw[hd]at hf;simp only[L1]at hf;rw[hf,Lb];have F:=ai hx q1;repeat refine st ?_
   exact aR
  ·obtain⟨k,s,rfl,hsk,_⟩:=cF hz;have hk:=(K0.1 hsk).1;have h0:(((k:Nat):Int) == -1)=false:=by simp
   have q3:((k:Nat):Int)< (c.states.length:Int):=by omega
   have hdp:qR c t.target (k:Int)=(ah c (k:Int)&&aboveB c (k:Int) t.target):=by unfold qR;rw[LD (by omega),M2]
   have hpl:=sk hsk;have f3:=gM env c hc k t.target;unfold aA at f3;cases hk1:(s.kind==1) with
   | false=>
     rw[hdp,hpl,hk1,LJ]at hf;simp only[Ku,Ld]at hf;have F:=ai10 az.eq_1 aA.eq_1 aK.eq_1 hx hsk q1 q2 q3 h0 hk1;repeat refine tz1 f3 ?_
     refine⟨j+1,⟨hlt,hf⟩,?_,?_,by omega⟩
     ·exact qe
     ·have F:=ai az.eq_1 aA.eq_1;exact qe
   | true=>
     rw[hdp,hpl,hk1,LN]at hf;cases hab:aboveB c (k:Int) t.target with
     | false=>
       rw[hab]at hf f3;simp only[Ku,Ld]at hf;have F:=ai10 az.eq_1 aA.eq_1 aK.eq_1 hx hsk q1 q2 q3 h0 hk1;repeat refine tz1 f3 ?_
       refine⟨j+1,⟨hlt,hf⟩,?_,?_,by omega⟩
       ·exact qe
       ·have F:=ai az.eq_1 aA.eq_1;exact qe
     | true=>
       rw[hab]at hf f3;simp only[L1]at hf;rw[hf,Lb];have F:=ai10 az.eq_1 aA.eq_1 aK.eq_1 hx hsk q1 q2 q3 h0 hk1;repeat refine tz1 f3 ?_
       exact aR
 ·rintro ws esc q1 hf;rw[Ls]at hf;rw[hf];simp only[NZ,M5];have F:=q1;repeat refine st ?_
  exact aR
end Go.Proofs.YtdpjgflalmnkdaaGreatDoor
namespace Go.Proofs
def Tryz.revI_ren:Go.Shelf.Ren:=⟨fun|112=>140|n=>n,fun|28=>27|3=>3|4=>4|0=>0|n=>n,fun|n=>n⟩
theorem Tryz.revI:Go.Proofs.Lays.n112 prog Tryz.revI_ren:={
 mixed:=by kernel_rfl
 f112:=func140.trans (congrArg some (by kernel_rfl))
 t0:=Tryz.underlying0
 a0:=Tryz.isAgg0
 z0:=Tryz.sizeOf0
 v0:=Tryz.zeroValue0
 t3:=Tryz.underlying3
 a3:=Tryz.isAgg3
 z3:=Tryz.sizeOf3
 v3:=Tryz.zeroValue3
 t4:=Tryz.underlying4
 a4:=Tryz.isAgg4
 z4:=Tryz.sizeOf4
 v4:=Tryz.zeroValue4
 t28:=Tryz.underlying27
 a28:=Tryz.isAgg27
 z28:=Tryz.sizeOf27
 v28:=Tryz.zeroValue27 }
def Tryz.compI_ren:Go.Shelf.Ren:=⟨fun|20=>254|n=>n,fun|22=>27|3=>3|4=>4|0=>0|n=>n,fun|n=>n⟩
theorem Tryz.compI:Go.Proofs.Lays2.n20 prog Tryz.compI_ren:={
 mixed:=by kernel_rfl
 f20:=func254.trans (congrArg some (by kernel_rfl))
 t0:=Tryz.underlying0
 a0:=Tryz.isAgg0
 z0:=Tryz.sizeOf0
 v0:=Tryz.zeroValue0
 t3:=Tryz.underlying3
 a3:=Tryz.isAgg3
 z3:=Tryz.sizeOf3
 v3:=Tryz.zeroValue3
 t4:=Tryz.underlying4
 a4:=Tryz.isAgg4
 z4:=Tryz.sizeOf4
 v4:=Tryz.zeroValue4
 t22:=Tryz.underlying27
 a22:=Tryz.isAgg27
 z22:=Tryz.sizeOf27
 v22:=Tryz.zeroValue27
 i3:=by kernel_rfl }
end Go.Proofs
namespace Go.Proofs.YtdpjgflalmnkdaaGreatDoor
open Go.Proofs.Tryz
open Go.RowKit Go.Sort Go.Shelf Go.Lib
theorem Tryz.revIEnter: ∀(args:Array Value) (w:World),(callFunc 140 args).run prog w= .ok (.enter 140 args) w:=Od func140 (by kernel_rfl) rfl
theorem Tryz.compIEnter: ∀(args:Array Value) (w:World),(callFunc 254 args).run prog w= .ok (.enter 254 args) w:=Od func254 (by kernel_rfl) rfl
theorem qu (l:List Int) (hl:l.length<=9223372036854775807):Turns prog 140 [] 3 1 (l.map rY) (l.reverse.map rY):=by
 by_cases h0:l=[]
 ·subst h0;exact lv Tryz.revIEnter fun p cap w=>Any.slices_Reverse_int_empty Tryz.revI p cap w
 ·refine jc (by rw[Ko];exact Lw.2 h0) Tryz.revIEnter (by simp) (fun x hx=> ?_) (fun x hx=> ?_) fun w g cap hH hg=> ?_
  ·obtain⟨y,_,rfl⟩:=Kb.1 hx;rfl
  ·obtain⟨y,_,rfl⟩:=Kb.1 hx;exact⟨rfl,fun u hu=>by rw[Kl.1 hu];rfl⟩
  ·have hH:Holds id w g 0 (l.map (Value.int .i64)).toArray:=by rw[<-dR];exact hH
   have:=Any.slices_Reverse_int Tryz.revI g 0 cap l w (rZ hH) hl;rw[Ko];refine(show Calls prog 140 #[.slice (some ⟨g,0,none⟩) l.length cap] w _ from this).mono ?_;rintro ex w' ⟨rfl,n,rfl⟩;refine⟨rfl,n, #[],?_⟩;have hgr: ∀W:World,grow W #[]=W:=fun W=>by simp[grow]
   rw[hgr,jF,show (l.reverse.map rY).flatten=l.reverse.map (Value.int .i64) from dR (Value.int .i64) _];simp
theorem Br (l:List Int) (hl:l.length<=9223372036854775807):Cuts prog 254 3 1 (l.map rY) ((Lib.compact l).map rY):=by
 refine⟨Tryz.compIEnter,fun x hx=> ?_,fun w base v ho=> ?_⟩
 ·obtain⟨y,_,rfl⟩:=Kb.1 hx;exact⟨rfl,fun u hu=>by rw[Kl.1 hu];rfl⟩
 rw[show (l.map rY).flatten=l.map (Value.int .i64) from dR (Value.int .i64) _,Ko]at ho;rw[show ((Lib.compact l).map rY).flatten=(Lib.compact l).map (Value.int .i64) from dR (Value.int .i64) _,Ko];by_cases h0:l=[]
 ·subst h0
  obtain⟨p,cap,rfl⟩: ∃p cap,v= .slice p 0 cap:=by
   rcases ho.2 with⟨rfl,_⟩|⟨g,cap,cur,rfl,_⟩
   ·exact⟨_,_,rfl⟩
   ·exact⟨_,_,rfl⟩
  refine(show Calls prog 254 #[.slice p 0 cap] w _ from Any.slices_Compact_int_empty Tryz.compI p cap w).mono ?_;rintro ex w' ⟨rfl,rfl⟩;exact⟨_,rfl,rfl,⟨rfl,rfl,rfl,Kc _,fun _ _ _=>rfl⟩,fun _ h=>h,ho⟩
 ·rcases ho.2 with⟨_,h⟩|⟨g,cap,cur,rfl,hbase,hb,h1,h2,h3,h4⟩
  ·exact absurd (LS h) h0
  have hg:g<w.heap.size:=(Kz.1 hb).1
  have hH:Holds (Value.int .i64) w g 0 l.toArray:=fun j hj=>by
   have hj':j<l.length:=by simpa using hj
   have e1:(cur.toList.take (l.length*1))[j]? =(l.map (Value.int .i64))[j]? :=by rw[h4]
   rw[Mi (by omega),K9,KZ hj']at e1;refine⟨?_,by simp[World.frozen?,hb]⟩;simp only[World.cell?,hb,Li,Oj,Ku,Ld];rw[<-Mx,e1,NA _ j hj];rfl
  have hcl:(Lib.compact l).length<=l.length:=by
   unfold Lib.compact Lib.compactUpTo;rw[Ko];exact Km (Kq ..) (by simp)
  refine(show Calls prog 254 #[.slice (some ⟨g,0,none⟩) l.length cap] w _ from Any.slices_Compact_int Tryz.compI g 0 cap l w hH hl h1).mono ?_;rintro ex w' ⟨rfl,q,rfl⟩;rw[jF];generalize hF:((Lib.compact l++List.replicate (l.length-(Lib.compact l).length) 0).toArray.map (Value.int .i64))=F;have hFs:F.size=l.length:=by rw[<-hF];simp;omega
  have hgr: ∀W:World,grow W #[]=W:=fun W=>by simp[grow]
  have e2:=heap_put (n:=q) (os:= #[]) F hb;have e3:=kK (w:=w) (g:=g) (n:=q) (os:= #[]) F;rw[hgr]at e2 e3;refine⟨_,rfl,rfl,e3,fun _ h=>h,⟨by rw[Ko,Nn], .inr ⟨g,cap,_,rfl,hbase,e2,Km hcl h1,h2,by simp[putCells,h3],?_⟩⟩⟩;have ht:=sZ cur F (by rw[hFs,h3];omega);rw[Nn]
  have:((putCells id 0 F cur).toList.take (Lib.compact l).length)=(F.toList).take (Lib.compact l).length:=by
   rw[<-ht,Oh,Mn (by omega)]
  rw[this, <-hF];simp
end Go.Proofs.YtdpjgflalmnkdaaGreatDoor
