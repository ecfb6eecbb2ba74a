/- Reverse and Compact of the library at ints: the shelf's contracts laid at this program. -/
import Derived.Test.YtbjldjekgepopaaGreatDoorT16
import Derived.Shelf.Slices.Reverse
import Derived.Shelf.Slices.CompactI
set_option linter.unusedSimpArgs false
namespace Go.Proofs.YtbjldjekgepopaaGreatDoor
open Go.Proofs.Tryz
open Go.RowKit
set_option maxRecDepth 100000
set_option maxHeartbeats 8000000
def chainV (ps:List Int) (e:AV):AV:=ps.foldr (fun p x=>errV p x) e
theorem AR {S:Nat->Nat->Prop} {w:World} {a:Addr} (ha:Lies w a): ∀(ps:List Int) (v:Value),RV S w v (chainV ps (sentV a))->gf w a ps.length v
 |[],v,h=>⟨h.lit_inv,ha⟩
 | p::ps,v,h=>by
   have h:RV S w v (.iface 179 (.ref 3 [[.any,I p,chainV ps (sentV a)]] 0 0)):=h;cases h with
   | iface t v c h=>
     cases h with
     | ref sz es i off b o u hz hc hr=>
       have h2:=hc 0 2 (chainV ps (sentV a)) rfl;have h3:=hr 0 2 (chainV ps (sentV a)) rfl;refine⟨b,o+(0*3+0),u 0 2,rfl,?_,AR ha ps _ h3⟩;have:=h2.2.1;simpa using this
theorem CE (ad:Nat->Addr) (mo:More) (k:Nat) (hk:1<=k/\k<=9) (ps:List Int):Con prog (aY ad mo) 46 [chainV ps (sentV (ad k))] (I k):=
 Dh call46 fun w S vs hE hl hv=>by
  match vs,hl with
  | [v],_=>
    have hS:Sents w ad:=hE.inv.1;refine(HM hS k hk ps.length v (AR (Au hS k hk) ps v (hv 0 v _ rfl rfl))).mono ?_;rintro e w' ⟨rfl,rfl⟩;exact⟨rfl,MM _ _⟩
theorem fU (env:Env) (s:List UInt8) (p:Int) (e:AV):Con prog env 48 [Sg s,errV p e] (errV (-1) (errV p e)):=by
 refine qw func48 call48 ntmps48 results48 ?_;repeat refine st0 ?_
 (refine aN ?_;refine⟨_,(by show (an _ _ _).run _=some _;simp only[go_sem];rfl),?_⟩)
 exact ki _ _ _ rfl _ _ (.refl _)
theorem Gx (env:Env) (s:List UInt8) (p:Int) (a:Addr):Con prog env 217 [Sg s,I p,sentV a] (errV (max p (-1)) (sentV a)):=by
 refine Con.args (cs:=[Sg s,I p, .iface 410 (.lit (.pointer (some a)))]) ?_ (.cons (.refl _) (.cons (.refl _) (.cons (.ifl _ _) .nil)));by_cases h1:p< -1
 ·rw[show max p (-1)= -1 by omega];refine qw func217 call217 ntmps217 results217 ?_;have F:=h1;repeat refine st ?_
  (refine aN ?_;refine⟨_,(by show (an _ _ _).run _=some _;simp only[go_sem,F];rfl),?_⟩)
  exact ki _ _ _ rfl _ _ (.lfi _ _)
 ·rw[show max p (-1)=p by omega];refine qw func217 call217 ntmps217 results217 ?_;have F:=h1;repeat refine st ?_
  (refine aN ?_;refine⟨_,(by show (an _ _ _).run _=some _;simp only[go_sem,F];rfl),?_⟩)
  exact ki _ _ _ rfl _ _ (.lfi _ _)
theorem CP (env:Env) (a1 a8:Addr) (he:ChEnv env a1 a8) (p:Int):Con prog env 145 [I p] (errV (max p (-1)) (sentV a1)):=by
 have g1:=gX he.e1;have f0:=Gx env [108,101,103,97,108,46,67,104,101,99,107] p a1;refine qf func145 call145 ntmps145 results145 ?_;have F:=g1;repeat refine tz1 f0 ?_
 exact aR
theorem rT {c:ChD} {act:List Int} {j:Nat} {x:Int} (hx:act[j]? =some x) (hall: ∀m,m<j->tj c act m=true) (hb:tj c act j=false):j9 c act=(1,max x (-1)):=by
 have hj:=(KW.1 hx).1;unfold j9;rw[cv hj hall hb];simp only[Ko,hx,Ls]
theorem cJ (env:Env) (a1 a8:Addr) (he:ChEnv env a1 a8) (c:ChD) (h:Full c) (hsm:Small c) (act:List Int) (hl:act.length<=1000000):Con prog env 88 [aC c, .seq 1 (act.map intAV)] (uD a1 c act):=by
 have hlen:=h.few;have f0:=ak env c hsm;have f1:=jC env c (by omega) act hl;have f2:=fun(k:Nat) (s:StD) (hs:c.states[k]? =some s)=>Gp env c h act k s hs;have f3:=bN env c h (-1);rw[K0 (.inl rfl)]at f3;have hK:=bV h.toRight (-1) true;have hKm: ∀j∈kidsL c (-1) true,j<c.states.length:=fun j hj=>by have:=bF h.toRight (aV hj).1;omega
 have f4:=se env c.states.length act (kidsL c (-1) true) (by omega) (by omega) hKm;have fb:=Fa env a1 a8 he (-1) (by omega);have hfl:=eH c.states.length act;unfold aC at f0 f1 f2 f3 |-;refine qf func88 call88 ntmps88 results88 ?_;have F:=aA.eq_1;repeat refine tz2 f0 f1 ?_
 have F:=aA.eq_1;refine lq act.length (by omega) (fun j vs=>[(0, .ref 9 [tabCells c] 0 0),(1, .seq 1 (act.map intAV)),(5, .loc 5 (vs 5) 0 0),(6, .row 17 (vs 17)),(18, .seq 1 (act.map intAV)),(19,I act.length),(20,I j)]) (fun _ _=>[(5,⟨5,[aA c],26,false⟩),(17,⟨1,flagA c.states.length act,4,true⟩)]) (fun j _ _=> ∀m,m<j->tj c act m=true) (fun m hm=>absurd hm (by omega)) ?_ ?_
 ·rintro j ws esc hlt q1 q2 hall;obtain⟨x,hx⟩:=gE hlt;have hat:=rU (c:=c) hx;have fx:=CP env a1 a8 he x;have bad:tj c act j=false->uD a1 c act=errV (max x (-1)) (sentV a1):=fun hb=>AP (rT hx hall hb);by_cases h0:x<0
  ·rw[bad (by rw[hat,nS (by unfold inZ;rw[Ky (by omega)];rfl),LZ])];have F:=ai3 hx q1 h0;repeat refine tz1 fx ?_
   exact aR
  obtain⟨k,rfl⟩:=gL (show 0<=x by omega);by_cases h1:(c.states.length:Int)<=k
  ·rw[bad (by rw[hat,nS (by unfold inZ;rw[Ky (p:=(k:Int)<_) (by omega),LZ]),LZ])];have F:=ai5 hx q1 h0 h1 hfl;repeat refine tz1 fx ?_
   exact aR
  obtain⟨s,hs⟩: ∃s,c.states[k]? =some s:=⟨c.states[k]'(by omega),KV _⟩;have f2:=f2 k s hs;rw[zt hs]at hat;by_cases hj0:0<j
  ·have q3:(0:Int)< (j:Int):=by omega
   have q4:IntKind.i64.wrap ((j:Int)-1)=((j-1:Nat):Int):=by rw[ae (by omega) (by omega)];omega
   have hy:=Cw hj0 hlt;have q5:((j-1:Nat):Int)< (act.length:Int):=by omega
   have b0:(j==0)=false:=by simp;omega
   generalize act.getD (j-1) 0=y at*;by_cases h2:(k:Int)<=y
   ·rw[bad (by rw[hat,b0,Ky (by omega)];rfl)];have F:=ai10 hx q1 h0 h1 hfl q3 q4 q5 hy h2;repeat refine tz1 fx ?_
    exact aR
   cases hb:qM c act k s with
   | false=>
     rw[hb]at f2 hat;rw[bad (by rw[hat,LZ])];have F:=ai11 aA.eq_1 hx q1 h0 h1 hfl q3 q4 q5 hy h2;repeat refine tz2 f2 fx ?_
     exact aR
   | true=>
     rw[hb,b0,LC (show y< (k:Int) by omega)]at hat;rw[hb]at f2;have F:=ai12 aA.eq_1 hx q1 q2 h0 h1 hfl q3 q4 q5 hy h2;repeat refine tz1 f2 ?_
     refine⟨j+1,⟨hlt,fun m hm=>by rcases Lh.1 hm with e|e;exact hall m e;rw[e];exact hat⟩,?_,?_,by omega⟩
     ·exact qe
     ·have F:=aA.eq_1;exact qe
  ·have q3: ¬(0:Int)< (j:Int):=by omega
   have b0:(j==0)=true:=by simp;omega
   cases hb:qM c act k s with
   | false=>
     rw[hb,b0]at hat;rw[hb]at f2;rw[bad (by rw[hat,LZ])];have F:=ai7 aA.eq_1 hx q1 h0 h1 hfl q3;repeat refine tz2 f2 fx ?_
     exact aR
   | true=>
     rw[hb,b0]at hat;rw[hb]at f2;have F:=ai8 aA.eq_1 hx q1 q2 h0 h1 hfl q3;repeat refine tz1 f2 ?_
     refine⟨j+1,⟨hlt,fun m hm=>by rcases Lh.1 hm with e|e;exact hall m e;rw[e];exact hat⟩,?_,?_,by omega⟩
     ·exact qe
     ·have F:=aA.eq_1;exact qe
 ·rintro ws esc q1 hall
  have hc1:j9 c act=if manyI act (kidsL c (-1) true)=1 then(0, -1) else(1, -1):=by
   unfold j9;rw[az hall]
  by_cases hm:manyI act (kidsL c (-1) true)=1
  ·rw[K0 hm]at hc1;rw[Ir hc1];have hmi:((manyI act (kidsL c (-1) true):Nat):Int)=1:=by omega
   have F:=ai q1 hmi;repeat refine tz2 f3 f4 ?_
   exact aR
  ·rw[KZ hm]at hc1;rw[AP hc1];have hmi:(((manyI act (kidsL c (-1) true):Nat):Int) != 1)=true:=by simp;omega
   have F:=ai q1 hmi;repeat refine tz3 f3 f4 fb ?_
   exact aR
theorem tf (env:Env) (c:ChD) (h:Full c) (act:List Int) (hl:act.length<=1000000):Con prog env 98 [.agg (aA c), .seq 1 (act.map intAV)] (.tuple [I (j9 c act).1,I (j9 c act).2]):=by
 have hlen:=h.few;have f3:=fF env c (-1) true (by omega);have hK:=bV h.toRight (-1) true;have f4:=oP env act (kidsL c (-1) true) hl (by omega);refine qf func98 call98 ntmps98 results98 ?_;have F:=aA.eq_1;repeat refine st ?_
 have F:=aA.eq_1;refine lq act.length (by omega) (fun j vs=>[(1, .seq 1 (act.map intAV)),(2, .loc 2 (vs 2) 0 0),(6,I j)]) (fun _ _=>[(2,⟨5,[aA c],26,false⟩)]) (fun j _ _=> ∀m,m<j->tj c act m=true) (fun m hm=>absurd hm (by omega)) ?_ ?_
 ·rintro j ws esc hlt q1 q2 hall;obtain⟨x,hx⟩:=gE hlt;have q6:max x (-1)=if x< -1 then -1 else x:=by split<;>omega
  have hat:=rU (c:=c) hx;have f0:=wZ env c x;have bad:tj c act j=false->j9 c act=(1,max x (-1)):=fun hb=>rT hx hall hb;cases hz:inZ c x with
  | false=>
    rw[hz]at f0;rw[bad (by rw[hat,nS hz,LZ])];have F:=ai4 aA.eq_1 hx q1 q6;repeat refine tz1 f0 ?_
    exact aR
  | true=>
    rw[hz]at f0;obtain⟨k,s,rfl,hs,ha⟩:=dD hz;have f2:=yR env c h act hl k s hs;rw[zt hs]at hat;by_cases hj0:0<j
    ·have q3:(0:Int)< (j:Int):=by omega
     have q4:IntKind.i64.wrap ((j:Int)-1)=((j-1:Nat):Int):=by rw[ae (by omega) (by omega)];omega
     have hy:=Cw hj0 hlt;have q5:((j-1:Nat):Int)< (act.length:Int):=by omega
     have b0:(j==0)=false:=by simp;omega
     generalize act.getD (j-1) 0=y at*;by_cases h2:(k:Int)<=y
     ·rw[bad (by rw[hat,b0,Ky (by omega)];rfl)];have F:=ai9 aA.eq_1 hx q1 q3 q4 q5 q6 hy h2;repeat refine tz1 f0 ?_
      exact aR
     cases hb:qM c act k s with
     | false=>
       rw[hb]at f2 hat;rw[bad (by rw[hat,LZ])];have F:=ai9 aA.eq_1 hx q1 q3 q4 q5 q6 hy h2;repeat refine tz2 f0 f2 ?_
       exact aR
     | true=>
       rw[hb,b0,LC (show y< (k:Int) by omega)]at hat;rw[hb]at f2;have F:=ai9 aA.eq_1 hx q1 q2 q3 q4 q5 hy h2;repeat refine tz2 f0 f2 ?_
       refine⟨j+1,⟨hlt,fun m hm=>by rcases Lh.1 hm with e|e;exact hall m e;rw[e];exact hat⟩,?_,?_,by omega⟩
       ·exact qe
       ·have F:=aA.eq_1;exact qe
    ·have q3: ¬(0:Int)< (j:Int):=by omega
     have b0:(j==0)=true:=by simp;omega
     cases hb:qM c act k s with
     | false=>
       rw[hb,b0]at hat;rw[hb]at f2;rw[bad (by rw[hat,LZ])];have F:=ai5 aA.eq_1 hx q1 q3 q6;repeat refine tz2 f0 f2 ?_
       exact aR
     | true=>
       rw[hb,b0]at hat;rw[hb]at f2;have F:=ai5 aA.eq_1 hx q1 q2 q3;repeat refine tz2 f0 f2 ?_
       refine⟨j+1,⟨hlt,fun m hm=>by rcases Lh.1 hm with e|e;exact hall m e;rw[e];exact hat⟩,?_,?_,by omega⟩
       ·exact qe
       ·have F:=aA.eq_1;exact qe
 ·rintro ws esc q1 hall
  have hc1:j9 c act=if manyI act (kidsL c (-1) true)=1 then(0, -1) else(1, -1):=by
   unfold j9;rw[az hall]
  rw[hc1];by_cases hm:manyI act (kidsL c (-1) true)=1
  ·rw[K0 hm];have hmi:((manyI act (kidsL c (-1) true):Nat):Int)=1:=by omega
   have F:=ai3 aA.eq_1 q1 hmi;repeat refine tz2 f3 f4 ?_
   exact aR
  ·rw[KZ hm];have hmi:(((manyI act (kidsL c (-1) true):Nat):Int) != 1)=true:=by simp;omega
   have F:=ai3 aA.eq_1 q1 hmi;repeat refine tz2 f3 f4 ?_
   exact aR
end Go.Proofs.YtbjldjekgepopaaGreatDoor
namespace Go.Proofs.YtbjldjekgepopaaGreatDoor
open Go.Proofs.Tryz
open Go.RowKit
theorem Turned.frozen {s:St} (r t:Nat) (row:Row) (hp:row.pure=true) (hrz:row.sz≠0) (hr:s.rows r=some row) (ht:s.f t= .row r (s.vs r)):Turned s ((s.show r).put (some t) (.seq row.sz row.es)):=fun x a w m hS=>by
 obtain⟨S',q1,q2,q3⟩:=hS.show r row hr hrz hp;have hv:=hS.slot t;rw[ht]at hv;have hv1:a.tmps.getD t undef=m.ρ r:=hv.row_.2 rfl row hr;exact⟨_,q1.tell t (.seq row.sz row.es) (by rw[hv1];exact .val q3)⟩
theorem Turned.nil {s:St} (t sz:Nat) (ht:s.f t= .lit (.slice none 0 0)):Turned s (s.put (some t) (.seq sz [])):=fun x a w m hS=>by
 have hv:=hS.slot t;rw[ht]at hv;have hv1:=hv.lit_;exact⟨_,hS.tell t (.seq sz []) (by rw[hv1];exact .val (Str.nil sz _ _ _ (.lit _)))⟩
section
variable {P:Program} {env:Env} {nt:Nat} {s:St}
theorem Iy {c rest:Code} {Q':Exit->St->Prop} {D:Type} (F:D->(Nat->Nat)->List (Nat×AV)) (R:D->(Nat->Nat)->List (Nat×Row)) (inv:D->(Nat->Nat)->(Nat->Bool)->Prop)
 (h1:awp P env nt c (bJ (fun s=> ∃d,inv d s.vs s.esc/\cr s (F d s.vs)/\cP s (R d s.vs)) Q') s) (h2: ∀d vs esc,inv d vs esc->awp P env nt rest Q' (head (F d vs) (R d vs) vs esc)):
 awp P env nt c (bJ (awp P env nt rest Q') Q') s:=
 AY h1 fun e s hq=>by
  cases e with
  | normal=>
    obtain⟨d,q1,q2,q3⟩:=hq;exact nc _ _ q2 q3 (h2 d _ _ q1)
  |_=>exact hq
end
def nk (Q:Exit->St->Prop):Exit->St->Prop
 | .goto _,_=>False
 |e,s=>Q e s
theorem dF {P:Program} {b:Frame} {a:Act} {k:List Item} {cs:List Frame} {w:World} {c:Code} :step P (lone (b.atR a (.code (.scope c)::k)) cs w)= .next (lone (b.atR a (.code c:: .inScope c::k)) cs w):=
 step_lone_go (by simp[stepG,stepG.exec,Frame.atR])
theorem qS {P:Program} {b:Frame} {a:Act} {k:List Item} {cs:List Frame} {w:World} {c:Code} :step P (lone (b.atR a (.inScope c::k)) cs w)= .next (lone (b.atR a k) cs w):=
 step_lone_go (by simp[stepG,stepG.exec,Frame.atR])
theorem xw {F:Fence} {n:Nat} {P:Program} {Q:Exit->Act->World->Prop} {a:Act} {w:World} {c:Code} (h:c.wpIn F n P (Exit.noGoto Q) a w):(Code.scope c).wpIn F n P Q a w:=by
 intro b k cs hro hb hr;have h0:(lone (b.atR a (.code (.scope c)::k)) cs w).fenced P F:=fenced_calm hb hr rfl;obtain⟨e,a₁,w₁,hq,harr⟩:=h b (.inScope c::k) cs hro hb hr;cases e with
 |normal=>exact⟨.normal,a₁,w₁,hq, .head h0 dF (StepsIn.trans harr (.one (fenced_calm hb hr rfl) qS))⟩
 | exit id=>
   have hx:exitTo id (.inScope c::k)=exitTo id k:=by simp[exitTo]
   exact⟨.exit id,a₁,w₁,hq,fun k' hk=> .head h0 dF (harr.1 k' (by rw[hx];exact hk)),
    fun hr' hk=>let ⟨k₁,h1,h2⟩:=harr.2 hr' (by rw[hx];exact hk);⟨k₁,h1, .head h0 dF h2⟩⟩
 |goto l=>exact hq.elim
 |ret=>exact⟨_,a₁,w₁,hq, .of_steps (.one h0 dF) harr⟩
 |panic ch=>exact⟨_,a₁,w₁,hq, .of_steps (.one h0 dF) harr⟩
 |outgrown=>exact⟨_,a₁,w₁,hq, .of_steps (.one h0 dF) harr⟩
theorem vj {P:Program} {env:Env} {nt:Nat} {Q:Exit->St->Prop} {s:St} {c:Code} (h:awp P env nt c (nk Q) s):awp P env nt (.scope c) Q s:=fun ro x he hn a w m hS=>
 xw (Mo (h ro x he hn a w m hS) fun e a' w' ⟨s',m',q,hs⟩=>by
  cases e with
  |goto l=>exact q.elim
  |_=>exact⟨s',m',q,hs⟩)
end Go.Proofs.YtbjldjekgepopaaGreatDoor
set_option linter.unusedSimpArgs false
namespace Go.Proofs.YtbjldjekgepopaaGreatDoor
open Go.Proofs.Tryz
open Go.RowKit
set_option maxRecDepth 100000
set_option maxHeartbeats 8000000
theorem E2 (env:Env) (c:ChD) (hc:Right c) (i:Int):Con prog env 237 [.agg (aA c),I i] (.own 3 1 ((upL c i).map intAV)):=by
 have hlen:=hc.few;have hul:(upL c i).length<=40:=mh 40 i;refine qf func237 call237 ntmps237 results237 ?_;have F:=aA.eq_1;repeat refine st ?_
 refine aK (D:=Int×List Int) (fun d vs=>[(1,I d.1),(2, .loc 2 (vs 2) 0 0),(5, .row 7 (vs 7)),(6,I d.2.length)]) (fun d _=>[(2,⟨5,[aA c],26,false⟩),(7,⟨1,d.2.map intAV,3,true⟩)]) (fun d _ esc=>upL c i=d.2++upL c d.1/\esc 7=false/\(d.2=[]\/d.2.length<40-(d.1+1).toNat\/d.1<40)) (fun d=>(d.1+1).toNat) (i,[]) ?_ ?_ ?_ ?_
 ·exact⟨rfl,rfl, .inl rfl⟩
 ·(simp only[go_sem,F])
  try rfl
 ·have F:=aA.eq_1
  (simp only[go_sem,F])
  try rfl
 rintro⟨d,l⟩ ws esc ⟨hu,e0, -⟩;simp only at hu;have f0:=wZ env c d;have hll:l.length<=40:=by have:=Kx List.length hu;rw[K4]at this;omega
 cases hz:inZ c d with
 | false=>
   rw[hz]at f0;rw[cE hz,Lm]at hu;by_cases h40:l.length<40
   ·have q1:(l.length:Int)<40:=by omega
    have F:=ai4 aA.eq_1 q1 hu e0;repeat refine tz1 f0 ?_
    exact aR
   ·have q1: ¬(l.length:Int)<40:=by omega
    have F:=ai4 aA.eq_1 q1 hu e0;repeat refine tz1 f0 ?_
    exact aR
 | true=>
   rw[hz]at f0;obtain⟨k,s,rfl,hs,ha⟩:=dD hz;have hp:=dh hs;have hlt:=dH hc hz;rw[hp]at hlt;rw[qb hc hz,hp]at hu
   have hl:l.length+1<=40:=by
    have:=Kx List.length hu;rw[K4,Kj]at this;omega
   have q1:(l.length:Int)<40:=by omega
   have q2:((k:Nat):Int)< (c.states.length:Int):=by have:=(aI.1 hz).2;omega
   have q3:IntKind.i64.wrap ((l.length:Int)+1)=((l.length+1:Nat):Int):=aD (Nat.lt_succ_self _) (by omega);have hf:Fits (l.length+1) 8:=⟨by omega,by omega⟩;have F:=ai8 aA.eq_1 aL.eq_1 q1 q2 q3 hs hf e0;repeat refine tz1 f0 ?_
   refine⟨(s.parent,l++[s.parent]),⟨?_,by simp only[go_sem,e0],?_⟩,?_,?_,?_⟩
   ·show upL c i=(l++[s.parent])++upL c s.parent;rw[hu,LV];rfl
   ·exact .inr (.inr (by show s.parent<40;omega))
   ·simp only[K4,Le];exact qe
   ·have F:=ai aA.eq_1 @Ki.{0,0};exact qe
   ·show (s.parent+1).toNat< ((k:Int)+1).toNat;omega
theorem mO (env:Env) (c:ChD) (hc:Right c) (k i:Int):Con prog env 230 [.agg (aA c),I k,I i] (B (aboveB c k i)):=by
 have hul:(upL c i).length<=40:=mh 40 i;have f0:=E2 env c hc i;have f1:=kN env (upL c i) k (by omega);unfold aA at f0;unfold aboveB;refine qf func230 call230 ntmps230 results230 ?_;have F:=aA.eq_1;repeat refine tz2 f0 f1 ?_
 exact aR
theorem CU {c:ChD} (hc:Right c) {k i:Nat} (_hi:i<c.states.length):(mask c i).testBit k=aboveB c k i:=by
 unfold aboveB upL mask;rw[sd hc,LD,K6,K3]
theorem eX (env:Env) (c:ChD) (hc:Right c) (k i:Int):Con prog env 158 [aP c,I k,I i] (B (aboveB c k i)):=by
 have hlen:=hc.few;have f0:=qd env c i;cases hz:inZ c i with
 | false=>
   rw[hz]at f0;have:aboveB c k i=false:=by unfold aboveB;rw[cE hz];rfl
   rw[this];refine qf func158 call158 ntmps158 results158 ?_;repeat refine lZ f0 ?_
   exact aR0
 | true=>
   rw[hz]at f0;obtain⟨m,s,rfl,hs,ha⟩:=dD hz;have hm:=(KW.1 hs).1;by_cases e:k= -1
   ·subst e;have:aboveB c (-1) m=true:=by unfold aboveB;rw[K3];exact qY hc (m+1) m hz (by omega)
    rw[this];refine qf func158 call158 ntmps158 results158 ?_;repeat refine lZ f0 ?_
    exact aR0
   ·have e1:(k == -1)=false:=by simpa using e
    have f1:=qd env c k;cases hk:inZ c k with
    | false=>
      rw[hk]at f1
      have:aboveB c k m=false:=by
       cases hb:aboveB c k m with
       |false=>rfl
       | true=>
         unfold aboveB at hb;have h1:=jg hc 40 _ _ (K3.1 hb);rw[aI.2 ⟨by omega,by omega⟩]at hk;cases hk
      rw[this];refine qf func158 call158 ntmps158 results158 ?_;have F:=e1;repeat refine tz2 f0 f1 ?_
      exact aR
    | true=>
      rw[hk]at f1;obtain⟨p,sp,rfl,hps,_⟩:=dD hk;have hpl:=(KW.1 hps).1;have hml:mask c m<4294967296:=ln hc (by omega);have f2:=yv env (mask c m) hml p (by omega);rw[CU hc hm]at f2;have g1:(lA c c.states.length)[m]? =some (mask c m):=by rw[je hm,K0 hm]
      have g2:((m:Nat):Int)< (c.states.length:Int):=by omega
      have g3:=dM c c.states.length;refine qf func158 call158 ntmps158 results158 ?_;have F:=ai6 aP.eq_1 iW.eq_1 e1 g1 g2 g3;repeat refine tz3 f0 f1 f2 ?_
      exact aR
def bW:List Int->Int->Nat->Int
 |[],_,_=> -1
 |x::l,v,k=>if x=v then k else bW l v (k+1)
theorem FG {l:List Int} {v:Int} {k:Nat} {x:Int} (h:l[k]? =some x) (hn:bW l v 0=bW (l.drop k) v k):(x=v->bW l v 0=k)/\(x≠v->bW l v 0=bW (l.drop (k+1)) v (k+1)):=by
 obtain⟨hk,rfl⟩:=KW.1 h;rw[M6 hk]at hn;simp only[bW]at hn;exact⟨fun e=>by rw[hn,K0 e],fun e=>by rw[hn,KZ e]⟩
theorem DR (v:Int): ∀(l:List Int) (k:Nat),decide (0<=bW l v k)=l.contains v
 |[],k=>rfl
 | x::l,k=>by
   have ih:=DR v l (k+1);by_cases e:x=v
   ·have e1:bW (x::l) v k=k:=K0 e;rw[e1,LD,K6,K3];exact⟨fun _=>by rw[e];exact NW ..,fun _=>by omega⟩
   ·have e1:bW (x::l) v k=bW l v (k+1):=KZ e;rw[e1,ih,LD,K3,K3,Kk];exact⟨.inr,fun h=>h.resolve_left fun h=>e h.symm⟩
theorem Bf (env:Env) (l:List Int) (v:Int) (hl:l.length<=1000000):Con prog env 156 [.seq 1 (l.map intAV),I v] (I (bW l v 0)):=by
 refine qf func156 call156 ntmps156 results156 ?_;repeat refine st0 ?_
 refine lq0 l.length (by omega) (fun k _=>[(0, .seq 1 (l.map intAV)),(1,I v),(7,I l.length),(8,I k)]) (fun _ _=>[]) (fun k _ _=>bW l v 0=bW (l.drop k) v k) rfl ?_ ?_
 ·rintro k ws esc hlt k1 k2 hi;obtain⟨x,hx,_⟩:=aQ hlt;obtain⟨yes,no⟩:=FG hx hi;by_cases e:x=v
  ·rw[yes e];have k3:(v==x)=true:=by simp[e]
   have F:=ai4 k1 k2 k3 hx;repeat refine st ?_
   exact aR
  ·have k3:(v==x)=false:=by simpa using fun h=>e h.symm
   have F:=ai4 k1 k2 k3 hx;repeat refine st ?_
   exact qn (k+1) ⟨hlt,no e⟩
 ·rintro ws esc k1 hi;rw[hi,Ly (by omega),show bW [] v l.length= -1 from rfl];have F:=k1;repeat refine st ?_
  exact aR
theorem bA (env:Env) (l:List Int) (v:Int) (hl:l.length<=1000000):Con prog env 96 [.seq 1 (l.map intAV),I v] (B (l.contains v)):=by
 have h:=DR v l 0;refine qf func96 call96 ntmps96 results96 ?_;repeat refine lZ (Bf env l v hl) ?_
 (refine aN ?_;show (an _ _ _).run _=some _;simp only[go_sem])
 exact Kx B h
theorem mr (env:Env) (c:ChD) (hs:Small c) (k:Nat) (t:TrD) (ht:c.trans[k]? =some t):Con prog env 279 [aC c,I k] (.tuple [.agg (bi t),B true]):=by
 have f0:=ak env c hs;have hk:=(KW.1 ht).1;have g1:((k:Nat):Int)< (c.trans.length:Int):=by omega
 have g2: ¬(c.trans.length:Int)<=(k:Int):=by omega
 have g3: ¬((k:Nat):Int)<0:=by omega
 refine qf func279 call279 ntmps279 results279 ?_;have F:=ai6 aA.eq_1 bi.eq_1 g1 g2 g3 ht;repeat refine tz1 f0 ?_
 exact aR
theorem zP {c:ChD} {k:Nat} {s:StD} (hs:c.states[k]? =some s):av c k=(s.kind==1):=by unfold av;rw[bH,hs]
theorem mC (env:Env) (c:ChD) (hc:Right c) (hs:Small c) (t:TrD) (_hsrc:inZ c t.src=true):Con prog env 281 [aC c, .agg (bi t)] (I (domE c t.src t.target)):=by
 have hlen:=hc.few;have f0:=ak env c hs;have f1:=bD env c;have f2:=wV env c hc t.src;have hul:(upL c t.src).length<=40:=mh 40 t.src
 have hrange: ∀x∈upL c t.src,x<0\/inZ c x=true:=fun x hx=>by
  rcases O4 x 0 with h|h
  ·exact .inl h
  ·exact .inr (iD hc hx h).1
 unfold domE;generalize upL c t.src=U at*;unfold aC at f0 f1 |-;refine qf func281 call281 ntmps281 results281 ?_;have F:=bi.eq_1;repeat refine tz3 f0 f1 f2 ?_
 have F:=ai bi.eq_1 aA.eq_1;refine lq U.length (by omega) (fun j vs=>[(0, .ref 9 [tabCells c] 0 0),(3, .loc 3 (vs 3) 0 0),(5, .loc 5 (vs 5) 0 0),(14, .row 14 (vs 14)),(15,I U.length),(16,I j)]) (fun j _=>[(3,⟨5,[bi t],53,false⟩),(5,⟨5,[aA c],26,false⟩),(14,⟨1,U.map intAV,3,true⟩)]) (fun j _ _=>U.find? (Bu c t.target)=(U.drop j).find? (Bu c t.target)) rfl ?_ ?_
 ·rintro j ws esc hlt q1 q2 hf;obtain⟨x,hx⟩:=gE hlt;rw[vJ hx]at hf;rcases hrange x (K1 hx) with h0|hz
  ·have hd:Bu c t.target x=true:=by unfold Bu;rw[LC h0];rfl
   rw[hd]at hf;simp only[L4]at hf;rw[hf,Ls];have F:=ai hx q1;repeat (first|refine oO rfl (by simp only[go_sem,h0,F];exact⟨rfl,rfl⟩) ?_|refine gR ?_|refine gO ?_|refine oZ (jm ?_)|refine oZ ?_|refine oS ?_|refine gT ?_|refine gD mixed ?_|refine oB ?_|refine oK ?_|(refine oX ?_;simp only[bJ,ba, ↓reduceIte,Nat.reduceEqDiff,reduceCtorEq])|refine oY (by simp only[go_sem,h0,F];exact iR) ?_|refine oN (by simp only[go_sem,h0,F];exact iR) ?_)
   (refine aN ?_;show (an _ _ _).run _=some _;simp only[go_sem,h0,F])
  ·obtain⟨k,s,rfl,hsk,_⟩:=dD hz;have hk:=(KW.1 hsk).1;have h0: ¬((k:Nat):Int)<0:=by omega
   have q3:((k:Nat):Int)< (c.states.length:Int):=by omega
   have hdp:Bu c t.target (k:Int)=(av c (k:Int)&&aboveB c (k:Int) t.target):=by unfold Bu;rw[Ky h0,Lu]
   have hpl:=zP hsk;have f3:=eX env c hc k t.target;cases hk1:(s.kind==1) with
   | false=>
     rw[hdp,hpl,hk1,LF]at hf;simp only[LA,Lf]at hf;have F:=ai10 bi.eq_1 aA.eq_1 aL.eq_1 hx hsk q1 q2 q3 h0 hk1;repeat refine tz1 f1 ?_
     refine⟨j+1,⟨hlt,hf⟩,?_,?_,by omega⟩
     ·exact qe
     ·have F:=ai bi.eq_1 aA.eq_1;exact qe
   | true=>
     rw[hdp,hpl,hk1,LK]at hf;cases hab:aboveB c (k:Int) t.target with
     | false=>
       rw[hab]at hf f3;simp only[LA,Lf]at hf;unfold aP at f1 f3;have F:=ai10 bi.eq_1 aA.eq_1 aL.eq_1 hx hsk q1 q2 q3 h0 hk1;repeat refine tz2 f1 f3 ?_
       refine⟨j+1,⟨hlt,hf⟩,?_,?_,by omega⟩
       ·exact qe
       ·have F:=ai bi.eq_1 aA.eq_1;exact qe
     | true=>
       rw[hab]at hf f3;simp only[L4]at hf;rw[hf,Ls];unfold aP at f1 f3;have F:=ai10 bi.eq_1 aA.eq_1 aL.eq_1 hx hsk q1 q2 q3 h0 hk1;repeat refine tz2 f1 f3 ?_
       exact aR
 ·rintro ws esc q1 hf;rw[MP]at hf;rw[hf];simp only[PL,NS];have F:=q1;repeat refine st ?_
  exact aR
theorem Full.src {c:ChD} (h:Full c) {k:Nat} {t:TrD} (ht:c.trans[k]? =some t):inZ c t.src=true/\(t.target= -1\/inZ c t.target=true):=by
 have:=h.tr k t ht;unfold dP at this;simp only[KY,Lb,LW,K6]at this;refine⟨?_,this.2.imp id fun q=>aI.2 q⟩;have h1:=this.1.1.1.1;unfold al at h1;split at h1
 ·rename_i s hs;unfold at_ at hs;split at hs
  ·rename_i h0;have:=(KW.1 hs).1;exact aI.2 ⟨h0,by omega⟩
  ·cases hs
 ·cases h1
end Go.Proofs.YtbjldjekgepopaaGreatDoor
namespace Go.Proofs
def Tryz.revI_ren:Go.Shelf.Ren:=⟨fun|112=>304|n=>n,fun|28=>27|3=>3|4=>4|0=>0|n=>n,fun|n=>n⟩
theorem Tryz.revI:Go.Proofs.Lays.n112 prog Tryz.revI_ren:={
 mixed:=by kernel_rfl
 f112:=func304.trans (congrArg some (by kernel_rfl))
 t0:=Tryz.underlying0
 a0:=Tryz.isAgg0
 z0:=Tryz.sizeOf0
 v0:=Tryz.zeroValue0
 t3:=Tryz.underlying3
 a3:=Tryz.isAgg3
 z3:=Tryz.sizeOf3
 v3:=Tryz.zeroValue3
 t4:=Tryz.underlying4
 a4:=Tryz.isAgg4
 z4:=Tryz.sizeOf4
 v4:=Tryz.zeroValue4
 t28:=Tryz.underlying27
 a28:=Tryz.isAgg27
 z28:=Tryz.sizeOf27
 v28:=Tryz.zeroValue27 }
def Tryz.compI_ren:Go.Shelf.Ren:=⟨fun|20=>272|n=>n,fun|22=>27|3=>3|4=>4|0=>0|n=>n,fun|n=>n⟩
theorem Tryz.compI:Go.Proofs.Lays2.n20 prog Tryz.compI_ren:={
 mixed:=by kernel_rfl
 f20:=func272.trans (congrArg some (by kernel_rfl))
 t0:=Tryz.underlying0
 a0:=Tryz.isAgg0
 z0:=Tryz.sizeOf0
 v0:=Tryz.zeroValue0
 t3:=Tryz.underlying3
 a3:=Tryz.isAgg3
 z3:=Tryz.sizeOf3
 v3:=Tryz.zeroValue3
 t4:=Tryz.underlying4
 a4:=Tryz.isAgg4
 z4:=Tryz.sizeOf4
 v4:=Tryz.zeroValue4
 t22:=Tryz.underlying27
 a22:=Tryz.isAgg27
 z22:=Tryz.sizeOf27
 v22:=Tryz.zeroValue27
 i3:=by kernel_rfl }
end Go.Proofs
namespace Go.Proofs.YtbjldjekgepopaaGreatDoor
open Go.Proofs.Tryz
open Go.RowKit Go.Sort Go.Shelf Go.Lib
theorem Tryz.revIEnter: ∀(args:Array Value) (w:World),(callFunc 304 args).run prog w= .ok (.enter 304 args) w:=O7 func304 (by kernel_rfl) rfl
theorem Tryz.compIEnter: ∀(args:Array Value) (w:World),(callFunc 272 args).run prog w= .ok (.enter 272 args) w:=O7 func272 (by kernel_rfl) rfl
theorem qu (l:List Int) (hl:l.length<=9223372036854775807):Turns prog 304 [] 3 1 (l.map r6) (l.reverse.map r6):=by
 by_cases h0:l=[]
 ·subst h0;exact l6 Tryz.revIEnter fun p cap w=>Any.slices_Reverse_int_empty Tryz.revI p cap w
 ·refine jY (by rw[Kl];exact MG.2 h0) Tryz.revIEnter (by simp) (fun x hx=> ?_) (fun x hx=> ?_) fun w g cap hH hg=> ?_
  ·obtain⟨y,_,rfl⟩:=K9.1 hx;rfl
  ·obtain⟨y,_,rfl⟩:=K9.1 hx;exact⟨rfl,fun u hu=>by rw[Km.1 hu];rfl⟩
  ·have hH:Holds id w g 0 (l.map (Value.int .i64)).toArray:=by rw[<-dN];exact hH
   have:=Any.slices_Reverse_int Tryz.revI g 0 cap l w (r8 hH) hl;rw[Kl];refine(show Calls prog 304 #[.slice (some ⟨g,0,none⟩) l.length cap] w _ from this).mono ?_;rintro ex w' ⟨rfl,n,rfl⟩;refine⟨rfl,n, #[],?_⟩;have hgr: ∀W:World,grow W #[]=W:=fun W=>by simp[grow]
   rw[hgr,iz,show (l.reverse.map r6).flatten=l.reverse.map (Value.int .i64) from dN (Value.int .i64) _];simp
theorem CB (l:List Int) (hl:l.length<=9223372036854775807):Cuts prog 272 3 1 (l.map r6) ((Lib.compact l).map r6):=by
 refine⟨Tryz.compIEnter,fun x hx=> ?_,fun w base v ho=> ?_⟩
 ·obtain⟨y,_,rfl⟩:=K9.1 hx;exact⟨rfl,fun u hu=>by rw[Km.1 hu];rfl⟩
 rw[show (l.map r6).flatten=l.map (Value.int .i64) from dN (Value.int .i64) _,Kl]at ho;rw[show ((Lib.compact l).map r6).flatten=(Lib.compact l).map (Value.int .i64) from dN (Value.int .i64) _,Kl];by_cases h0:l=[]
 ·subst h0
  obtain⟨p,cap,rfl⟩: ∃p cap,v= .slice p 0 cap:=by
   rcases ho.2 with⟨rfl,_⟩|⟨g,cap,cur,rfl,_⟩
   ·exact⟨_,_,rfl⟩
   ·exact⟨_,_,rfl⟩
  refine(show Calls prog 272 #[.slice p 0 cap] w _ from Any.slices_Compact_int_empty Tryz.compI p cap w).mono ?_;rintro ex w' ⟨rfl,rfl⟩;exact⟨_,rfl,rfl,⟨rfl,rfl,rfl,K8 _,fun _ _ _=>rfl⟩,fun _ h=>h,ho⟩
 ·rcases ho.2 with⟨_,h⟩|⟨g,cap,cur,rfl,hbase,hb,h1,h2,h3,h4⟩
  ·exact absurd (LJ h) h0
  have hg:g<w.heap.size:=(Kq.1 hb).1
  have hH:Holds (Value.int .i64) w g 0 l.toArray:=fun j hj=>by
   have hj':j<l.length:=by simpa using hj
   have e1:(cur.toList.take (l.length*1))[j]? =(l.map (Value.int .i64))[j]? :=by rw[h4]
   rw[Ma (by omega),K5,KV hj']at e1;refine⟨?_,by simp[World.frozen?,hb]⟩;simp only[World.cell?,hb,Lc,Oc,LA,Lf];rw[<-Mr,e1,Mw _ j hj];rfl
  have hcl:(Lib.compact l).length<=l.length:=by
   unfold Lib.compact Lib.compactUpTo;rw[Kl];exact Kh (Kw ..) (by simp)
  refine(show Calls prog 272 #[.slice (some ⟨g,0,none⟩) l.length cap] w _ from Any.slices_Compact_int Tryz.compI g 0 cap l w hH hl h1).mono ?_;rintro ex w' ⟨rfl,q,rfl⟩;rw[iz];generalize hF:((Lib.compact l++List.replicate (l.length-(Lib.compact l).length) 0).toArray.map (Value.int .i64))=F;have hFs:F.size=l.length:=by rw[<-hF];simp;omega
  have hgr: ∀W:World,grow W #[]=W:=fun W=>by simp[grow]
  have e2:=heap_put (n:=q) (os:= #[]) F hb;have e3:=jz (w:=w) (g:=g) (n:=q) (os:= #[]) F;rw[hgr]at e2 e3;refine⟨_,rfl,rfl,e3,fun _ h=>h,⟨by rw[Kl,Nc], .inr ⟨g,cap,_,rfl,hbase,e2,Kh hcl h1,h2,by simp[putCells,h3],?_⟩⟩⟩;have ht:=sS cur F (by rw[hFs,h3];omega);rw[Nc]
  have:((putCells id 0 F cur).toList.take (Lib.compact l).length)=(F.toList).take (Lib.compact l).length:=by
   rw[<-ht,Ob,Mg (by omega)]
  rw[this, <-hF];simp
end Go.Proofs.YtbjldjekgepopaaGreatDoor
