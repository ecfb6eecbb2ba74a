/- The document's words on trees and tables. -/
import Derived.Test.YtdpjgflalmnkdaaGreatDoorT15
set_option maxRecDepth 100000
set_option maxHeartbeats 16000000
set_option linter.unusedSimpArgs false
namespace Go.Proofs.YtdpjgflalmnkdaaGreatDoor
open Go.Proofs.Tryz
open Go.RowKit
section
theorem jZ (c:ChD):(aP c).plain=true:=rfl
theorem J5 (l:List Nat):l.map aB=(zL l).map intAV:=by simp[aB,zL]
theorem BS (c:ChD) (vs:Nat->Nat):dW c 0 vs=[]:=rfl
theorem wS (c:ChD):keyRows c 0=[]:=rfl
theorem y9 {c:ChD} {j:Nat} {g g':Nat->Nat} (h: ∀k,g (k+6000)=g' (k+6000)):dW c j g=dW c j g':=by
 apply LY;intro q;rw[db,db,h]
theorem EV {c:ChD} {j:Nat} {s:St} {Q:St->Prop} (hk:keysTo c (j+1)=keysTo c j++[dA c j]) (hno:dA c j∉keysTo c j) (hF:cG s (FA c (j+1) s.vs)) (hR:bh s (RN c j s.vs)) (he:s.esc 27=false)
 (hQ: ∀g e,e 27=false->Q (head (FA c (j+1) g) (RA c (j+1) g) g e)): ∃s2,Turned s s2/\Q s2:=by
 obtain⟨g',e',h1,h2⟩:=Ik hk hno (j+1) (g:=s.vs) (e:=s.esc) he;exact⟨_,(Turned.head hF hR).trans h2,hQ g' e' h1⟩
theorem JU (c:ChD) (F:Nat) (g:Nat->Nat) (R:List (Nat×Row)) (e:Nat->Bool):cG (head (FA c F g) R g e) (FA c F g):=by
 simp only[cG,FA,head,mN,L1,Nat.reduceEqDiff,Ld,Kk,reduceCtorEq]
theorem JR (c:ChD) (j:Nat) (g:Nat->Nat) (F:List (Nat×AV)) (e:Nat->Bool):bh (head F (RA c j g) g e) (RA c j g):=by
 refine⟨?_,?_,?_,holdR_rowsAt fun q r hq=> ?_⟩
 ·simp only[head,RA,al,L1]
 ·simp only[head,RA,al,L1,Nat.reduceEqDiff,Ld]
 ·simp only[head,RA,al,L1,Nat.reduceEqDiff,Ld]
 ·simp only[head,RA,al];rw[K2 (by omega),K2 (by omega),K2 (by omega),nM,hq]
theorem ub (env:Env) (a1 a8:Addr) (he:ChEnv env a1 a8) (hT: ∀W,env.inv W->TabAt W) (c:ChD) (hch:chk c=(0, -1)) (hcf:jS c):Con prog env 17 [.agg (aA c)] (.tuple [aJ c, .lit .nilIface]):=by
 have h0:(chk c).1=0:=by rw[hch]
 have h:=full_of h0;have hs:=sb h0;have hlen:=h.few;have htr:=h.ftr;have f0:=GO env a1 a8 he hT c h.toRight (vo hch) hcf;have f1:=oe env c hs;have f2:=Bh env c (by omega);refine qf func17 call17 ntmps17 results17 ?_;have F:=aA.eq_1;repeat refine tz3 f0 f1 f2 ?_
 refine fV [(24,⟨1,(evL c).map fp,9,true⟩)] ?_ ?_
 ·exact qe
 refine aI (D:=Nat) (fun j vs=>FA c j vs) (fun j vs=>RA c j vs) (fun j _ esc=>j<=c.trans.length/\esc 27=false) (fun j=>c.trans.length-j) 0 ?_ ?_ ?_ ?_
 ·exact⟨Kj _,rfl⟩
 ·have F:=ai FA.eq_1 aP.eq_1;exact qe
 ·have F:=ai6 RA.eq_1 nG.eq_1 aP.eq_1 @BS @wS aA.eq_1
  (simp only[go_sem,rowsAt,F])
 try clear f0 f1 f2
 rintro j ws esc ⟨hj,e0⟩;by_cases hlt:j<c.trans.length
 ·obtain⟨t,ht⟩:=gE hlt;have g1:=nlt hlt;have g2:=aD hlt (by omega);have fE:=(v7 env c (by omega) .any nilS t.event).lend rfl;have hka:dA c j=(t.src,evI c t.event):=by unfold dA;rw[ht]
  have hm:=En c j ws t.src (evI c t.event);have hml:=ga c j ws;generalize evI c t.event=e at*;refine dh ?_;cases hq:qN (t.src,e) (keysTo c j) 0 with
  | none=>
    rw[hq]at hm;have hno:dA c j∉keysTo c j:=by rw[hka];exact lB hq
    have hk:keysTo c (j+1)=keysTo c j++[dA c j]:=by
     show (if dA c j∈keysTo c j then _ else _)=_;rw[K2 hno]
    have hs2: ∀x y:List AV,(dW c j ws++[x]).set (keysTo c j).length y=dW c j ws++[y]:=fun x y=>by rw[<-hml];simp
    have ha2: ∀x:List AV,(dW c j ws++[x])[(keysTo c j).length]? =some x:=fun x=>by rw[<-hml];simp
    have F:=ai12 FA.eq_1 RA.eq_1 nG.eq_1 aA.eq_1 az.eq_1 g1 g2 ht @jZ hm hml<|ai3 hs2 ha2 e0;repeat refine st ?_
    refine lL fE ?_;repeat refine st ?_
    refine EV hk hno ?_ ⟨?_,?_,?_,?_,holdR_rowsAt fun q r hr=> ?_⟩ ?_ fun g e he=>⟨j+1,⟨hlt,he⟩,?_,?_,by omega⟩
    ·have F:=ai4 FA.eq_1 RA.eq_1 aA.eq_1 g2;exact qe
    ·(simp only[go_sem,FA,RA,aA,g2])
    ·have F:=ai4 RA.eq_1 RN.eq_1 nG.eq_1 aA.eq_1;exact qe
    ·have F:=ai5 RA.eq_1 RN.eq_1 nG.eq_1 aA.eq_1 hka
     (simp only[go_sem,F])
     exact LF (fun es=>(⟨0,es++_,_,false⟩:Row)) (y9 fun k=>by simp only[go_sem])
    ·have F:=ai RA.eq_1 RN.eq_1;exact qe
    ·have hh:=nM c j q;rw[hr]at hh;have F:=ai RA.eq_1 hh;exact qe
    ·have F:=ai RA.eq_1 e0;exact qe
    ·exact JU c (j+1) g _ e
    ·exact JR c (j+1) g _ e
  | some q=>
    rw[hq]at hm;have hqk:=(ox hq).2;rw[Mq]at hqk;have hin:dA c j∈keysTo c j:=by rw[hka];exact K4 hqk
    have hk:keysTo c (j+1)=keysTo c j:=by
     show (if dA c j∈keysTo c j then _ else _)=_;rw[K5 hin]
    have hat:(dW c j ws)[q]? =some [.agg [I t.src,I e], .row (q+6000) (ws (q+6000))]:=by rw[db,hqk];rfl
    have hsame:(dW c j ws).set q [.agg [I t.src,I e], .row (q+6000) (ws (q+6000))]=dW c j ws:=BU (p:=(t.src,e)) hqk;have hkr:=nM c j q;rw[br,hqk]at hkr;simp only[Kp]at hkr;have hrl:=Cl c j (t.src,e);have hf:Fits ((iU c j (t.src,e)).length+1) 8:=aC (by omega) (by omega);have F:=ai12 FA.eq_1 RA.eq_1 nG.eq_1 aA.eq_1 az.eq_1 g1 g2 ht @jZ hm hat<|ai4 hsame hkr hf e0;repeat refine st ?_
    refine lL fE ?_;repeat refine st ?_
    refine⟨_,Turned.refl _,j+1,⟨hlt,?_⟩,?_,⟨?_,?_,?_,holdR_rowsAt fun k r hr=> ?_⟩,by omega⟩
    ·exact qe
    ·have F:=ai4 FA.eq_1 RA.eq_1 aA.eq_1 g2;exact qe
    ·have F:=ai3 RA.eq_1 nG.eq_1 aA.eq_1;exact qe
    ·have F:=ai3 RA.eq_1 nG.eq_1 aA.eq_1;exact qe
    ·have F:=ai4 RA.eq_1 nG.eq_1 aA.eq_1 hsame
     (simp only[go_sem,F])
     exact LF (fun es=>(⟨0,es,_,false⟩:Row)) (BW (p:=(t.src,e)) hk hqk (fun k hne=>by rw[upd_ne _ _ _ (by omega),upd_ne _ _ _ (by omega),upd_ne _ _ _ (by omega),upd_ne _ _ _ (by omega)]) (upd_same ..))
    ·rw[wU hk hka (mL c j) hqk k]at hr;by_cases ek:k=q
     ·subst ek;rw[K5 rfl]at hr;cases hr;have F:=ai3 RA.eq_1 nG.eq_1 aA.eq_1;exact qe
     ·rw[K2 ek]at hr;have hh:=nM c j k;rw[hr]at hh;have hne: ¬(k+6000=q+6000):=by omega
      have F:=ai6 RA.eq_1 nG.eq_1 aA.eq_1 hh hne ek;exact qe
 obtain rfl:j=c.trans.length:=by omega
 have g1:=nl c.trans.length;obtain⟨e',h27,htu⟩:=Bd (c:=c) c.trans.length (g:=ws) e0;refine iO htu ?_;have F:=ai5 FA.eq_1 KC.eq_1 aA.eq_1 g1 h27;repeat refine st ?_
 refine nC 27 9100 0 8 27 1 ?_
 refine aI (D:=Nat) (fun i vs=>[(2, .lit (.pointer none)),(3, .lit .nilIface),(4,aP c),(6, .loc 27 (vs 27) 0 0),(62,stsAV c.states),(63,I c.states.length),(64,I i)])
  (fun i vs=>[(27,⟨9,[[Sg c.name,I c.initial,varsAV c.vars,stsAV c.states,trsAV c.trans,aP c, .seq 1 ((evL c).map fp), .fmap (ej c), .row 9100 (vs 9100)]],111,false⟩),(9100,⟨1,pg c i,27,true⟩)])
  (fun i _ esc=>i<=c.states.length/\esc 27=false/\esc 9100=false) (fun i=>c.states.length-i) 0 ?_ ?_ ?_ ?_
 ·refine⟨Kj _,?_,?_⟩<;>simp only[go_sem,h27]
 ·exact qe
 ·(simp only[go_sem,F])
  try rfl
 try clear g1 e0 h27 htu hj hlt
 rintro i ws esc ⟨hi,e0,e1⟩;by_cases hlt:i<c.states.length
 ·have g1:=nlt hlt;have g2:=aD hlt (by omega);have f3:=mT env c h 40 i hlt (by omega);have hbl:=IJ h hlt
  have f4:Con prog env 53 [aP c, .seq 1 ((bgL c i).map aB)] (.own 3 1 ((sbL c i).map aB)):=by
   rw[J5];exact fP env c h.toRight (zL (bgL c i)) (by simp[zL];omega)
  have hbe:(pg c i).length=i:=by simp[pg]
  have hbs:pg c (i+1)=pg c i++[[.seq 1 ((sbL c i).map aB)]]:=by unfold pg;rw[Mb,Ka];rfl
  have hf:Fits (i+1) 24:=aC (by omega) (by omega);have F:=ai7 g1 g2 hbe hf e0 e1 aP.eq_1;repeat refine tz2 f3 f4 ?_
  refine⟨i+1,⟨hlt,?_,?_⟩,?_,?_,by omega⟩
  ·simp only[go_sem,e0]
  ·simp only[go_sem,e1]
  ·exact qe
  ·have F:=ai hbs aP.eq_1;exact qe
 obtain rfl:i=c.states.length:=by omega
 have g1:=nl c.states.length;have F:=ai3 g1 e0 e1;repeat refine st ?_
 refine fV [(9100,⟨1,pg c c.states.length,27,true⟩)] ?_ ?_
 ·exact qe
 refine kh [(2, .loc 27 (ws 27) 0 0),(3, .lit .nilIface)] [(27,⟨9,[tabCells c],111,false⟩)] ?_ ?_ ?_
 ·exact qe0
 ·have F:=ai tabCells.eq_1 aP.eq_1;exact qe
 have F:=ai tabCells.eq_1 @jZ
 (refine aM ?_;show (ae _ _ _).run _=some _;simp only[go_sem,F])
 rfl
end
section
theorem uo (env:Env) (c:ChD) (l:List OpD):Con prog env 159 [.agg (aA c),opsAV l] (B (bg l c.vars.length c.states.length)):=by
 have hx:=kD env l c.vars.length c.states.length;unfold bg;refine qf func159 call159 ntmps159 results159 ?_;have F:=aA.eq_1;repeat refine tz1 hx ?_
 exact aR
theorem Ek {m:List UInt8} (h:bd m=true):(m == [])=false:=by
 cases m with
 |nil=>cases h
 |cons a l=>rfl
theorem G1 (env:Env) (c:ChD) (a:ActD):Con prog env 196 [.agg (aA c), .agg (au a)] (B (fh c.vars.length c.states.length a)):=by
 obtain⟨k,n,m,co⟩:=a;have hcode:=uo env c co;have hname:=ei env m;have hnm:bd m=true->(m == [])=false:=Ek;have hco:((co.length:Int)==0)=(co == []):=e9 co;have w1: ∀p q:Prop,[Decidable p]->[Decidable q]->decide (p/\q)=(decide p&&decide q):=fun p q=>PG p q;refine qf func196 call196 ntmps196 results196 ?_;by_cases hk:1<=k/\k<=5
 ·have hk:k=1\/k=2\/k=3\/k=4\/k=5:=by omega
  rcases hk with rfl|rfl|rfl|rfl|rfl
  all_goals
   have F:=ai9 aA.eq_1 au.eq_1 fh.eq_1 hnm hco w1 im @PR @PP;exact gz2 hcode hname
 rw[show fh c.vars.length c.states.length ⟨k,n,m,co⟩=false by unfold fh;rw[K2 (by simp only;omega),K2 (by simp only;omega),K2 (by simp only;omega),K2 (by simp only;omega)]];have b2:(k==2)=false:=dN (by omega);have b4:(k==4)=false:=dN (by omega);have b5:(k==5)=false:=dN (by omega);by_cases h1:k<1
 ·have F:=ai9 aA.eq_1 au.eq_1 h1 b2 b4 b5 im @PR @PP;exact gz2 hcode hname
 have h2:5<k:=by omega
 have F:=ai10 aA.eq_1 au.eq_1 h1 h2 b2 b4 b5 im @PR @PP;exact gz2 hcode hname
theorem oc (env:Env) (c:ChD) (l:List ActD):Con prog env 156 [.agg (aA c),actsAV l] (B (eI c.vars.length c.states.length l)):=by
 refine qf func156 call156 ntmps156 results156 ?_;by_cases hlen:32<l.length
 ·have k0:(32:Int)< (l.length:Int):=by omega
  rw[show eI c.vars.length c.states.length l=false by unfold eI;rw[LD (by omega)];rfl];have F:=ai aA.eq_1 k0;repeat refine st ?_
  exact aR
 have k0: ¬(32:Int)< (l.length:Int):=by omega
 rw[show eI c.vars.length c.states.length l=l.all (fh c.vars.length c.states.length) by unfold eI;rw[LK (by omega)];rfl];have F:=ai aA.eq_1 k0;repeat refine st ?_
 refine lq l.length (by omega) (fun k vs=>[(1,actsAV l),(2, .loc 2 (vs 2) 0 0),(5,I k)]) (fun _ _=>[(2,⟨5,[aA c],26,false⟩)]) (fun k _ _=>(l.take k).all (fh c.vars.length c.states.length)=true) rfl ?_ ?_
 ·rintro k ws esc hlt k1 k2 hall;obtain⟨a,hx,hm⟩:=aQ hlt;have hact:=G1 env c a;cases h1:fh c.vars.length c.states.length a with
  | true=>
    have F:=ai6 aA.eq_1 k1 k2 hx au.eq_1 h1;repeat refine tz1 hact ?_
    exact qn (k+1) ⟨hlt,d8 hall hx h1⟩
  | false=>
    rw[lr hx h1];have F:=ai6 aA.eq_1 k1 k2 hx au.eq_1 h1;repeat refine tz1 hact ?_
    exact aR
 ·rintro ws esc k1 hall;rw[sP hall (by omega)];have F:=ai aA.eq_1 k1;repeat refine st ?_
  exact aR
theorem qv (env:Env) (c:ChD) (s:StD) (hp:s.parent<c.states.length):Con prog env 158 [.agg (aA c), .agg (aK s)] (B (cc c s)):=by
 refine qf func158 call158 ntmps158 results158 ?_;by_cases h1:0<=s.parent
 ·obtain⟨m,hm⟩:=fJ h1;obtain⟨q,hq,_⟩:=aQ (show m<c.states.length by omega);have k1:=nlt (show m<c.states.length by omega);rw[show cc c s=(q.kind==1) by unfold cc;rw[hm,bI,hq]];have F:=ai5 aA.eq_1 aK.eq_1 hm hq k1;repeat refine st ?_
  exact aR
 ·rw[show cc c s=false by unfold cc at_;rw[K2 h1]];have F:=ai3 aA.eq_1 aK.eq_1 h1;repeat refine st ?_
  exact aR
theorem wP (env:Env) (c:ChD) (l:List Nat) (hl:l.length<=1000000) (hk: ∀k∈l,k<c.states.length):Con prog env 157 [.agg (aA c),nsAV l] (B ((l.all fun k=>ap c k)&&decide (0<l.length))):=by
 refine qf func157 call157 ntmps157 results157 ?_;have F:=aA.eq_1;repeat refine st ?_
 refine lq l.length (by omega) (fun k vs=>[(1,nsAV l),(2, .loc 2 (vs 2) 0 0),(5,I k)]) (fun _ _=>[(2,⟨5,[aA c],26,false⟩)]) (fun k _ _=>(l.take k).all (fun k=>ap c k)=true) rfl ?_ ?_
 ·rintro j ws esc hlt k1 k2 hall;obtain⟨k,hx,hm⟩:=aQ hlt;obtain⟨q,hq,_⟩:=aQ (hk k hm);have k3:=nlt (hk k hm);have hn:=iW env q;have hnq:ap c (k:Int)=eG q:=by unfold ap;rw[bI,hq]
  cases h1:eG q with
  | true=>
    have F:=ai9 aA.eq_1 k1 k2 k3 hx hq aB.eq_1 aK.eq_1 h1;repeat refine tz1 hn ?_
    exact qn (j+1) ⟨hlt,d8 (p:=fun k:Nat=>ap c k) hall hx (hnq.trans h1)⟩
  | false=>
    rw[lr (p:=fun k:Nat=>ap c k) hx (hnq.trans h1),LJ];have F:=ai9 aA.eq_1 k1 k2 k3 hx hq aB.eq_1 aK.eq_1 h1;repeat refine tz1 hn ?_
    exact aR
 ·rintro ws esc k1 hall;rw[sP hall (by omega),LN];have h3:decide ((0:Int)< (l.length:Int))=decide (0<l.length):=by rw[LC];simp
  have F:=ai aA.eq_1 k1;repeat refine st ?_
  (refine aM ?_;show (ae _ _ _).run _=some _;simp only[go_sem,F])
  exact LF B h3
theorem GZ (env:Env) (c:ChD) (hn:c.vars.length<=1000000) (i:Nat) (v:VarD) (hv:c.vars[i]? =some v):Con prog env 97 [.agg (aA c),I i] (B (pH c i v)):=by
 have hi:i<c.vars.length:=(K0.1 hv).1;have k0:=nlt hi;have f1:=ei env v.name;have f2:=dV env v.start;refine qf func97 call97 ntmps97 results97 ?_;have F:=ai4 aA.eq_1 k0 hv gh.eq_1;repeat refine st ?_
 refine lp (D:=Nat) (fun j vs=>[(1,I i),(2, .loc 2 (vs 2) 0 0),(5, .loc 5 (vs 5) 0 0),(6,I j)]) (fun _ _=>[(2,⟨5,[aA c],26,false⟩),(5,⟨2,[gh v],117,false⟩)]) (fun j _ _=>j<=i/\newVar c v.name j=true) (fun j=>i-j) 0 ⟨Kj _,rfl⟩ ?_;rintro j ws esc ⟨hj,hall⟩;by_cases hlt:j<i
 ·obtain⟨x,hx,_⟩:=aQ (show j<c.vars.length by omega);have hx':(c.vars.take i)[j]? =some x:=by rw[LG,K5 hlt];exact hx
  have k1:=nlt hlt;have k3:=nlt (show j<c.vars.length by omega);have k2:=aD hlt (by omega);cases e:(x.name==v.name)
  ·have F:=ai7 aA.eq_1 k1 k2 k3 hx gh.eq_1 e;repeat refine st ?_
   exact qn (j+1) ⟨hlt,pQ hall hx e⟩
  ·rw[show pH c i v=false by unfold pH newVar;rw[lr (p:=fun x:VarD=> !(x.name==v.name)) hx' (by rw[e];rfl)];rfl];have F:=ai7 aA.eq_1 k1 k2 k3 hx gh.eq_1 e;repeat refine st ?_
   exact aR
 ·have k1: ¬(j:Int)< (i:Int):=by omega
  obtain rfl:j=i:=by omega
  have hr:pH c j v=(bd v.name&& !(v.name == [100,97,116,97])&& !(v.name == [105,110])&&aL v.start):=by
   unfold pH aL;rw[hall];simp only[LN,Ol]
  rw[hr];have F:=ai3 k1 gh.eq_1 im;exact gz2 f1 f2
end
section
theorem Ic {α:Type} [DecidableEq α] (l:List α):(0< (l.length:Int))=((l == [])=false):=by
 rw[eq_iff_iff];cases l<;>simp
theorem oq (c:ChD) (i:Int) (hn:c.states.length<=1000000):(kidsL c i true).length<=1000000:=Km (dI c i true _) hn
theorem yJ (s:StD) (l:List Nat):(∀n:Int,(s.kind=n)=((s.kind==n)=true))/\(((s.kind==4)=true\/(s.kind==5)=true)=(aT s=true))/\((l=[])=((l == [])=true)):=by
 refine⟨fun n=>by simp,by simp[aT],by simp⟩
theorem BB (env:Env) (c:ChD) (hn:c.states.length<=1000000) (i:Nat) (s:StD) (hs:c.states[i]? =some s):Con prog env 98 [.agg (aA c),I i] (B (bz c i s)):=by
 have hi:i<c.states.length:=(K0.1 hs).1;have k0:=nlt hi;have f1:=ei env s.name;have f2:=E5 env c s.name hn;have f3:=oc env c s.inn;have f4:=oc env c s.out;have f5:=bj env c (i:Int) true hn;have f6:=bj env c (i:Int) false hn;have f7:=bf env s;have f8:=rB env (kidsL c i true) s.initial (oq c i hn);have f9:=wP env c (kidsL c i true) (oq c i hn) (fun k hk=>(oo hk).1);have z1:=e9 (kidsL c i true);have z2:=Ic (kidsL c i false);have z3:=e9 s.out;have z4:=e9 s.inn;obtain⟨w1,w2,w3⟩:=yJ s (kidsL c i true);by_cases p0:s.parent<c.states.length/\0<=s.parent
 ·obtain⟨m,hm⟩:=fJ p0.2;obtain⟨q,hq,_⟩:=aQ (show m<c.states.length by omega);have p1: ¬(m:Int)<0:=by omega
  have p4:(0:Int)<=m:=by omega
  have b0:((m:Int) == -1)=false:=dN (by omega);have p3:=nlt (show m<c.states.length by omega);have fn:=iW env q;have hnq:ap c (m:Int)=eG q:=by unfold ap;rw[bI,hq]
  have fu:=qv env c s (by omega);have g5:=bj env c (m:Int) true hn;have g8:=rB env (kidsL c m true) s.initial (oq c m hn);have p2:decide ((m:Int)<i)= !decide ((i:Int)<=m):=by rw[LC];simp
  refine qf func98 call98 ntmps98 results98 ?_;by_cases p5:(i:Int)<=m
  ·have F:=ai12 aA.eq_1 aK.eq_1 k0 hs hm hq p1 p3 p4 p5 b0<|ai12 hnq z1 z2 z3 z4 w1 w2 w3 bz.eq_1 cm.eq_1 cw.eq_1<|ai3 p2 im @ite_self.{1};exact KT f1 f2 f3 f4 f5 f6 f7 f8 f9 fn fu g5 g8
  ·have F:=ai12 aA.eq_1 aK.eq_1 k0 hs hm hq p1 p3 p4 p5 b0<|ai12 hnq z1 z2 z3 z4 w1 w2 w3 bz.eq_1 cm.eq_1 cw.eq_1<|ai3 p2 im @ite_self.{1};exact KT f1 f2 f3 f4 f5 f6 f7 f8 f9 fn fu g5 g8
 refine qf func98 call98 ntmps98 results98 ?_;by_cases p1:s.parent<0
 ·have fu:=qv env c s (by omega);have p2: ¬0<=s.parent:=by omega
  have hu:cc c s=false:=by unfold cc at_;rw[K2 p2]
  have F:=ai12 aA.eq_1 aK.eq_1 k0 hs p1 p2 hu z1 z2 z3 z4<|ai8 w1 w2 w3 bz.eq_1 cm.eq_1 cw.eq_1 im @ite_self.{1};exact KY f1 f2 f3 f4 f5 f6 f7 f8 f9 fu
 ·have p2:(i:Int)<=s.parent:=by omega
  have p3: ¬s.parent<i:=by omega
  have p4:0<=s.parent:=by omega
  have b0:(s.parent == -1)=false:=dN (by omega);have F:=ai12 aA.eq_1 aK.eq_1 k0 hs p1 p2 p3 p4 b0 z1 z2<|ai10 z3 z4 w1 w2 w3 bz.eq_1 cm.eq_1 cw.eq_1 im @ite_self.{1};exact gz9 f1 f2 f3 f4 f5 f6 f7 f8 f9
end
section
theorem EY (env:Env) (c:ChD) (t:TrD):Con prog env 100 [.agg (aA c), .agg (az t)] (B (dU c t)):=by
 have f2:=ei env t.event;have f3:=uo env c t.guard;have f4:=oc env c t.acts;have z1:=e9 t.guard;refine qf func100 call100 ntmps100 results100 ?_;by_cases p1:t.src<0
 ·rw[show dU c t=false by unfold dU ap at_;rw[K2 (show ¬0<=t.src by omega)];rfl];have F:=ai3 aA.eq_1 az.eq_1 p1;repeat refine st ?_
  exact aR
 obtain⟨m,hm⟩:=fJ (show 0<=t.src by omega);have p1: ¬(m:Int)<0:=by omega
 by_cases p2:c.states.length<=m
 ·have p2':(c.states.length:Int)<=(m:Int):=by omega
  rw[show dU c t=false by unfold dU ap;rw[hm,bI,Kf p2];rfl];have F:=ai5 aA.eq_1 az.eq_1 hm p1 p2';repeat refine st ?_
  exact aR
 have p2': ¬(c.states.length:Int)<=(m:Int):=by omega
 have k0:=nlt (show m<c.states.length by omega);obtain⟨q,hq,_⟩:=aQ (show m<c.states.length by omega);have f1:=iW env q;have hnq:ap c t.src=eG q:=by unfold ap;rw[hm,bI,hq]
 have hr:dU c t=(eG q&&((t.event == [])||bd t.event)&&((t.guard == [])||bg t.guard c.vars.length c.states.length)&&eI c.vars.length c.states.length t.acts&&((t.target == -1)||(decide (0<=t.target)&&decide (t.target<c.states.length)))):=by unfold dU;rw[hnq]
 rw[hr];by_cases p3:t.target< -1
 ·rw[show ((t.target == -1)||(decide (0<=t.target)&&decide (t.target<c.states.length)))=false by rw[dN (show t.target≠ -1 by omega),LD (show ¬0<=t.target by omega)];rfl,L8];have F:=ai9 aA.eq_1 az.eq_1 aK.eq_1 hm hq p1 p2' k0 p3;exact gz1 f1
 by_cases p4:(c.states.length:Int)<=t.target
 ·rw[show ((t.target == -1)||(decide (0<=t.target)&&decide (t.target<c.states.length)))=false by rw[dN (show t.target≠ -1 by omega),LD (show ¬t.target<c.states.length by omega)];simp,L8];have F:=ai10 aA.eq_1 az.eq_1 aK.eq_1 hm hq p1 p2' k0 p3 p4;exact gz1 f1
 rw[show ((t.target == -1)||(decide (0<=t.target)&&decide (t.target<c.states.length)))=true by rw[Ll,K3];simp;omega,O4];have F:=ai12 aA.eq_1 az.eq_1 aK.eq_1 hm hq p1 p2' k0 p3 p4 z1 im;exact gz4 f1 f2 f3 f4
abbrev chkT (c:ChD):AV:= .tuple [I (chk c).1,I (chk c).2]
theorem d7 {c:ChD} {x:Int×Int} (h:chk c=x):chkT c= .tuple [I x.1,I x.2]:=by unfold chkT;rw[h]
theorem BE (env:Env) (c:ChD):Con prog env 48 [.agg (aA c)] (chkT c):=by
 have fname:=ei env c.name;have z1:=e9 c.states;refine qf func48 call48 ntmps48 results48 ?_;by_cases l1:32<c.states.length
 ·have k1:(32:Int)< (c.states.length:Int):=by omega
  rw[d7 (show chk c=(8, -1) by unfold chk;rw[K5 (.inl l1)])];have F:=ai aA.eq_1 k1;repeat refine st ?_
  exact aR
 have k1: ¬(32:Int)< (c.states.length:Int):=by omega
 by_cases l2:64<c.trans.length
 ·have k2:(64:Int)< (c.trans.length:Int):=by omega
  rw[d7 (show chk c=(8, -1) by unfold chk;rw[K5 (.inr (.inl l2))])];have F:=ai3 aA.eq_1 k1 k2;repeat refine st ?_
  exact aR
 have k2: ¬(64:Int)< (c.trans.length:Int):=by omega
 by_cases l3:8<c.vars.length
 ·have k3:(8:Int)< (c.vars.length:Int):=by omega
  rw[d7 (show chk c=(8, -1) by unfold chk;rw[K5 (.inr (.inr l3))])];have F:=ai4 aA.eq_1 k1 k2 k3;repeat refine st ?_
  exact aR
 have k3: ¬(8:Int)< (c.vars.length:Int):=by omega
 have hl: ¬(32<c.states.length\/64<c.trans.length\/8<c.vars.length):=by omega
 cases e2:(c.states == [])
 case true=>
  rw[d7 (show chk c=(1, -1) by unfold chk;rw[K2 hl,K5 (.inl (by simpa using e2))])];have F:=ai6 aA.eq_1 k1 k2 k3 z1 e2;repeat refine tz1 fname ?_
  exact aR
 cases e1:bd c.name
 ·rw[d7 (show chk c=(1, -1) by unfold chk;rw[K2 hl,K5 (.inr e1)])];have F:=ai7 aA.eq_1 k1 k2 k3 z1 e2 e1;repeat refine tz1 fname ?_
  exact aR
 have hne: ¬(c.states=[]\/bd c.name=false):=by
  rw[e1];simpa using e2
 have hc1:chk c=(match ay (jW c) c.vars.length with
  |some i=>(1,2000+(i:Int))
  | none=>match ay (lH c) c.states.length with
    |some i=>(1,(i:Int))
    | none=>if lw c=false then(1, -1) else match ay (qD c) c.trans.length with
      |some i=>(1,1000+(i:Int))
      |none=>(0, -1)):=by
  unfold chk;rw[K2 hl,K2 hne];rfl
 have F:=ai7 aA.eq_1 k1 k2 k3 z1 e2 e1;repeat refine tz1 fname ?_
 refine aI (D:=Nat) (fun i vs=>[(1, .loc 1 (vs 1) 0 0),(4,I i)]) (fun _ _=>[(1,⟨5,[aA c],26,false⟩)]) (fun i _ _=>i<=c.vars.length/\ ∀j,j<i->jW c j=true) (fun i=>c.vars.length-i) 0 ?_ ?_ ?_ ?_
 ·exact⟨Kj _,fun j hj=>by omega⟩
 ·exact qe
 ·have F:=aA.eq_1;exact qe
 rintro i ws esc ⟨hi,hall⟩;by_cases hlt:i<c.vars.length
 ·obtain⟨v,hv,_⟩:=aQ hlt;have q1:=nlt hlt;have q2:=aD hlt (by omega);have hcon:=GZ env c (by omega) i v hv;cases e:pH c i v
  ·have q3:IntKind.i64.wrap (2000+(i:Int))=2000+(i:Int):=aU (by omega) (by omega);rw[d7 (show chk c=(1,2000+(i:Int)) by rw[hc1,dE hlt hall (by rw[lG hv];exact e)])];have F:=ai5 aA.eq_1 q1 q2 q3 e;repeat refine tz1 hcon ?_
   exact aR
  ·have F:=ai4 aA.eq_1 q1 q2 e;repeat refine tz1 hcon ?_
   refine⟨i+1,⟨hlt,gU hall (by rw[lG hv];exact e)⟩,?_,?_,?_⟩
   ·exact qe
   ·have F:=aA.eq_1;exact qe
   ·omega
 have q1: ¬(i:Int)< (c.vars.length:Int):=by omega
 have hvn:ay (jW c) c.vars.length=none:=bF fun j hj=>hall j (by omega);rw[hvn]at hc1;have F:=ai aA.eq_1 q1;repeat refine st ?_
 refine aI (D:=Nat) (fun i vs=>[(1, .loc 1 (vs 1) 0 0),(5,I i)]) (fun _ _=>[(1,⟨5,[aA c],26,false⟩)]) (fun i _ _=>i<=c.states.length/\ ∀j,j<i->lH c j=true) (fun i=>c.states.length-i) 0 ?_ ?_ ?_ ?_
 ·exact⟨Kj _,fun j hj=>by omega⟩
 ·exact qe
 ·have F:=aA.eq_1;exact qe
 try clear ws esc hi hall q1 hlt i
 rintro i ws esc ⟨hi,hall⟩;by_cases hlt:i<c.states.length
 ·obtain⟨s,hs,_⟩:=aQ hlt;have q1:=nlt hlt;have q2:=aD hlt (by omega);have hcon:=BB env c (by omega) i s hs;cases e:bz c i s
  ·rw[d7 (show chk c=(1,(i:Int)) by rw[hc1,dE hlt hall (by rw[oA hs];exact e)])];have F:=ai4 aA.eq_1 q1 q2 e;repeat refine tz1 hcon ?_
   exact aR
  ·have F:=ai4 aA.eq_1 q1 q2 e;repeat refine tz1 hcon ?_
   refine⟨i+1,⟨hlt,gU hall (by rw[oA hs];exact e)⟩,?_,?_,?_⟩
   ·exact qe
   ·have F:=aA.eq_1;exact qe
   ·omega
 have q1: ¬(i:Int)< (c.states.length:Int):=by omega
 have hsn:ay (lH c) c.states.length=none:=bF fun j hj=>hall j (by omega);rw[hsn]at hc1;by_cases p1:c.initial<0
 ·have ht:lw c=false:=by unfold lw at_;rw[K2 (by omega)]
  rw[d7 (show chk c=(1, -1) by rw[hc1,K5 ht])];have F:=ai3 aA.eq_1 q1 p1;repeat refine st ?_
  exact aR
 obtain⟨m,hm⟩:=fJ (show 0<=c.initial by omega);have p1': ¬(m:Int)<0:=by omega
 by_cases p2:(c.states.length:Int)<=(m:Int)
 ·have ht:lw c=false:=by unfold lw;rw[hm,bI,Kf (by omega)]
  rw[d7 (show chk c=(1, -1) by rw[hc1,K5 ht])];have F:=ai5 aA.eq_1 q1 hm p1' p2;repeat refine st ?_
  exact aR
 have p3:=nlt (show m<c.states.length by omega);obtain⟨q,hq,_⟩:=aQ (show m<c.states.length by omega);have fnorm:=iW env q;have htop:lw c=((q.parent == -1)&&eG q):=by unfold lw;rw[hm,bI,hq]
 cases e3:(q.parent == -1)
 ·rw[d7 (show chk c=(1, -1) by rw[hc1,K5 (by rw[htop,e3];rfl)])];have F:=ai10 aA.eq_1 aK.eq_1 q1 hm p1' p2 p3 hq e3 im;repeat refine tz1 fnorm ?_
  exact aR
 cases e4:eG q
 ·rw[d7 (show chk c=(1, -1) by rw[hc1,K5 (by rw[htop,e3,e4];rfl)])];have F:=ai11 aA.eq_1 aK.eq_1 q1 hm p1' p2 p3 hq e3 e4 im;repeat refine tz1 fnorm ?_
  exact aR
 rw[K2 (by rw[htop,e3,e4];simp)]at hc1;have F:=ai11 aA.eq_1 aK.eq_1 q1 hm p1' p2 p3 hq e3 e4 im;repeat refine tz1 fnorm ?_
 have F:=ai aA.eq_1 hm;refine lq c.trans.length (by omega) (fun i vs=>[(1, .loc 1 (vs 1) 0 0),(6,I i)]) (fun _ _=>[(1,⟨5,[aA c],26,false⟩)]) (fun i _ _=> ∀j,j<i->qD c j=true) (fun j hj=>by omega) ?_ ?_
 ·try clear ws esc hi hall q1 hlt i
  rintro i ws esc hlt q1 q2 hall;obtain⟨t,ht,_⟩:=aQ hlt;have hcon:=EY env c t;cases e:dU c t
  ·have q3:IntKind.i64.wrap (1000+(i:Int))=1000+(i:Int):=aU (by omega) (by omega);rw[d7 (show chk c=(1,1000+(i:Int)) by rw[hc1,dE hlt hall (by rw[nz ht];exact e)])];have F:=ai7 aA.eq_1 az.eq_1 q1 q2 q3 ht e;repeat refine tz1 hcon ?_
   exact aR
  ·have F:=ai6 aA.eq_1 az.eq_1 q1 q2 ht e;repeat refine tz1 hcon ?_
   refine⟨i+1,⟨hlt,gU hall (by rw[nz ht];exact e)⟩,?_,?_,?_⟩
   ·exact qe
   ·have F:=aA.eq_1;exact qe
   ·omega
 try clear ws esc hi hall q1 hlt i
 rintro ws esc q1 hall;rw[d7 (show chk c=(0, -1) by rw[hc1,bF fun j hj=>hall j (by omega)])];have F:=ai aA.eq_1 q1;repeat refine st ?_
 exact aR
end
section
theorem wJ (env:Env) (l m:List Nat) (hl:l.length<=1000000):Con prog env 14 [.seq 1 (l.map aB), .seq 1 (m.map aB)] (B (decide (l=m))):=by
 by_cases h0:l.length=m.length
 ·refine qf func14 call14 ntmps14 results14 ?_;have g0:((l.length:Int) != (m.length:Int))=false:=by simp[h0]
  have F:=g0;repeat refine st ?_
  refine lq l.length (by omega) (fun j _=>[(0, .seq 1 (l.map aB)),(1, .seq 1 (m.map aB)),(4,B false),(5,I j)]) (fun _ _=>[]) (fun j _ _=>l.take j=m.take j) rfl ?_ ?_
  ·rintro j ws esc hlt g1 g2 ht;have hlt2:j<m.length:=by omega
   obtain⟨a,ha⟩:=gE hlt;obtain⟨b,hb⟩:=gE hlt2;have g4:=nlt hlt2;by_cases e:a=b
   ·have g3:((a:Int) != (b:Int))=false:=by simp[e]
    have F:=ai7 g1 g2 g4 ha hb aB.eq_1 g3;repeat refine st ?_
    refine⟨j+1,⟨hlt,?_⟩,?_,?_,by omega⟩
    ·rw[Ky,Ky,ht,ha,hb,e]
    ·exact qe
    ·exact qe
   ·have g3:((a:Int) != (b:Int))=true:=by simp;omega
    have hr:decide (l=m)=false:=LD fun e2=>e (by rw[e2]at ha;exact MF (ha.symm.trans hb));rw[hr];have F:=ai7 g1 g2 g4 ha hb aB.eq_1 g3;repeat refine st ?_
    exact aR
  ·rintro ws esc g1 ht;have hr:decide (l=m)=true:=LK (by rwa [Kt,LU (by omega)]at ht);rw[hr];have F:=g1;repeat refine st ?_
   exact aR
 ·have g0:((l.length:Int) != (m.length:Int))=true:=by simp;omega
  have hr:decide (l=m)=false:=LD fun e=>h0 (by rw[e]);rw[hr];refine qf func14 call14 ntmps14 results14 ?_;have F:=g0;repeat refine st ?_
  exact aR
theorem rA (env:Env) (c:ChD) (i:Int):Con prog env 79 [.agg (aA c),I i] (B (inZ c i)):=by
 unfold inZ;by_cases h0:0<=i
 ·by_cases h1:i< (c.states.length:Int)
  ·refine qf func79 call79 ntmps79 results79 ?_;have F:=ai3 aA.eq_1 h0 h1;repeat refine st ?_
   exact aR
  ·refine qf func79 call79 ntmps79 results79 ?_;have F:=ai3 aA.eq_1 h0 h1;repeat refine st ?_
   exact aR
 ·refine qf func79 call79 ntmps79 results79 ?_;have F:=ai aA.eq_1 h0;repeat refine st ?_
  exact aR
theorem bD {c:ChD} (h:Right c) (i:Int) (real:Bool):(kidsL c i real).length<=32:=by
 have h1:=dI c i real c.states.length;have h2:=h.few;have h1:(kidsL c i real).length<=c.states.length:=h1;omega
theorem sX {c:ChD} (h:Right c) {i:Int} (hi: -1<=i):(walkL c i).length<=32:=by
 have hf:=h.few;have:=(j9 h 40 i hi (by omega)).length_le_of_subset (l₂:=List.range c.states.length) fun m hm=>Kw.2 ((jN h 40 i m hi (by omega)).1 hm).1;simp at this;omega
theorem HB {α β:Type} (f:α->List β) (K:List α) (j:Nat):((K.take j).flatMap f).length<=(K.flatMap f).length:=by
 have e:(K.take j).flatMap f++(K.drop j).flatMap f=K.flatMap f:=by rw[<-MY,Mh]
 have:=LF List.length e;simp only[K8]at this;omega
theorem FX {α β:Type} (f:α->List β) {K:List α} {j:Nat} {k:α} (hk:K[j]? =some k):(K.take (j+1)).flatMap f=(K.take j).flatMap f++f k:=by rw[Ky,hk,MY];simp
theorem oa (env:Env) (c:ChD) (h:Right c): ∀(n:Nat) (i:Int), -1<=i->(c.states.length:Int)<=i+n->Con prog env 80 [.agg (aA c),I i] (.own 3 1 ((walkL c i).map aB))
 | n,i,hi,hn=>by
   have hlen:=h.few;have f0:=bj env c i false (by omega);have hw:=walk_eq h hi;have hwl:=sX h hi;have hKl:=bD h i false;have hKm: ∀k∈kidsL c i false,i< (k:Int)/\k<c.states.length:=fun k hk=>bE h hk;generalize kidsL c i false=K at*;rw[hw]at hwl;refine qf func80 call80 ntmps80 results80 ?_;have F:=aA.eq_1;repeat refine tz1 f0 ?_
   have F:=aA.eq_1;refine lq K.length (by omega) (fun j vs=>[(2, .loc 2 (vs 2) 0 0),(5, .row 8 (vs 8)),(6, .row 11 (vs 11)),(7,I j)]) (fun j _=>[(2,⟨5,[aA c],26,false⟩),(8,⟨1,((K.take j).flatMap fun k=>k::walkL c k).map aB,3,true⟩),(11,⟨1,K.map aB,3,true⟩)]) (fun j _ esc=>esc 8=false) rfl ?_ ?_
   ·rintro j ws esc hlt q1 q2 e0;obtain⟨k,hk⟩:=gE hlt;have hkm:=hKm k (K4 hk)
    match n,hn with
    |0,hn=>omega
    |n+1,hn=>
    have f1:=oa env c h n k (by omega) (by omega);have hp:=HB (fun k=>k::walkL c k) K (j+1);have hsu:=FX (fun k=>k::walkL c k) hk;rw[hsu]at hp;simp only[K8,Ks]at hp;generalize hA:(K.take j).flatMap (fun k=>k::walkL c k)=A at*;have hf1:Fits (A.length+1) 8:=aC (by omega) (by omega);have hf2:Fits (A.length+1+(walkL c k).length) 8:=aC (by omega) (by omega);have F:=ai8 aA.eq_1 aB.eq_1 hk q1 q2 hf1 hf2 e0;repeat refine tz1 f1 ?_
    refine⟨j+1,⟨hlt,by simp only[go_sem,e0]⟩,?_,?_,by omega⟩
    ·exact qe
    ·have F:=ai5 aA.eq_1 aB.eq_1 hsu @Ka.{0,0} @LM.{0};exact qe
   ·rintro ws esc q1 e0;have hta:K.take K.length=K:=Kt;rw[hw];have F:=ai4 aB.eq_1 q1 hta e0;repeat refine st ?_
    exact aR
termination_by n=>n
def zi (l W:List Nat) (j:Nat):List Nat:=(W.take j).filter fun k:Nat=>inL l (k:Int)
theorem FN {l W:List Nat} {j k:Nat} (h:W[j]? =some k):zi l W (j+1)=if inL l (k:Int) then zi l W j++[k] else zi l W j:=by
 unfold zi;rw[Ky,h,LE];cases hb:inL l (k:Int)<;>simp[hb]
theorem Gw (l W:List Nat) (j:Nat):(zi l W j).length<=W.length:=by
 unfold zi;exact Km (Kq ..) (by rw[Kg];omega)
theorem KL (l:List Nat) (n:Int):inL l n=(zL l).contains n:=by
 rw[LC,oR,K6];unfold zL;rw[Kb]
theorem EE {c:ChD} {l:List Nat} {j k:Nat} (h:((zL l).take j).all (inZ c)=true) (hk:l[j]? =some k) (hz:inZ c k=true):((zL l).take (j+1)).all (inZ c)=true:=by
 have:(zL l)[j]? =some ((k:Nat):Int):=by unfold zL;rw[K9,hk];rfl
 exact zB h this hz
theorem ob (env:Env) (c:ChD) (h:Right c) (l:List Nat) (hl:l.length<=1000000):Con prog env 36 [.agg (aA c), .seq 1 (l.map aB)] (.own 3 1 ((sortL c (zL l)).map aB)):=by
 have hlen:=h.few;refine qw func36 call36 ntmps36 results36 ?_;have F:=aA.eq_1;repeat refine st ?_
 refine aI (D:=Nat) (fun j vs=>[(1, .seq 1 (l.map aB)),(2, .loc 2 (vs 2) 0 0),(5,I j)]) (fun _ _=>[(2,⟨5,[aA c],26,false⟩)]) (fun j _ _=>j<=l.length/\((zL l).take j).all (inZ c)=true) (fun j=>l.length-j) 0 ?_ ?_ ?_ ?_
 ·exact⟨Kj _,rfl⟩
 ·exact qe
 ·have F:=aA.eq_1;exact qe
 rintro j ws esc ⟨hj,hall⟩;by_cases hlt:j<l.length
 ·obtain⟨k,hk⟩:=gE hlt;have q1:=nlt hlt;have q2:=aD hlt (by omega);have f0:=rA env c k;cases hz:inZ c k with
  | false=>
    rw[hz]at f0;have F:=ai5 aA.eq_1 aB.eq_1 q1 q2 hk;repeat refine tz1 f0 ?_
    (refine aM ?_;refine⟨_,(by show (ae _ _ _).run _=some _;simp only[go_sem,F];rfl),?_⟩)
    rw[show sortL c (zL l)=[] from zG (show (zL l)[j]? =some ((k:Nat):Int) by unfold zL;rw[K9,hk];rfl) hz];exact fo.own_nil _ _ (by decide)
  | true=>
    rw[hz]at f0;have F:=ai5 aA.eq_1 aB.eq_1 q1 q2 hk;repeat refine tz1 f0 ?_
    exact qn (j+1) ⟨hlt,EE hall hk hz⟩
 obtain rfl:j=l.length:=by omega
 have q1:=nl l.length;have f1:=oa env c h 40 (-1) (by omega) (by omega);have hwl:=sX h (show (-1:Int)<= -1 by omega);have hall:(zL l).all (inZ c)=true:=by rwa [LU (by simp[zL])]at hall
 have hsort:sortL c (zL l)=zi l (walkL c (-1)) (walkL c (-1)).length:=by
  unfold sortL zi;rw[K5 hall,Kt];apply MG;intro k _;rw[KL]
 rw[hsort];generalize walkL c (-1)=W at*;have F:=ai aA.eq_1 q1;repeat refine tz1 f1 ?_
 refine lq W.length (by omega) (fun j vs=>[(1, .seq 1 (l.map aB)),(6, .row 22 (vs 22)),(7, .row 24 (vs 24)),(8,I j)]) (fun j _=>[(22,⟨1,(zi l W j).map aB,3,true⟩),(24,⟨1,W.map aB,3,true⟩)]) (fun j _ esc=>esc 22=false) rfl ?_ ?_
 ·try clear q1
  rintro j ws esc hlt q1 q2 e0;obtain⟨k,hk⟩:=gE hlt;have f0:=rB env l k (by omega);have hil:=Gw l W j;have hf:Fits ((zi l W j).length+1) 8:=aC (by omega) (by omega);have hn:=FN (l:=l) hk;cases hb:inL l k with
  | true=>
    rw[hb]at f0;rw[hb,K5 rfl]at hn;have F:=ai6 aB.eq_1 q1 q2 hk hf e0;repeat refine tz1 f0 ?_
    refine⟨j+1,⟨hlt,by simp only[go_sem,e0]⟩,?_,?_,by omega⟩
    ·exact qe
    ·have F:=ai3 aB.eq_1 hn @Ka.{0,0};exact qe
  | false=>
    rw[hb]at f0;rw[hb,K2 LO]at hn;have F:=ai6 aB.eq_1 q1 q2 hk hf e0;repeat refine tz1 f0 ?_
    refine⟨j+1,⟨hlt,by simp only[go_sem,e0]⟩,?_,?_,by omega⟩
    ·exact qe
    ·have F:=ai3 aB.eq_1 hn @Ka.{0,0};exact qe
 ·try clear q1
  rintro ws esc q1 e0;have F:=ai q1 e0;repeat refine st ?_
  (refine aM ?_;refine⟨_,(by show (ae _ _ _).run _=some _;simp only[go_sem,F];rfl),?_⟩)
  exact fo.refl _
end

end Go.Proofs.YtdpjgflalmnkdaaGreatDoor