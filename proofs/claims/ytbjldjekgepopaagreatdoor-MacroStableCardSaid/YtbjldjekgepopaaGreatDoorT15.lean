/- scriniumref24.State: by the walk without memory. -/
import Derived.Test.YtbjldjekgepopaaGreatDoorT14
set_option maxRecDepth 100000
set_option maxHeartbeats 16000000
set_option linter.unusedSimpArgs false
namespace Go.Proofs.YtbjldjekgepopaaGreatDoor
open Go.Proofs.Tryz
open Go.RowKit
section
theorem mE (env:Env) (c:ChD) (h:Full c): ∀(n i:Nat),i<c.states.length->c.states.length<=i+n->Con prog env 70 [.agg (aA c),I i] (.own 3 1 ((bgL c i).map aB))
 |0,i,hi,hn=>by omega
 | n+1,i,hi,hn=>by
   have hlen:=h.few;obtain⟨s,hs⟩:=gE hi;have hb:=JS h hs;have hbl:=Hu h hi;have g0:((i:Nat):Int)< (c.states.length:Int):=by omega
   by_cases e1:s.kind=1
   ·by_cases e2:0<=s.initial
    ·obtain⟨j,hj,e3⟩:=ww h hs e1 e2;have hg:=bF h.toRight (aV hj).1;rw[K0 ⟨e1,e2⟩,e3,Lj]at hb;have f0:=mE env c h n j (by omega) (by omega);rw[hb]at hbl;have hf:Fits (1+(bgL c j).length) 8:=aG (by simp at hbl;omega) (by omega);rw[hb];refine qf func70 call70 ntmps70 results70 ?_;have F:=ai8 aA.eq_1 aL.eq_1 hs e1 e3 g0 aB.eq_1 hf;repeat refine tz1 f0 ?_
     exact aR
    ·rw[KZ fun e=>e2 e.2,KZ (by omega)]at hb;rw[hb];refine qf func70 call70 ntmps70 results70 ?_;have F:=ai7 aA.eq_1 aL.eq_1 hs e1 e2 g0 aB.eq_1;repeat refine st ?_
     exact aR
   ·rw[KZ fun e=>e1 e.1]at hb;have e1':(s.kind==1)=false:=by simpa using e1
    by_cases e2:s.kind=2
    ·rw[K0 e2]at hb;have f1:=gI env c i (by omega);generalize hK:kidsL c i true=K at*
     have hKm: ∀k∈K,i<k/\k<c.states.length:=fun k hk=>by
      rw[<-hK]at hk;have:=bF h.toRight (aV hk).1;omega
     have hKl:K.length<=32:=by
      have:=(bI c i true).length_le_of_subset (l₂:=List.range c.states.length) fun m hm=>Kr.2 (hKm m (hK ▸ hm)).2;rw[hK]at this;simp at this;omega
     have hpre: ∀j,(i::(K.take j).flatMap (bgL c)).length<=32:=fun j=>by
      have e:(K.take j).flatMap (bgL c)++(K.drop j).flatMap (bgL c)=K.flatMap (bgL c):=by rw[<-M7,Mq]
      have:=Kx List.length e;rw[hb]at hbl;simp only[Kj,K4]at*;omega
     refine qf func70 call70 ntmps70 results70 ?_;have F:=ai7 aA.eq_1 aL.eq_1 hs e1' e2 g0 aB.eq_1;repeat refine tz1 f1 ?_
     have F:=ai3 aA.eq_1 aB.eq_1 @List.flatMap_nil.{0,0};refine lq K.length (by omega) (fun j vs=>[(2, .loc 2 (vs 2) 0 0),(5, .row 10 (vs 10)),(37, .row 37 (vs 37)),(38,I K.length),(39,I j)]) (fun j _=>[(2,⟨5,[aA c],26,false⟩),(10,⟨1,(i::(K.take j).flatMap (bgL c)).map aB,3,true⟩),(37,⟨1,K.map aB,3,true⟩)]) (fun j _ esc=>esc 10=false) rfl ?_ ?_
     ·rintro j ws esc hlt q1 q2 e0;obtain⟨k,hk⟩:=gE hlt;have hkm:=hKm k (K1 hk);have f0:=mE env c h n k (by omega) (by omega);have htk:(K.take (j+1)).flatMap (bgL c)=(K.take j).flatMap (bgL c)++bgL c k:=by rw[Kv,hk,M7];simp
      have hp:=hpre (j+1);rw[htk]at hp;have hf:Fits (((K.take j).flatMap (bgL c)).length+1+(bgL c k).length) 8:=aG (by simp only[Kj,K4]at hp;omega) (by omega);have F:=ai7 aA.eq_1 aB.eq_1 hk q1 q2 hf e0;repeat refine tz1 f0 ?_
      refine⟨j+1,⟨hlt,by simp only[go_sem,e0]⟩,?_,?_,by omega⟩
      ·exact qe
      ·have F:=ai4 aA.eq_1 aB.eq_1 htk @Ki.{0,0};exact qe
     ·rintro ws esc q1 e0;have hta:K.take K.length=K:=Kp;rw[hb];have F:=ai4 aB.eq_1 q1 hta e0;repeat refine st ?_
      exact aR
    ·rw[KZ e2]at hb;have e2':(s.kind==2)=false:=by simpa using e2
     rw[hb];refine qf func70 call70 ntmps70 results70 ?_;have F:=ai7 aA.eq_1 aL.eq_1 hs e1' e2' g0 aB.eq_1;repeat refine st ?_
     exact aR
theorem vQ (env:Env) (c:ChD) (hc:c.trans.length<=1000000) (x y:AV) (s:List UInt8):Con prog env 68 [.ref 9 [[Sg c.name,I c.initial,varsAV c.vars,stsAV c.states,trsAV c.trans,aP c, .seq 1 ((evL c).map fO),x,y]] 0 0,Sg s] (I (evI c s)):=by
 have hl:=Io c;have f0:=yi env (evL c) s (rA (evL c) s) (w5 (xG c) s) (by omega);unfold evI;by_cases h:(evL c)[rA (evL c) s]? =some s
 ·have hb:((evL c)[rA (evL c) s]? == some s)=true:=by simpa using h
  rw[hb]at f0;rw[K0 h];refine qf func68 call68 ntmps68 results68 ?_;repeat refine lZ f0 ?_
  exact aR0
 ·have hb:((evL c)[rA (evL c) s]? == some s)=false:=by simpa using h
  rw[hb]at f0;rw[KZ h];refine qf func68 call68 ntmps68 results68 ?_;repeat refine lZ f0 ?_
  exact aR0
end
section
def dQ (c:ChD) (j:Nat) (vs:Nat->Nat):List (List AV):=(keysTo c j).mapIdx fun q p=>[.agg [I p.1,I p.2], .row (q+6000) (vs (q+6000))]
def keyRows (c:ChD) (j:Nat):List Row:=(keysTo c j).map fun p=>⟨1,(iH c j p).map aB,3,true⟩
def eV (c:ChD):List (List AV):=(keysTo c c.trans.length).map fun p=>[.agg [I p.1,I p.2], .seq 1 ((iH c c.trans.length p).map aB)]
def pZ (c:ChD) (j:Nat):List (List AV):=(List.range j).map fun i=>[.seq 1 ((sbL c i).map aB)]
def tabCells (c:ChD):List AV:=[Sg c.name,I c.initial,varsAV c.vars,stsAV c.states,trsAV c.trans,aP c, .seq 1 ((evL c).map fO), .fmap (eV c), .seq 1 (pZ c c.states.length)]
def aC (c:ChD):AV:= .ref 9 [tabCells c] 0 0
theorem gM (c:ChD) (j:Nat) (vs:Nat->Nat):(dQ c j vs).length=(keysTo c j).length:=by simp[dQ]
theorem d5 (c:ChD) (j:Nat) (vs:Nat->Nat) (q:Nat):(dQ c j vs)[q]? =((keysTo c j)[q]?).map fun p=>[.agg [I p.1,I p.2], .row (q+6000) (vs (q+6000))]:=by simp[dQ]
theorem bl (c:ChD) (j q:Nat):(keyRows c j)[q]? =((keysTo c j)[q]?).map fun p=>⟨1,(iH c j p).map aB,3,true⟩:=by simp[keyRows]
theorem wj (p:Int×Int) (f:Nat->AV): ∀(l:List (Int×Int)) (i:Nat),mfind prog 150 (.agg [I p.1,I p.2]) (l.mapIdx fun q k=>[.agg [I k.1,I k.2],f q]) i=some (qL p l i)
 |[],i=>rfl
 |(a,b)::l,i=>by
   have ih:=wj p (fun q=>f (q+1)) l (i+1);obtain⟨kn,ks⟩:=p;rw[List.mapIdx_cons];by_cases h:kn=a/\ks=b
   ·obtain⟨rfl,rfl⟩:=h;have e1:(kn==kn)=true:=by simp
    have e2:(ks==ks)=true:=by simp
    simp only[go_sem,qN,cG,e1,e2,qL]
   ·have e1:(kn==a&&(ks==b))=false:=by
     rw[Ml];intro e;simp only[KY,LW]at e;exact h e
    have e2: ¬((kn,ks):Int×Int)=(a,b):=fun e=>h (by simpa using e);simp only at ih;simp only[go_sem,qN,cG,e1,qL,e2,ih]
theorem En (c:ChD) (j:Nat) (vs:Nat->Nat) (a b:Int):mfind prog 150 (.agg [I a,I b]) (dQ c j vs) 0=some (qL (a,b) (keysTo c j) 0):=wj (a,b) (fun q=> .row (q+6000) (vs (q+6000))) (keysTo c j) 0
theorem DF (c:ChD) (a b:Int):mfind prog 150 (.agg [I a,I b]) (eV c) 0=some (qL (a,b) (keysTo c c.trans.length) 0):=by
 have:eV c=(keysTo c c.trans.length).mapIdx fun q k=>[.agg [I k.1,I k.2],((eV c)[q]?.bind (·[1]?)).getD .any]:=by
  apply LQ;intro q;rw[List.getElem?_mapIdx];unfold eV;rw[K5];cases (keysTo c c.trans.length)[q]? with
  |none=>rfl
  |some p=>rfl
 rw[this];exact wj (a,b) _ _ 0
/-! The state at the head of the loop -/
def mg (c:ChD) (g:Nat->Nat):Row:=⟨9,[[Sg c.name,I c.initial,varsAV c.vars,stsAV c.states,trsAV c.trans,aP c, .seq 1 ((evL c).map fO), .mp 25 (g 25),nilS]],147,false⟩
def RA (c:ChD) (j:Nat) (g:Nat->Nat):List (Nat×Row):=(1,⟨5,[aA c],26,false⟩)::(27,mg c g)::(25,⟨0,dQ c j g,144,false⟩)::rowsAt 6000 (keyRows c j)
theorem mn (c:ChD) (j:Nat) (q:Nat):ag (rowsAt 6000 (keyRows c j)) (q+6000)=(keyRows c j)[q]? :=by
 rw[mU,K0 (by omega),show q+6000-6000=q by omega]
theorem B5 {c:ChD} {j q:Nat} {p:Int×Int} {g g':Nat->Nat} (hk:keysTo c (j+1)=keysTo c j) (hq:(keysTo c j)[q]? =some p) (h1: ∀k,k≠q->g' (k+6000)=g (k+6000)) {v:Nat} (h2:g' (q+6000)=v):(dQ c j g).set q [.agg [I p.1,I p.2], .row (q+6000) v]=dQ c (j+1) g':=by
 apply LQ;intro k;rw[Ln,d5,d5,gM,hk];by_cases e:q=k
 ·subst e;rw[K0 rfl,K0 (KW.1 hq).1,hq, <-h2];rfl
 ·rw[KZ e];cases (keysTo c j)[k]? with
  |none=>rfl
  |some p'=>simp only[Kg,h1 k (MJ e)]
theorem B1 {c:ChD} {j q:Nat} {p:Int×Int} {g:Nat->Nat} (hq:(keysTo c j)[q]? =some p):(dQ c j g).set q [.agg [I p.1,I p.2], .row (q+6000) (g (q+6000))]=dQ c j g:=by
 apply LQ;intro k;rw[Ln,d5,gM];by_cases e:q=k
 ·subst e;rw[K0 rfl,K0 (KW.1 hq).1,hq];rfl
 ·rw[KZ e]
theorem B4 {c:ChD} {j:Nat} {g g':Nat->Nat} (hk:keysTo c (j+1)=keysTo c j++[cm c j]) (h1: ∀k,k< (keysTo c j).length->g' (k+6000)=g (k+6000)) {v:Nat} (h2:g' ((keysTo c j).length+6000)=v):dQ c j g++[[.agg [I (cm c j).1,I (cm c j).2], .row ((keysTo c j).length+6000) v]]=dQ c (j+1) g':=by
 apply LQ;intro k;rw[d5,hk];by_cases hlt:k< (keysTo c j).length
 ·rw[LB (by rw[gM];exact hlt),LB hlt,d5,KV hlt];simp only[Kg,h1 k hlt]
 ·rw[Ku (by rw[gM];omega),Ku (by omega),gM];by_cases e:k=(keysTo c j).length
  ·subst e;simp[h2]
  ·rw[K7 (by simp;omega),K7 (by simp;omega)];rfl
theorem wG {c:ChD} {j q:Nat} {p:Int×Int} (hk:keysTo c (j+1)=keysTo c j) (hp:cm c j=p) (hn:(keysTo c j).Nodup) (hq:(keysTo c j)[q]? =some p) (k:Nat):(keyRows c (j+1))[k]? =if k=q then some ⟨1,(iH c j p).map aB++[[I j]],3,true⟩ else(keyRows c j)[k]? :=by
 rw[bl,bl,hk];by_cases e:k=q
 ·subst e;rw[K0 rfl,hq];simp only[Kg,nB,hp,L4,Ki,LI,Lt,aB]
 ·rw[KZ e];cases hk2:(keysTo c j)[k]? with
  |none=>rfl
  | some p'=>
    have hne: ¬p=p':=fun e2=>by
     subst e2;obtain⟨a1,b1⟩:=KW.1 hq;obtain⟨a2,b2⟩:=KW.1 hk2;have hpw:=LH.1 (MB.1 hn);rcases NI k q with hlt|hlt|hlt
     ·exact hpw k q a2 a1 hlt (b2.trans b1.symm)
     ·exact e hlt
     ·exact hpw q k a1 a2 hlt (b1.trans b2.symm)
    simp only[Kg,nB,hp,KZ hne]
theorem wF {c:ChD} {j:Nat} (hk:keysTo c (j+1)=keysTo c j++[cm c j]) (hno:cm c j∉keysTo c j) (k:Nat):(keyRows c (j+1))[k]? =if k=(keysTo c j).length then some ⟨1,[[I j]],3,true⟩ else(keyRows c j)[k]? :=by
 rw[bl,bl,hk];by_cases e:k=(keysTo c j).length
 ·subst e;simp only[L4,Ku (K8 _),Ow,LM,Kg,nB,sV hno,Mc,LI,Lt,aB]
 ·rw[KZ e];by_cases hlt:k< (keysTo c j).length
  ·rw[LB hlt,KV hlt];have hne: ¬cm c j=(keysTo c j)[k]:=fun e2=>hno (e2 ▸ MI hlt);simp only[Kg,nB,KZ hne]
  ·rw[K7 (by simp;omega),K7 (by omega)];rfl
def FA (c:ChD) (j:Nat) (g:Nat->Nat):List (Nat×AV):=[(1, .loc 1 (g 1) 0 0),(2, .lit (.pointer none)),(3, .lit .nilIface),(4,aP c),(6, .loc 27 (g 27) 0 0),(32,trsAV c.trans),(33,I c.trans.length),(34,I j)]
def RN (c:ChD) (j:Nat) (g:Nat->Nat):List (Nat×Row):=(1,⟨5,[aA c],26,false⟩)::(27,mg c g)::(25,⟨0,dQ c j g++[[.agg [I (cm c j).1,I (cm c j).2], .row 55 (g 55)]],144,false⟩)::(55,⟨1,[[I j]],3,true⟩)::rowsAt 6000 (keyRows c j)
theorem Ep (c:ChD) (j:Nat) (vs:Nat->Nat) {g gm:Nat->Nat->Option AV} (h: ∀q v,g (q+6000) v=none):(dQ c j vs).map (·.map (AV.see g gm))=dQ c j vs:=by
 apply LQ;intro q;rw[K5,d5];cases (keysTo c j)[q]? with
 |none=>rfl
 |some p=>simp only[Kg,LI,Lt,AV.see,AV.see.seeL,h,NS]
theorem AU (c:ChD) (vs:Nat->Nat) {g gm:Nat->Nat->Option AV} (h: ∀v,gm 25 v=none):(mg c vs).see g gm=mg c vs:=by
 simp only[Row.see,mg,LI,Lt,AV.see,AV.see.seeL,h,NS,aP,LA,Lf]
theorem Cb (c:ChD) {g gm:Nat->Nat->Option AV} :(aA c).map (AV.see g gm)=aA c:=rfl
theorem kW {s:St} {r r2:Nat} {row:Row} {k:Nat} :(dv s r r2 row).rows k=if k=r2 then some row else if k=r then none else(s.rows k).map (Row.see (nD r (s.vs r) r2 (s.vs r2+1)) fun _ _=>none):=rfl
theorem E0 (v n v2 q w:Nat):nD 55 v n v2 (q+6000) w=none:=by unfold nD;rw[KZ (by omega)]
theorem I1 {c:ChD} {j:Nat} (hk:keysTo c (j+1)=keysTo c j++[cm c j]) (hno:cm c j∉keysTo c j) (F:Nat) {g:Nat->Nat} {e:Nat->Bool} (he:e 27=false): ∃g' e',e' 27=false/\Turned (head (FA c F g) (RN c j g) g e) (head (FA c F g') (RA c (j+1) g') g' e'):=by
 generalize hn:(keysTo c j).length=n at*;have hr0:(keyRows c j)[n]? =none:=by rw[bl,K7 (by omega)];rfl
 have hrow:(head (FA c F g) (RN c j g) g e).rows 55=some ⟨1,[[I j]],3,true⟩:=by simp[head,RN,ag]
 have hfree:(head (FA c F g) (RN c j g) g e).rows (n+6000)=none:=by
  have:=mn c j n;rw[hr0]at this;simp only[head,RN,ag];rw[KZ (by omega),KZ (by omega),KZ (by omega),KZ (by omega),this]
 have t1:=Turned.ren (s:=head (FA c F g) (RN c j g) g e) 55 (n+6000) ⟨1,[[I j]],3,true⟩ (by omega) hrow hfree (LG 0) rfl;have hg: ∀t,t≠n+6000->upd g (n+6000) (g (n+6000)+1) t=g t:=fun t ht=>upd_ne _ _ _ ht;refine⟨upd g (n+6000) (g (n+6000)+1),upd e (n+6000) (e 55),by rw[upd_ne _ _ _ (by omega)];exact he,t1.trans (Turned.head ?_ ?_)⟩
 ·simp only[cr,FA,dv,head,lz,AV.see,aP,hg 1 (by omega),hg 27 (by omega),L4,Nat.reduceEqDiff,Lf,Kn,reduceCtorEq]
 ·refine⟨?_,?_,?_,holdR_rowsAt fun q r hq=> ?_⟩
  ·show (dv _ _ _ _).rows 1=some _;rw[kW,KZ (by omega),KZ (by omega)];simp only[head,RN,ag,L4,Kg,Row.see,LI,Lt,Cb,LA,Lf]
  ·show (dv _ _ _ _).rows 27=some _;rw[kW,KZ (by omega),KZ (by omega)];simp only[head,RN,ag,L4,Kg,Nat.reduceEqDiff,Lf];rw[AU _ _ fun _=>rfl];simp only[mg,hg 25 (by omega)]
  ·show (dv _ _ _ _).rows 25=some _;rw[kW,KZ (by omega),KZ (by omega)];simp only[head,RN,ag,L4,Kg,Nat.reduceEqDiff,Lf,Row.see,LA,Ki,LI,Lt];rw[Ep _ _ _ fun q v=>E0 ..];have:=B4 (c:=c) (j:=j) (g:=g) (g':=upd g (n+6000) (g (n+6000)+1)) hk (fun k hk=>hg _ (by omega)) (v:=g (n+6000)+1) (by rw[hn,upd_same]);rw[hn]at this;rw[<-this];simp[AV.see,AV.see.seeL,nD]
  ·rw[wF hk hno,hn]at hq;show (dv _ _ _ _).rows (q+6000)=some _;rw[kW];by_cases e0:q=n
   ·subst e0;rw[K0 rfl]at hq |-;exact hq
   ·rw[KZ e0]at hq;rw[KZ (by omega),KZ (by omega)];simp only[head,RN,ag];rw[KZ (by omega),KZ (by omega),KZ (by omega),KZ (by omega),mn,hq]
    have hpu:r.pure=true:=by
     rw[bl]at hq;obtain⟨p,_,rfl⟩:=L1.1 hq;rfl
    simp only[Kg,Row.see,hpu,L4]
/-! The map, frozen -/
theorem l9 {g:Nat->Nat} {r v:Nat} : ∀ {l:List Row} {b:Nat},gS (seesR g (rowsAt b l)) r v=if b<=r/\v=g r then(l[r-b]?).map fun row=> .seq row.sz row.es else none
 |[],b=>by simp[rowsAt,seesR,gS]
 | x::l,b=>by
   have ih:=l9 (g:=g) (r:=r) (v:=v) (l:=l) (b:=b+1);simp only[seesR]at ih;simp only[rowsAt,seesR,LI,gS,ih];by_cases h:r=b
   ·subst h;by_cases hv:v=g r
    ·subst hv;simp
    ·simp[hv]
   ·rw[KZ fun e=>h e.1];by_cases h2:b+1<=r
    ·by_cases hv:v=g r
     ·rw[K0 ⟨h2,hv⟩,K0 ⟨by omega,hv⟩,show r-b=(r-(b+1))+1 by omega,ME]
     ·rw[KZ fun e=>hv e.2,KZ fun e=>hv e.2]
    ·rw[KZ fun e=>h2 e.1,KZ fun e=>by omega]
def Jx (c:ChD):Row:=⟨9,[[Sg c.name,I c.initial,varsAV c.vars,stsAV c.states,trsAV c.trans,aP c, .seq 1 ((evL c).map fO), .fmap (eV c),nilS]],147,false⟩
theorem Bh {c:ChD} (F:Nat) {g:Nat->Nat} {e:Nat->Bool} (he:e 27=false): ∃e',e' 27=false/\Turned (head (FA c F g) (RA c c.trans.length g) g e) (head (FA c F g) [(1,⟨5,[aA c],26,false⟩),(27,Jx c)] g e'):=by
 generalize hn:c.trans.length=n at*
 have hL:qI (head (FA c F g) (RA c n g) g e) (seesR g (rowsAt 6000 (keyRows c n))):=by
  intro p hp;obtain⟨x,hx,rfl⟩:=K9.1 hp;obtain⟨q,h1,h2⟩:=lh hx;refine⟨rfl,x.2,?_,?_,?_,rfl⟩
  ·simp only[head,RA,ag,h2];rw[KZ (by omega),KZ (by omega),KZ (by omega),mn];exact h1
  ·rw[bl]at h1;obtain⟨p,_,e0⟩:=L1.1 h1;rw[<-e0];exact LG 0
  ·rw[bl]at h1;obtain⟨p,_,e0⟩:=L1.1 h1;rw[<-e0]
 have t1:=Turned.sees _ hL
 have hes:(dQ c n g).map (·.map (AV.see (gS (seesR g (rowsAt 6000 (keyRows c n)))) fun _ _=>none))=eV c:=by
  apply LQ;intro q;unfold eV;rw[hn,K5,d5,K5];cases hq:(keysTo c n)[q]? with
  |none=>rfl
  | some p=>
    have hs:gS (seesR g (rowsAt 6000 (keyRows c n))) (q+6000) (g (q+6000))=some (.seq 1 ((iH c n p).map aB)):=by
     rw[l9,K0 ⟨by omega,rfl⟩,show q+6000-6000=q by omega,bl,hq];rfl
    simp only[Kg,LI,Lt,AV.see,AV.see.seeL,hs,Ls]
 have hlow: ∀r v,r<6000->gS (seesR g (rowsAt 6000 (keyRows c n))) r v=none:=fun r v h=>by
  rw[l9,KZ fun e=>by omega]
 generalize hG:gS (seesR g (rowsAt 6000 (keyRows c n)))=G at*
 have t2:Turned (seenSt (head (FA c F g) (RA c n g) g e) (seesR g (rowsAt 6000 (keyRows c n)))) (head (FA c F g) [(1,⟨5,[aA c],26,false⟩),(27,mg c g),(25,⟨0,eV c,144,false⟩)] g _):=Turned.head (s:=seenSt (head (FA c F g) (RA c n g) g e) (seesR g (rowsAt 6000 (keyRows c n)))) (by
  simp only[cr,FA,seenSt,head,lz,AV.see,aP,L4,Nat.reduceEqDiff,Lf,Kn,reduceCtorEq]) (by
  refine⟨?_,?_,?_,trivial⟩
  ·simp only[seenSt,hG,head,RA,ag,L4,Kg,Row.see,LI,Lt,Cb,LA,Lf]
  ·simp only[seenSt,hG,head,RA,ag,L4,Kg,Nat.reduceEqDiff,Lf];rw[AU _ _ fun _=>rfl]
  ·simp only[seenSt,hG,head,RA,ag,L4,Kg,Nat.reduceEqDiff,Lf,Row.see,LA,hes])
 have hesc:(seenSt (head (FA c F g) (RA c n g) g e) (seesR g (rowsAt 6000 (keyRows c n)))).esc 27=false:=by
  show (e 27||_)=false;rw[he,Lu,NA];intro p hp;obtain⟨x,hx,rfl⟩:=K9.1 hp;obtain⟨q,_,h2⟩:=lh hx;simp;omega
 have t3:=t1.trans t2;generalize (seenSt (head (FA c F g) (RA c n g) g e) (seesR g (rowsAt 6000 (keyRows c n)))).esc=e2 at t3 hesc
 have t4:=t3.trans (Turned.mapSee 25 ⟨0,eV c,144,false⟩ (by simp[head,ag]) rfl (by
  rw[K2];intro x hx;unfold eV at hx;obtain⟨p,_,rfl⟩:=K9.1 hx
  rfl))
 refine⟨e2,hesc,t4.trans (Turned.head ?_ ?_)⟩
 ·simp only[cr,FA,xd,head,lz,AV.see,aP,L4,Nat.reduceEqDiff,Lf,Kn,reduceCtorEq]
 ·refine⟨?_,?_,trivial⟩
  ·simp only[xd,head,ag,L4,Kg,Nat.reduceEqDiff,Lf,Row.see,LI,Lt,Cb,LA]
  ·simp only[xd,head,ag,L4,Kg,Nat.reduceEqDiff,Lf,Row.see,mg,Jx,LI,Lt,AV.see,aP,LA,Kn,Ls]
end
section
theorem jP (c:ChD):(aP c).plain=true:=rfl
theorem JX (l:List Nat):l.map aB=(zL l).map intAV:=by simp[aB,zL]
theorem B0 (c:ChD) (vs:Nat->Nat):dQ c 0 vs=[]:=rfl
theorem wE (c:ChD):keyRows c 0=[]:=rfl
theorem yX {c:ChD} {j:Nat} {g g':Nat->Nat} (h: ∀k,g (k+6000)=g' (k+6000)):dQ c j g=dQ c j g':=by
 apply LQ;intro q;rw[d5,d5,h]
theorem EZ {c:ChD} {j:Nat} {s:St} {Q:St->Prop} (hk:keysTo c (j+1)=keysTo c j++[cm c j]) (hno:cm c j∉keysTo c j) (hF:cr s (FA c (j+1) s.vs)) (hR:cP s (RN c j s.vs)) (he:s.esc 27=false)
 (hQ: ∀g e,e 27=false->Q (head (FA c (j+1) g) (RA c (j+1) g) g e)): ∃s2,Turned s s2/\Q s2:=by
 obtain⟨g',e',h1,h2⟩:=I1 hk hno (j+1) (g:=s.vs) (e:=s.esc) he;exact⟨_,(Turned.head hF hR).trans h2,hQ g' e' h1⟩
theorem JD (c:ChD) (F:Nat) (g:Nat->Nat) (R:List (Nat×Row)) (e:Nat->Bool):cr (head (FA c F g) R g e) (FA c F g):=by
 simp only[cr,FA,head,lz,L4,Nat.reduceEqDiff,Lf,Kn,reduceCtorEq]
theorem JC (c:ChD) (j:Nat) (g:Nat->Nat) (F:List (Nat×AV)) (e:Nat->Bool):cP (head F (RA c j g) g e) (RA c j g):=by
 refine⟨?_,?_,?_,holdR_rowsAt fun q r hq=> ?_⟩
 ·simp only[head,RA,ag,L4]
 ·simp only[head,RA,ag,L4,Nat.reduceEqDiff,Lf]
 ·simp only[head,RA,ag,L4,Nat.reduceEqDiff,Lf]
 ·simp only[head,RA,ag];rw[KZ (by omega),KZ (by omega),KZ (by omega),mn,hq]
theorem uU (env:Env) (a1 a8:Addr) (he:ChEnv env a1 a8) (hT: ∀W,env.inv W->TabAt W) (c:ChD) (hch:chk c=(0, -1)) (hcf:i6 c):Con prog env 34 [.agg (aA c)] (.tuple [aC c, .lit .nilIface]):=by
 have h0:(chk c).1=0:=by rw[hch]
 have h:=full_of h0;have hs:=mz h0;have hlen:=h.few;have htr:=h.ftr;have f0:=GC env a1 a8 he hT c h.toRight (vf hch) hcf;have f1:=oU env c hs;have f2:=Bm env c (by omega);refine qf func34 call34 ntmps34 results34 ?_;have F:=aA.eq_1;repeat refine tz3 f0 f1 f2 ?_
 refine be [(24,⟨1,(evL c).map fO,9,true⟩)] ?_ ?_
 ·exact qe
 refine aK (D:=Nat) (fun j vs=>FA c j vs) (fun j vs=>RA c j vs) (fun j _ esc=>j<=c.trans.length/\esc 27=false) (fun j=>c.trans.length-j) 0 ?_ ?_ ?_ ?_
 ·exact⟨Ke _,rfl⟩
 ·have F:=ai FA.eq_1 aP.eq_1;exact qe
 ·have F:=ai6 RA.eq_1 mg.eq_1 aP.eq_1 @B0 @wE aA.eq_1
  (simp only[go_sem,rowsAt,F])
 try clear f0 f1 f2
 rintro j ws esc ⟨hj,e0⟩;by_cases hlt:j<c.trans.length
 ·obtain⟨t,ht⟩:=gE hlt;have g1:=nlt hlt;have g2:=aD hlt (by omega);have fE:=(vQ env c (by omega) .any nilS t.event).lend rfl;have hka:cm c j=(t.src,evI c t.event):=by unfold cm;rw[ht]
  have hm:=En c j ws t.src (evI c t.event);have hml:=gM c j ws;generalize evI c t.event=e at*;refine eO ?_;cases hq:qL (t.src,e) (keysTo c j) 0 with
  | none=>
    rw[hq]at hm;have hno:cm c j∉keysTo c j:=by rw[hka];exact kg hq
    have hk:keysTo c (j+1)=keysTo c j++[cm c j]:=by
     show (if cm c j∈keysTo c j then _ else _)=_;rw[KZ hno]
    have hs2: ∀x y:List AV,(dQ c j ws++[x]).set (keysTo c j).length y=dQ c j ws++[y]:=fun x y=>by rw[<-hml];simp
    have ha2: ∀x:List AV,(dQ c j ws++[x])[(keysTo c j).length]? =some x:=fun x=>by rw[<-hml];simp
    have F:=ai12 FA.eq_1 RA.eq_1 mg.eq_1 aA.eq_1 bi.eq_1 g1 g2 ht @jP hm hml<|ai3 hs2 ha2 e0;repeat refine st ?_
    refine lL fE ?_;repeat refine st ?_
    refine EZ hk hno ?_ ⟨?_,?_,?_,?_,holdR_rowsAt fun q r hr=> ?_⟩ ?_ fun g e he=>⟨j+1,⟨hlt,he⟩,?_,?_,by omega⟩
    ·have F:=ai4 FA.eq_1 RA.eq_1 aA.eq_1 g2;exact qe
    ·(simp only[go_sem,FA,RA,aA,g2])
    ·have F:=ai4 RA.eq_1 RN.eq_1 mg.eq_1 aA.eq_1;exact qe
    ·have F:=ai5 RA.eq_1 RN.eq_1 mg.eq_1 aA.eq_1 hka
     (simp only[go_sem,F])
     exact Kx (fun es=>(⟨0,es++_,_,false⟩:Row)) (yX fun k=>by simp only[go_sem])
    ·have F:=ai RA.eq_1 RN.eq_1;exact qe
    ·have hh:=mn c j q;rw[hr]at hh;have F:=ai RA.eq_1 hh;exact qe
    ·have F:=ai RA.eq_1 e0;exact qe
    ·exact JD c (j+1) g _ e
    ·exact JC c (j+1) g _ e
  | some q=>
    rw[hq]at hm;have hqk:=(od hq).2;rw[OD]at hqk;have hin:cm c j∈keysTo c j:=by rw[hka];exact K1 hqk
    have hk:keysTo c (j+1)=keysTo c j:=by
     show (if cm c j∈keysTo c j then _ else _)=_;rw[K0 hin]
    have hat:(dQ c j ws)[q]? =some [.agg [I t.src,I e], .row (q+6000) (ws (q+6000))]:=by rw[d5,hqk];rfl
    have hsame:(dQ c j ws).set q [.agg [I t.src,I e], .row (q+6000) (ws (q+6000))]=dQ c j ws:=B1 (p:=(t.src,e)) hqk;have hkr:=mn c j q;rw[bl,hqk]at hkr;simp only[Kg]at hkr;have hrl:=Ct c j (t.src,e);have hf:Fits ((iH c j (t.src,e)).length+1) 8:=aG (by omega) (by omega);have F:=ai12 FA.eq_1 RA.eq_1 mg.eq_1 aA.eq_1 bi.eq_1 g1 g2 ht @jP hm hat<|ai4 hsame hkr hf e0;repeat refine st ?_
    refine lL fE ?_;repeat refine st ?_
    refine⟨_,Turned.refl _,j+1,⟨hlt,?_⟩,?_,⟨?_,?_,?_,holdR_rowsAt fun k r hr=> ?_⟩,by omega⟩
    ·exact qe
    ·have F:=ai4 FA.eq_1 RA.eq_1 aA.eq_1 g2;exact qe
    ·have F:=ai3 RA.eq_1 mg.eq_1 aA.eq_1;exact qe
    ·have F:=ai3 RA.eq_1 mg.eq_1 aA.eq_1;exact qe
    ·have F:=ai4 RA.eq_1 mg.eq_1 aA.eq_1 hsame
     (simp only[go_sem,F])
     exact Kx (fun es=>(⟨0,es,_,false⟩:Row)) (B5 (p:=(t.src,e)) hk hqk (fun k hne=>by rw[upd_ne _ _ _ (by omega),upd_ne _ _ _ (by omega),upd_ne _ _ _ (by omega),upd_ne _ _ _ (by omega)]) (upd_same ..))
    ·rw[wG hk hka (lx c j) hqk k]at hr;by_cases ek:k=q
     ·subst ek;rw[K0 rfl]at hr;cases hr;have F:=ai3 RA.eq_1 mg.eq_1 aA.eq_1;exact qe
     ·rw[KZ ek]at hr;have hh:=mn c j k;rw[hr]at hh;have hne: ¬(k+6000=q+6000):=by omega
      have F:=ai6 RA.eq_1 mg.eq_1 aA.eq_1 hh hne ek;exact qe
 obtain rfl:j=c.trans.length:=by omega
 have g1:=nl c.trans.length;obtain⟨e',h27,htu⟩:=Bh (c:=c) c.trans.length (g:=ws) e0;refine iB htu ?_;have F:=ai5 FA.eq_1 Jx.eq_1 aA.eq_1 g1 h27;repeat refine st ?_
 refine nC 27 9100 0 8 27 1 ?_
 refine aK (D:=Nat) (fun i vs=>[(2, .lit (.pointer none)),(3, .lit .nilIface),(4,aP c),(6, .loc 27 (vs 27) 0 0),(62,stsAV c.states),(63,I c.states.length),(64,I i)])
  (fun i vs=>[(27,⟨9,[[Sg c.name,I c.initial,varsAV c.vars,stsAV c.states,trsAV c.trans,aP c, .seq 1 ((evL c).map fO), .fmap (eV c), .row 9100 (vs 9100)]],147,false⟩),(9100,⟨1,pZ c i,27,true⟩)])
  (fun i _ esc=>i<=c.states.length/\esc 27=false/\esc 9100=false) (fun i=>c.states.length-i) 0 ?_ ?_ ?_ ?_
 ·refine⟨Ke _,?_,?_⟩<;>simp only[go_sem,h27]
 ·exact qe
 ·(simp only[go_sem,F])
  try rfl
 try clear g1 e0 h27 htu hj hlt
 rintro i ws esc ⟨hi,e0,e1⟩;by_cases hlt:i<c.states.length
 ·have g1:=nlt hlt;have g2:=aD hlt (by omega);have f3:=mE env c h 40 i hlt (by omega);have hbl:=Hu h hlt
  have f4:Con prog env 69 [aP c, .seq 1 ((bgL c i).map aB)] (.own 3 1 ((sbL c i).map aB)):=by
   rw[JX];exact eu env c h.toRight (zL (bgL c i)) (by simp[zL];omega)
  have hbe:(pZ c i).length=i:=by simp[pZ]
  have hbs:pZ c (i+1)=pZ c i++[[.seq 1 ((sbL c i).map aB)]]:=by unfold pZ;rw[NB,Ki];rfl
  have hf:Fits (i+1) 24:=aG (by omega) (by omega);have F:=ai7 g1 g2 hbe hf e0 e1 aP.eq_1;repeat refine tz2 f3 f4 ?_
  refine⟨i+1,⟨hlt,?_,?_⟩,?_,?_,by omega⟩
  ·simp only[go_sem,e0]
  ·simp only[go_sem,e1]
  ·exact qe
  ·have F:=ai hbs aP.eq_1;exact qe
 obtain rfl:i=c.states.length:=by omega
 have g1:=nl c.states.length;have F:=ai3 g1 e0 e1;repeat refine st ?_
 refine be [(9100,⟨1,pZ c c.states.length,27,true⟩)] ?_ ?_
 ·exact qe
 refine nc [(2, .loc 27 (ws 27) 0 0),(3, .lit .nilIface)] [(27,⟨9,[tabCells c],147,false⟩)] ?_ ?_ ?_
 ·exact qe0
 ·have F:=ai tabCells.eq_1 aP.eq_1;exact qe
 have F:=ai tabCells.eq_1 @jP
 (refine aN ?_;show (an _ _ _).run _=some _;simp only[go_sem,F])
 rfl
end
section
theorem u9 (env:Env) (c:ChD) (l:List OpD):Con prog env 170 [.agg (aA c),opsAV l] (B (cB l c.vars.length c.states.length)):=by
 have hx:=qW env l c.vars.length c.states.length;unfold cB;refine qf func170 call170 ntmps170 results170 ?_;have F:=aA.eq_1;repeat refine tz1 hx ?_
 exact aR
theorem Ek {m:List UInt8} (h:bX m=true):(m == [])=false:=by
 cases m with
 |nil=>cases h
 |cons a l=>rfl
theorem GQ (env:Env) (c:ChD) (a:ActD):Con prog env 232 [.agg (aA c), .agg (bP a)] (B (gd c.vars.length c.states.length a)):=by
 obtain⟨k,n,m,co⟩:=a;have hcode:=u9 env c co;have hname:=eU env m;have hnm:bX m=true->(m == [])=false:=Ek;have hco:((co.length:Int)==0)=(co == []):=eR co;have w1: ∀p q:Prop,[Decidable p]->[Decidable q]->decide (p/\q)=(decide p&&decide q):=fun p q=>PC p q;refine qf func232 call232 ntmps232 results232 ?_;by_cases hk:1<=k/\k<=5
 ·have hk:k=1\/k=2\/k=3\/k=4\/k=5:=by omega
  rcases hk with rfl|rfl|rfl|rfl|rfl
  all_goals
   have F:=ai9 aA.eq_1 bP.eq_1 gd.eq_1 hnm hco w1 i7 @PN @PK;exact gz2 hcode hname
 rw[show gd c.vars.length c.states.length ⟨k,n,m,co⟩=false by unfold gd;rw[KZ (by simp only;omega),KZ (by simp only;omega),KZ (by simp only;omega),KZ (by simp only;omega)]];have b2:(k==2)=false:=dI (by omega);have b4:(k==4)=false:=dI (by omega);have b5:(k==5)=false:=dI (by omega);by_cases h1:k<1
 ·have F:=ai9 aA.eq_1 bP.eq_1 h1 b2 b4 b5 i7 @PN @PK;exact gz2 hcode hname
 have h2:5<k:=by omega
 have F:=ai10 aA.eq_1 bP.eq_1 h1 h2 b2 b4 b5 i7 @PN @PK;exact gz2 hcode hname
theorem oR (env:Env) (c:ChD) (l:List ActD):Con prog env 166 [.agg (aA c),actsAV l] (B (dy c.vars.length c.states.length l)):=by
 refine qf func166 call166 ntmps166 results166 ?_;by_cases hlen:32<l.length
 ·have k0:(32:Int)< (l.length:Int):=by omega
  rw[show dy c.vars.length c.states.length l=false by unfold dy;rw[Ky (by omega)];rfl];have F:=ai aA.eq_1 k0;repeat refine st ?_
  exact aR
 have k0: ¬(32:Int)< (l.length:Int):=by omega
 rw[show dy c.vars.length c.states.length l=l.all (gd c.vars.length c.states.length) by unfold dy;rw[LC (by omega)];rfl];have F:=ai aA.eq_1 k0;repeat refine st ?_
 refine lq l.length (by omega) (fun k vs=>[(1,actsAV l),(2, .loc 2 (vs 2) 0 0),(5,I k)]) (fun _ _=>[(2,⟨5,[aA c],26,false⟩)]) (fun k _ _=>(l.take k).all (gd c.vars.length c.states.length)=true) rfl ?_ ?_
 ·rintro k ws esc hlt k1 k2 hall;obtain⟨a,hx,hm⟩:=aQ hlt;have hact:=GQ env c a;cases h1:gd c.vars.length c.states.length a with
  | true=>
    have F:=ai6 aA.eq_1 k1 k2 hx bP.eq_1 h1;repeat refine tz1 hact ?_
    exact qn (k+1) ⟨hlt,dZ hall hx h1⟩
  | false=>
    rw[lX hx h1];have F:=ai6 aA.eq_1 k1 k2 hx bP.eq_1 h1;repeat refine tz1 hact ?_
    exact aR
 ·rintro ws esc k1 hall;rw[sL hall (by omega)];have F:=ai aA.eq_1 k1;repeat refine st ?_
  exact aR
theorem qz (env:Env) (c:ChD) (s:StD) (hp:s.parent<c.states.length):Con prog env 168 [.agg (aA c), .agg (aL s)] (B (cS c s)):=by
 refine qf func168 call168 ntmps168 results168 ?_;by_cases h1:0<=s.parent
 ·obtain⟨m,hm⟩:=gL h1;obtain⟨q,hq,_⟩:=aQ (show m<c.states.length by omega);have k1:=nlt (show m<c.states.length by omega);rw[show cS c s=(q.kind==1) by unfold cS;rw[hm,bH,hq]];have F:=ai5 aA.eq_1 aL.eq_1 hm hq k1;repeat refine st ?_
  exact aR
 ·rw[show cS c s=false by unfold cS at_;rw[KZ h1]];have F:=ai3 aA.eq_1 aL.eq_1 h1;repeat refine st ?_
  exact aR
theorem wC (env:Env) (c:ChD) (l:List Nat) (hl:l.length<=1000000) (hk: ∀k∈l,k<c.states.length):Con prog env 167 [.agg (aA c),nsAV l] (B ((l.all fun k=>al c k)&&decide (0<l.length))):=by
 refine qf func167 call167 ntmps167 results167 ?_;have F:=aA.eq_1;repeat refine st ?_
 refine lq l.length (by omega) (fun k vs=>[(1,nsAV l),(2, .loc 2 (vs 2) 0 0),(5,I k)]) (fun _ _=>[(2,⟨5,[aA c],26,false⟩)]) (fun k _ _=>(l.take k).all (fun k=>al c k)=true) rfl ?_ ?_
 ·rintro j ws esc hlt k1 k2 hall;obtain⟨k,hx,hm⟩:=aQ hlt;obtain⟨q,hq,_⟩:=aQ (hk k hm);have k3:=nlt (hk k hm);have hn:=iJ env q;have hnq:al c (k:Int)=dw q:=by unfold al;rw[bH,hq]
  cases h1:dw q with
  | true=>
    have F:=ai9 aA.eq_1 k1 k2 k3 hx hq aB.eq_1 aL.eq_1 h1;repeat refine tz1 hn ?_
    exact qn (j+1) ⟨hlt,dZ (p:=fun k:Nat=>al c k) hall hx (hnq.trans h1)⟩
  | false=>
    rw[lX (p:=fun k:Nat=>al c k) hx (hnq.trans h1),LF];have F:=ai9 aA.eq_1 k1 k2 k3 hx hq aB.eq_1 aL.eq_1 h1;repeat refine tz1 hn ?_
    exact aR
 ·rintro ws esc k1 hall;rw[sL hall (by omega),LK];have h3:decide ((0:Int)< (l.length:Int))=decide (0<l.length):=by rw[LD];simp
  have F:=ai aA.eq_1 k1;repeat refine st ?_
  (refine aN ?_;show (an _ _ _).run _=some _;simp only[go_sem,F])
  exact Kx B h3
theorem GP (env:Env) (c:ChD) (hn:c.vars.length<=1000000) (i:Nat) (v:VarD) (hv:c.vars[i]? =some v):Con prog env 102 [.agg (aA c),I i] (B (qK c i v)):=by
 have hi:i<c.vars.length:=(KW.1 hv).1;have k0:=nlt hi;have f1:=eU env v.name;have f2:=oQ env v.start;refine qf func102 call102 ntmps102 results102 ?_;have F:=ai4 aA.eq_1 k0 hv gQ.eq_1;repeat refine st ?_
 refine lp (D:=Nat) (fun j vs=>[(1,I i),(2, .loc 2 (vs 2) 0 0),(5, .loc 5 (vs 5) 0 0),(6,I j)]) (fun _ _=>[(2,⟨5,[aA c],26,false⟩),(5,⟨2,[gQ v],199,false⟩)]) (fun j _ _=>j<=i/\newVar c v.name j=true) (fun j=>i-j) 0 ⟨Ke _,rfl⟩ ?_;rintro j ws esc ⟨hj,hall⟩;by_cases hlt:j<i
 ·obtain⟨x,hx,_⟩:=aQ (show j<c.vars.length by omega);have hx':(c.vars.take i)[j]? =some x:=by rw[Kz,K0 hlt];exact hx
  have k1:=nlt hlt;have k3:=nlt (show j<c.vars.length by omega);have k2:=aD hlt (by omega);cases e:(x.name==v.name)
  ·have F:=ai7 aA.eq_1 k1 k2 k3 hx gQ.eq_1 e;repeat refine st ?_
   exact qn (j+1) ⟨hlt,pH hall hx e⟩
  ·rw[show qK c i v=false by unfold qK newVar;rw[lX (p:=fun x:VarD=> !(x.name==v.name)) hx' (by rw[e];rfl)];rfl];have F:=ai7 aA.eq_1 k1 k2 k3 hx gQ.eq_1 e;repeat refine st ?_
   exact aR
 ·have k1: ¬(j:Int)< (i:Int):=by omega
  obtain rfl:j=i:=by omega
  have hr:qK c j v=(bX v.name&& !(v.name == [100,97,116,97])&& !(v.name == [105,110])&&aJ v.start):=by
   unfold qK aJ;rw[hall];simp only[LK,Od]
  rw[hr];have F:=ai3 k1 gQ.eq_1 i7;exact gz2 f1 f2
end
section
theorem IU {α:Type} [DecidableEq α] (l:List α):(0< (l.length:Int))=((l == [])=false):=by
 rw[eq_iff_iff];cases l<;>simp
theorem o8 (c:ChD) (i:Int) (hn:c.states.length<=1000000):(kidsL c i true).length<=1000000:=Kh (dB c i true _) hn
theorem yJ (s:StD) (l:List Nat):(∀n:Int,(s.kind=n)=((s.kind==n)=true))/\(((s.kind==4)=true\/(s.kind==5)=true)=(aS s=true))/\((l=[])=((l == [])=true)):=by
 refine⟨fun n=>by simp,by simp[aS],by simp⟩
theorem BF (env:Env) (c:ChD) (hn:c.states.length<=1000000) (i:Nat) (s:StD) (hs:c.states[i]? =some s):Con prog env 103 [.agg (aA c),I i] (B (bq c i s)):=by
 have hi:i<c.states.length:=(KW.1 hs).1;have k0:=nlt hi;have f1:=eU env s.name;have f2:=E6 env c s.name hn;have f3:=oR env c s.inn;have f4:=oR env c s.out;have f5:=fF env c (i:Int) true hn;have f6:=fF env c (i:Int) false hn;have f7:=cu env s;have f8:=Cu env (kidsL c i true) s.initial (o8 c i hn);have f9:=wC env c (kidsL c i true) (o8 c i hn) (fun k hk=>(o7 hk).1);have z1:=eR (kidsL c i true);have z2:=IU (kidsL c i false);have z3:=eR s.out;have z4:=eR s.inn;obtain⟨w1,w2,w3⟩:=yJ s (kidsL c i true);by_cases p0:s.parent<c.states.length/\0<=s.parent
 ·obtain⟨m,hm⟩:=gL p0.2;obtain⟨q,hq,_⟩:=aQ (show m<c.states.length by omega);have p1: ¬(m:Int)<0:=by omega
  have p4:(0:Int)<=m:=by omega
  have b0:((m:Int) == -1)=false:=dI (by omega);have p3:=nlt (show m<c.states.length by omega);have fn:=iJ env q;have hnq:al c (m:Int)=dw q:=by unfold al;rw[bH,hq]
  have fu:=qz env c s (by omega);have g5:=fF env c (m:Int) true hn;have g8:=Cu env (kidsL c m true) s.initial (o8 c m hn);have p2:decide ((m:Int)<i)= !decide ((i:Int)<=m):=by rw[LD];simp
  refine qf func103 call103 ntmps103 results103 ?_;by_cases p5:(i:Int)<=m
  ·have F:=ai12 aA.eq_1 aL.eq_1 k0 hs hm hq p1 p3 p4 p5 b0<|ai12 hnq z1 z2 z3 z4 w1 w2 w3 bq.eq_1 cc.eq_1 dG.eq_1<|ai3 p2 i7 @ite_self.{1};exact KQ f1 f2 f3 f4 f5 f6 f7 f8 f9 fn fu g5 g8
  ·have F:=ai12 aA.eq_1 aL.eq_1 k0 hs hm hq p1 p3 p4 p5 b0<|ai12 hnq z1 z2 z3 z4 w1 w2 w3 bq.eq_1 cc.eq_1 dG.eq_1<|ai3 p2 i7 @ite_self.{1};exact KQ f1 f2 f3 f4 f5 f6 f7 f8 f9 fn fu g5 g8
 refine qf func103 call103 ntmps103 results103 ?_;by_cases p1:s.parent<0
 ·have fu:=qz env c s (by omega);have p2: ¬0<=s.parent:=by omega
  have hu:cS c s=false:=by unfold cS at_;rw[KZ p2]
  have F:=ai12 aA.eq_1 aL.eq_1 k0 hs p1 p2 hu z1 z2 z3 z4<|ai8 w1 w2 w3 bq.eq_1 cc.eq_1 dG.eq_1 i7 @ite_self.{1};exact KU f1 f2 f3 f4 f5 f6 f7 f8 f9 fu
 ·have p2:(i:Int)<=s.parent:=by omega
  have p3: ¬s.parent<i:=by omega
  have p4:0<=s.parent:=by omega
  have b0:(s.parent == -1)=false:=dI (by omega);have F:=ai12 aA.eq_1 aL.eq_1 k0 hs p1 p2 p3 p4 b0 z1 z2<|ai10 z3 z4 w1 w2 w3 bq.eq_1 cc.eq_1 dG.eq_1 i7 @ite_self.{1};exact gz9 f1 f2 f3 f4 f5 f6 f7 f8 f9
end

end Go.Proofs.YtbjldjekgepopaaGreatDoor