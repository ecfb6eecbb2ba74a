/- The document's words on trees and tables. -/
import Derived.Test.YtfcdkaolcdglmaaGreatDoorP15
set_option maxRecDepth 100000
set_option maxHeartbeats 16000000
set_option linter.unusedSimpArgs false
set_option linter.defProp false
namespace Go.Proofs.YtfcdkaolcdglmaaGreatDoor
open Go.Proofs.Tryz
open Go.RowKit
section
def db(c:aq)(j:Nat)(vs:Nat->Nat):List (List AV):=(cf c j).mapIdx fun q p=>[.agg [I p.1,I p.2], .row (q+6000) (vs (q+6000))]
def ii(c:aq)(j:Nat):List Row:=(cf c j).map fun p=>⟨1,(ib c j p).map aB,3,true⟩
def fN(c:aq):List (List AV):=(cf c c.trans.length).map fun p=>[.agg [I p.1,I p.2], .seq 1 ((ib c c.trans.length p).map aB)]
def qu(c:aq)(j:Nat):List (List AV):=(List.range j).map fun i=>[.seq 1 ((Vl c i).map aB)]
def aK(c:aq):List AV:=[Sg c.name,I c.initial,ur c.vars,u6 c.Z9,CD c.trans,aS c, .seq 1 ((Th c).map gB), .fmap (fN c), .seq 1 (qu c c.Z9.length)]
def WY:=@aK.eq_1
def aH(c:aq):AV:= .ref 9 [aK c] 0 0
def WZ:=@aH.eq_1
def gp(c:aq)(j:Nat)(vs:Nat->Nat):(db c j vs).length=(cf c j).length:=by simp[db]
def dv(c:aq)(j:Nat)(vs:Nat->Nat)(q:Nat):(db c j vs)[q]? =((cf c j)[q]?).map fun p=>[.agg [I p.1,I p.2], .row (q+6000) (vs (q+6000))]:=by simp[db]
def bw(c:aq)(j q:Nat):(ii c j)[q]? =((cf c j)[q]?).map fun p=>⟨1,(ib c j p).map aB,3,true⟩:=by simp[ii]
def yI(p:Int×Int)(f:Nat->AV): ∀(l:List (Int×Int))(i:Nat),tR prog 73 (.agg [I p.1,I p.2]) (l.mapIdx fun q k=>[.agg [I k.1,I k.2],f q]) i=some (rW p l i)
 |[],i=>rfl
 |(a,b)::l,i=>by
   have m:=yI p (fun q=>f (q+1)) l (i+1);obtain⟨c,d⟩:=p;rw[List.mapIdx_cons];by_cases h:c=a/\d=b
   ·obtain⟨rfl,rfl⟩:=h;have g:(c==c)=true:=by simp
    have j:(d==d)=true:=by simp
    simp only[go_sem,rX,cT,g,j,rW]
   have g:(c==a&&(d==b))=false:=by
    rw[Qj];intro e;simp only[OJ,P4]at e;exact h e
   have j: ¬((c,d):Int×Int)=(a,b):=fun e=>h (by simpa using e);simp only at m;simp only[go_sem,rX,cT,g,rW,j,m]
def Gw(c:aq)(j:Nat)(vs:Nat->Nat)(a b:Int):tR prog 73 (.agg [I a,I b]) (db c j vs) 0=some (rW (a,b) (cf c j) 0):=yI (a,b) (fun q=> .row (q+6000) (vs (q+6000))) (cf c j) 0
def Ev(c:aq)(a b:Int):tR prog 73 (.agg [I a,I b]) (fN c) 0=some (rW (a,b) (cf c c.trans.length) 0):=by
 have:fN c=(cf c c.trans.length).mapIdx fun q k=>[.agg [I k.1,I k.2],((fN c)[q]?.bind (·[1]?)).getD .any]:=by
  apply PM;intro q;rw[List.getElem?_mapIdx];unfold fN;rw[OS];cases (cf c c.trans.length)[q]? with
  |none=>rfl
  |some p=>rfl
 rw[this];exact yI (a,b) _ _ 0
/-! The state at the head of the loop -/
def oQ(c:aq)(g:Nat->Nat):Row:=⟨9,[[Sg c.name,I c.initial,ur c.vars,u6 c.Z9,CD c.trans,aS c, .seq 1 ((Th c).map gB), .mp 25 (g 25),gb]],66,false⟩
def W9:=@oQ.eq_1
def RA(c:aq)(j:Nat)(g:Nat->Nat):List (Nat×Row):=(1,⟨5,[aA c],26,false⟩)::(27,oQ c g)::(25,⟨0,db c j g,63,false⟩)::j' 6000 (ii c j)
def WV:=@RA.eq_1
def oW(c:aq)(j:Nat)(q:Nat):an (j' 6000 (ii c j)) (q+6000)=(ii c j)[q]? :=by
 rw[nz,OL (by omega),show q+6000-6000=q by omega]
def DR{c:aq}{j q:Nat}{p:Int×Int}{g g':Nat->Nat}(f:cf c (j+1)=cf c j)(a:(cf c j)[q]? =some p)(b: ∀k,k≠q->g' (k+6000)=g (k+6000)){v:Nat}(d:g' (q+6000)=v):(db c j g).set q [.agg [I p.1,I p.2], .row (q+6000) v]=db c (j+1) g':=by
 apply PM;intro k;rw[Pg,dv,dv,gp,f];by_cases e:q=k
 ·subst e;rw[OL rfl,OL (OG.1 a).1,a, <-d];rfl
 ·rw[OK e];cases (cf c j)[k]? with
  |none=>rfl
  |some h=>simp only[O0,b k (Py e)]
def DN{c:aq}{j q:Nat}{p:Int×Int}{g:Nat->Nat}(a:(cf c j)[q]? =some p):(db c j g).set q [.agg [I p.1,I p.2], .row (q+6000) (g (q+6000))]=db c j g:=by
 apply PM;intro k;rw[Pg,dv,gp];by_cases e:q=k
 ·subst e;rw[OL rfl,OL (OG.1 a).1,a];rfl
 rw[OK e]
def DO{c:aq}{j:Nat}{g g':Nat->Nat}(f:cf c (j+1)=cf c j++[dI c j])(b: ∀k,k< (cf c j).length->g' (k+6000)=g (k+6000)){v:Nat}(d:g' ((cf c j).length+6000)=v):db c j g++[[.agg [I (dI c j).1,I (dI c j).2], .row ((cf c j).length+6000) v]]=db c (j+1) g':=by
 apply PM;intro k;rw[dv,f];by_cases a:k< (cf c j).length
 ·rw[Oq (by rw[gp];exact a),Oq a,dv,OE a];simp only[O0,b k a]
 rw[Og (by rw[gp];omega),Og (by omega),gp];by_cases e:k=(cf c j).length
 ·subst e;simp[d]
 rw[OT (by simp;omega),OT (by simp;omega)];rfl
def xe{c:aq}{j q:Nat}{p:Int×Int}(r:cf c (j+1)=cf c j)(m:dI c j=p)(s:(cf c j).Nodup)(n:(cf c j)[q]? =some p)(k:Nat):(ii c (j+1))[k]? =if k=q then some ⟨1,(ib c j p).map aB++[[I j]],3,true⟩ else(ii c j)[k]? :=by
 rw[bw,bw,r];by_cases e:k=q
 ·subst e;rw[OL rfl,n];simp only[O0,o9,m,PW,Oa,PE,Pv,aB]
 ·rw[OK e];cases d:(cf c j)[k]? with
  |none=>rfl
  | some t=>
    have f: ¬p=t:=fun o=>by
     subst o;obtain⟨g,i⟩:=OG.1 n;obtain⟨h,l⟩:=OG.1 d;have b:=Ow.1 (Pt.1 s);rcases RF k q with a|a|a
     ·exact b k q h g a (l.trans i.symm)
     ·exact e a
     exact b q k g h a (i.trans l.symm)
    simp only[O0,o9,m,OK f]
def xd{c:aq}{j:Nat}(g:cf c (j+1)=cf c j++[dI c j])(b:dI c j∉cf c j)(k:Nat):(ii c (j+1))[k]? =if k=(cf c j).length then some ⟨1,[[I j]],3,true⟩ else(ii c j)[k]? :=by
 rw[bw,bw,g];by_cases e:k=(cf c j).length
 ·subst e;simp only[PW,Og (OO _),Sp,PK,O0,o9,uA b,QE,PE,Pv,aB]
 rw[OK e];by_cases a:k< (cf c j).length
 ·rw[Oq a,OE a];have d: ¬dI c j=(cf c j)[k]:=fun f=>b (f ▸ PV a);simp only[O0,o9,OK d]
 rw[OT (by simp;omega),OT (by omega)];rfl
def FA(c:aq)(j:Nat)(g:Nat->Nat):List (Nat×AV):=[(1, .loc 1 (g 1) 0 0),(2, .lit (.pointer none)),(3, .lit .nilIface),(4,aS c),(6, .loc 27 (g 27) 0 0),(32,CD c.trans),(33,I c.trans.length),(34,I j)]
def Xj:=@FA.eq_1
def RN(c:aq)(j:Nat)(g:Nat->Nat):List (Nat×Row):=(1,⟨5,[aA c],26,false⟩)::(27,oQ c g)::(25,⟨0,db c j g++[[.agg [I (dI c j).1,I (dI c j).2], .row 55 (g 55)]],63,false⟩)::(55,⟨1,[[I j]],3,true⟩)::j' 6000 (ii c j)
def Gz(c:aq)(j:Nat)(vs:Nat->Nat){g gm:Nat->Nat->Option AV}(h: ∀q v,g (q+6000) v=none):(db c j vs).map (·.map (AV.see g gm))=db c j vs:=by
 apply PM;intro q;rw[OS,dv];cases (cf c j)[q]? with
 |none=>rfl
 |some p=>simp only[O0,PE,Pv,AV.see,AV.see.seeL,h,R9]
def CI(c:aq)(vs:Nat->Nat){g gm:Nat->Nat->Option AV}(h: ∀v,gm 25 v=none):(oQ c vs).see g gm=oQ c vs:=by
 simp only[Row.see,oQ,PE,Pv,AV.see,AV.see.seeL,h,R9,aS,On,P8]
def EW(c:aq){g gm:Nat->Nat->Option AV} :(aA c).map (AV.see g gm)=aA c:=rfl
def lY{s:St}{r r2:Nat}{row:Row}{k:Nat} :(eN s r r2 row).rows k=if k=r2 then some row else if k=r then none else(s.rows k).map (Row.see (ob r (s.vs r) r2 (s.vs r2+1)) fun _ _=>none):=rfl
def GX(v n a q w:Nat):ob 55 v n a (q+6000) w=none:=by unfold ob;rw[OK (by omega)]
def Ln{c:aq}{j:Nat}(h:cf c (j+1)=cf c j++[dI c j])(l:dI c j∉cf c j)(F:Nat){g:Nat->Nat}{e:Nat->Bool}(x:e 27=false): ∃g' u,u 27=false/\dT (head (FA c F g) (RN c j g) g e) (head (FA c F g') (RA c (j+1) g') g' u):=by
 generalize i:(cf c j).length=n at*;have o:(ii c j)[n]? =none:=by rw[bw,OT (by omega)];rfl
 have d:(head (FA c F g) (RN c j g) g e).rows 55=some ⟨1,[[I j]],3,true⟩:=by simp[head,RN,an]
 have a:(head (FA c F g) (RN c j g) g e).rows (n+6000)=none:=by
  have:=oW c j n;rw[o]at this;simp only[head,RN,an];rw[OK (by omega),OK (by omega),OK (by omega),OK (by omega),this]
 have t1:=dT.ren (s:=head (FA c F g) (RN c j g) g e) 55 (n+6000) ⟨1,[[I j]],3,true⟩ (by omega) d a (PD 0) rfl;have f: ∀t,t≠n+6000->na g (n+6000) (g (n+6000)+1) t=g t:=fun t y=>ct _ _ _ y;refine⟨na g (n+6000) (g (n+6000)+1),na e (n+6000) (e 55),by rw[ct _ _ _ (by omega)];exact x,t1.trans (dT.head ?_ ?_)⟩
 ·simp only[dK,FA,eN,head,nJ,AV.see,aS,f 1 (by omega),f 27 (by omega),PW,Nat.reduceEqDiff,P8,O8,reduceCtorEq]
 refine⟨?_,?_,?_,tb fun q r b=> ?_⟩
 ·show (eN _ _ _ _).rows 1=some _;rw[lY,OK (by omega),OK (by omega)];simp only[head,RN,an,PW,O0,Row.see,PE,Pv,EW,On,P8]
 ·show (eN _ _ _ _).rows 27=some _;rw[lY,OK (by omega),OK (by omega)];simp only[head,RN,an,PW,O0,Nat.reduceEqDiff,P8];rw[CI _ _ fun _=>rfl];simp only[oQ,f 25 (by omega)]
 ·show (eN _ _ _ _).rows 25=some _;rw[lY,OK (by omega),OK (by omega)];simp only[head,RN,an,PW,O0,Nat.reduceEqDiff,P8,Row.see,On,Oa,PE,Pv];rw[Gz _ _ _ fun q v=>GX ..];have:=DO (c:=c) (j:=j) (g:=g) (g':=na g (n+6000) (g (n+6000)+1)) h (fun k h=>f _ (by omega)) (v:=g (n+6000)+1) (by rw[i,aE]);rw[i]at this;rw[<-this];simp[AV.see,AV.see.seeL,ob]
 rw[xd h l,i]at b;show (eN _ _ _ _).rows (q+6000)=some _;rw[lY];by_cases w:q=n
 ·subst w;rw[OL rfl]at b |-;exact b
 rw[OK w]at b;rw[OK (by omega),OK (by omega)];simp only[head,RN,an];rw[OK (by omega),OK (by omega),OK (by omega),OK (by omega),oW,b]
 have m:r.pure=true:=by
  rw[bw]at b;obtain⟨p,_,rfl⟩:=P6.1 b;rfl
 simp only[O0,Row.see,m,PW]
/-! The map, frozen -/
def mj{g:Nat->Nat}{r v:Nat} : ∀ {l:List Row}{b:Nat},iE (th g (j' b l)) r v=if b<=r/\v=g r then(l[r-b]?).map fun row=> .seq row.sz row.es else none
 |[],b=>by simp[j',th,iE]
 | x::l,b=>by
   have d:=mj (g:=g) (r:=r) (v:=v) (l:=l) (b:=b+1);simp only[th]at d;simp only[j',th,PE,iE,d];by_cases h:r=b
   ·subst h;by_cases a:v=g r
    ·subst a;simp
    simp[a]
   rw[OK fun e=>h e.1];by_cases c:b+1<=r
   ·by_cases a:v=g r
    ·rw[OL ⟨c,a⟩,OL ⟨by omega,a⟩,show r-b=(r-(b+1))+1 by omega,Pw]
    rw[OK fun e=>a e.2,OK fun e=>a e.2]
   rw[OK fun e=>c e.1,OK fun e=>by omega]
def Nf(c:aq):Row:=⟨9,[[Sg c.name,I c.initial,ur c.vars,u6 c.Z9,CD c.trans,aS c, .seq 1 ((Th c).map gB), .fmap (fN c),gb]],66,false⟩
def D6{c:aq}(F:Nat){g:Nat->Nat}{e:Nat->Bool}(w:e 27=false): ∃l,l 27=false/\dT (head (FA c F g) (RA c c.trans.length g) g e) (head (FA c F g) [(1,⟨5,[aA c],26,false⟩),(27,Nf c)] g l):=by
 generalize y:c.trans.length=n at*
 have u:rU (head (FA c F g) (RA c n g) g e) (th g (j' 6000 (ii c n))):=by
  intro p k;obtain⟨x,b,rfl⟩:=OW.1 k;obtain⟨q,d,m⟩:=mn b;refine⟨rfl,x.2,?_,?_,?_,rfl⟩
  ·simp only[head,RA,an,m];rw[OK (by omega),OK (by omega),OK (by omega),oW];exact d
  ·rw[bw]at d;obtain⟨p,_,f⟩:=P6.1 d;rw[<-f];exact PD 0
  rw[bw]at d;obtain⟨p,_,f⟩:=P6.1 d;rw[<-f]
 have t1:=dT.sees _ u
 have j:(db c n g).map (·.map (AV.see (iE (th g (j' 6000 (ii c n)))) fun _ _=>none))=fN c:=by
  apply PM;intro q;unfold fN;rw[y,OS,dv,OS];cases z:(cf c n)[q]? with
  |none=>rfl
  | some p=>
    have A:iE (th g (j' 6000 (ii c n))) (q+6000) (g (q+6000))=some (.seq 1 ((ib c n p).map aB)):=by
     rw[mj,OL ⟨by omega,rfl⟩,show q+6000-6000=q by omega,bw,z];rfl
    simp only[O0,PE,Pv,AV.see,AV.see.seeL,A,Pk]
 have o: ∀r v,r<6000->iE (th g (j' 6000 (ii c n))) r v=none:=fun r v h=>by
  rw[mj,OK fun e=>by omega]
 generalize i:iE (th g (j' 6000 (ii c n)))=G at*
 have t2:dT (l5 (head (FA c F g) (RA c n g) g e) (th g (j' 6000 (ii c n)))) (head (FA c F g) [(1,⟨5,[aA c],26,false⟩),(27,oQ c g),(25,⟨0,fN c,63,false⟩)] g _):=dT.head (s:=l5 (head (FA c F g) (RA c n g) g e) (th g (j' 6000 (ii c n)))) (by
  simp only[dK,FA,l5,head,nJ,AV.see,aS,PW,Nat.reduceEqDiff,P8,O8,reduceCtorEq]) (by
  refine⟨?_,?_,?_,trivial⟩
  ·simp only[l5,i,head,RA,an,PW,O0,Row.see,PE,Pv,EW,On,P8]
  ·simp only[l5,i,head,RA,an,PW,O0,Nat.reduceEqDiff,P8];rw[CI _ _ fun _=>rfl]
  simp only[l5,i,head,RA,an,PW,O0,Nat.reduceEqDiff,P8,Row.see,On,j])
 have a:(l5 (head (FA c F g) (RA c n g) g e) (th g (j' 6000 (ii c n)))).esc 27=false:=by
  show (e 27||_)=false;rw[w,Qq,Rp];intro p k;obtain⟨x,b,rfl⟩:=OW.1 k;obtain⟨q,_,m⟩:=mn b;simp;omega
 have t3:=t1.trans t2;generalize (l5 (head (FA c F g) (RA c n g) g e) (th g (j' 6000 (ii c n)))).esc=t at t3 a
 have t4:=t3.trans (dT.mapSee 25 ⟨0,fN c,63,false⟩ (by simp[head,an]) rfl (by
  rw[OP];intro x b;unfold fN at b;obtain⟨p,_,rfl⟩:=OW.1 b
  rfl))
 refine⟨t,a,t4.trans (dT.head ?_ ?_)⟩
 ·simp only[dK,FA,zA,head,nJ,AV.see,aS,PW,Nat.reduceEqDiff,P8,O8,reduceCtorEq]
 refine⟨?_,?_,trivial⟩
 ·simp only[zA,head,an,PW,O0,Nat.reduceEqDiff,P8,Row.see,PE,Pv,EW,On]
 simp only[zA,head,an,PW,O0,Nat.reduceEqDiff,P8,Row.see,oQ,Nf,PE,Pv,AV.see,aS,On,O8,Pk]
end
section
def ju(c:aq):(aS c).plain=true:=rfl
def My(l:List Nat):l.map aB=(zL l).map aa:=by simp[aB,zL]
def DL(c:aq)(vs:Nat->Nat):db c 0 vs=[]:=rfl
def xc(c:aq):ii c 0=[]:=rfl
def AE{c:aq}{j:Nat}{g g':Nat->Nat}(h: ∀k,g (k+6000)=g' (k+6000)):db c j g=db c j g':=by
 apply PM;intro q;rw[dv,dv,h]
def GU{c:aq}{j:Nat}{s:St}{Q:St->Prop}(o:cf c (j+1)=cf c j++[dI c j])(a:dI c j∉cf c j)(k:dK s (FA c (j+1) s.vs))(m:cn s (RN c j s.vs))(n:s.esc 27=false)
 (l: ∀g e,e 27=false->Q (head (FA c (j+1) g) (RA c (j+1) g) g e)): ∃b,dT s b/\Q b:=by
 obtain⟨f,d,h,i⟩:=Ln o a (j+1) (g:=s.vs) (e:=s.esc) n;exact⟨_,(dT.head k m).trans i,l f d h⟩
def Mc(c:aq)(F:Nat)(g:Nat->Nat)(R:List (Nat×Row))(e:Nat->Bool):dK (head (FA c F g) R g e) (FA c F g):=by
 simp only[dK,FA,head,nJ,PW,Nat.reduceEqDiff,P8,O8,reduceCtorEq]
def M9(c:aq)(j:Nat)(g:Nat->Nat)(F:List (Nat×AV))(e:Nat->Bool):cn (head F (RA c j g) g e) (RA c j g):=by
 refine⟨?_,?_,?_,tb fun q r a=> ?_⟩
 ·simp only[head,RA,an,PW]
 ·simp only[head,RA,an,PW,Nat.reduceEqDiff,P8]
 ·simp only[head,RA,an,PW,Nat.reduceEqDiff,P8]
 simp only[head,RA,an];rw[OK (by omega),OK (by omega),OK (by omega),oW,a]
def Fz(env:b7)(a1 a8:Addr)(U:fk env a1 a8)(hT: ∀W,env.inv W->sy W)(c:aq)(B:qs c=(0, -1))(T:oV c):cy prog env 6 [.agg (aA c)] (.tuple [aH c, .lit .nilIface]):=by
 have h0:(qs c).1=0:=by rw[B]
 have h:=Vh h0;have hs:=Au h0;have hlen:=h.Z6;have htr:=h.ZF;have f0:=Iu env a1 a8 U hT c h.toRight (xF B) T;have f1:=pZ env c hs;have f2:=Da env c (by omega);refine qf func6 call6 ntmps6 results6 ?_;have F:=aA.eq_1;repeat refine V6 f0 f1 f2 ?_
 refine dH [(24,⟨1,(Th c).map gB,9,true⟩)] ?_ ?_
 ·exact qe
 refine aN (D:=Nat) (fun j A=>FA c j A) (fun j A=>RA c j A) (fun j _ d=>j<=c.trans.length/\d 27=false) (fun j=>c.trans.length-j) 0 ?_ ?_ ?_ ?_
 ·exact⟨O6 _,rfl⟩
 ·have F:=ai Xj Xa;exact qe
 ·have F:=pf WV W9 Xa @DL @xc WH
  (simp only[go_sem,j',F])
 try clear f0 f1 f2
 rintro j f d ⟨hj,m⟩;by_cases a:j<c.trans.length
 ·obtain⟨t,Z⟩:=gE a;have n:=mc a;have s:=aD a (by omega);have fE:=(wq env c (by omega) .any gb t.Z7).lend rfl;have o:dI c j=(t.src,U3 c t.Z7):=by unfold dI;rw[Z]
  have K:=Gw c j f t.src (U3 c t.Z7);have w:=gp c j f;generalize U3 c t.Z7=e at*;refine fA ?_;cases L:rW (t.src,e) (cf c j) 0 with
  | none=>
    rw[L]at K;have G:dI c j∉cf c j:=by rw[o];exact lh L
    have J:cf c (j+1)=cf c j++[dI c j]:=by
     show (if dI c j∈cf c j then _ else _)=_;rw[OK G]
    have Y: ∀x y:List AV,(db c j f++[x]).set (cf c j).length y=db c j f++[y]:=fun x y=>by rw[<-w];simp
    have P: ∀x:List AV,(db c j f++[x])[(cf c j).length]? =some x:=fun x=>by rw[<-w];simp
    have F:=fb Xj WV W9 WH WP n s Z @ju K w<|jw Y P m;repeat refine st ?_
    refine lL fE ?_;repeat refine st ?_
    refine GU J G ?_ ⟨?_,?_,?_,?_,tb fun q r z=> ?_⟩ ?_ fun g e U=>⟨j+1,⟨a,U⟩,?_,?_,by omega⟩
    ·have F:=mX Xj WV WH s;exact qe
    ·(simp only[go_sem,FA,RA,aA,s])
    ·have F:=mX WV RN.eq_1 W9 WH;exact qe
    ·have F:=ld WV RN.eq_1 W9 WH o
     (simp only[go_sem,F])
     exact Oj (fun O=>(⟨0,O++_,_,false⟩:Row)) (AE fun k=>by simp only[go_sem])
    ·have F:=ai WV RN.eq_1;exact qe
    ·have C:=oW c j q;rw[z]at C;have F:=ai WV C;exact qe
    ·have F:=ai WV m;exact qe
    ·exact Mc c (j+1) g _ e
    exact M9 c (j+1) g _ e
  | some q=>
    rw[L]at K;have b:=(pw L).2;rw[Rw]at b;have X:dI c j∈cf c j:=by rw[o];exact OM b
    have J:cf c (j+1)=cf c j:=by
     show (if dI c j∈cf c j then _ else _)=_;rw[OL X]
    have Q:(db c j f)[q]? =some [.agg [I t.src,I e], .row (q+6000) (f (q+6000))]:=by rw[dv,b];rfl
    have l:(db c j f).set q [.agg [I t.src,I e], .row (q+6000) (f (q+6000))]=db c j f:=DN (p:=(t.src,e)) b;have v:=oW c j q;rw[bw,b]at v;simp only[O0]at v;have hrl:=Ef c j (t.src,e);have V:ek ((ib c j (t.src,e)).length+1) 8:=aG (by omega) (by omega);have F:=fb Xj WV W9 WH WP n s Z @ju K Q<|mX l v V m;repeat refine st ?_
    refine lL fE ?_;repeat refine st ?_
    refine⟨_,dT.refl _,j+1,⟨a,?_⟩,?_,⟨?_,?_,?_,tb fun k r z=> ?_⟩,by omega⟩
    ·exact qe
    ·have F:=mX Xj WV WH s;exact qe
    ·have F:=jw WV W9 WH;exact qe
    ·have F:=jw WV W9 WH;exact qe
    ·have F:=mX WV W9 WH l
     (simp only[go_sem,F])
     exact Oj (fun O=>(⟨0,O,_,false⟩:Row)) (DR (p:=(t.src,e)) J b (fun k E=>by rw[ct _ _ _ (by omega),ct _ _ _ (by omega),ct _ _ _ (by omega),ct _ _ _ (by omega)]) (aE ..))
    rw[xe J o (nH c j) b k]at z;by_cases N:k=q
    ·subst N;rw[OL rfl]at z;cases z;have F:=jw WV W9 WH;exact qe
    rw[OK N]at z;have C:=oW c j k;rw[z]at C;have E: ¬(k+6000=q+6000):=by omega
    have F:=pf WV W9 WH C E N;exact qe
 obtain rfl:j=c.trans.length:=by omega
 have n:=nl c.trans.length;obtain⟨e',u,H⟩:=D6 (c:=c) c.trans.length (g:=f) m;refine iX H ?_;have F:=ld Xj Nf.eq_1 WH n u;repeat refine st ?_
 refine nC 27 9100 0 8 35 1 ?_
 refine aN (D:=Nat) (fun i A=>[(2, .lit (.pointer none)),(3, .lit .nilIface),(4,aS c),(6, .loc 27 (A 27) 0 0),(62,u6 c.Z9),(63,I c.Z9.length),(64,I i)])
  (fun i A=>[(27,⟨9,[[Sg c.name,I c.initial,ur c.vars,u6 c.Z9,CD c.trans,aS c, .seq 1 ((Th c).map gB), .fmap (fN c), .row 9100 (A 9100)]],66,false⟩),(9100,⟨1,qu c i,35,true⟩)])
  (fun i _ d=>i<=c.Z9.length/\d 27=false/\d 9100=false) (fun i=>c.Z9.length-i) 0 ?_ ?_ ?_ ?_
 ·refine⟨O6 _,?_,?_⟩<;>simp only[go_sem,u]
 ·exact qe
 ·(simp only[go_sem,F])
  try rfl
 try clear n m u H hj a
 rintro i f d ⟨hi,m,M⟩;by_cases a:i<c.Z9.length
 ·have n:=mc a;have s:=aD a (by omega);have f3:=nT env c h 40 i a (by omega);have hbl:=LM h a
  have f4:cy prog env 19 [aS c, .seq 1 ((Fk c i).map aB)] (.own 3 1 ((Vl c i).map aB)):=by
   rw[My];exact fZ env c h.toRight (zL (Fk c i)) (by simp[zL];omega)
  have R:(qu c i).length=i:=by simp[qu]
  have S:qu c (i+1)=qu c i++[[.seq 1 ((Vl c i).map aB)]]:=by unfold qu;rw[Qe,Oa];rfl
  have V:ek (i+1) 24:=aG (by omega) (by omega);have F:=vb n s R V m M Xa;repeat refine PJ f3 f4 ?_
  refine⟨i+1,⟨a,?_,?_⟩,?_,?_,by omega⟩
  ·simp only[go_sem,m]
  ·simp only[go_sem,M]
  ·exact qe
  have F:=ai S Xa;exact qe
 obtain rfl:i=c.Z9.length:=by omega
 have n:=nl c.Z9.length;have F:=jw n m M;repeat refine st ?_
 refine dH [(9100,⟨1,qu c c.Z9.length,35,true⟩)] ?_ ?_
 ·exact qe
 refine pE [(2, .loc 27 (f 27) 0 0),(3, .lit .nilIface)] [(27,⟨9,[aK c],66,false⟩)] ?_ ?_ ?_
 ·exact Wg
 ·have F:=ai WY Xa;exact qe
 have F:=ai WY @ju
 (refine aO ?_;show (au _ _ _).run _=some _;simp only[go_sem,F])
 rfl
end
section
def wA(env:b7)(c:aq)(l:List mw):cy prog env 89 [.agg (aA c),DP l] (B (cP l c.vars.length c.Z9.length)):=by
 have a:=rh env l c.vars.length c.Z9.length;unfold cP;refine qf func89 call89 ntmps89 results89 ?_;have F:=aA.eq_1;exact nb a
def Gn{m:List UInt8}(h:bT m=true):(m == [])=false:=by
 cases m with
 |nil=>cases h
 |cons a l=>rfl
def JH(env:b7)(c:aq)(a:n9):cy prog env 128 [.agg (aA c), .agg (bg a)] (B (iM c.vars.length c.Z9.length a)):=by
 obtain⟨k,n,m,co⟩:=a;have b:=wA env c co;have d:=iA env m;have f:bT m=true->(m == [])=false:=Gn;have e:((co.length:Int)==0)=(co == []):=fJ co;have r: ∀p q:Prop,[Decidable p]->[Decidable q]->decide (p/\q)=(decide p&&decide q):=fun p q=>Sm p q;refine qf func128 call128 ntmps128 results128 ?_;by_cases l:1<=k/\k<=5
 ·have l:k=1\/k=2\/k=3\/k=4\/k=5:=by omega
  rcases l with rfl|rfl|rfl|rfl|rfl
  all_goals
   have F:=y' WH WU iM.eq_1 f e r jF @Tn @Tk;exact po b d
 rw[show iM c.vars.length c.Z9.length ⟨k,n,m,co⟩=false by unfold iM;rw[OK (by simp only;omega),OK (by simp only;omega),OK (by simp only;omega),OK (by simp only;omega)]];have g:(k==2)=false:=dY (by omega);have h:(k==4)=false:=dY (by omega);have i:(k==5)=false:=dY (by omega);by_cases j:k<1
 ·have F:=y' WH WU j g h i jF @Tn @Tk;exact po b d
 have o:5<k:=by omega
 have F:=zs WH WU j o g h i jF @Tn @Tk;exact po b d
def pX(env:b7)(c:aq)(l:List n9):cy prog env 83 [.agg (aA c),oj l] (B (eR c.vars.length c.Z9.length l)):=by
 refine qf func83 call83 ntmps83 results83 ?_;by_cases m:32<l.length
 ·have j:(32:Int)< (l.length:Int):=by omega
  rw[show eR c.vars.length c.Z9.length l=false by unfold eR;rw[Oi (by omega)];rfl];have F:=ai WH j;exact fl
 have j: ¬(32:Int)< (l.length:Int):=by omega
 rw[show eR c.vars.length c.Z9.length l=l.all (iM c.vars.length c.Z9.length) by unfold eR;rw[Ou (by omega)];rfl];have F:=ai WH j;repeat refine st ?_
 refine lq l.length (by omega) (fun k o=>[(1,oj l),(2, .loc 2 (o 2) 0 0),(5,I k)]) (fun _ _=>[(2,⟨5,[aA c],26,false⟩)]) (fun k _ _=>(l.take k).all (iM c.vars.length c.Z9.length)=true) rfl ?_ ?_
 ·rintro k p i e h n b;obtain⟨a,g,q⟩:=aT e;have d:=JH env c a;cases f:iM c.vars.length c.Z9.length a with
  | true=>
    have F:=pf WH h n g WU f;repeat refine g8 d ?_
    exact qn (k+1) ⟨e,dt b g f⟩
  | false=>
    rw[mW g f];have F:=pf WH h n g WU f;exact nb d
 rintro p i h b;rw[tm b (by omega)];have F:=ai WH h;exact fl
def sQ(env:b7)(c:aq)(s:pc)(f:s.parent<c.Z9.length):cy prog env 87 [.agg (aA c), .agg (aP s)] (B (cu c s)):=by
 refine qf func87 call87 ntmps87 results87 ?_;by_cases a:0<=s.parent
 ·obtain⟨m,b⟩:=gk a;obtain⟨q,d,_⟩:=aT (show m<c.Z9.length by omega);have e:=mc (show m<c.Z9.length by omega);rw[show cu c s=(q.kind==1) by unfold cu;rw[b,bO,d]];have F:=ld WH WI b d e;exact fl
 rw[show cu c s=false by unfold cu at_;rw[OK a]];have F:=jw WH WI a;exact fl
def xa(env:b7)(c:aq)(l:List Nat)(w:l.length<=1000000)(m: ∀k∈l,k<c.Z9.length):cy prog env 86 [.agg (aA c),U9 l] (B ((l.all fun k=>ar c k)&&decide (0<l.length))):=by
 refine qf func86 call86 ntmps86 results86 ?_;have F:=aA.eq_1;repeat refine st ?_
 refine lq l.length (by omega) (fun k u=>[(1,U9 l),(2, .loc 2 (u 2) 0 0),(5,I k)]) (fun _ _=>[(2,⟨5,[aA c],26,false⟩)]) (fun k _ _=>(l.take k).all (fun k=>ar c k)=true) rfl ?_ ?_
 ·rintro j v h b g r a;obtain⟨k,f,n⟩:=aT b;obtain⟨q,i,_⟩:=aT (m k n);have s:=mc (m k n);have o:=ig env q;have d:ar c (k:Int)=eO q:=by unfold ar;rw[bO,i]
  cases e:eO q with
  | true=>
    have F:=y' WH g r s f i WJ WI e;repeat refine g8 o ?_
    exact qn (j+1) ⟨b,dt (p:=fun k:Nat=>ar c k) a f (d.trans e)⟩
  | false=>
    rw[mW (p:=fun k:Nat=>ar c k) f (d.trans e),PU];have F:=y' WH g r s f i WJ WI e;exact nb o
 rintro v h g a;rw[tm a (by omega),PQ];have t:decide ((0:Int)< (l.length:Int))=decide (0<l.length):=by rw[PC];simp
 have F:=ai WH g;repeat refine st ?_
 (refine aO ?_;show (au _ _ _).run _=some _;simp only[go_sem,F])
 exact Oj B t
def JG(env:b7)(c:aq)(t:c.vars.length<=1000000)(i:Nat)(v:Uk)(h:c.vars[i]? =some v):cy prog env 36 [.agg (aA c),I i] (B (qI c i v)):=by
 have o:i<c.vars.length:=(OG.1 h).1;have r:=mc o;have f1:=iA env v.name;have f2:=G8 env v.start;refine qf func36 call36 ntmps36 results36 ?_;have F:=mX WH r h Xc;repeat refine st ?_
 refine lp (D:=Nat) (fun j m=>[(1,I i),(2, .loc 2 (m 2) 0 0),(5, .loc 5 (m 5) 0 0),(6,I j)]) (fun _ _=>[(2,⟨5,[aA c],26,false⟩),(5,⟨2,[iC v],125,false⟩)]) (fun j _ _=>j<=i/\newVar c v.name j=true) (fun j=>i-j) 0 ⟨O6 _,rfl⟩ ?_;rintro j u n ⟨s,b⟩;by_cases a:j<i
 ·obtain⟨x,d,_⟩:=aT (show j<c.vars.length by omega);have g:(c.vars.take i)[j]? =some x:=by rw[Om,OL a];exact d
  have f:=mc a;have l:=mc (show j<c.vars.length by omega);have k:=aD a (by omega);cases e:(x.name==v.name)
  ·have F:=vb WH f k l d Xc e;repeat refine st ?_
   exact qn (j+1) ⟨a,qV b d e⟩
  rw[show qI c i v=false by unfold qI newVar;rw[mW (p:=fun x:Uk=> !(x.name==v.name)) g (by rw[e];rfl)];rfl];have F:=vb WH f k l d Xc e;exact fl
 have f: ¬(j:Int)< (i:Int):=by omega
 obtain rfl:j=i:=by omega
 have q:qI c j v=(bT v.name&& !(v.name == [100,97,116,97])&& !(v.name == [105,110])&&aL v.start):=by
  unfold qI aL;rw[b];simp only[PQ,TE]
 rw[q];have F:=jw f Xc jF;exact po f1 f2
end
section
def Lj{a:Type} [DecidableEq a](l:List a):(0< (l.length:Int))=((l == [])=false):=by
 rw[eq_iff_iff];cases l<;>simp
def pn(c:aq)(i:Int)(a:c.Z9.length<=1000000):(aw c i true).length<=1000000:=O3 (dR c i true _) a
def zo(s:pc)(l:List Nat):(∀n:Int,(s.kind=n)=((s.kind==n)=true))/\(((s.kind==4)=true\/(s.kind==5)=true)=(ab s=true))/\((l=[])=((l == [])=true)):=by
 refine⟨fun n=>by simp,by simp[ab],by simp⟩
def Cl(env:b7)(c:aq)(a:c.Z9.length<=1000000)(i:Nat)(s:pc)(e:c.Z9[i]? =some s):cy prog env 37 [.agg (aA c),I i] (B (cG c i s)):=by
 have z:i<c.Z9.length:=(OG.1 e).1;have j:=mc z;have f1:=iA env s.name;have f2:=G9 env c s.name a;have f3:=pX env c s.ZW;have f4:=pX env c s.out;have f5:=pW env c (i:Int) true a;have f6:=pW env c (i:Int) false a;have f7:=fo env s;have f8:=Eh env (aw c i true) s.initial (pn c i a);have f9:=xa env c (aw c i true) (pn c i a) (fun k A=>(pm A).1);have p:=fJ (aw c i true);have r:=Lj (aw c i false);have t:=fJ s.out;have u:=fJ s.ZW;obtain⟨l,n,o⟩:=zo s (aw c i true);by_cases D:s.parent<c.Z9.length/\0<=s.parent
 ·obtain⟨m,y⟩:=gk D.2;obtain⟨q,v,_⟩:=aT (show m<c.Z9.length by omega);have f: ¬(m:Int)<0:=by omega
  have p4:(0:Int)<=m:=by omega
  have g:((m:Int) == -1)=false:=dY (by omega);have p3:=mc (show m<c.Z9.length by omega);have fn:=ig env q;have d:ar c (m:Int)=eO q:=by unfold ar;rw[bO,v]
  have h:=sQ env c s (by omega);have w:=pW env c (m:Int) true a;have x:=Eh env (aw c m true) s.initial (pn c m a);have b:decide ((m:Int)<i)= !decide ((i:Int)<=m):=by rw[PC];simp
  refine qf func37 call37 ntmps37 results37 ?_;by_cases p5:(i:Int)<=m
  ·have F:=fb WH WI j e y v f p3 p4 p5 g<|fb d p r t u l n o Xo Xh Xp<|jw b jF @ite_self.{1};exact Nt f1 f2 f3 f4 f5 f6 f7 f8 f9 fn h w x
  have F:=fb WH WI j e y v f p3 p4 p5 g<|fb d p r t u l n o Xo Xh Xp<|jw b jF @ite_self.{1};exact Nt f1 f2 f3 f4 f5 f6 f7 f8 f9 fn h w x
 refine qf func37 call37 ntmps37 results37 ?_;by_cases f:s.parent<0
 ·have h:=sQ env c s (by omega);have b: ¬0<=s.parent:=by omega
  have C:cu c s=false:=by unfold cu at_;rw[OK b]
  have F:=fb WH WI j e f b C p r t u<|L7 l n o Xo Xh Xp jF @ite_self.{1};exact Nz f1 f2 f3 f4 f5 f6 f7 f8 f9 h
 have b:(i:Int)<=s.parent:=by omega
 have p3: ¬s.parent<i:=by omega
 have p4:0<=s.parent:=by omega
 have g:(s.parent == -1)=false:=dY (by omega);have F:=fb WH WI j e f b p3 p4 g p r<|zs t u l n o Xo Xh Xp jF @ite_self.{1};exact WE f1 f2 f3 f4 f5 f6 f7 f8 f9
end
section
def G7(env:b7)(c:aq)(t:Fr):cy prog env 39 [.agg (aA c), .agg (cN t)] (B (d9 c t)):=by
 have f2:=iA env t.Z7;have f3:=wA env c t.guard;have f4:=pX env c t.ZZ;have j:=fJ t.guard;refine qf func39 call39 ntmps39 results39 ?_;by_cases d:t.src<0
 ·rw[show d9 c t=false by unfold d9 ar at_;rw[OK (show ¬0<=t.src by omega)];rfl];have F:=jw WH WP d;exact fl
 obtain⟨m,b⟩:=gk (show 0<=t.src by omega);have d: ¬(m:Int)<0:=by omega
 by_cases i:c.Z9.length<=m
 ·have a:(c.Z9.length:Int)<=(m:Int):=by omega
  rw[show d9 c t=false by unfold d9 ar;rw[b,bO,OT i];rfl];have F:=ld WH WP b d a;exact fl
 have a: ¬(c.Z9.length:Int)<=(m:Int):=by omega
 have g:=mc (show m<c.Z9.length by omega);obtain⟨q,e,_⟩:=aT (show m<c.Z9.length by omega);have f1:=ig env q;have f:ar c t.src=eO q:=by unfold ar;rw[b,bO,e]
 have h:d9 c t=(eO q&&((t.Z7 == [])||bT t.Z7)&&((t.guard == [])||cP t.guard c.vars.length c.Z9.length)&&eR c.vars.length c.Z9.length t.ZZ&&((t.target == -1)||(decide (0<=t.target)&&decide (t.target<c.Z9.length)))):=by unfold d9;rw[f]
 rw[h];by_cases p3:t.target< -1
 ·rw[show ((t.target == -1)||(decide (0<=t.target)&&decide (t.target<c.Z9.length)))=false by rw[dY (show t.target≠ -1 by omega),Oi (show ¬0<=t.target by omega)];rfl,P0];have F:=y' WH WP WI b e d a g p3;exact nb f1
 by_cases p4:(c.Z9.length:Int)<=t.target
 ·rw[show ((t.target == -1)||(decide (0<=t.target)&&decide (t.target<c.Z9.length)))=false by rw[dY (show t.target≠ -1 by omega),Oi (show ¬t.target<c.Z9.length by omega)];simp,P0];have F:=zs WH WP WI b e d a g p3 p4;exact nb f1
 rw[show ((t.target == -1)||(decide (0<=t.target)&&decide (t.target<c.Z9.length)))=true by rw[PS,OJ];simp;omega,Bool.and_true];have F:=fb WH WP WI b e d a g p3 p4 j jF;exact Wi f1 f2 f3 f4
abbrev VO(c:aq):AV:= .tuple [I (qs c).1,I (qs c).2]
def dr{c:aq}{x:Int×Int}(h:qs c=x):VO c= .tuple [I x.1,I x.2]:=by unfold VO;rw[h]
def Cn(env:b7)(c:aq):cy prog env 12 [.agg (aA c)] (VO c):=by
 have h:=iA env c.name;have T:=fJ c.Z9;refine qf func12 call12 ntmps12 results12 ?_;by_cases U:32<c.Z9.length
 ·have w:(32:Int)< (c.Z9.length:Int):=by omega
  rw[dr (show qs c=(8, -1) by unfold qs;rw[OL (.inl U)])];have F:=ai WH w;exact fl
 have w: ¬(32:Int)< (c.Z9.length:Int):=by omega
 by_cases V:64<c.trans.length
 ·have y:(64:Int)< (c.trans.length:Int):=by omega
  rw[dr (show qs c=(8, -1) by unfold qs;rw[OL (.inr (.inl V))])];have F:=jw WH w y;exact fl
 have y: ¬(64:Int)< (c.trans.length:Int):=by omega
 by_cases W:8<c.vars.length
 ·have C:(8:Int)< (c.vars.length:Int):=by omega
  rw[dr (show qs c=(8, -1) by unfold qs;rw[OL (.inr (.inr W))])];have F:=mX WH w y C;exact fl
 have C: ¬(8:Int)< (c.vars.length:Int):=by omega
 have M: ¬(32<c.Z9.length\/64<c.trans.length\/8<c.vars.length):=by omega
 cases A:(c.Z9 == [])
 case true=>
  rw[dr (show qs c=(1, -1) by unfold qs;rw[OK M,OL (.inl (by simpa using A))])];have F:=pf WH w y C T A;exact nb h
 cases G:bT c.name
 ·rw[dr (show qs c=(1, -1) by unfold qs;rw[OK M,OL (.inr G)])];have F:=vb WH w y C T A G;exact nb h
 have N: ¬(c.Z9=[]\/bT c.name=false):=by
  rw[G];simpa using A
 have f:qs c=(match bC (jq c) c.vars.length with
  |some i=>(1,2000+(i:Int))
  | none=>match bC (lm c) c.Z9.length with
    |some i=>(1,(i:Int))
    | none=>if mb c=false then(1, -1) else match bC (rJ c) c.trans.length with
      |some i=>(1,1000+(i:Int))
      |none=>(0, -1)):=by
  unfold qs;rw[OK M,OK N];rfl
 have F:=vb WH w y C T A G;repeat refine g8 h ?_
 refine aN (D:=Nat) (fun i E=>[(1, .loc 1 (E 1) 0 0),(4,I i)]) (fun _ _=>[(1,⟨5,[aA c],26,false⟩)]) (fun i _ _=>i<=c.vars.length/\ ∀j,j<i->jq c j=true) (fun i=>c.vars.length-i) 0 ?_ ?_ ?_ ?_
 ·exact⟨O6 _,fun j B=>by omega⟩
 ·exact qe
 ·have F:=aA.eq_1;exact qe
 rintro i z l ⟨J,a⟩;by_cases b:i<c.vars.length
 ·obtain⟨v,Q,_⟩:=aT b;have g:=mc b;have r:=aD b (by omega);have d:=JG env c (by omega) i v Q;cases e:qI c i v
  ·have S:IntKind.i64.wrap (2000+(i:Int))=2000+(i:Int):=bB (by omega) (by omega);rw[dr (show qs c=(1,2000+(i:Int)) by rw[f,dM b a (by rw[ll Q];exact e)])];have F:=ld WH g r S e;exact nb d
  have F:=mX WH g r e;repeat refine g8 d ?_
  refine⟨i+1,⟨b,gZ a (by rw[ll Q];exact e)⟩,?_,?_,?_⟩
  ·exact qe
  ·have F:=aA.eq_1;exact qe
  omega
 have g: ¬(i:Int)< (c.vars.length:Int):=by omega
 have R:bC (jq c) c.vars.length=none:=bN fun j B=>a j (by omega);rw[R]at f;have F:=ai WH g;repeat refine st ?_
 refine aN (D:=Nat) (fun i E=>[(1, .loc 1 (E 1) 0 0),(5,I i)]) (fun _ _=>[(1,⟨5,[aA c],26,false⟩)]) (fun i _ _=>i<=c.Z9.length/\ ∀j,j<i->lm c j=true) (fun i=>c.Z9.length-i) 0 ?_ ?_ ?_ ?_
 ·exact⟨O6 _,fun j B=>by omega⟩
 ·exact qe
 ·have F:=aA.eq_1;exact qe
 try clear z l J a g b i
 rintro i z l ⟨J,a⟩;by_cases b:i<c.Z9.length
 ·obtain⟨s,O,_⟩:=aT b;have g:=mc b;have r:=aD b (by omega);have d:=Cl env c (by omega) i s O;cases e:cG c i s
  ·rw[dr (show qs c=(1,(i:Int)) by rw[f,dM b a (by rw[pB O];exact e)])];have F:=mX WH g r e;exact nb d
  have F:=mX WH g r e;repeat refine g8 d ?_
  refine⟨i+1,⟨b,gZ a (by rw[pB O];exact e)⟩,?_,?_,?_⟩
  ·exact qe
  ·have F:=aA.eq_1;exact qe
  omega
 have g: ¬(i:Int)< (c.Z9.length:Int):=by omega
 have P:bC (lm c) c.Z9.length=none:=bN fun j B=>a j (by omega);rw[P]at f;by_cases X:c.initial<0
 ·have p:mb c=false:=by unfold mb at_;rw[OK (by omega)]
  rw[dr (show qs c=(1, -1) by rw[f,OL p])];have F:=jw WH g X;exact fl
 obtain⟨m,u⟩:=gk (show 0<=c.initial by omega);have o: ¬(m:Int)<0:=by omega
 by_cases L:(c.Z9.length:Int)<=(m:Int)
 ·have p:mb c=false:=by unfold mb;rw[u,bO,OT (by omega)]
  rw[dr (show qs c=(1, -1) by rw[f,OL p])];have F:=ld WH g u o L;exact fl
 have p3:=mc (show m<c.Z9.length by omega);obtain⟨q,K,_⟩:=aT (show m<c.Z9.length by omega);have k:=ig env q;have n:mb c=((q.parent == -1)&&eO q):=by unfold mb;rw[u,bO,K]
 cases x:(q.parent == -1)
 ·rw[dr (show qs c=(1, -1) by rw[f,OL (by rw[n,x];rfl)])];have F:=zs WH WI g u o L p3 K x jF;exact nb k
 cases H:eO q
 ·rw[dr (show qs c=(1, -1) by rw[f,OL (by rw[n,x,H];rfl)])];have F:=u4 WH WI g u o L p3 K x H jF;exact nb k
 rw[OK (by rw[n,x,H];simp)]at f;have F:=u4 WH WI g u o L p3 K x H jF;repeat refine g8 k ?_
 have F:=ai WH u;refine lq c.trans.length (by omega) (fun i E=>[(1, .loc 1 (E 1) 0 0),(6,I i)]) (fun _ _=>[(1,⟨5,[aA c],26,false⟩)]) (fun i _ _=> ∀j,j<i->rJ c j=true) (fun j B=>by omega) ?_ ?_
 ·try clear z l J a g b i
  rintro i z l b g r a;obtain⟨t,p,_⟩:=aT b;have d:=G7 env c t;cases e:d9 c t
  ·have S:IntKind.i64.wrap (1000+(i:Int))=1000+(i:Int):=bB (by omega) (by omega);rw[dr (show qs c=(1,1000+(i:Int)) by rw[f,dM b a (by rw[pA p];exact e)])];have F:=vb WH WP g r S p e;exact nb d
  have F:=pf WH WP g r p e;repeat refine g8 d ?_
  refine⟨i+1,⟨b,gZ a (by rw[pA p];exact e)⟩,?_,?_,?_⟩
  ·exact qe
  ·have F:=aA.eq_1;exact qe
  omega
 try clear z l J a g b i
 rintro z l g a;rw[dr (show qs c=(0, -1) by rw[f,bN fun j B=>a j (by omega)])];have F:=ai WH g;exact fl
end
section
def d7{c:aq}(h:Right c)(i:Int)(a:Bool):(aw c i a).length<=32:=by
 have b:=dR c i a c.Z9.length;have d:=h.Z6;have b:(aw c i a).length<=c.Z9.length:=b;omega
def Io{c:aq}(h:Right c){i:Int}(hi: -1<=i):(mv c i).length<=32:=by
 have b:=h.Z6;have:=(kF h 40 i hi (by omega)).length_le_of_subset (l₂:=List.range c.Z9.length) fun m a=>Oh.2 ((jd h 40 i m hi (by omega)).1 a).1;simp at this;omega
end
end Go.Proofs.YtfcdkaolcdglmaaGreatDoor
