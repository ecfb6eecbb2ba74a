/- scriniumref24.Tran, Check: by the walk without memory. -/
import Derived.Test.YtfhkmjbjafeckaaGreatDoorQ15
set_option maxRecDepth 100000
set_option maxHeartbeats 16000000
set_option linter.unusedSimpArgs false
set_option linter.defProp false
namespace Go.Proofs.YtfhkmjbjafeckaaGreatDoor
open Go.Proofs.Tryz
open Go.RowKit
section
def db(c:aq)(j:Nat)(vs:Nat->Nat):List (List AV):=(cR c j).mapIdx fun q p=>[.agg [I p.1,I p.2], .row (q+6000) (vs (q+6000))]
def j0(c:aq)(j:Nat):List Row:=(cR c j).map fun p=>⟨1,(ir c j p).map aB,3,true⟩
def fO(c:aq):List (List AV):=(cR c c.trans.length).map fun p=>[.agg [I p.1,I p.2], .seq 1 ((ir c c.trans.length p).map aB)]
def rG(c:aq)(j:Nat):List (List AV):=(List.range j).map fun i=>[.seq 1 ((Se c i).map aB)]
def cy(c:aq):List AV:=[Sg c.name,I c.initial,qa c.vars,rv c.Z9,tg c.trans,aQ c, .seq 1 ((H' c).map gN), .fmap (fO c), .seq 1 (rG c c.Z9.length)]
def UL:=@cy.eq_1
def aG(c:aq):AV:= .ref 9 [cy c] 0 0
def UN:=@aG.eq_1
def iE(c:aq)(j:Nat)(vs:Nat->Nat):(db c j vs).length=(cR c j).length:=by simp[db]
def dw(c:aq)(j:Nat)(vs:Nat->Nat)(q:Nat):(db c j vs)[q]? =((cR c j)[q]?).map fun p=>[.agg [I p.1,I p.2], .row (q+6000) (vs (q+6000))]:=by simp[db]
def cJ(c:aq)(j q:Nat):(j0 c j)[q]? =((cR c j)[q]?).map fun p=>⟨1,(ir c j p).map aB,3,true⟩:=by simp[j0]
def zA(p:Int×Int)(f:Nat->AV): ∀(l:List (Int×Int))(i:Nat),sm prog 127 (.agg [I p.1,I p.2]) (l.mapIdx fun q k=>[.agg [I k.1,I k.2],f q]) i=some (rq p l i)
 |[],i=>rfl
 |(a,b)::l,i=>by
   have m:=zA p (fun q=>f (q+1)) l (i+1);obtain⟨c,d⟩:=p;rw[List.mapIdx_cons];by_cases h:c=a/\d=b
   ·obtain⟨rfl,rfl⟩:=h;have g:(c==c)=true:=by simp
    have j:(d==d)=true:=by simp
    simp only[go_sem,ru,cZ,g,j,rq]
   have g:(c==a&&(d==b))=false:=by
    rw[Pb];intro e;simp only[Mx,OQ]at e;exact h e
   have j: ¬((c,d):Int×Int)=(a,b):=fun e=>h (by simpa using e);simp only at m;simp only[go_sem,ru,cZ,g,rq,j,m]
def HS(c:aq)(j:Nat)(vs:Nat->Nat)(a b:Int):sm prog 127 (.agg [I a,I b]) (db c j vs) 0=some (rq (a,b) (cR c j) 0):=zA (a,b) (fun q=> .row (q+6000) (vs (q+6000))) (cR c j) 0
def FR(c:aq)(a b:Int):sm prog 127 (.agg [I a,I b]) (fO c) 0=some (rq (a,b) (cR c c.trans.length) 0):=by
 have:fO c=(cR c c.trans.length).mapIdx fun q k=>[.agg [I k.1,I k.2],((fO c)[q]?.bind (·[1]?)).getD .any]:=by
  apply Nv;intro q;rw[List.getElem?_mapIdx];unfold fO;rw[NE];cases (cR c c.trans.length)[q]? with
  |none=>rfl
  |some p=>rfl
 rw[this];exact zA (a,b) _ _ 0
/-! The state at the head of the loop -/
def o5(c:aq)(g:Nat->Nat):Row:=⟨9,[[Sg c.name,I c.initial,qa c.vars,rv c.Z9,tg c.trans,aQ c, .seq 1 ((H' c).map gN), .mp 25 (g 25),b6]],124,false⟩
def UP:=@o5.eq_1
def RA(c:aq)(j:Nat)(g:Nat->Nat):List (Nat×Row):=(1,⟨5,[aA c],26,false⟩)::(27,o5 c g)::(25,⟨0,db c j g,121,false⟩)::k5 6000 (j0 c j)
def UH:=@RA.eq_1
def od(c:aq)(j:Nat)(q:Nat):au (k5 6000 (j0 c j)) (q+6000)=(j0 c j)[q]? :=by
 rw[oJ,Mw (by omega),show q+6000-6000=q by omega]
def Di{c:aq}{j q:Nat}{p:Int×Int}{g g':Nat->Nat}(f:cR c (j+1)=cR c j)(a:(cR c j)[q]? =some p)(b: ∀k,k≠q->g' (k+6000)=g (k+6000)){v:Nat}(d:g' (q+6000)=v):(db c j g).set q [.agg [I p.1,I p.2], .row (q+6000) v]=db c (j+1) g':=by
 apply Nv;intro k;rw[O0,dw,dw,iE,f];by_cases e:q=k
 ·subst e;rw[Mw rfl,Mw (Mt.1 a).1,a, <-d];rfl
 ·rw[Mv e];cases (cR c j)[k]? with
  |none=>rfl
  |some h=>simp only[NU,b k (Oq e)]
def Dg{c:aq}{j q:Nat}{p:Int×Int}{g:Nat->Nat}(a:(cR c j)[q]? =some p):(db c j g).set q [.agg [I p.1,I p.2], .row (q+6000) (g (q+6000))]=db c j g:=by
 apply Nv;intro k;rw[O0,dw,iE];by_cases e:q=k
 ·subst e;rw[Mw rfl,Mw (Mt.1 a).1,a];rfl
 rw[Mv e]
def Dh{c:aq}{j:Nat}{g g':Nat->Nat}(f:cR c (j+1)=cR c j++[dL c j])(b: ∀k,k< (cR c j).length->g' (k+6000)=g (k+6000)){v:Nat}(d:g' ((cR c j).length+6000)=v):db c j g++[[.agg [I (dL c j).1,I (dL c j).2], .row ((cR c j).length+6000) v]]=db c (j+1) g':=by
 apply Nv;intro k;rw[dw,f];by_cases a:k< (cR c j).length
 ·rw[N9 (by rw[iE];exact a),N9 a,dw,Ms a];simp only[NU,b k a]
 rw[NY (by rw[iE];omega),NY (by omega),iE];by_cases e:k=(cR c j).length
 ·subst e;simp[d]
 rw[NL (by simp;omega),NL (by simp;omega)];rfl
def y9{c:aq}{j q:Nat}{p:Int×Int}(r:cR c (j+1)=cR c j)(m:dL c j=p)(s:(cR c j).Nodup)(n:(cR c j)[q]? =some p)(k:Nat):(j0 c (j+1))[k]? =if k=q then some ⟨1,(ir c j p).map aB++[[I j]],3,true⟩ else(j0 c j)[k]? :=by
 rw[cJ,cJ,r];by_cases e:k=q
 ·subst e;rw[Mw rfl,n];simp only[NU,ol,m,Nn,NC,Nh,O3,aB]
 ·rw[Mv e];cases d:(cR c j)[k]? with
  |none=>rfl
  | some t=>
    have f: ¬p=t:=fun o=>by
     subst o;obtain⟨g,i⟩:=Mt.1 n;obtain⟨h,l⟩:=Mt.1 d;have b:=Nk.1 (Od.1 s);rcases Py k q with a|a|a
     ·exact b k q h g a (l.trans i.symm)
     ·exact e a
     exact b q k g h a (i.trans l.symm)
    simp only[NU,ol,m,Mv f]
def y8{c:aq}{j:Nat}(g:cR c (j+1)=cR c j++[dL c j])(b:dL c j∉cR c j)(k:Nat):(j0 c (j+1))[k]? =if k=(cR c j).length then some ⟨1,[[I j]],3,true⟩ else(j0 c j)[k]? :=by
 rw[cJ,cJ,g];by_cases e:k=(cR c j).length
 ·subst e;simp only[Nn,NY (ND _),QA,Nr,NU,ol,ud b,PY,Nh,O3,aB]
 rw[Mv e];by_cases a:k< (cR c j).length
 ·rw[N9 a,Ms a];have d: ¬dL c j=(cR c j)[k]:=fun f=>b (f ▸ Oo a);simp only[NU,ol,Mv d]
 rw[NL (by simp;omega),NL (by omega)];rfl
def FA(c:aq)(j:Nat)(g:Nat->Nat):List (Nat×AV):=[(1, .loc 1 (g 1) 0 0),(2, .lit (.pointer none)),(3, .lit .nilIface),(4,aQ c),(6, .loc 27 (g 27) 0 0),(32,tg c.trans),(33,I c.trans.length),(34,I j)]
def UV:=@FA.eq_1
def RN(c:aq)(j:Nat)(g:Nat->Nat):List (Nat×Row):=(1,⟨5,[aA c],26,false⟩)::(27,o5 c g)::(25,⟨0,db c j g++[[.agg [I (dL c j).1,I (dL c j).2], .row 55 (g 55)]],121,false⟩)::(55,⟨1,[[I j]],3,true⟩)::k5 6000 (j0 c j)
def HV(c:aq)(j:Nat)(vs:Nat->Nat){g gm:Nat->Nat->Option AV}(h: ∀q v,g (q+6000) v=none):(db c j vs).map (·.map (AV.see g gm))=db c j vs:=by
 apply Nv;intro q;rw[NE,dw];cases (cR c j)[q]? with
 |none=>rfl
 |some p=>simp only[NU,Nh,O3,AV.see,AV.see.seeL,h,PH]
def C8(c:aq)(vs:Nat->Nat){g gm:Nat->Nat->Option AV}(h: ∀v,gm 25 v=none):(o5 c vs).see g gm=o5 c vs:=by
 simp only[Row.see,o5,Nh,O3,AV.see,AV.see.seeL,h,PH,aQ,NW,OB]
def En(c:aq){g gm:Nat->Nat->Option AV} :(aA c).map (AV.see g gm)=aA c:=rfl
def lc{s:St}{r r2:Nat}{row:Row}{k:Nat} :(eP s r r2 row).rows k=if k=r2 then some row else if k=r then none else(s.rows k).map (Row.see (om r (s.vs r) r2 (s.vs r2+1)) fun _ _=>none):=rfl
def Gc(v n a q w:Nat):om 55 v n a (q+6000) w=none:=by unfold om;rw[Mv (by omega)]
def Kx{c:aq}{j:Nat}(h:cR c (j+1)=cR c j++[dL c j])(l:dL c j∉cR c j)(F:Nat){g:Nat->Nat}{e:Nat->Bool}(x:e 27=false): ∃g' u,u 27=false/\dg (head (FA c F g) (RN c j g) g e) (head (FA c F g') (RA c (j+1) g') g' u):=by
 generalize i:(cR c j).length=n at*;have o:(j0 c j)[n]? =none:=by rw[cJ,NL (by omega)];rfl
 have d:(head (FA c F g) (RN c j g) g e).rows 55=some ⟨1,[[I j]],3,true⟩:=by simp[head,RN,au]
 have a:(head (FA c F g) (RN c j g) g e).rows (n+6000)=none:=by
  have:=od c j n;rw[o]at this;simp only[head,RN,au];rw[Mv (by omega),Mv (by omega),Mv (by omega),Mv (by omega),this]
 have t1:=dg.ren (s:=head (FA c F g) (RN c j g) g e) 55 (n+6000) ⟨1,[[I j]],3,true⟩ (by omega) d a (Ng 0) rfl;have f: ∀t,t≠n+6000->m6 g (n+6000) (g (n+6000)+1) t=g t:=fun t y=>cU _ _ _ y;refine⟨m6 g (n+6000) (g (n+6000)+1),m6 e (n+6000) (e 55),by rw[cU _ _ _ (by omega)];exact x,t1.trans (dg.head ?_ ?_)⟩
 ·simp only[cP,FA,eP,head,nZ,AV.see,aQ,f 1 (by omega),f 27 (by omega),Nn,Nat.reduceEqDiff,OB,NH,reduceCtorEq]
 refine⟨?_,?_,?_,rk fun q r b=> ?_⟩
 ·show (eP _ _ _ _).rows 1=some _;rw[lc,Mv (by omega),Mv (by omega)];simp only[head,RN,au,Nn,NU,Row.see,Nh,O3,En,NW,OB]
 ·show (eP _ _ _ _).rows 27=some _;rw[lc,Mv (by omega),Mv (by omega)];simp only[head,RN,au,Nn,NU,Nat.reduceEqDiff,OB];rw[C8 _ _ fun _=>rfl];simp only[o5,f 25 (by omega)]
 ·show (eP _ _ _ _).rows 25=some _;rw[lc,Mv (by omega),Mv (by omega)];simp only[head,RN,au,Nn,NU,Nat.reduceEqDiff,OB,Row.see,NW,NC,Nh,O3];rw[HV _ _ _ fun q v=>Gc ..];have:=Dh (c:=c) (j:=j) (g:=g) (g':=m6 g (n+6000) (g (n+6000)+1)) h (fun k h=>f _ (by omega)) (v:=g (n+6000)+1) (by rw[i,aw]);rw[i]at this;rw[<-this];simp[AV.see,AV.see.seeL,om]
 rw[y8 h l,i]at b;show (eP _ _ _ _).rows (q+6000)=some _;rw[lc];by_cases w:q=n
 ·subst w;rw[Mw rfl]at b |-;exact b
 rw[Mv w]at b;rw[Mv (by omega),Mv (by omega)];simp only[head,RN,au];rw[Mv (by omega),Mv (by omega),Mv (by omega),Mv (by omega),od,b]
 have m:r.pure=true:=by
  rw[cJ]at b;obtain⟨p,_,rfl⟩:=OK.1 b;rfl
 simp only[NU,Row.see,m,Nn]
/-! The map, frozen -/
def nH{g:Nat->Nat}{r v:Nat} : ∀ {l:List Row}{b:Nat},fV (oj g (k5 b l)) r v=if b<=r/\v=g r then(l[r-b]?).map fun row=> .seq row.sz row.es else none
 |[],b=>by simp[k5,oj,fV]
 | x::l,b=>by
   have d:=nH (g:=g) (r:=r) (v:=v) (l:=l) (b:=b+1);simp only[oj]at d;simp only[k5,oj,Nh,fV,d];by_cases h:r=b
   ·subst h;by_cases a:v=g r
    ·subst a;simp
    simp[a]
   rw[Mv fun e=>h e.1];by_cases c:b+1<=r
   ·by_cases a:v=g r
    ·rw[Mw ⟨c,a⟩,Mw ⟨by omega,a⟩,show r-b=(r-(b+1))+1 by omega,Of]
    rw[Mv fun e=>a e.2,Mv fun e=>a e.2]
   rw[Mv fun e=>c e.1,Mv fun e=>by omega]
def M5(c:aq):Row:=⟨9,[[Sg c.name,I c.initial,qa c.vars,rv c.Z9,tg c.trans,aQ c, .seq 1 ((H' c).map gN), .fmap (fO c),b6]],124,false⟩
def Dw{c:aq}(F:Nat){g:Nat->Nat}{e:Nat->Bool}(w:e 27=false): ∃l,l 27=false/\dg (head (FA c F g) (RA c c.trans.length g) g e) (head (FA c F g) [(1,⟨5,[aA c],26,false⟩),(27,M5 c)] g l):=by
 generalize y:c.trans.length=n at*
 have u:rj (head (FA c F g) (RA c n g) g e) (oj g (k5 6000 (j0 c n))):=by
  intro p k;obtain⟨x,b,rfl⟩:=NG.1 k;obtain⟨q,d,m⟩:=nJ b;refine⟨rfl,x.2,?_,?_,?_,rfl⟩
  ·simp only[head,RA,au,m];rw[Mv (by omega),Mv (by omega),Mv (by omega),od];exact d
  ·rw[cJ]at d;obtain⟨p,_,f⟩:=OK.1 d;rw[<-f];exact Ng 0
  rw[cJ]at d;obtain⟨p,_,f⟩:=OK.1 d;rw[<-f]
 have t1:=dg.sees _ u
 have j:(db c n g).map (·.map (AV.see (fV (oj g (k5 6000 (j0 c n)))) fun _ _=>none))=fO c:=by
  apply Nv;intro q;unfold fO;rw[y,NE,dw,NE];cases z:(cR c n)[q]? with
  |none=>rfl
  | some p=>
    have A:fV (oj g (k5 6000 (j0 c n))) (q+6000) (g (q+6000))=some (.seq 1 ((ir c n p).map aB)):=by
     rw[nH,Mw ⟨by omega,rfl⟩,show q+6000-6000=q by omega,cJ,z];rfl
    simp only[NU,Nh,O3,AV.see,AV.see.seeL,A,OJ]
 have o: ∀r v,r<6000->fV (oj g (k5 6000 (j0 c n))) r v=none:=fun r v h=>by
  rw[nH,Mv fun e=>by omega]
 generalize i:fV (oj g (k5 6000 (j0 c n)))=G at*
 have t2:dg (k6 (head (FA c F g) (RA c n g) g e) (oj g (k5 6000 (j0 c n)))) (head (FA c F g) [(1,⟨5,[aA c],26,false⟩),(27,o5 c g),(25,⟨0,fO c,121,false⟩)] g _):=dg.head (s:=k6 (head (FA c F g) (RA c n g) g e) (oj g (k5 6000 (j0 c n)))) (by
  simp only[cP,FA,k6,head,nZ,AV.see,aQ,Nn,Nat.reduceEqDiff,OB,NH,reduceCtorEq]) (by
  refine⟨?_,?_,?_,trivial⟩
  ·simp only[k6,i,head,RA,au,Nn,NU,Row.see,Nh,O3,En,NW,OB]
  ·simp only[k6,i,head,RA,au,Nn,NU,Nat.reduceEqDiff,OB];rw[C8 _ _ fun _=>rfl]
  simp only[k6,i,head,RA,au,Nn,NU,Nat.reduceEqDiff,OB,Row.see,NW,j])
 have a:(k6 (head (FA c F g) (RA c n g) g e) (oj g (k5 6000 (j0 c n)))).esc 27=false:=by
  show (e 27||_)=false;rw[w,PF,Q0];intro p k;obtain⟨x,b,rfl⟩:=NG.1 k;obtain⟨q,_,m⟩:=nJ b;simp;omega
 have t3:=t1.trans t2;generalize (k6 (head (FA c F g) (RA c n g) g e) (oj g (k5 6000 (j0 c n)))).esc=t at t3 a
 have t4:=t3.trans (dg.mapSee 25 ⟨0,fO c,121,false⟩ (by simp[head,au]) rfl (by
  rw[NB];intro x b;unfold fO at b;obtain⟨p,_,rfl⟩:=NG.1 b
  rfl))
 refine⟨t,a,t4.trans (dg.head ?_ ?_)⟩
 ·simp only[cP,FA,zo,head,nZ,AV.see,aQ,Nn,Nat.reduceEqDiff,OB,NH,reduceCtorEq]
 refine⟨?_,?_,trivial⟩
 ·simp only[zo,head,au,Nn,NU,Nat.reduceEqDiff,OB,Row.see,Nh,O3,En,NW]
 simp only[zo,head,au,Nn,NU,Nat.reduceEqDiff,OB,Row.see,o5,M5,Nh,O3,AV.see,aQ,NW,NH,OJ]
end
section
def jq(c:aq):(aQ c).plain=true:=rfl
def Ly(l:List Nat):l.map aB=(zL l).map aa:=by simp[aB,zL]
def Df(c:aq)(vs:Nat->Nat):db c 0 vs=[]:=rfl
def y7(c:aq):j0 c 0=[]:=rfl
def Am{c:aq}{j:Nat}{g g':Nat->Nat}(h: ∀k,g (k+6000)=g' (k+6000)):db c j g=db c j g':=by
 apply Nv;intro q;rw[dw,dw,h]
def Ga{c:aq}{j:Nat}{s:St}{Q:St->Prop}(o:cR c (j+1)=cR c j++[dL c j])(a:dL c j∉cR c j)(k:cP s (FA c (j+1) s.vs))(m:br s (RN c j s.vs))(n:s.esc 27=false)
 (l: ∀g e,e 27=false->Q (head (FA c (j+1) g) (RA c (j+1) g) g e)): ∃b,dg s b/\Q b:=by
 obtain⟨f,d,h,i⟩:=Kx o a (j+1) (g:=s.vs) (e:=s.esc) n;exact⟨_,(dg.head k m).trans i,l f d h⟩
def Lj(c:aq)(F:Nat)(g:Nat->Nat)(R:List (Nat×Row))(e:Nat->Bool):cP (head (FA c F g) R g e) (FA c F g):=by
 simp only[cP,FA,head,nZ,Nn,Nat.reduceEqDiff,OB,NH,reduceCtorEq]
def Lf(c:aq)(j:Nat)(g:Nat->Nat)(F:List (Nat×AV))(e:Nat->Bool):br (head F (RA c j g) g e) (RA c j g):=by
 refine⟨?_,?_,?_,rk fun q r a=> ?_⟩
 ·simp only[head,RA,au,Nn]
 ·simp only[head,RA,au,Nn,Nat.reduceEqDiff,OB]
 ·simp only[head,RA,au,Nn,Nat.reduceEqDiff,OB]
 simp only[head,RA,au];rw[Mv (by omega),Mv (by omega),Mv (by omega),od,a]
def wV(env:cf)(a1 a8:Addr)(U:gb env a1 a8)(hT: ∀W,env.inv W->r5 W)(c:aq)(B:n9 c=(0, -1))(T:jL c):b8 prog env 26 [.agg (aA c)] (.tuple [aG c, .lit .nilIface]):=by
 have h0:(n9 c).1=0:=by rw[B]
 have h:=Sk h0;have hs:=og h0;have hlen:=h.Z6;have htr:=h.ZO;have f0:=Ii env a1 a8 U hT c h.toRight (xy B) T;have f1:=pw env c hs;have f2:=Dz env c (by omega);refine qf func26 call26 ntmps26 results26 ?_;have F:=aA.eq_1;repeat refine Sw f0 f1 f2 ?_
 refine cV [(24,⟨1,(H' c).map gN,9,true⟩)] ?_ ?_
 ·exact qe
 refine aH (D:=Nat) (fun j A=>FA c j A) (fun j A=>RA c j A) (fun j _ d=>j<=c.trans.length/\d 27=false) (fun j=>c.trans.length-j) 0 ?_ ?_ ?_ ?_
 ·exact⟨NJ _,rfl⟩
 ·have F:=ai UV UQ;exact qe
 ·have F:=kv UH UP UQ @Df @y7 Us
  (simp only[go_sem,k5,F])
 try clear f0 f1 f2
 rintro j f d ⟨hj,m⟩;by_cases a:j<c.trans.length
 ·obtain⟨t,Z⟩:=gE a;have n:=ip a;have s:=aD a (by omega);have fE:=(xi env c (by omega) .any b6 t.Z7).lend rfl;have o:dL c j=(t.src,Ss c t.Z7):=by unfold dL;rw[Z]
  have K:=HS c j f t.src (Ss c t.Z7);have w:=iE c j f;generalize Ss c t.Z7=e at*;refine dy ?_;cases L:rq (t.src,e) (cR c j) 0 with
  | none=>
    rw[L]at K;have G:dL c j∉cR c j:=by rw[o];exact lu L
    have J:cR c (j+1)=cR c j++[dL c j]:=by
     show (if dL c j∈cR c j then _ else _)=_;rw[Mv G]
    have Y: ∀x y:List AV,(db c j f++[x]).set (cR c j).length y=db c j f++[y]:=fun x y=>by rw[<-w];simp
    have P: ∀x:List AV,(db c j f++[x])[(cR c j).length]? =some x:=fun x=>by rw[<-w];simp
    have F:=ed UV UH UP Us Uv n s Z @jq K w<|gs Y P m;repeat refine st ?_
    refine lL fE ?_;repeat refine st ?_
    refine Ga J G ?_ ⟨?_,?_,?_,?_,rk fun q r z=> ?_⟩ ?_ fun g e U=>⟨j+1,⟨a,U⟩,?_,?_,by omega⟩
    ·have F:=i0 UV UH Us s;exact qe
    ·(simp only[go_sem,FA,RA,aA,s])
    ·have F:=i0 UH RN.eq_1 UP Us;exact qe
    ·have F:=ii UH RN.eq_1 UP Us o
     (simp only[go_sem,F])
     exact N7 (fun O=>(⟨0,O++_,_,false⟩:Row)) (Am fun k=>by simp only[go_sem])
    ·have F:=ai UH RN.eq_1;exact qe
    ·have C:=od c j q;rw[z]at C;have F:=ai UH C;exact qe
    ·have F:=ai UH m;exact qe
    ·exact Lj c (j+1) g _ e
    exact Lf c (j+1) g _ e
  | some q=>
    rw[L]at K;have b:=(qJ L).2;rw[P9]at b;have X:dL c j∈cR c j:=by rw[o];exact My b
    have J:cR c (j+1)=cR c j:=by
     show (if dL c j∈cR c j then _ else _)=_;rw[Mw X]
    have Q:(db c j f)[q]? =some [.agg [I t.src,I e], .row (q+6000) (f (q+6000))]:=by rw[dw,b];rfl
    have l:(db c j f).set q [.agg [I t.src,I e], .row (q+6000) (f (q+6000))]=db c j f:=Dg (p:=(t.src,e)) b;have v:=od c j q;rw[cJ,b]at v;simp only[NU]at v;have hrl:=FE c j (t.src,e);have V:dd ((ir c j (t.src,e)).length+1) 8:=aC (by omega) (by omega);have F:=ed UV UH UP Us Uv n s Z @jq K Q<|i0 l v V m;repeat refine st ?_
    refine lL fE ?_;repeat refine st ?_
    refine⟨_,dg.refl _,j+1,⟨a,?_⟩,?_,⟨?_,?_,?_,rk fun k r z=> ?_⟩,by omega⟩
    ·exact qe
    ·have F:=i0 UV UH Us s;exact qe
    ·have F:=gs UH UP Us;exact qe
    ·have F:=gs UH UP Us;exact qe
    ·have F:=i0 UH UP Us l
     (simp only[go_sem,F])
     exact N7 (fun O=>(⟨0,O,_,false⟩:Row)) (Di (p:=(t.src,e)) J b (fun k E=>by rw[cU _ _ _ (by omega),cU _ _ _ (by omega),cU _ _ _ (by omega),cU _ _ _ (by omega)]) (aw ..))
    rw[y9 J o (nX c j) b k]at z;by_cases N:k=q
    ·subst N;rw[Mw rfl]at z;cases z;have F:=gs UH UP Us;exact qe
    rw[Mv N]at z;have C:=od c j k;rw[z]at C;have E: ¬(k+6000=q+6000):=by omega
    have F:=kv UH UP Us C E N;exact qe
 obtain rfl:j=c.trans.length:=by omega
 have n:=nl c.trans.length;obtain⟨e',u,H⟩:=Dw (c:=c) c.trans.length (g:=f) m;refine fG H ?_;have F:=ii UV M5.eq_1 Us n u;repeat refine st ?_
 refine nC 27 9100 0 8 33 1 ?_
 refine aH (D:=Nat) (fun i A=>[(2, .lit (.pointer none)),(3, .lit .nilIface),(4,aQ c),(6, .loc 27 (A 27) 0 0),(62,rv c.Z9),(63,I c.Z9.length),(64,I i)])
  (fun i A=>[(27,⟨9,[[Sg c.name,I c.initial,qa c.vars,rv c.Z9,tg c.trans,aQ c, .seq 1 ((H' c).map gN), .fmap (fO c), .row 9100 (A 9100)]],124,false⟩),(9100,⟨1,rG c i,33,true⟩)])
  (fun i _ d=>i<=c.Z9.length/\d 27=false/\d 9100=false) (fun i=>c.Z9.length-i) 0 ?_ ?_ ?_ ?_
 ·refine⟨NJ _,?_,?_⟩<;>simp only[go_sem,u]
 ·exact qe
 ·(simp only[go_sem,F])
  try rfl
 try clear n m u H hj a
 rintro i f d ⟨hi,m,M⟩;by_cases a:i<c.Z9.length
 ·have n:=ip a;have s:=aD a (by omega);have f3:=ni env c h 40 i a (by omega);have hbl:=AE h a
  have f4:b8 prog env 50 [aQ c, .seq 1 ((tI c i).map aB)] (.own 3 1 ((Se c i).map aB)):=by
   rw[Ly];exact gB env c h.toRight (zL (tI c i)) (by simp[zL];omega)
  have R:(rG c i).length=i:=by simp[rG]
  have S:rG c (i+1)=rG c i++[[.seq 1 ((Se c i).map aB)]]:=by unfold rG;rw[PO,NC];rfl
  have V:dd (i+1) 24:=aC (by omega) (by omega);have F:=m7 n s R V m M UQ;repeat refine y3 f3 f4 ?_
  refine⟨i+1,⟨a,?_,?_⟩,?_,?_,by omega⟩
  ·simp only[go_sem,m]
  ·simp only[go_sem,M]
  ·exact qe
  have F:=ai S UQ;exact qe
 obtain rfl:i=c.Z9.length:=by omega
 have n:=nl c.Z9.length;have F:=gs n m M;repeat refine st ?_
 refine cV [(9100,⟨1,rG c c.Z9.length,33,true⟩)] ?_ ?_
 ·exact qe
 refine lY [(2, .loc 27 (f 27) 0 0),(3, .lit .nilIface)] [(27,⟨9,[cy c],124,false⟩)] ?_ ?_ ?_
 ·exact TZ
 ·have F:=ai UL UQ;exact qe
 have F:=ai UL @jq
 (refine aM ?_;show (ag _ _ _).run _=some _;simp only[go_sem,F])
 rfl
end
section
def wj(env:cf)(c:aq)(l:List mu):b8 prog env 102 [.agg (aA c),sv l] (B (bo l c.vars.length c.Z9.length)):=by
 have a:=kp env l c.vars.length c.Z9.length;unfold bo;refine qf func102 call102 ntmps102 results102 ?_;have F:=aA.eq_1;exact kb a
def HM{m:List UInt8}(h:bp m=true):(m == [])=false:=by
 cases m with
 |nil=>cases h
 |cons a l=>rfl
def It(env:cf)(c:aq)(a:la):b8 prog env 157 [.agg (aA c), .agg (bB a)] (B (gM c.vars.length c.Z9.length a)):=by
 obtain⟨k,n,m,co⟩:=a;have b:=wj env c co;have d:=iJ env m;have f:bp m=true->(m == [])=false:=HM;have e:((co.length:Int)==0)=(co == []):=fJ co;have r: ∀p q:Prop,[Decidable p]->[Decidable q]->decide (p/\q)=(decide p&&decide q):=fun p q=>SB p q;refine qf func157 call157 ntmps157 results157 ?_;by_cases l:1<=k/\k<=5
 ·have l:k=1\/k=2\/k=3\/k=4\/k=5:=by omega
  rcases l with rfl|rfl|rfl|rfl|rfl
  all_goals
   have F:=qs Us UC gM.eq_1 f e r jM @SO @SK;exact ns b d
 rw[show gM c.vars.length c.Z9.length ⟨k,n,m,co⟩=false by unfold gM;rw[Mv (by simp only;omega),Mv (by simp only;omega),Mv (by simp only;omega),Mv (by simp only;omega)]];have g:(k==2)=false:=d4 (by omega);have h:(k==4)=false:=d4 (by omega);have i:(k==5)=false:=d4 (by omega);by_cases j:k<1
 ·have F:=qs Us UC j g h i jM @SO @SK;exact ns b d
 have o:5<k:=by omega
 have F:=mX Us UC j o g h i jM @SO @SK;exact ns b d
def pt(env:cf)(c:aq)(l:List la):b8 prog env 96 [.agg (aA c),j' l] (B (eR c.vars.length c.Z9.length l)):=by
 refine qf func96 call96 ntmps96 results96 ?_;by_cases m:32<l.length
 ·have j:(32:Int)< (l.length:Int):=by omega
  rw[show eR c.vars.length c.Z9.length l=false by unfold eR;rw[Nm (by omega)];rfl];have F:=ai Us j;exact fc
 have j: ¬(32:Int)< (l.length:Int):=by omega
 rw[show eR c.vars.length c.Z9.length l=l.all (gM c.vars.length c.Z9.length) by unfold eR;rw[Ny (by omega)];rfl];have F:=ai Us j;repeat refine st ?_
 refine lq l.length (by omega) (fun k o=>[(1,j' l),(2, .loc 2 (o 2) 0 0),(5,I k)]) (fun _ _=>[(2,⟨5,[aA c],26,false⟩)]) (fun k _ _=>(l.take k).all (gM c.vars.length c.Z9.length)=true) rfl ?_ ?_
 ·rintro k p i e h n b;obtain⟨a,g,q⟩:=aS e;have d:=It env c a;cases f:gM c.vars.length c.Z9.length a with
  | true=>
    have F:=kv Us h n g UC f;repeat refine ff d ?_
    exact qn (k+1) ⟨e,dr b g f⟩
  | false=>
    rw[my g f];have F:=kv Us h n g UC f;exact kb d
 rintro p i h b;rw[uY b (by omega)];have F:=ai Us h;exact fc
def sd(env:cf)(c:aq)(s:n4)(f:s.parent<c.Z9.length):b8 prog env 100 [.agg (aA c), .agg (aL s)] (B (cw c s)):=by
 refine qf func100 call100 ntmps100 results100 ?_;by_cases a:0<=s.parent
 ·obtain⟨m,b⟩:=fg a;obtain⟨q,d,_⟩:=aS (show m<c.Z9.length by omega);have e:=ip (show m<c.Z9.length by omega);rw[show cw c s=(q.kind==1) by unfold cw;rw[b,bK,d]];have F:=ii Us Ut b d e;exact fc
 rw[show cw c s=false by unfold cw at_;rw[Mv a]];have F:=gs Us Ut a;exact fc
def yW(env:cf)(c:aq)(l:List Nat)(w:l.length<=1000000)(m: ∀k∈l,k<c.Z9.length):b8 prog env 99 [.agg (aA c),Su l] (B ((l.all fun k=>az c k)&&decide (0<l.length))):=by
 refine qf func99 call99 ntmps99 results99 ?_;have F:=aA.eq_1;repeat refine st ?_
 refine lq l.length (by omega) (fun k u=>[(1,Su l),(2, .loc 2 (u 2) 0 0),(5,I k)]) (fun _ _=>[(2,⟨5,[aA c],26,false⟩)]) (fun k _ _=>(l.take k).all (fun k=>az c k)=true) rfl ?_ ?_
 ·rintro j v h b g r a;obtain⟨k,f,n⟩:=aS b;obtain⟨q,i,_⟩:=aS (m k n);have s:=ip (m k n);have o:=iw env q;have d:az c (k:Int)=eQ q:=by unfold az;rw[bK,i]
  cases e:eQ q with
  | true=>
    have F:=qs Us g r s f i Uu Ut e;repeat refine ff o ?_
    exact qn (j+1) ⟨b,dr (p:=fun k:Nat=>az c k) a f (d.trans e)⟩
  | false=>
    rw[my (p:=fun k:Nat=>az c k) f (d.trans e),Nt];have F:=qs Us g r s f i Uu Ut e;exact kb o
 rintro v h g a;rw[uY a (by omega),Np];have t:decide ((0:Int)< (l.length:Int))=decide (0<l.length):=by rw[N8];simp
 have F:=ai Us g;repeat refine st ?_
 (refine aM ?_;show (ag _ _ _).run _=some _;simp only[go_sem,F])
 exact N7 B t
def Ir(env:cf)(c:aq)(t:c.vars.length<=1000000)(i:Nat)(v:No)(h:c.vars[i]? =some v):b8 prog env 53 [.agg (aA c),I i] (B (qU c i v)):=by
 have o:i<c.vars.length:=(Mt.1 h).1;have r:=ip o;have f1:=iJ env v.name;have f2:=gF env v.start;refine qf func53 call53 ntmps53 results53 ?_;have F:=i0 Us r h UO;repeat refine st ?_
 refine lp (D:=Nat) (fun j m=>[(1,I i),(2, .loc 2 (m 2) 0 0),(5, .loc 5 (m 5) 0 0),(6,I j)]) (fun _ _=>[(2,⟨5,[aA c],26,false⟩),(5,⟨2,[ga v],140,false⟩)]) (fun j _ _=>j<=i/\newVar c v.name j=true) (fun j=>i-j) 0 ⟨NJ _,rfl⟩ ?_;rintro j u n ⟨s,b⟩;by_cases a:j<i
 ·obtain⟨x,d,_⟩:=aS (show j<c.vars.length by omega);have g:(c.vars.take i)[j]? =some x:=by rw[Na,Mw a];exact d
  have f:=ip a;have l:=ip (show j<c.vars.length by omega);have k:=aD a (by omega);cases e:(x.name==v.name)
  ·have F:=m7 Us f k l d UO e;repeat refine st ?_
   exact qn (j+1) ⟨a,qj b d e⟩
  rw[show qU c i v=false by unfold qU newVar;rw[my (p:=fun x:No=> !(x.name==v.name)) g (by rw[e];rfl)];rfl];have F:=m7 Us f k l d UO e;exact fc
 have f: ¬(j:Int)< (i:Int):=by omega
 obtain rfl:j=i:=by omega
 have q:qU c j v=(bp v.name&& !(v.name == [100,97,116,97])&& !(v.name == [105,110])&&aJ v.start):=by
  unfold qU aJ;rw[b];simp only[Np,Rl]
 rw[q];have F:=gs f UO jM;exact ns f1 f2
end
section
def Kt{a:Type} [DecidableEq a](l:List a):(0< (l.length:Int))=((l == [])=false):=by
 rw[eq_iff_iff];cases l<;>simp
def qE(c:aq)(i:Int)(a:c.Z9.length<=1000000):(av c i true).length<=1000000:=NN (dR c i true _) a
def A5(s:n4)(l:List Nat):(∀n:Int,(s.kind=n)=((s.kind==n)=true))/\(((s.kind==4)=true\/(s.kind==5)=true)=(aU s=true))/\((l=[])=((l == [])=true)):=by
 refine⟨fun n=>by simp,by simp[aU],by simp⟩
def DU(env:cf)(c:aq)(a:c.Z9.length<=1000000)(i:Nat)(s:n4)(e:c.Z9[i]? =some s):b8 prog env 54 [.agg (aA c),I i] (B (cL c i s)):=by
 have A:i<c.Z9.length:=(Mt.1 e).1;have j:=ip A;have f1:=iJ env s.name;have f2:=Gm env c s.name a;have f3:=pt env c s.ZW;have f4:=pt env c s.out;have f5:=dI env c (i:Int) true a;have f6:=dI env c (i:Int) false a;have f7:=ce env s;have f8:=sk env (av c i true) s.initial (qE c i a);have f9:=yW env c (av c i true) (qE c i a) (fun k C=>(qD C).1);have p:=fJ (av c i true);have r:=Kt (av c i false);have t:=fJ s.out;have u:=fJ s.ZW;obtain⟨l,n,o⟩:=A5 s (av c i true);by_cases E:s.parent<c.Z9.length/\0<=s.parent
 ·obtain⟨m,z⟩:=fg E.2;obtain⟨q,v,_⟩:=aS (show m<c.Z9.length by omega);have f: ¬(m:Int)<0:=by omega
  have p4:(0:Int)<=m:=by omega
  have g:((m:Int) == -1)=false:=d4 (by omega);have p3:=ip (show m<c.Z9.length by omega);have w:=iw env q;have d:az c (m:Int)=eQ q:=by unfold az;rw[bK,v]
  have h:=sd env c s (by omega);have x:=dI env c (m:Int) true a;have y:=sk env (av c m true) s.initial (qE c m a);have b:decide ((m:Int)<i)= !decide ((i:Int)<=m):=by rw[N8];simp
  refine qf func54 call54 ntmps54 results54 ?_;by_cases p5:(i:Int)<=m
  ·have F:=ed Us Ut j e z v f p3 p4 p5 g<|ed d p r t u l n o U0 UU U1<|gs b jM @ite_self.{1};exact Mk f1 f2 f3 f4 f5 f6 f7 f8 f9 w h x y
  have F:=ed Us Ut j e z v f p3 p4 p5 g<|ed d p r t u l n o U0 UU U1<|gs b jM @ite_self.{1};exact Mk f1 f2 f3 f4 f5 f6 f7 f8 f9 w h x y
 refine qf func54 call54 ntmps54 results54 ?_;by_cases f:s.parent<0
 ·have h:=sd env c s (by omega);have b: ¬0<=s.parent:=by omega
  have D:cw c s=false:=by unfold cw at_;rw[Mv b]
  have F:=ed Us Ut j e f b D p r t u<|qr l n o U0 UU U1 jM @ite_self.{1};exact Mq f1 f2 f3 f4 f5 f6 f7 f8 f9 h
 have b:(i:Int)<=s.parent:=by omega
 have p3: ¬s.parent<i:=by omega
 have p4:0<=s.parent:=by omega
 have g:(s.parent == -1)=false:=d4 (by omega);have F:=ed Us Ut j e f b p3 p4 g p r<|mX t u l n o U0 UU U1 jM @ite_self.{1};exact Uo f1 f2 f3 f4 f5 f6 f7 f8 f9
end
section
def Gf(env:cf)(c:aq)(t:tS):b8 prog env 56 [.agg (aA c), .agg (ax t)] (B (d9 c t)):=by
 have f2:=iJ env t.Z7;have f3:=wj env c t.guard;have f4:=pt env c t.Z1;have j:=fJ t.guard;refine qf func56 call56 ntmps56 results56 ?_;by_cases d:t.src<0
 ·rw[show d9 c t=false by unfold d9 az at_;rw[Mv (show ¬0<=t.src by omega)];rfl];have F:=gs Us Uv d;exact fc
 obtain⟨m,b⟩:=fg (show 0<=t.src by omega);have d: ¬(m:Int)<0:=by omega
 by_cases i:c.Z9.length<=m
 ·have a:(c.Z9.length:Int)<=(m:Int):=by omega
  rw[show d9 c t=false by unfold d9 az;rw[b,bK,NL i];rfl];have F:=ii Us Uv b d a;exact fc
 have a: ¬(c.Z9.length:Int)<=(m:Int):=by omega
 have g:=ip (show m<c.Z9.length by omega);obtain⟨q,e,_⟩:=aS (show m<c.Z9.length by omega);have f1:=iw env q;have f:az c t.src=eQ q:=by unfold az;rw[b,bK,e]
 have h:d9 c t=(eQ q&&((t.Z7 == [])||bp t.Z7)&&((t.guard == [])||bo t.guard c.vars.length c.Z9.length)&&eR c.vars.length c.Z9.length t.Z1&&((t.target == -1)||(decide (0<=t.target)&&decide (t.target<c.Z9.length)))):=by unfold d9;rw[f]
 rw[h];by_cases p3:t.target< -1
 ·rw[show ((t.target == -1)||(decide (0<=t.target)&&decide (t.target<c.Z9.length)))=false by rw[d4 (show t.target≠ -1 by omega),Nm (show ¬0<=t.target by omega)];rfl,Oc];have F:=qs Us Uv Ut b e d a g p3;exact kb f1
 by_cases p4:(c.Z9.length:Int)<=t.target
 ·rw[show ((t.target == -1)||(decide (0<=t.target)&&decide (t.target<c.Z9.length)))=false by rw[d4 (show t.target≠ -1 by omega),Nm (show ¬t.target<c.Z9.length by omega)];simp,Oc];have F:=mX Us Uv Ut b e d a g p3 p4;exact kb f1
 rw[show ((t.target == -1)||(decide (0<=t.target)&&decide (t.target<c.Z9.length)))=true by rw[OO,Mx];simp;omega,SP];have F:=ed Us Uv Ut b e d a g p3 p4 j jM;exact TV f1 f2 f3 f4
abbrev TE(c:aq):AV:= .tuple [I (n9 c).1,I (n9 c).2]
def dq{c:aq}{x:Int×Int}(h:n9 c=x):TE c= .tuple [I x.1,I x.2]:=by unfold TE;rw[h]
def DY(env:cf)(c:aq):b8 prog env 27 [.agg (aA c)] (TE c):=by
 have h:=iJ env c.name;have T:=fJ c.Z9;refine qf func27 call27 ntmps27 results27 ?_;by_cases U:32<c.Z9.length
 ·have w:(32:Int)< (c.Z9.length:Int):=by omega
  rw[dq (show n9 c=(8, -1) by unfold n9;rw[Mw (.inl U)])];have F:=ai Us w;exact fc
 have w: ¬(32:Int)< (c.Z9.length:Int):=by omega
 by_cases V:64<c.trans.length
 ·have y:(64:Int)< (c.trans.length:Int):=by omega
  rw[dq (show n9 c=(8, -1) by unfold n9;rw[Mw (.inr (.inl V))])];have F:=gs Us w y;exact fc
 have y: ¬(64:Int)< (c.trans.length:Int):=by omega
 by_cases W:8<c.vars.length
 ·have C:(8:Int)< (c.vars.length:Int):=by omega
  rw[dq (show n9 c=(8, -1) by unfold n9;rw[Mw (.inr (.inr W))])];have F:=i0 Us w y C;exact fc
 have C: ¬(8:Int)< (c.vars.length:Int):=by omega
 have M: ¬(32<c.Z9.length\/64<c.trans.length\/8<c.vars.length):=by omega
 cases A:(c.Z9 == [])
 case true=>
  rw[dq (show n9 c=(1, -1) by unfold n9;rw[Mv M,Mw (.inl (by simpa using A))])];have F:=kv Us w y C T A;exact kb h
 cases G:bp c.name
 ·rw[dq (show n9 c=(1, -1) by unfold n9;rw[Mv M,Mw (.inr G)])];have F:=m7 Us w y C T A G;exact kb h
 have N: ¬(c.Z9=[]\/bp c.name=false):=by
  rw[G];simpa using A
 have f:n9 c=(match bE (jl c) c.vars.length with
  |some i=>(1,2000+(i:Int))
  | none=>match bE (lz c) c.Z9.length with
    |some i=>(1,(i:Int))
    | none=>if nD c=false then(1, -1) else match bE (r6 c) c.trans.length with
      |some i=>(1,1000+(i:Int))
      |none=>(0, -1)):=by
  unfold n9;rw[Mv M,Mv N];rfl
 have F:=m7 Us w y C T A G;repeat refine ff h ?_
 refine aH (D:=Nat) (fun i E=>[(1, .loc 1 (E 1) 0 0),(4,I i)]) (fun _ _=>[(1,⟨5,[aA c],26,false⟩)]) (fun i _ _=>i<=c.vars.length/\ ∀j,j<i->jl c j=true) (fun i=>c.vars.length-i) 0 ?_ ?_ ?_ ?_
 ·exact⟨NJ _,fun j B=>by omega⟩
 ·exact qe
 ·have F:=aA.eq_1;exact qe
 rintro i z l ⟨J,a⟩;by_cases b:i<c.vars.length
 ·obtain⟨v,Q,_⟩:=aS b;have g:=ip b;have r:=aD b (by omega);have d:=Ir env c (by omega) i v Q;cases e:qU c i v
  ·have S:IntKind.i64.wrap (2000+(i:Int))=2000+(i:Int):=aX (by omega) (by omega);rw[dq (show n9 c=(1,2000+(i:Int)) by rw[f,dN b a (by rw[ly Q];exact e)])];have F:=ii Us g r S e;exact kb d
  have F:=i0 Us g r e;repeat refine ff d ?_
  refine⟨i+1,⟨b,gw a (by rw[ly Q];exact e)⟩,?_,?_,?_⟩
  ·exact qe
  ·have F:=aA.eq_1;exact qe
  omega
 have g: ¬(i:Int)< (c.vars.length:Int):=by omega
 have R:bE (jl c) c.vars.length=none:=bT fun j B=>a j (by omega);rw[R]at f;have F:=ai Us g;repeat refine st ?_
 refine aH (D:=Nat) (fun i E=>[(1, .loc 1 (E 1) 0 0),(5,I i)]) (fun _ _=>[(1,⟨5,[aA c],26,false⟩)]) (fun i _ _=>i<=c.Z9.length/\ ∀j,j<i->lz c j=true) (fun i=>c.Z9.length-i) 0 ?_ ?_ ?_ ?_
 ·exact⟨NJ _,fun j B=>by omega⟩
 ·exact qe
 ·have F:=aA.eq_1;exact qe
 try clear z l J a g b i
 rintro i z l ⟨J,a⟩;by_cases b:i<c.Z9.length
 ·obtain⟨s,O,_⟩:=aS b;have g:=ip b;have r:=aD b (by omega);have d:=DU env c (by omega) i s O;cases e:cL c i s
  ·rw[dq (show n9 c=(1,(i:Int)) by rw[f,dN b a (by rw[pK O];exact e)])];have F:=i0 Us g r e;exact kb d
  have F:=i0 Us g r e;repeat refine ff d ?_
  refine⟨i+1,⟨b,gw a (by rw[pK O];exact e)⟩,?_,?_,?_⟩
  ·exact qe
  ·have F:=aA.eq_1;exact qe
  omega
 have g: ¬(i:Int)< (c.Z9.length:Int):=by omega
 have P:bE (lz c) c.Z9.length=none:=bT fun j B=>a j (by omega);rw[P]at f;by_cases X:c.initial<0
 ·have p:nD c=false:=by unfold nD at_;rw[Mv (by omega)]
  rw[dq (show n9 c=(1, -1) by rw[f,Mw p])];have F:=gs Us g X;exact fc
 obtain⟨m,u⟩:=fg (show 0<=c.initial by omega);have o: ¬(m:Int)<0:=by omega
 by_cases L:(c.Z9.length:Int)<=(m:Int)
 ·have p:nD c=false:=by unfold nD;rw[u,bK,NL (by omega)]
  rw[dq (show n9 c=(1, -1) by rw[f,Mw p])];have F:=ii Us g u o L;exact fc
 have p3:=ip (show m<c.Z9.length by omega);obtain⟨q,K,_⟩:=aS (show m<c.Z9.length by omega);have k:=iw env q;have n:nD c=((q.parent == -1)&&eQ q):=by unfold nD;rw[u,bK,K]
 cases x:(q.parent == -1)
 ·rw[dq (show n9 c=(1, -1) by rw[f,Mw (by rw[n,x];rfl)])];have F:=mX Us Ut g u o L p3 K x jM;exact kb k
 cases H:eQ q
 ·rw[dq (show n9 c=(1, -1) by rw[f,Mw (by rw[n,x,H];rfl)])];have F:=o' Us Ut g u o L p3 K x H jM;exact kb k
 rw[Mv (by rw[n,x,H];simp)]at f;have F:=o' Us Ut g u o L p3 K x H jM;repeat refine ff k ?_
 have F:=ai Us u;refine lq c.trans.length (by omega) (fun i E=>[(1, .loc 1 (E 1) 0 0),(6,I i)]) (fun _ _=>[(1,⟨5,[aA c],26,false⟩)]) (fun i _ _=> ∀j,j<i->r6 c j=true) (fun j B=>by omega) ?_ ?_
 ·try clear z l J a g b i
  rintro i z l b g r a;obtain⟨t,p,_⟩:=aS b;have d:=Gf env c t;cases e:d9 c t
  ·have S:IntKind.i64.wrap (1000+(i:Int))=1000+(i:Int):=aX (by omega) (by omega);rw[dq (show n9 c=(1,1000+(i:Int)) by rw[f,dN b a (by rw[pJ p];exact e)])];have F:=m7 Us Uv g r S p e;exact kb d
  have F:=kv Us Uv g r p e;repeat refine ff d ?_
  refine⟨i+1,⟨b,gw a (by rw[pJ p];exact e)⟩,?_,?_,?_⟩
  ·exact qe
  ·have F:=aA.eq_1;exact qe
  omega
 try clear z l J a g b i
 rintro z l g a;rw[dq (show n9 c=(0, -1) by rw[f,bT fun j B=>a j (by omega)])];have F:=ai Us g;exact fc
end
end Go.Proofs.YtfhkmjbjafeckaaGreatDoor
