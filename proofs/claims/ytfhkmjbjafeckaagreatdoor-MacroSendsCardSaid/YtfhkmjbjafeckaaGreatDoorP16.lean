/- scriniumref24.Tran, Check: by the walk without memory. -/
import Derived.Test.YtfhkmjbjafeckaaGreatDoorP15
set_option maxRecDepth 100000
set_option maxHeartbeats 16000000
set_option linter.unusedSimpArgs false
set_option linter.defProp false
namespace Go.Proofs.YtfhkmjbjafeckaaGreatDoor
open Go.Proofs.Tryz
open Go.RowKit
section
def de(c:aq)(j:Nat)(vs:Nat->Nat):List (List AV):=(cI c j).mapIdx fun q p=>[.agg [I p.1,I p.2], .row (q+6000) (vs (q+6000))]
def i9(c:aq)(j:Nat):List Row:=(cI c j).map fun p=>⟨1,(ix c j p).map aB,3,true⟩
def fP(c:aq):List (List AV):=(cI c c.trans.length).map fun p=>[.agg [I p.1,I p.2], .seq 1 ((ix c c.trans.length p).map aB)]
def rF(c:aq)(j:Nat):List (List AV):=(List.range j).map fun i=>[.seq 1 ((Th c i).map aB)]
def ct(c:aq):List AV:=[Sg c.name,I c.initial,pf c.vars,qa c.Z9,sT c.trans,aQ c, .seq 1 ((J' c).map gN), .fmap (fP c), .seq 1 (rF c c.Z9.length)]
def UO:=@ct.eq_1
def aG(c:aq):AV:= .ref 9 [ct c] 0 0
def UR:=@aG.eq_1
def iF(c:aq)(j:Nat)(vs:Nat->Nat):(de c j vs).length=(cI c j).length:=by simp[de]
def dx(c:aq)(j:Nat)(vs:Nat->Nat)(q:Nat):(de c j vs)[q]? =((cI c j)[q]?).map fun p=>[.agg [I p.1,I p.2], .row (q+6000) (vs (q+6000))]:=by simp[de]
def cL(c:aq)(j q:Nat):(i9 c j)[q]? =((cI c j)[q]?).map fun p=>⟨1,(ix c j p).map aB,3,true⟩:=by simp[i9]
def yr(p:Int×Int)(f:Nat->AV): ∀(l:List (Int×Int))(i:Nat),sv prog 127 (.agg [I p.1,I p.2]) (l.mapIdx fun q k=>[.agg [I k.1,I k.2],f q]) i=some (ri p l i)
 |[],i=>rfl
 |(a,b)::l,i=>by
   have m:=yr p (fun q=>f (q+1)) l (i+1);obtain⟨c,d⟩:=p;rw[List.mapIdx_cons];by_cases h:c=a/\d=b
   ·obtain⟨rfl,rfl⟩:=h;have g:(c==c)=true:=by simp
    have j:(d==d)=true:=by simp
    simp only[go_sem,rl,ce,g,j,ri]
   have g:(c==a&&(d==b))=false:=by
    rw[Pe];intro e;simp only[Mu,Nz]at e;exact h e
   have j: ¬((c,d):Int×Int)=(a,b):=fun e=>h (by simpa using e);simp only at m;simp only[go_sem,rl,ce,g,ri,j,m]
def HQ(c:aq)(j:Nat)(vs:Nat->Nat)(a b:Int):sv prog 127 (.agg [I a,I b]) (de c j vs) 0=some (ri (a,b) (cI c j) 0):=yr (a,b) (fun q=> .row (q+6000) (vs (q+6000))) (cI c j) 0
def FK(c:aq)(a b:Int):sv prog 127 (.agg [I a,I b]) (fP c) 0=some (ri (a,b) (cI c c.trans.length) 0):=by
 have:fP c=(cI c c.trans.length).mapIdx fun q k=>[.agg [I k.1,I k.2],((fP c)[q]?.bind (·[1]?)).getD .any]:=by
  apply Nv;intro q;rw[List.getElem?_mapIdx];unfold fP;rw[NB];cases (cI c c.trans.length)[q]? with
  |none=>rfl
  |some p=>rfl
 rw[this];exact yr (a,b) _ _ 0
/-! The state at the head of the loop -/
def oP(c:aq)(g:Nat->Nat):Row:=⟨9,[[Sg c.name,I c.initial,pf c.vars,qa c.Z9,sT c.trans,aQ c, .seq 1 ((J' c).map gN), .mp 25 (g 25),cy]],124,false⟩
def US:=@oP.eq_1
def RA(c:aq)(j:Nat)(g:Nat->Nat):List (Nat×Row):=(1,⟨5,[aA c],26,false⟩)::(27,oP c g)::(25,⟨0,de c j g,121,false⟩)::kf 6000 (i9 c j)
def UL:=@RA.eq_1
def o5(c:aq)(j:Nat)(q:Nat):ap (kf 6000 (i9 c j)) (q+6000)=(i9 c j)[q]? :=by
 rw[nz,Mw (by omega),show q+6000-6000=q by omega]
def Dg{c:aq}{j q:Nat}{p:Int×Int}{g g':Nat->Nat}(f:cI c (j+1)=cI c j)(a:(cI c j)[q]? =some p)(b: ∀k,k≠q->g' (k+6000)=g (k+6000)){v:Nat}(d:g' (q+6000)=v):(de c j g).set q [.agg [I p.1,I p.2], .row (q+6000) v]=de c (j+1) g':=by
 apply Nv;intro k;rw[O0,dx,dx,iF,f];by_cases e:q=k
 ·subst e;rw[Mw rfl,Mw (Mr.1 a).1,a, <-d];rfl
 ·rw[Mt e];cases (cI c j)[k]? with
  |none=>rfl
  |some h=>simp only[NT,b k (Ot e)]
def De{c:aq}{j q:Nat}{p:Int×Int}{g:Nat->Nat}(a:(cI c j)[q]? =some p):(de c j g).set q [.agg [I p.1,I p.2], .row (q+6000) (g (q+6000))]=de c j g:=by
 apply Nv;intro k;rw[O0,dx,iF];by_cases e:q=k
 ·subst e;rw[Mw rfl,Mw (Mr.1 a).1,a];rfl
 rw[Mt e]
def Df{c:aq}{j:Nat}{g g':Nat->Nat}(f:cI c (j+1)=cI c j++[dL c j])(b: ∀k,k< (cI c j).length->g' (k+6000)=g (k+6000)){v:Nat}(d:g' ((cI c j).length+6000)=v):de c j g++[[.agg [I (dL c j).1,I (dL c j).2], .row ((cI c j).length+6000) v]]=de c (j+1) g':=by
 apply Nv;intro k;rw[dx,f];by_cases a:k< (cI c j).length
 ·rw[Nb (by rw[iF];exact a),Nb a,dx,Mq a];simp only[NT,b k a]
 rw[N3 (by rw[iF];omega),N3 (by omega),iF];by_cases e:k=(cI c j).length
 ·subst e;simp[d]
 rw[NI (by simp;omega),NI (by simp;omega)];rfl
def yU{c:aq}{j q:Nat}{p:Int×Int}(r:cI c (j+1)=cI c j)(m:dL c j=p)(s:(cI c j).Nodup)(n:(cI c j)[q]? =some p)(k:Nat):(i9 c (j+1))[k]? =if k=q then some ⟨1,(ix c j p).map aB++[[I j]],3,true⟩ else(i9 c j)[k]? :=by
 rw[cL,cL,r];by_cases e:k=q
 ·subst e;rw[Mw rfl,n];simp only[NT,oa,m,Nt,NA,Nh,O5,aB]
 ·rw[Mt e];cases d:(cI c j)[k]? with
  |none=>rfl
  | some t=>
    have f: ¬p=t:=fun o=>by
     subst o;obtain⟨g,i⟩:=Mr.1 n;obtain⟨h,l⟩:=Mr.1 d;have b:=Nn.1 (Oe.1 s);rcases Px k q with a|a|a
     ·exact b k q h g a (l.trans i.symm)
     ·exact e a
     exact b q k g h a (i.trans l.symm)
    simp only[NT,oa,m,Mt f]
def yT{c:aq}{j:Nat}(g:cI c (j+1)=cI c j++[dL c j])(b:dL c j∉cI c j)(k:Nat):(i9 c (j+1))[k]? =if k=(cI c j).length then some ⟨1,[[I j]],3,true⟩ else(i9 c j)[k]? :=by
 rw[cL,cL,g];by_cases e:k=(cI c j).length
 ·subst e;simp only[Nt,N3 (NC _),QQ,Nr,NT,oa,u5 b,PX,Nh,O5,aB]
 rw[Mt e];by_cases a:k< (cI c j).length
 ·rw[Nb a,Mq a];have d: ¬dL c j=(cI c j)[k]:=fun f=>b (f ▸ Oq a);simp only[NT,oa,Mt d]
 rw[NI (by simp;omega),NI (by omega)];rfl
def FA(c:aq)(j:Nat)(g:Nat->Nat):List (Nat×AV):=[(1, .loc 1 (g 1) 0 0),(2, .lit (.pointer none)),(3, .lit .nilIface),(4,aQ c),(6, .loc 27 (g 27) 0 0),(32,sT c.trans),(33,I c.trans.length),(34,I j)]
def UZ:=@FA.eq_1
def RN(c:aq)(j:Nat)(g:Nat->Nat):List (Nat×Row):=(1,⟨5,[aA c],26,false⟩)::(27,oP c g)::(25,⟨0,de c j g++[[.agg [I (dL c j).1,I (dL c j).2], .row 55 (g 55)]],121,false⟩)::(55,⟨1,[[I j]],3,true⟩)::kf 6000 (i9 c j)
def HS(c:aq)(j:Nat)(vs:Nat->Nat){g gm:Nat->Nat->Option AV}(h: ∀q v,g (q+6000) v=none):(de c j vs).map (·.map (AV.see g gm))=de c j vs:=by
 apply Nv;intro q;rw[NB,dx];cases (cI c j)[q]? with
 |none=>rfl
 |some p=>simp only[NT,Nh,O5,AV.see,AV.see.seeL,h,PG]
def C3(c:aq)(vs:Nat->Nat){g gm:Nat->Nat->Option AV}(h: ∀v,gm 25 v=none):(oP c vs).see g gm=oP c vs:=by
 simp only[Row.see,oP,Nh,O5,AV.see,AV.see.seeL,h,PG,aQ,NU,OA]
def Eh(c:aq){g gm:Nat->Nat->Option AV} :(aA c).map (AV.see g gm)=aA c:=rfl
def l7{s:St}{r r2:Nat}{row:Row}{k:Nat} :(eQ s r r2 row).rows k=if k=r2 then some row else if k=r then none else(s.rows k).map (Row.see (ob r (s.vs r) r2 (s.vs r2+1)) fun _ _=>none):=rfl
def G9(v n a q w:Nat):ob 55 v n a (q+6000) w=none:=by unfold ob;rw[Mt (by omega)]
def Ks{c:aq}{j:Nat}(h:cI c (j+1)=cI c j++[dL c j])(l:dL c j∉cI c j)(F:Nat){g:Nat->Nat}{e:Nat->Bool}(x:e 27=false): ∃g' u,u 27=false/\dd (head (FA c F g) (RN c j g) g e) (head (FA c F g') (RA c (j+1) g') g' u):=by
 generalize i:(cI c j).length=n at*;have o:(i9 c j)[n]? =none:=by rw[cL,NI (by omega)];rfl
 have d:(head (FA c F g) (RN c j g) g e).rows 55=some ⟨1,[[I j]],3,true⟩:=by simp[head,RN,ap]
 have a:(head (FA c F g) (RN c j g) g e).rows (n+6000)=none:=by
  have:=o5 c j n;rw[o]at this;simp only[head,RN,ap];rw[Mt (by omega),Mt (by omega),Mt (by omega),Mt (by omega),this]
 have t1:=dd.ren (s:=head (FA c F g) (RN c j g) g e) 55 (n+6000) ⟨1,[[I j]],3,true⟩ (by omega) d a (Nf 0) rfl;have f: ∀t,t≠n+6000->mu g (n+6000) (g (n+6000)+1) t=g t:=fun t y=>cR _ _ _ y;refine⟨mu g (n+6000) (g (n+6000)+1),mu e (n+6000) (e 55),by rw[cR _ _ _ (by omega)];exact x,t1.trans (dd.head ?_ ?_)⟩
 ·simp only[cV,FA,eQ,head,nR,AV.see,aQ,f 1 (by omega),f 27 (by omega),Nt,Nat.reduceEqDiff,OA,NH,reduceCtorEq]
 refine⟨?_,?_,?_,rk fun q r b=> ?_⟩
 ·show (eQ _ _ _ _).rows 1=some _;rw[l7,Mt (by omega),Mt (by omega)];simp only[head,RN,ap,Nt,NT,Row.see,Nh,O5,Eh,NU,OA]
 ·show (eQ _ _ _ _).rows 27=some _;rw[l7,Mt (by omega),Mt (by omega)];simp only[head,RN,ap,Nt,NT,Nat.reduceEqDiff,OA];rw[C3 _ _ fun _=>rfl];simp only[oP,f 25 (by omega)]
 ·show (eQ _ _ _ _).rows 25=some _;rw[l7,Mt (by omega),Mt (by omega)];simp only[head,RN,ap,Nt,NT,Nat.reduceEqDiff,OA,Row.see,NU,NA,Nh,O5];rw[HS _ _ _ fun q v=>G9 ..];have:=Df (c:=c) (j:=j) (g:=g) (g':=mu g (n+6000) (g (n+6000)+1)) h (fun k h=>f _ (by omega)) (v:=g (n+6000)+1) (by rw[i,aw]);rw[i]at this;rw[<-this];simp[AV.see,AV.see.seeL,ob]
 rw[yT h l,i]at b;show (eQ _ _ _ _).rows (q+6000)=some _;rw[l7];by_cases w:q=n
 ·subst w;rw[Mw rfl]at b |-;exact b
 rw[Mt w]at b;rw[Mt (by omega),Mt (by omega)];simp only[head,RN,ap];rw[Mt (by omega),Mt (by omega),Mt (by omega),Mt (by omega),o5,b]
 have m:r.pure=true:=by
  rw[cL]at b;obtain⟨p,_,rfl⟩:=OI.1 b;rfl
 simp only[NT,Row.see,m,Nt]
/-! The map, frozen -/
def mr{g:Nat->Nat}{r v:Nat} : ∀ {l:List Row}{b:Nat},fX (n7 g (kf b l)) r v=if b<=r/\v=g r then(l[r-b]?).map fun row=> .seq row.sz row.es else none
 |[],b=>by simp[kf,n7,fX]
 | x::l,b=>by
   have d:=mr (g:=g) (r:=r) (v:=v) (l:=l) (b:=b+1);simp only[n7]at d;simp only[kf,n7,Nh,fX,d];by_cases h:r=b
   ·subst h;by_cases a:v=g r
    ·subst a;simp
    simp[a]
   rw[Mt fun e=>h e.1];by_cases c:b+1<=r
   ·by_cases a:v=g r
    ·rw[Mw ⟨c,a⟩,Mw ⟨by omega,a⟩,show r-b=(r-(b+1))+1 by omega,Og]
    rw[Mt fun e=>a e.2,Mt fun e=>a e.2]
   rw[Mt fun e=>c e.1,Mt fun e=>by omega]
def M1(c:aq):Row:=⟨9,[[Sg c.name,I c.initial,pf c.vars,qa c.Z9,sT c.trans,aQ c, .seq 1 ((J' c).map gN), .fmap (fP c),cy]],124,false⟩
def Dt{c:aq}(F:Nat){g:Nat->Nat}{e:Nat->Bool}(w:e 27=false): ∃l,l 27=false/\dd (head (FA c F g) (RA c c.trans.length g) g e) (head (FA c F g) [(1,⟨5,[aA c],26,false⟩),(27,M1 c)] g l):=by
 generalize y:c.trans.length=n at*
 have u:rf (head (FA c F g) (RA c n g) g e) (n7 g (kf 6000 (i9 c n))):=by
  intro p k;obtain⟨x,b,rfl⟩:=NE.1 k;obtain⟨q,d,m⟩:=mz b;refine⟨rfl,x.2,?_,?_,?_,rfl⟩
  ·simp only[head,RA,ap,m];rw[Mt (by omega),Mt (by omega),Mt (by omega),o5];exact d
  ·rw[cL]at d;obtain⟨p,_,f⟩:=OI.1 d;rw[<-f];exact Nf 0
  rw[cL]at d;obtain⟨p,_,f⟩:=OI.1 d;rw[<-f]
 have t1:=dd.sees _ u
 have j:(de c n g).map (·.map (AV.see (fX (n7 g (kf 6000 (i9 c n)))) fun _ _=>none))=fP c:=by
  apply Nv;intro q;unfold fP;rw[y,NB,dx,NB];cases z:(cI c n)[q]? with
  |none=>rfl
  | some p=>
    have A:fX (n7 g (kf 6000 (i9 c n))) (q+6000) (g (q+6000))=some (.seq 1 ((ix c n p).map aB)):=by
     rw[mr,Mw ⟨by omega,rfl⟩,show q+6000-6000=q by omega,cL,z];rfl
    simp only[NT,Nh,O5,AV.see,AV.see.seeL,A,OH]
 have o: ∀r v,r<6000->fX (n7 g (kf 6000 (i9 c n))) r v=none:=fun r v h=>by
  rw[mr,Mt fun e=>by omega]
 generalize i:fX (n7 g (kf 6000 (i9 c n)))=G at*
 have t2:dd (kk (head (FA c F g) (RA c n g) g e) (n7 g (kf 6000 (i9 c n)))) (head (FA c F g) [(1,⟨5,[aA c],26,false⟩),(27,oP c g),(25,⟨0,fP c,121,false⟩)] g _):=dd.head (s:=kk (head (FA c F g) (RA c n g) g e) (n7 g (kf 6000 (i9 c n)))) (by
  simp only[cV,FA,kk,head,nR,AV.see,aQ,Nt,Nat.reduceEqDiff,OA,NH,reduceCtorEq]) (by
  refine⟨?_,?_,?_,trivial⟩
  ·simp only[kk,i,head,RA,ap,Nt,NT,Row.see,Nh,O5,Eh,NU,OA]
  ·simp only[kk,i,head,RA,ap,Nt,NT,Nat.reduceEqDiff,OA];rw[C3 _ _ fun _=>rfl]
  simp only[kk,i,head,RA,ap,Nt,NT,Nat.reduceEqDiff,OA,Row.see,NU,j])
 have a:(kk (head (FA c F g) (RA c n g) g e) (n7 g (kf 6000 (i9 c n)))).esc 27=false:=by
  show (e 27||_)=false;rw[w,Oj,Q1];intro p k;obtain⟨x,b,rfl⟩:=NE.1 k;obtain⟨q,_,m⟩:=mz b;simp;omega
 have t3:=t1.trans t2;generalize (kk (head (FA c F g) (RA c n g) g e) (n7 g (kf 6000 (i9 c n)))).esc=t at t3 a
 have t4:=t3.trans (dd.mapSee 25 ⟨0,fP c,121,false⟩ (by simp[head,ap]) rfl (by
  rw[Mz];intro x b;unfold fP at b;obtain⟨p,_,rfl⟩:=NE.1 b
  rfl))
 refine⟨t,a,t4.trans (dd.head ?_ ?_)⟩
 ·simp only[cV,FA,zc,head,nR,AV.see,aQ,Nt,Nat.reduceEqDiff,OA,NH,reduceCtorEq]
 refine⟨?_,?_,trivial⟩
 ·simp only[zc,head,ap,Nt,NT,Nat.reduceEqDiff,OA,Row.see,Nh,O5,Eh,NU]
 simp only[zc,head,ap,Nt,NT,Nat.reduceEqDiff,OA,Row.see,oP,M1,Nh,O5,AV.see,aQ,NU,NH,OH]
end
section
def jp(c:aq):(aQ c).plain=true:=rfl
def Lo(l:List Nat):l.map aB=(zL l).map aa:=by simp[aB,zL]
def Dd(c:aq)(vs:Nat->Nat):de c 0 vs=[]:=rfl
def yS(c:aq):i9 c 0=[]:=rfl
def Ac{c:aq}{j:Nat}{g g':Nat->Nat}(h: ∀k,g (k+6000)=g' (k+6000)):de c j g=de c j g':=by
 apply Nv;intro q;rw[dx,dx,h]
def G7{c:aq}{j:Nat}{s:St}{Q:St->Prop}(o:cI c (j+1)=cI c j++[dL c j])(a:dL c j∉cI c j)(k:cV s (FA c (j+1) s.vs))(m:bw s (RN c j s.vs))(n:s.esc 27=false)
 (l: ∀g e,e 27=false->Q (head (FA c (j+1) g) (RA c (j+1) g) g e)): ∃b,dd s b/\Q b:=by
 obtain⟨f,d,h,i⟩:=Ks o a (j+1) (g:=s.vs) (e:=s.esc) n;exact⟨_,(dd.head k m).trans i,l f d h⟩
def L8(c:aq)(F:Nat)(g:Nat->Nat)(R:List (Nat×Row))(e:Nat->Bool):cV (head (FA c F g) R g e) (FA c F g):=by
 simp only[cV,FA,head,nR,Nt,Nat.reduceEqDiff,OA,NH,reduceCtorEq]
def LY(c:aq)(j:Nat)(g:Nat->Nat)(F:List (Nat×AV))(e:Nat->Bool):bw (head F (RA c j g) g e) (RA c j g):=by
 refine⟨?_,?_,?_,rk fun q r a=> ?_⟩
 ·simp only[head,RA,ap,Nt]
 ·simp only[head,RA,ap,Nt,Nat.reduceEqDiff,OA]
 ·simp only[head,RA,ap,Nt,Nat.reduceEqDiff,OA]
 simp only[head,RA,ap];rw[Mt (by omega),Mt (by omega),Mt (by omega),o5,a]
def wP(env:b8)(a1 a8:Addr)(U:fU env a1 a8)(hT: ∀W,env.inv W->wg W)(c:aq)(B:n5 c=(0, -1))(T:jN c):b7 prog env 26 [.agg (aA c)] (.tuple [aG c, .lit .nilIface]):=by
 have h0:(n5 c).1=0:=by rw[B]
 have h:=Sv h0;have hs:=o8 h0;have hlen:=h.Z6;have htr:=h.ZP;have f0:=Ib env a1 a8 U hT c h.toRight (xn B) T;have f1:=pm env c hs;have f2:=Dw env c (by omega);refine qf func26 call26 ntmps26 results26 ?_;have F:=aA.eq_1;repeat refine Sx f0 f1 f2 ?_
 refine bk [(24,⟨1,(J' c).map gN,9,true⟩)] ?_ ?_
 ·exact qe
 refine aH (D:=Nat) (fun j A=>FA c j A) (fun j A=>RA c j A) (fun j _ d=>j<=c.trans.length/\d 27=false) (fun j=>c.trans.length-j) 0 ?_ ?_ ?_ ?_
 ·exact⟨NG _,rfl⟩
 ·have F:=ai UZ UT;exact qe
 ·have F:=i' UL US UT @Dd @yS Uv
  (simp only[go_sem,kf,F])
 try clear f0 f1 f2
 rintro j f d ⟨hj,m⟩;by_cases a:j<c.trans.length
 ·obtain⟨t,Z⟩:=gE a;have n:=it a;have s:=aD a (by omega);have fE:=(xb env c (by omega) .any cy t.Z8).lend rfl;have o:dL c j=(t.src,SX c t.Z8):=by unfold dL;rw[Z]
  have K:=HQ c j f t.src (SX c t.Z8);have w:=iF c j f;generalize SX c t.Z8=e at*;refine eA ?_;cases L:ri (t.src,e) (cI c j) 0 with
  | none=>
    rw[L]at K;have G:dL c j∉cI c j:=by rw[o];exact lm L
    have J:cI c (j+1)=cI c j++[dL c j]:=by
     show (if dL c j∈cI c j then _ else _)=_;rw[Mt G]
    have Y: ∀x y:List AV,(de c j f++[x]).set (cI c j).length y=de c j f++[y]:=fun x y=>by rw[<-w];simp
    have P: ∀x:List AV,(de c j f++[x])[(cI c j).length]? =some x:=fun x=>by rw[<-w];simp
    have F:=ed UZ UL US Uv Uy n s Z @jp K w<|gb Y P m;repeat refine st ?_
    refine lL fE ?_;repeat refine st ?_
    refine G7 J G ?_ ⟨?_,?_,?_,?_,rk fun q r z=> ?_⟩ ?_ fun g e U=>⟨j+1,⟨a,U⟩,?_,?_,by omega⟩
    ·have F:=hU UZ UL Uv s;exact qe
    ·(simp only[go_sem,FA,RA,aA,s])
    ·have F:=hU UL RN.eq_1 US Uv;exact qe
    ·have F:=g9 UL RN.eq_1 US Uv o
     (simp only[go_sem,F])
     exact N6 (fun O=>(⟨0,O++_,_,false⟩:Row)) (Ac fun k=>by simp only[go_sem])
    ·have F:=ai UL RN.eq_1;exact qe
    ·have C:=o5 c j q;rw[z]at C;have F:=ai UL C;exact qe
    ·have F:=ai UL m;exact qe
    ·exact L8 c (j+1) g _ e
    exact LY c (j+1) g _ e
  | some q=>
    rw[L]at K;have b:=(qF L).2;rw[Pb]at b;have X:dL c j∈cI c j:=by rw[o];exact Mv b
    have J:cI c (j+1)=cI c j:=by
     show (if dL c j∈cI c j then _ else _)=_;rw[Mw X]
    have Q:(de c j f)[q]? =some [.agg [I t.src,I e], .row (q+6000) (f (q+6000))]:=by rw[dx,b];rfl
    have l:(de c j f).set q [.agg [I t.src,I e], .row (q+6000) (f (q+6000))]=de c j f:=De (p:=(t.src,e)) b;have v:=o5 c j q;rw[cL,b]at v;simp only[NT]at v;have hrl:=Ez c j (t.src,e);have V:cU ((ix c j (t.src,e)).length+1) 8:=aC (by omega) (by omega);have F:=ed UZ UL US Uv Uy n s Z @jp K Q<|hU l v V m;repeat refine st ?_
    refine lL fE ?_;repeat refine st ?_
    refine⟨_,dd.refl _,j+1,⟨a,?_⟩,?_,⟨?_,?_,?_,rk fun k r z=> ?_⟩,by omega⟩
    ·exact qe
    ·have F:=hU UZ UL Uv s;exact qe
    ·have F:=gb UL US Uv;exact qe
    ·have F:=gb UL US Uv;exact qe
    ·have F:=hU UL US Uv l
     (simp only[go_sem,F])
     exact N6 (fun O=>(⟨0,O,_,false⟩:Row)) (Dg (p:=(t.src,e)) J b (fun k E=>by rw[cR _ _ _ (by omega),cR _ _ _ (by omega),cR _ _ _ (by omega),cR _ _ _ (by omega)]) (aw ..))
    rw[yU J o (nP c j) b k]at z;by_cases N:k=q
    ·subst N;rw[Mw rfl]at z;cases z;have F:=gb UL US Uv;exact qe
    rw[Mt N]at z;have C:=o5 c j k;rw[z]at C;have E: ¬(k+6000=q+6000):=by omega
    have F:=i' UL US Uv C E N;exact qe
 obtain rfl:j=c.trans.length:=by omega
 have n:=nl c.trans.length;obtain⟨e',u,H⟩:=Dt (c:=c) c.trans.length (g:=f) m;refine fG H ?_;have F:=g9 UZ M1.eq_1 Uv n u;repeat refine st ?_
 refine nC 27 9100 0 8 33 1 ?_
 refine aH (D:=Nat) (fun i A=>[(2, .lit (.pointer none)),(3, .lit .nilIface),(4,aQ c),(6, .loc 27 (A 27) 0 0),(62,qa c.Z9),(63,I c.Z9.length),(64,I i)])
  (fun i A=>[(27,⟨9,[[Sg c.name,I c.initial,pf c.vars,qa c.Z9,sT c.trans,aQ c, .seq 1 ((J' c).map gN), .fmap (fP c), .row 9100 (A 9100)]],124,false⟩),(9100,⟨1,rF c i,33,true⟩)])
  (fun i _ d=>i<=c.Z9.length/\d 27=false/\d 9100=false) (fun i=>c.Z9.length-i) 0 ?_ ?_ ?_ ?_
 ·refine⟨NG _,?_,?_⟩<;>simp only[go_sem,u]
 ·exact qe
 ·(simp only[go_sem,F])
  try rfl
 try clear n m u H hj a
 rintro i f d ⟨hi,m,M⟩;by_cases a:i<c.Z9.length
 ·have n:=it a;have s:=aD a (by omega);have f3:=nX env c h 40 i a (by omega);have hbl:=KW h a
  have f4:b7 prog env 50 [aQ c, .seq 1 ((zE c i).map aB)] (.own 3 1 ((Th c i).map aB)):=by
   rw[Lo];exact gB env c h.toRight (zL (zE c i)) (by simp[zL];omega)
  have R:(rF c i).length=i:=by simp[rF]
  have S:rF c (i+1)=rF c i++[[.seq 1 ((Th c i).map aB)]]:=by unfold rF;rw[PN,NA];rfl
  have V:cU (i+1) 24:=aC (by omega) (by omega);have F:=mc n s R V m M UT;repeat refine wc f3 f4 ?_
  refine⟨i+1,⟨a,?_,?_⟩,?_,?_,by omega⟩
  ·simp only[go_sem,m]
  ·simp only[go_sem,M]
  ·exact qe
  have F:=ai S UT;exact qe
 obtain rfl:i=c.Z9.length:=by omega
 have n:=nl c.Z9.length;have F:=gb n m M;repeat refine st ?_
 refine bk [(9100,⟨1,rF c c.Z9.length,33,true⟩)] ?_ ?_
 ·exact qe
 refine lU [(2, .loc 27 (f 27) 0 0),(3, .lit .nilIface)] [(27,⟨9,[ct c],124,false⟩)] ?_ ?_ ?_
 ·exact T7
 ·have F:=ai UO UT;exact qe
 have F:=ai UO @jp
 (refine aM ?_;show (aj _ _ _).run _=some _;simp only[go_sem,F])
 rfl
end
section
def w8(env:b8)(c:aq)(l:List l5):b7 prog env 102 [.agg (aA c),sw l] (B (br l c.vars.length c.Z9.length)):=by
 have a:=kj env l c.vars.length c.Z9.length;unfold br;refine qf func102 call102 ntmps102 results102 ?_;have F:=aA.eq_1;exact hH a
def HL{m:List UInt8}(h:bp m=true):(m == [])=false:=by
 cases m with
 |nil=>cases h
 |cons a l=>rfl
def Ip(env:b8)(c:aq)(a:j'):b7 prog env 157 [.agg (aA c), .agg (bB a)] (B (gM c.vars.length c.Z9.length a)):=by
 obtain⟨k,n,m,co⟩:=a;have b:=w8 env c co;have d:=fO env m;have f:bp m=true->(m == [])=false:=HL;have e:((co.length:Int)==0)=(co == []):=fJ co;have r: ∀p q:Prop,[Decidable p]->[Decidable q]->decide (p/\q)=(decide p&&decide q):=fun p q=>SB p q;refine qf func157 call157 ntmps157 results157 ?_;by_cases l:1<=k/\k<=5
 ·have l:k=1\/k=2\/k=3\/k=4\/k=5:=by omega
  rcases l with rfl|rfl|rfl|rfl|rfl
  all_goals
   have F:=qr Uv UF gM.eq_1 f e r jO @SO @SK;exact mw b d
 rw[show gM c.vars.length c.Z9.length ⟨k,n,m,co⟩=false by unfold gM;rw[Mt (by simp only;omega),Mt (by simp only;omega),Mt (by simp only;omega),Mt (by simp only;omega)]];have g:(k==2)=false:=d5 (by omega);have h:(k==4)=false:=d5 (by omega);have i:(k==5)=false:=d5 (by omega);by_cases j:k<1
 ·have F:=qr Uv UF j g h i jO @SO @SK;exact mw b d
 have o:5<k:=by omega
 have F:=lE Uv UF j o g h i jO @SO @SK;exact mw b d
def pj(env:b8)(c:aq)(l:List j'):b7 prog env 96 [.agg (aA c),jt l] (B (eS c.vars.length c.Z9.length l)):=by
 refine qf func96 call96 ntmps96 results96 ?_;by_cases m:32<l.length
 ·have j:(32:Int)< (l.length:Int):=by omega
  rw[show eS c.vars.length c.Z9.length l=false by unfold eS;rw[N7 (by omega)];rfl];have F:=ai Uv j;exact ek
 have j: ¬(32:Int)< (l.length:Int):=by omega
 rw[show eS c.vars.length c.Z9.length l=l.all (gM c.vars.length c.Z9.length) by unfold eS;rw[Ni (by omega)];rfl];have F:=ai Uv j;repeat refine st ?_
 refine lq l.length (by omega) (fun k o=>[(1,jt l),(2, .loc 2 (o 2) 0 0),(5,I k)]) (fun _ _=>[(2,⟨5,[aA c],26,false⟩)]) (fun k _ _=>(l.take k).all (gM c.vars.length c.Z9.length)=true) rfl ?_ ?_
 ·rintro k p i e h n b;obtain⟨a,g,q⟩:=aS e;have d:=Ip env c a;cases f:gM c.vars.length c.Z9.length a with
  | true=>
    have F:=i' Uv h n g UF f;repeat refine fc d ?_
    exact qn (k+1) ⟨e,du b g f⟩
  | false=>
    rw[mf g f];have F:=i' Uv h n g UF f;exact hH d
 rintro p i h b;rw[uO b (by omega)];have F:=ai Uv h;exact ek
def sU(env:b8)(c:aq)(s:nr)(f:s.parent<c.Z9.length):b7 prog env 100 [.agg (aA c), .agg (aK s)] (B (cw c s)):=by
 refine qf func100 call100 ntmps100 results100 ?_;by_cases a:0<=s.parent
 ·obtain⟨m,b⟩:=fg a;obtain⟨q,d,_⟩:=aS (show m<c.Z9.length by omega);have e:=it (show m<c.Z9.length by omega);rw[show cw c s=(q.kind==1) by unfold cw;rw[b,bN,d]];have F:=g9 Uv Uw b d e;exact ek
 rw[show cw c s=false by unfold cw at_;rw[Mt a]];have F:=gb Uv Uw a;exact ek
def yN(env:b8)(c:aq)(l:List Nat)(w:l.length<=1000000)(m: ∀k∈l,k<c.Z9.length):b7 prog env 99 [.agg (aA c),SY l] (B ((l.all fun k=>az c k)&&decide (0<l.length))):=by
 refine qf func99 call99 ntmps99 results99 ?_;have F:=aA.eq_1;repeat refine st ?_
 refine lq l.length (by omega) (fun k u=>[(1,SY l),(2, .loc 2 (u 2) 0 0),(5,I k)]) (fun _ _=>[(2,⟨5,[aA c],26,false⟩)]) (fun k _ _=>(l.take k).all (fun k=>az c k)=true) rfl ?_ ?_
 ·rintro j v h b g r a;obtain⟨k,f,n⟩:=aS b;obtain⟨q,i,_⟩:=aS (m k n);have s:=it (m k n);have o:=iz env q;have d:az c (k:Int)=eR q:=by unfold az;rw[bN,i]
  cases e:eR q with
  | true=>
    have F:=qr Uv g r s f i Ux Uw e;repeat refine fc o ?_
    exact qn (j+1) ⟨b,du (p:=fun k:Nat=>az c k) a f (d.trans e)⟩
  | false=>
    rw[mf (p:=fun k:Nat=>az c k) f (d.trans e),Ng];have F:=qr Uv g r s f i Ux Uw e;exact hH o
 rintro v h g a;rw[uO a (by omega),Nj];have t:decide ((0:Int)< (l.length:Int))=decide (0<l.length):=by rw[N4];simp
 have F:=ai Uv g;repeat refine st ?_
 (refine aM ?_;show (aj _ _ _).run _=some _;simp only[go_sem,F])
 exact N6 B t
def Io(env:b8)(c:aq)(t:c.vars.length<=1000000)(i:Nat)(v:PJ)(h:c.vars[i]? =some v):b7 prog env 53 [.agg (aA c),I i] (B (qR c i v)):=by
 have o:i<c.vars.length:=(Mr.1 h).1;have r:=it o;have f1:=fO env v.name;have f2:=db env v.start;refine qf func53 call53 ntmps53 results53 ?_;have F:=hU Uv r h UU;repeat refine st ?_
 refine lp (D:=Nat) (fun j m=>[(1,I i),(2, .loc 2 (m 2) 0 0),(5, .loc 5 (m 5) 0 0),(6,I j)]) (fun _ _=>[(2,⟨5,[aA c],26,false⟩),(5,⟨2,[iK v],140,false⟩)]) (fun j _ _=>j<=i/\newVar c v.name j=true) (fun j=>i-j) 0 ⟨NG _,rfl⟩ ?_;rintro j u n ⟨s,b⟩;by_cases a:j<i
 ·obtain⟨x,d,_⟩:=aS (show j<c.vars.length by omega);have g:(c.vars.take i)[j]? =some x:=by rw[N8,Mw a];exact d
  have f:=it a;have l:=it (show j<c.vars.length by omega);have k:=aD a (by omega);cases e:(x.name==v.name)
  ·have F:=mc Uv f k l d UU e;repeat refine st ?_
   exact qn (j+1) ⟨a,qk b d e⟩
  rw[show qR c i v=false by unfold qR newVar;rw[mf (p:=fun x:PJ=> !(x.name==v.name)) g (by rw[e];rfl)];rfl];have F:=mc Uv f k l d UU e;exact ek
 have f: ¬(j:Int)< (i:Int):=by omega
 obtain rfl:j=i:=by omega
 have q:qR c j v=(bp v.name&& !(v.name == [100,97,116,97])&& !(v.name == [105,110])&&aL v.start):=by
  unfold qR aL;rw[b];simp only[Nj,Rl]
 rw[q];have F:=gb f UU jO;exact mw f1 f2
end
section
def Kn{a:Type} [DecidableEq a](l:List a):(0< (l.length:Int))=((l == [])=false):=by
 rw[eq_iff_iff];cases l<;>simp
def qA(c:aq)(i:Int)(a:c.Z9.length<=1000000):(av c i true).length<=1000000:=NK (dS c i true _) a
def AM(s:nr)(l:List Nat):(∀n:Int,(s.kind=n)=((s.kind==n)=true))/\(((s.kind==4)=true\/(s.kind==5)=true)=(aU s=true))/\((l=[])=((l == [])=true)):=by
 refine⟨fun n=>by simp,by simp[aU],by simp⟩
def DN(env:b8)(c:aq)(a:c.Z9.length<=1000000)(i:Nat)(s:nr)(e:c.Z9[i]? =some s):b7 prog env 54 [.agg (aA c),I i] (B (cN c i s)):=by
 have A:i<c.Z9.length:=(Mr.1 e).1;have j:=it A;have f1:=fO env s.name;have f2:=Gj env c s.name a;have f3:=pj env c s.ZW;have f4:=pj env c s.out;have f5:=bh env c (i:Int) true a;have f6:=bh env c (i:Int) false a;have f7:=bu env s;have f8:=sZ env (av c i true) s.initial (qA c i a);have f9:=yN env c (av c i true) (qA c i a) (fun k C=>(pz C).1);have p:=fJ (av c i true);have r:=Kn (av c i false);have t:=fJ s.out;have u:=fJ s.ZW;obtain⟨l,n,o⟩:=AM s (av c i true);by_cases E:s.parent<c.Z9.length/\0<=s.parent
 ·obtain⟨m,z⟩:=fg E.2;obtain⟨q,v,_⟩:=aS (show m<c.Z9.length by omega);have f: ¬(m:Int)<0:=by omega
  have p4:(0:Int)<=m:=by omega
  have g:((m:Int) == -1)=false:=d5 (by omega);have p3:=it (show m<c.Z9.length by omega);have w:=iz env q;have d:az c (m:Int)=eR q:=by unfold az;rw[bN,v]
  have h:=sU env c s (by omega);have x:=bh env c (m:Int) true a;have y:=sZ env (av c m true) s.initial (qA c m a);have b:decide ((m:Int)<i)= !decide ((i:Int)<=m):=by rw[N4];simp
  refine qf func54 call54 ntmps54 results54 ?_;by_cases p5:(i:Int)<=m
  ·have F:=ed Uv Uw j e z v f p3 p4 p5 g<|ed d p r t u l n o U3 UY U4<|gb b jO @ite_self.{1};exact Mj f1 f2 f3 f4 f5 f6 f7 f8 f9 w h x y
  have F:=ed Uv Uw j e z v f p3 p4 p5 g<|ed d p r t u l n o U3 UY U4<|gb b jO @ite_self.{1};exact Mj f1 f2 f3 f4 f5 f6 f7 f8 f9 w h x y
 refine qf func54 call54 ntmps54 results54 ?_;by_cases f:s.parent<0
 ·have h:=sU env c s (by omega);have b: ¬0<=s.parent:=by omega
  have D:cw c s=false:=by unfold cw at_;rw[Mt b]
  have F:=ed Uv Uw j e f b D p r t u<|n4 l n o U3 UY U4 jO @ite_self.{1};exact Mo f1 f2 f3 f4 f5 f6 f7 f8 f9 h
 have b:(i:Int)<=s.parent:=by omega
 have p3: ¬s.parent<i:=by omega
 have p4:0<=s.parent:=by omega
 have g:(s.parent == -1)=false:=d5 (by omega);have F:=ed Uv Uw j e f b p3 p4 g p r<|lE t u l n o U3 UY U4 jO @ite_self.{1};exact Ur f1 f2 f3 f4 f5 f6 f7 f8 f9
end
section
def Gb(env:b8)(c:aq)(t:tR):b7 prog env 56 [.agg (aA c), .agg (ax t)] (B (da c t)):=by
 have f2:=fO env t.Z8;have f3:=w8 env c t.guard;have f4:=pj env c t.Z0;have j:=fJ t.guard;refine qf func56 call56 ntmps56 results56 ?_;by_cases d:t.src<0
 ·rw[show da c t=false by unfold da az at_;rw[Mt (show ¬0<=t.src by omega)];rfl];have F:=gb Uv Uy d;exact ek
 obtain⟨m,b⟩:=fg (show 0<=t.src by omega);have d: ¬(m:Int)<0:=by omega
 by_cases i:c.Z9.length<=m
 ·have a:(c.Z9.length:Int)<=(m:Int):=by omega
  rw[show da c t=false by unfold da az;rw[b,bN,NI i];rfl];have F:=g9 Uv Uy b d a;exact ek
 have a: ¬(c.Z9.length:Int)<=(m:Int):=by omega
 have g:=it (show m<c.Z9.length by omega);obtain⟨q,e,_⟩:=aS (show m<c.Z9.length by omega);have f1:=iz env q;have f:az c t.src=eR q:=by unfold az;rw[b,bN,e]
 have h:da c t=(eR q&&((t.Z8 == [])||bp t.Z8)&&((t.guard == [])||br t.guard c.vars.length c.Z9.length)&&eS c.vars.length c.Z9.length t.Z0&&((t.target == -1)||(decide (0<=t.target)&&decide (t.target<c.Z9.length)))):=by unfold da;rw[f]
 rw[h];by_cases p3:t.target< -1
 ·rw[show ((t.target == -1)||(decide (0<=t.target)&&decide (t.target<c.Z9.length)))=false by rw[d5 (show t.target≠ -1 by omega),N7 (show ¬0<=t.target by omega)];rfl,OB];have F:=qr Uv Uy Uw b e d a g p3;exact hH f1
 by_cases p4:(c.Z9.length:Int)<=t.target
 ·rw[show ((t.target == -1)||(decide (0<=t.target)&&decide (t.target<c.Z9.length)))=false by rw[d5 (show t.target≠ -1 by omega),N7 (show ¬t.target<c.Z9.length by omega)];simp,OB];have F:=lE Uv Uy Uw b e d a g p3 p4;exact hH f1
 rw[show ((t.target == -1)||(decide (0<=t.target)&&decide (t.target<c.Z9.length)))=true by rw[OQ,Mu];simp;omega,RU];have F:=ed Uv Uy Uw b e d a g p3 p4 j jO;exact TB f1 f2 f3 f4
abbrev TH(c:aq):AV:= .tuple [I (n5 c).1,I (n5 c).2]
def dr{c:aq}{x:Int×Int}(h:n5 c=x):TH c= .tuple [I x.1,I x.2]:=by unfold TH;rw[h]
def DV(env:b8)(c:aq):b7 prog env 27 [.agg (aA c)] (TH c):=by
 have h:=fO env c.name;have T:=fJ c.Z9;refine qf func27 call27 ntmps27 results27 ?_;by_cases U:32<c.Z9.length
 ·have w:(32:Int)< (c.Z9.length:Int):=by omega
  rw[dr (show n5 c=(8, -1) by unfold n5;rw[Mw (.inl U)])];have F:=ai Uv w;exact ek
 have w: ¬(32:Int)< (c.Z9.length:Int):=by omega
 by_cases V:64<c.trans.length
 ·have y:(64:Int)< (c.trans.length:Int):=by omega
  rw[dr (show n5 c=(8, -1) by unfold n5;rw[Mw (.inr (.inl V))])];have F:=gb Uv w y;exact ek
 have y: ¬(64:Int)< (c.trans.length:Int):=by omega
 by_cases W:8<c.vars.length
 ·have C:(8:Int)< (c.vars.length:Int):=by omega
  rw[dr (show n5 c=(8, -1) by unfold n5;rw[Mw (.inr (.inr W))])];have F:=hU Uv w y C;exact ek
 have C: ¬(8:Int)< (c.vars.length:Int):=by omega
 have M: ¬(32<c.Z9.length\/64<c.trans.length\/8<c.vars.length):=by omega
 cases A:(c.Z9 == [])
 case true=>
  rw[dr (show n5 c=(1, -1) by unfold n5;rw[Mt M,Mw (.inl (by simpa using A))])];have F:=i' Uv w y C T A;exact hH h
 cases G:bp c.name
 ·rw[dr (show n5 c=(1, -1) by unfold n5;rw[Mt M,Mw (.inr G)])];have F:=mc Uv w y C T A G;exact hH h
 have N: ¬(c.Z9=[]\/bp c.name=false):=by
  rw[G];simpa using A
 have f:n5 c=(match bF (jl c) c.vars.length with
  |some i=>(1,2000+(i:Int))
  | none=>match bF (lw c) c.Z9.length with
    |some i=>(1,(i:Int))
    | none=>if mi c=false then(1, -1) else match bF (rW c) c.trans.length with
      |some i=>(1,1000+(i:Int))
      |none=>(0, -1)):=by
  unfold n5;rw[Mt M,Mt N];rfl
 have F:=mc Uv w y C T A G;repeat refine fc h ?_
 refine aH (D:=Nat) (fun i E=>[(1, .loc 1 (E 1) 0 0),(4,I i)]) (fun _ _=>[(1,⟨5,[aA c],26,false⟩)]) (fun i _ _=>i<=c.vars.length/\ ∀j,j<i->jl c j=true) (fun i=>c.vars.length-i) 0 ?_ ?_ ?_ ?_
 ·exact⟨NG _,fun j B=>by omega⟩
 ·exact qe
 ·have F:=aA.eq_1;exact qe
 rintro i z l ⟨J,a⟩;by_cases b:i<c.vars.length
 ·obtain⟨v,Q,_⟩:=aS b;have g:=it b;have r:=aD b (by omega);have d:=Io env c (by omega) i v Q;cases e:qR c i v
  ·have S:IntKind.i64.wrap (2000+(i:Int))=2000+(i:Int):=aW (by omega) (by omega);rw[dr (show n5 c=(1,2000+(i:Int)) by rw[f,dO b a (by rw[lv Q];exact e)])];have F:=g9 Uv g r S e;exact hH d
  have F:=hU Uv g r e;repeat refine fc d ?_
  refine⟨i+1,⟨b,gy a (by rw[lv Q];exact e)⟩,?_,?_,?_⟩
  ·exact qe
  ·have F:=aA.eq_1;exact qe
  omega
 have g: ¬(i:Int)< (c.vars.length:Int):=by omega
 have R:bF (jl c) c.vars.length=none:=bK fun j B=>a j (by omega);rw[R]at f;have F:=ai Uv g;repeat refine st ?_
 refine aH (D:=Nat) (fun i E=>[(1, .loc 1 (E 1) 0 0),(5,I i)]) (fun _ _=>[(1,⟨5,[aA c],26,false⟩)]) (fun i _ _=>i<=c.Z9.length/\ ∀j,j<i->lw c j=true) (fun i=>c.Z9.length-i) 0 ?_ ?_ ?_ ?_
 ·exact⟨NG _,fun j B=>by omega⟩
 ·exact qe
 ·have F:=aA.eq_1;exact qe
 try clear z l J a g b i
 rintro i z l ⟨J,a⟩;by_cases b:i<c.Z9.length
 ·obtain⟨s,O,_⟩:=aS b;have g:=it b;have r:=aD b (by omega);have d:=DN env c (by omega) i s O;cases e:cN c i s
  ·rw[dr (show n5 c=(1,(i:Int)) by rw[f,dO b a (by rw[pD O];exact e)])];have F:=hU Uv g r e;exact hH d
  have F:=hU Uv g r e;repeat refine fc d ?_
  refine⟨i+1,⟨b,gy a (by rw[pD O];exact e)⟩,?_,?_,?_⟩
  ·exact qe
  ·have F:=aA.eq_1;exact qe
  omega
 have g: ¬(i:Int)< (c.Z9.length:Int):=by omega
 have P:bF (lw c) c.Z9.length=none:=bK fun j B=>a j (by omega);rw[P]at f;by_cases X:c.initial<0
 ·have p:mi c=false:=by unfold mi at_;rw[Mt (by omega)]
  rw[dr (show n5 c=(1, -1) by rw[f,Mw p])];have F:=gb Uv g X;exact ek
 obtain⟨m,u⟩:=fg (show 0<=c.initial by omega);have o: ¬(m:Int)<0:=by omega
 by_cases L:(c.Z9.length:Int)<=(m:Int)
 ·have p:mi c=false:=by unfold mi;rw[u,bN,NI (by omega)]
  rw[dr (show n5 c=(1, -1) by rw[f,Mw p])];have F:=g9 Uv g u o L;exact ek
 have p3:=it (show m<c.Z9.length by omega);obtain⟨q,K,_⟩:=aS (show m<c.Z9.length by omega);have k:=iz env q;have n:mi c=((q.parent == -1)&&eR q):=by unfold mi;rw[u,bN,K]
 cases x:(q.parent == -1)
 ·rw[dr (show n5 c=(1, -1) by rw[f,Mw (by rw[n,x];rfl)])];have F:=lE Uv Uw g u o L p3 K x jO;exact hH k
 cases H:eR q
 ·rw[dr (show n5 c=(1, -1) by rw[f,Mw (by rw[n,x,H];rfl)])];have F:=ql Uv Uw g u o L p3 K x H jO;exact hH k
 rw[Mt (by rw[n,x,H];simp)]at f;have F:=ql Uv Uw g u o L p3 K x H jO;repeat refine fc k ?_
 have F:=ai Uv u;refine lq c.trans.length (by omega) (fun i E=>[(1, .loc 1 (E 1) 0 0),(6,I i)]) (fun _ _=>[(1,⟨5,[aA c],26,false⟩)]) (fun i _ _=> ∀j,j<i->rW c j=true) (fun j B=>by omega) ?_ ?_
 ·try clear z l J a g b i
  rintro i z l b g r a;obtain⟨t,p,_⟩:=aS b;have d:=Gb env c t;cases e:da c t
  ·have S:IntKind.i64.wrap (1000+(i:Int))=1000+(i:Int):=aW (by omega) (by omega);rw[dr (show n5 c=(1,1000+(i:Int)) by rw[f,dO b a (by rw[pC p];exact e)])];have F:=mc Uv Uy g r S p e;exact hH d
  have F:=i' Uv Uy g r p e;repeat refine fc d ?_
  refine⟨i+1,⟨b,gy a (by rw[pC p];exact e)⟩,?_,?_,?_⟩
  ·exact qe
  ·have F:=aA.eq_1;exact qe
  omega
 try clear z l J a g b i
 rintro z l g a;rw[dr (show n5 c=(0, -1) by rw[f,bK fun j B=>a j (by omega)])];have F:=ai Uv g;exact ek
end
end Go.Proofs.YtfhkmjbjafeckaaGreatDoor
