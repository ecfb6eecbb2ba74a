/- States that come and what comes of it, plain: what is active, whether it is over. No program is named here. -/
import Derived.Test.YtfhkmjbjafeckaaGreatDoorP26
set_option maxRecDepth 100000
set_option maxHeartbeats 16000000
set_option linter.unusedSimpArgs false
set_option linter.defProp false
namespace Go.Proofs.YtfhkmjbjafeckaaGreatDoor
open Go.Proofs.Tryz
open Go.RowKit
section
def Es(c:aq)(act:List Int):Nat->Int->Bool
 |0,_=>false
 | f+1,i=>if bY c i=2 then(g6 c i).all fun k=>Es c act f k
   else if bY c i=1 then(g6 c i).any fun k=>act.contains k&&bY c k==3
   else bY c i==3
def xi{c:aq}(h:ch c){act:List Int}(G:tI c act=true): ∀(f:Nat)(x:Int),x∈act->oy c act f x=Es c act f x
 |0,x,_=>rfl
 | f+1,x,M=>by
   have K:=cx G;obtain⟨s,r,A,H,N,I,J⟩:=K.of M;have u:bY c x=s.kind:=by unfold bY;rw[r]
   unfold aU at H;simp only[Q8,Oy]at H;have v:g6 c x=zL (av c x true):=rfl;unfold oy Es;rw[u,v];by_cases t:s.kind=3
   ·rw[Mw t,Mt (by omega),Mt (by omega),t];rfl
   rw[Mt t];by_cases p:s.kind=1
   ·rw[Mw p,Mt (by omega),Mw p];by_cases D:av c x true=[]
    ·rw[D];rfl
    ·have j:=I p D;unfold b6 at j;obtain⟨a,E⟩:=Ps.1 j
     have i: ∀k∈av c x true,act.contains (k:Int)=true->k=a:=fun k u L=>by
      have:k∈(av c x true).filter fun k:Nat=>act.contains (k:Int):=ND.2 ⟨u,L⟩;rw[E]at this;simpa using this
     have o:a∈av c x true/\act.contains (a:Int)=true:=by
      have:a∈(av c x true).filter fun k:Nat=>act.contains (k:Int):=by rw[E];simp
      exact ND.1 this
     cases l:(zL (av c x true)).find? fun k=>act.contains k with
     | none=>
       exfalso
       have:=Pv.1 l a (NE.2 ⟨a,o.1,rfl⟩);exact this o.2
     | some y=>
       have d:=QU l;obtain⟨k,g,rfl⟩:=NE.1 (On l);obtain rfl:=i k g d;simp only;rw[N4,OE];constructor
       ·intro e;exact⟨_,NE.2 ⟨k,g,rfl⟩,by rw[d,e];rfl⟩
       rintro⟨z,B,n⟩;obtain⟨m,w,rfl⟩:=NE.1 B;rw[Mu]at n;obtain rfl:=i m w n.1;exact n.2
   rw[Mt p];by_cases C:s.kind=2
   ·rw[Mw C];have b:=J C;unfold b6 at b;have b:=QD.1 b;rw[N4,Mz,Mz]
    have e: ∀y∈zL (av c x true),oy c act f y=Es c act f y:=fun y d=>by
     obtain⟨k,g,rfl⟩:=NE.1 d;exact xi h G f k (Mx.1 (b k g))
    exact⟨fun q y d=>by rw[<-e y d];exact q y d,fun q y d=>by rw[e y d];exact q y d⟩
   exfalso
   have A:=aI.1 A
   have:=h.shape (k:=x.toNat) (s:=s) (by
    unfold at_ at r;rw[Mw A.1]at r
    exact r)
   unfold dK at this;rw[Mt p,Mt C,Mt t]at this;split at this
   ·omega
   cases this
def w7(env:b8)(c:aq)(h:ch c)(act:List Int)(J:act.length<=1000000): ∀(f i:Nat),i<c.Z9.length->c.Z9.length-i<=f->b7 prog env 109 [.agg (aA c), .seq 1 (act.map aa),I i] (B (Es c act f i))
 |0,i,E,D=>by omega
 | f+1,i,E,D=>by
   have L:=h.Z6;obtain⟨s,z⟩:=gE E;have M:=fun(k:Nat) p D=>w7 env c h act J f k p D;have G:=it E;have f0:=((bh env c i true (by omega)).lend (al (fun _=>rfl) _)).seen;have N:=fun(k:Nat)=>cK env act k J;have Q:=bE h.toRight i true;have u: ∀j∈av c i true,i<j/\j<c.Z9.length:=fun j O=>by have:=bJ h.toRight (aY O).1;omega
   unfold Es;rw[iQ z,show g6 c (i:Int)=zL (av c i true) from rfl];generalize av c i true=K at*;unfold aA at f0 M;by_cases q:s.kind=2
   ·rw[Mw q];have e:(s.kind==2)=true:=by simp[q]
    have m:(s.kind==1)=false:=by simp[q]
    have o:(s.kind==3)=false:=by simp[q]
    refine qf func109 call109 ntmps109 results109 ?_;have F:=hU Uv Uw z G;repeat refine st ?_
    refine lL f0 ?_;repeat refine st ?_
    refine lq K.length (by omega) (fun j g=>[(1, .seq 1 (act.map aa)),(3, .loc 3 (g 3) 0 0),(7, .loc 7 (g 7) 0 0),(8, .seq 1 (K.map aB)),(9,I j)]) (fun j g=>[(3,⟨5,[aA c],26,false⟩),(7,⟨6,[aK s],75,false⟩)]) (fun j _ C=>((zL K).all fun k=>Es c act f k)=((zL K).drop j).all fun k=>Es c act f k) rfl ?_ ?_
    ·rintro j x r b d n a;obtain⟨k,l⟩:=gE b;obtain⟨P,p⟩:=u k (Mv l);have f1:=M k p (by omega);rw[au (rJ l),Qg]at a;cases v:Es c act f (k:Int) with
     | true=>
       rw[v]at f1 a;rw[Nj]at a;have F:=n4 Uv Uw Ux l d n m e;repeat refine fc f1 ?_
       exact qn (j+1) ⟨b,a⟩
     | false=>
       rw[v]at f1 a;rw[Ng]at a;rw[a];show fp _ _ _ _ _ _;have F:=n4 Uv Uw Ux l d n m e;exact hH f1
    rintro x r d a;rw[OG (by rw[am];omega)]at a;rw[a];show fp _ _ _ _ _ _;have F:=hU Uw d e o;exact ek
   rw[Mt q];have e:(s.kind==2)=false:=by simp[q]
   by_cases w:s.kind=1
   ·rw[Mw w];have m:(s.kind==1)=true:=by simp[w]
    have o:(s.kind==3)=false:=by simp[w]
    refine qf func109 call109 ntmps109 results109 ?_;have F:=hU Uv Uw z G;repeat refine st ?_
    refine lL f0 ?_;repeat refine st ?_
    refine lq K.length (by omega) (fun j g=>[(1, .seq 1 (act.map aa)),(3, .loc 3 (g 3) 0 0),(7, .loc 7 (g 7) 0 0),(8, .seq 1 (K.map aB)),(9,I j)]) (fun j g=>[(3,⟨5,[aA c],26,false⟩),(7,⟨6,[aK s],75,false⟩)]) (fun j _ C=>((zL K).any fun k=>act.contains k&&bY c k==3)=((zL K).drop j).any fun k=>act.contains k&&bY c k==3) rfl ?_ ?_
    ·rintro j x r b d n a;obtain⟨k,l⟩:=gE b;obtain⟨_,p⟩:=u k (Mv l);obtain⟨t,A⟩:=gE p;have H:=it p;have f1:=N k;rw[au (rJ l),QH,iQ A]at a;cases v:act.contains (k:Int) with
     | false=>
       rw[v]at f1 a;rw[Ng,Oj]at a;have F:=lE Uv Uw Ux A l d n H m e;repeat refine fc f1 ?_
       exact qn (j+1) ⟨b,a⟩
     | true=>
       rw[v]at f1 a;cases y:t.kind==3 with
       | false=>
         rw[y]at a;rw[OB,Oj]at a;have F:=ql Uv Uw Ux A l y d n H m e;repeat refine fc f1 ?_
         exact qn (j+1) ⟨b,a⟩
       | true=>
         rw[y]at a;rw[RU,QF]at a;rw[a];show fp _ _ _ _ _ _;have F:=ql Uv Uw Ux A l y d n H m e;exact hH f1
    rintro x r d a;rw[OG (by rw[am];omega)]at a;rw[a];show fp _ _ _ _ _ _;simp only[Qx];have F:=hU Uw d e o;exact ek
   rw[Mt w];have m:(s.kind==1)=false:=by simp[w]
   refine qf func109 call109 ntmps109 results109 ?_;have F:=hU Uv Uw z G;repeat refine st ?_
   refine lL f0 ?_;repeat refine st ?_
   refine lq K.length (by omega) (fun j g=>[(1, .seq 1 (act.map aa)),(3, .loc 3 (g 3) 0 0),(7, .loc 7 (g 7) 0 0),(8, .seq 1 (K.map aB)),(9,I j)]) (fun j g=>[(3,⟨5,[aA c],26,false⟩),(7,⟨6,[aK s],75,false⟩)]) (fun _ _ _=>True) trivial ?_ ?_
   ·rintro j x r b d n _;have F:=i' Uv Uw d n m e;repeat refine st ?_
    exact qn (j+1) ⟨b,trivial⟩
   ·rintro x r d _;cases o:s.kind==3 with
    | true=>
      have F:=hU Uw d e o;exact ek
    | false=>
      have F:=hU Uw d e o;exact ek
end
section
def yZ(env:b8)(l:List Int)(p:Int->Bool)(g:FuncId)(G:Int)(P:TypeId)(U: ∀d,b7 prog env g [I d, .ref 1 [[I G]] 0 0] (B (p d)))(hl:l.length<=4096):
 ip prog env 277 [1000,1001] (fun k=>k==1000) (fun vs=>[.row 1000 (vs 1000), .clo g [.loc 1001 (vs 1001) 0 0]]) (fun _=>[(1000,⟨1,l.map aa,3,true⟩),(1001,⟨1,[[I G]],P,false⟩)]) (fun _=>[(1000,⟨1,(l.filter fun d=> !p d).map aa,3,true⟩),(1001,⟨1,[[I G]],P,false⟩)]) (fun vs=> .row 1000 (vs 1000)):=by
 have f0:=(qv env l p g [[I G]] U hl).lend rfl;cases t:mR p l with
 | none=>
   rw[t]at f0;obtain⟨m,_⟩:=qE t;rw[m];refine qi func277 call277 ntmps277 results277 ?_;intro vs z h;obtain⟨e,f⟩:=RC h;have F:=hU e f UX mS.eq_2;repeat refine st ?_
   refine lL f0 ?_;repeat refine st ?_
   exact rI
 | some s=>
   rw[t]at f0;obtain⟨m,E,d0,H,J⟩:=qD t;have R:((s:Int) == -1)=false:=by simp
   have r:=aD m (by omega);refine qi func277 call277 ntmps277 results277 ?_;intro vs z h;obtain⟨e,f⟩:=RC h;have F:=i' e f UX mS.eq_2 R r;repeat refine st ?_
   refine lL f0 ?_;repeat refine st ?_
   refine aH (D:=Nat×List Int) (fun x i=>[(0, .row 1000 (i 1000)),(1, .clo g [.loc 1001 (i 1001) 0 0]),(5,I (((l.take x.1).filter fun d=> !p d).length:Int)),(6,I (x.1:Int))]) (fun x i=>[(1000,⟨1,x.2.map aa,3,true⟩),(1001,⟨1,[[I G]],P,false⟩)]) (fun x i o=>(x.1<=l.length/\x.2.length=l.length/\((l.take x.1).filter fun d=> !p d).length<x.1/\x.2.take ((l.take x.1).filter fun d=> !p d).length=(l.take x.1).filter (fun d=> !p d)/\x.2.drop x.1=l.drop x.1)/\i 1001=vs 1001/\o 1000=false/\o 1001=false) (fun x=>l.length-x.1) (s+1,l) ?_ ?_ ?_ ?_
   ·have b:(l.take (s+1)).filter (fun d=> !p d)=l.take s:=by
     rw[bV H,N5, <-E];simp[J]
    refine⟨⟨m,rfl,?_,?_,rfl⟩,by simp only[go_sem],by simp only[go_sem,e],by simp only[go_sem,f]⟩
    ·rw[b,NJ];omega
    simp only;rw[b,NJ,P4 (by omega)]
   ·have b:((l.take (s+1)).filter fun d=> !p d).length=s:=by
     rw[bV H,N5, <-E];simp[J];omega
    simp only[b];exact qe
   ·exact qe
   try clear e f R r m E H J t
   rintro⟨j,L⟩ ws es ⟨⟨hj,K,hc,u,w⟩,Q,e,f⟩;simp only at hj K hc u w;generalize a:((l.take j).filter fun d=> !p d).length=c at*;by_cases n:j<l.length
   ·obtain⟨d,V⟩:=gE n
    have v:L[j]? =some d:=by
     have:=N6 (fun q:List Int=>q[0]?) w;simpa[V]using this
    have f1:=U d;have r:(j:Int)< (L.length:Int):=by omega
    have S:=aD n (by omega);have T:=bV V;cases m:p d
    ·rw[m]at f1;obtain⟨y,hy⟩: ∃x,L[c]? =some x:=⟨L[c]'(by omega),Mq (by omega)⟩;have A:(c:Int)< (L.length:Int):=by omega
     have C:IntKind.i64.wrap ((c:Int)+1)=((c+1:Nat):Int):=aD (show c<l.length by omega) (by omega);have b:((l.take (j+1)).filter fun d=> !p d)=(l.take j).filter (fun d=> !p d)++[d]:=by rw[T,N5];simp[m]
     have hs:(L.map aa).set c [I d]=(L.set c d).map aa:=by rw[QC]
     have F:=qr v hy e f r S A C hs;repeat refine st ?_
     refine oL (cM rfl (by simp only[go_sem,F];exact iR)) (f1.lend rfl) (by simp only[go_sem,F];exact iR) (by simp only[go_sem,F];exact⟨rfl,rfl⟩) ?_;repeat refine st ?_
     refine⟨(j+1,L.set c d),⟨⟨n,by simpa using K,?_,?_,?_⟩,?_,?_,?_⟩,?_,?_,?_⟩
     ·simp only[b,My,Na,a];omega
     ·simp only[b,My,Na,a];rw[<-u];apply Nv;intro k;rw[N8,O0];by_cases hk:k<c
      ·rw[Mw (by omega),Mt (by omega),Nb (by simp;omega),N8,Mw hk]
      by_cases N:k=c
      ·subst N;rw[Mw (by omega),Mw rfl,Mw (by omega),N3 (by rw[NJ];omega),NJ,P4 (by omega)];simp
      rw[Mt (by omega),NI (by rw[My,NJ,Na];omega)]
     ·simp only;rw[List.drop_set_of_lt (by omega)];have:=N6 (List.drop 1) w;simpa[Qz]using this
     ·simp only[go_sem,Q]
     ·simp only[go_sem,e]
     ·simp only[go_sem,f]
     ·have O:((l.take (j+1)).filter fun d=> !p d).length=c+1:=by rw[b,My,a];rfl
      simp only[O];exact qe
     ·exact qe
     simp only;omega
    rw[m]at f1;have b:((l.take (j+1)).filter fun d=> !p d)=(l.take j).filter (fun d=> !p d):=by rw[T,N5];simp[m]
    have F:=g9 v e f r S;repeat refine st ?_
    refine oL (cM rfl (by simp only[go_sem,F];exact iR)) (f1.lend rfl) (by simp only[go_sem,F];exact iR) (by simp only[go_sem,F];exact⟨rfl,rfl⟩) ?_;repeat refine st ?_
    refine⟨(j+1,L),⟨⟨n,K,?_,?_,?_⟩,?_,?_,?_⟩,?_,?_,?_⟩
    ·simp only[b,a];omega
    ·simp only[b,a];exact u
    ·simp only;have:=N6 (List.drop 1) w;simpa[Qz]using this
    ·simp only[go_sem,Q]
    ·simp only[go_sem,e]
    ·simp only[go_sem,f]
    ·simp only[b,a];exact qe
    ·exact qe
    simp only;omega
   have r: ¬(j:Int)< (L.length:Int):=by omega
   have M:l.take j=l:=Nq (by omega);rw[M]at u a;have A:(c:Int)<=(L.length:Int):=by omega
   have C:c<=L.length:=by omega
   have W: ∀X:List (List AV),((L.take c).map aa++X).take c=(l.filter fun d=> !p d).map aa:=fun X=>by
    rw[Pr (by rw[NQ,NJ];omega),u]
   have Y:c+(L.length-c)=L.length:=by omega
   have Z:min c L.length=c:=by omega
   have F:=ql Q e f @NJ.{0} @List.length_replicate.{0} r A C W Y Z;repeat refine st ?_
   exact rI
end
section
def tH{c:aq}{d now:Int}{r:cD}{l:List Int}{j:Nat}{i:Int}(hi:l[j]? =some i):bT c d now r (l.drop j)=match l' c d now r (wj c i) with
 |(a,none)=>bT c d now { a with act:=a.act.filter fun k=> !(k==i) } (l.drop (j+1))
 |x=>x:=by
 rw[au hi]
 conv=>lhs;unfold bT
 rcases l' c d now r (wj c i) with⟨a,_|_⟩<;>rfl
def uS{c:aq}(h:ch c){k:Nat}{s:nr}(d:c.Z9[k]? =some s):(s.out.length<=32/\ ∀a∈s.out,gM c.vars.length c.Z9.length a=true)/\s.ZW.length<=32/\ ∀a∈s.ZW,gM c.vars.length c.Z9.length a=true:=by
 have b:=h.st k s d;unfold cN eS at b;simp only[Mu,NF,Mz]at b;exact⟨⟨b.2.1,b.2.2⟩,b.1.2.1,b.1.2.2⟩
def Di(env:b8)(G d:Int):b7 prog env 278 [I d, .ref 1 [[I G]] 0 0] (B (d==G)):=by
 refine qf func278 call278 ntmps278 results278 ?_;repeat refine m9 ?_
 exact oj
def TF(c:aq)(d now:Int)(G:List Nat)(r:cD)(g:Nat->Nat):List (Nat×Row):=(1006,⟨1,G.map aB,3,true⟩)::RY c d now r g
def U2:=@TF.eq_1
def HW(env:b8)(a1 N O:Addr)(c:aq)(d now:Int)(E:AT env a1 N O c d now)(r:cD)(H:ff c r)(C:r.act.length<=4096)(G:List Nat)(hG: ∀i∈G,i<c.Z9.length)(P:G.length<=4096):
 ip prog env 240 [1000,1001,1002,1003,1004,1005,1006] ph (fun g=>[.loc 1000 (g 1000) 0 0, .row 1006 (g 1006)]) (TF c d now G r) (TF c d now G.reverse (bT c d now r (zL G.reverse)).1) (fun _=>cr N O (bT c d now r (zL G.reverse)).2):=by
 have hfew:=E.h.Z6;have hcv:=E.hs.vars;have S:=fun(r:cD) H C (l:List j') T Q=>zU env a1 N O c d now E r H C l T Q;have U:=fun(r:cD)(H:ff c r)(l:List j') Q=>jm E.hd E.hn (l:=l) H Q;have z:=fun(l:List Int)(i:Int)(C:l.length<=4096)=>yZ env l (fun k=>k==i) 278 i 3 (fun k=>Di env i k) C;have g1:=sP (zL G) (by rw[am];omega);have g2:bO ((zL G).map tM)=G.map aB:=by rw[cB,bd]
 have g3:bO ((zL G).reverse.map tM)=G.reverse.map aB:=by rw[cB, <-bd];simp
 have hR: ∀i∈G.reverse,i<c.Z9.length:=fun i hi=>hG i (QL.1 hi);have hRl:G.reverse.length<=4096:=by rw[Ol];exact P
 generalize G.reverse=R at*;refine qi func240 call240 ntmps240 results240 ?_;intro vs esc A;obtain⟨n,o,p,q,t,u,f⟩:=Up A;have F:=ql U2 UA Uz UC n o p q t u f;repeat refine st ?_
 refine oW 1006 rfl (row:=⟨1,G.map aB,3,true⟩) g1 (Nf 0) rfl g2.symm (by simp only[go_sem,f]<;>exact iR) (by simp only[go_sem,f]<;>exact iR) (by simp only[go_sem,f]<;>exact iR) (by simp only[go_sem,f]<;>exact iR) ?_;rw[g3];repeat refine st ?_
 refine lp (D:=Nat×cD) (fun x e=>[(0, .loc 1000 (e 1000) 0 0),(10, .row 1006 (e 1006)),(11,I R.length),(12,I x.1)]) (fun x e=>TF c d now R x.2 e) (fun x e a=>(x.1<=R.length/\bT c d now r (zL R)=bT c d now x.2 ((zL R).drop x.1)/\ff c x.2/\x.2.act.length<=4096)/\(e 1000=vs 1000/\e 1002=vs 1002/\e 1006=vs 1006)/\a 1000=false/\a 1001=false/\a 1002=false/\a 1003=false/\a 1004=false/\a 1005=false/\a 1006=false) (fun x=>R.length-x.1) (0,r) ⟨⟨NG _,rfl,H,C⟩,by simp only[go_sem,NH],by simp only[go_sem,n,o,p,q,t,u,f,NH]⟩ ?_;try clear n o p q t u f g1 g2 g3
 rintro⟨j,X⟩ ws es ⟨⟨hj,b,y,v⟩,⟨Y,Z,v6⟩,n,o,p,q,t,u,f⟩;simp only at hj b y v;by_cases m:j<R.length
 ·obtain⟨i,L⟩:=gE m;have B:=hR i (Mv L);obtain⟨s,K⟩:=gE B;obtain⟨⟨s1,s2⟩,_⟩:=uS E.h K;have ho:wj c i=s.out:=by unfold wj;rw[bN,K]
  have f0:=S X y (by omega) s.out (by omega) s2;obtain⟨V,W⟩:=U X y s.out s2;have M:=it m;have q2:=aD m (by omega);have q3:=it B;rw[tH (rJ L),ho]at b;rcases hX:l' c d now X s.out with⟨J,_|⟨k,ps⟩⟩
  ·rw[hX]at b f0 V W;simp only at b V W;have h:J.act.length<=4096:=by have:=W.act;rw[this];exact v
   have f3:=z J.act i h;have w:(J.act.filter fun k=> !(k==(i:Int))).length<=4096:=NK (NS ..) h;generalize hF:(J.act.filter fun k=> !(k==(i:Int)))=L2 at*;unfold cr RY lf at f0;simp only at f0;have F:=ed Uw Ux UK U2 UA Uz UC L K M q2<|n4 q3 n o p q t u f;repeat refine st ?_
   refine iL L6 f0 ?_;repeat refine st ?_
   refine iL [(1000,1001),(1001,6)] f3 ?_;repeat refine st ?_
   refine⟨(j+1,{ J with act:=L2 }),⟨⟨m,b,{ V with },w⟩,?_,?_⟩,?_,?_,?_⟩
   ·simp only[go_sem,Y,Z,v6,NH]
   ·simp only[go_sem,n,o,p,q,t,u,f,NH]
   ·exact qe
   ·exact qe
   simp only;omega
  rw[hX]at b f0;simp only at b;rw[b];unfold cr RY lf at f0;simp only at f0;show fp _ _ _ _ _ _;unfold cr;simp only;have F:=ed Uw Ux UK U2 UA Uz UC L K M q2<|ql q3 Y Z v6 n o p q t u f;repeat refine st ?_
  refine iL L6 f0 ?_;repeat refine st ?_
  exact rI
 obtain rfl:j=R.length:=by omega
 have M:=nl R.length;rw[OG (by rw[am];omega)]at b;rw[b];unfold bT;show fp _ _ _ _ _ _;unfold cr;simp only;have F:=ed U2 UA Uz UC M Y Z v6 n o p<|hU q t u f;repeat refine st ?_
 exact rI
end
section
def xk{c:aq}{d now:Int}{r:cD}{f l:List Int}{j:Nat}{i:Int}(hi:l[j]? =some i):ak c d now r f (l.drop j)=if r.act.contains i=true then ak c d now r f (l.drop (j+1)) else match l' c d now { r with act:=bR (r.act++[i]) } (Tm c i) with
 |(a,none)=>ak c d now a (if bY c i=3 then f++[i] else f) (l.drop (j+1))
 |x=>(x,[]):=by
 rw[au hi]
 conv=>lhs;unfold ak
 rcases l' c d now { r with act:=bR (r.act++[i]) } (Tm c i) with⟨a,_|_⟩<;>rfl
def EI(a b:Addr)(e:tD)(f:List Int):AV:=match e with
 |none=> .tuple [.seq 1 (f.map aa),h9]
 |some x=> .tuple [cy,cr a b (some x)]
def Jf(env:b8)(a1 V W:Addr)(c:aq)(d now:Int)(E:AT env a1 V W c d now)(r:cD)(M:ff c r)(hl:r.act.length<=1000)(G:List Nat)(hG: ∀i∈G,i<c.Z9.length)(hGl:G.length<=1000):
 ip prog env 121 [1000,1001,1002,1003,1004,1005] ph (fun g=>[.loc 1000 (g 1000) 0 0, .seq 1 (G.map aB)]) (RY c d now r) (RY c d now (ak c d now r [] (zL G)).1.1) (fun _=>EI V W (ak c d now r [] (zL G)).1.2 (ak c d now r [] (zL G)).2):=by
 have hfew:=E.h.Z6;have hcv:=E.hs.vars;have hdo:=fun(r:cD) M hl (l:List j') hll ha=>zU env a1 V W c d now E r M hl l hll ha;have hok:=fun(r:cD)(M:ff c r)(l:List j') ha=>jm E.hd E.hn (l:=l) M ha;refine qi func121 call121 ntmps121 results121 ?_;intro vs esc K;obtain⟨p,b,q,t,u,v⟩:=Sf K;have F:=qr UA Uz UC p b q t u v;repeat refine st ?_
 refine ao 6 6 3 1 ?_;refine lp (D:=Nat×cD×List Int) (fun x n=>[(0, .loc 1000 (n 1000) 0 0),(4,cy),(5,h9),(6, .row 6 (n 6)),(10, .seq 1 (G.map aB)),(11,I G.length),(12,I x.1)]) (fun x n=>(6,⟨1,x.2.2.map aa,3,true⟩)::RY c d now x.2.1 n) (fun x n e=>(x.1<=G.length/\ak c d now r [] (zL G)=ak c d now x.2.1 x.2.2 ((zL G).drop x.1)/\ff c x.2.1/\x.2.1.act.length<=r.act.length+x.1/\x.2.2.length<=x.1)/\(n 1000=vs 1000/\n 1002=vs 1002)/\e 1000=false/\e 1001=false/\e 1002=false/\e 1003=false/\e 1004=false/\e 1005=false/\e 6=false) (fun x=>G.length-x.1) (0,r,[]) ⟨⟨NG _,rfl,M,NC _,NC _⟩,by simp only[go_sem,NH],by simp only[go_sem,p,b,q,t,u,v,NH]⟩ ?_;try clear p b q t u v
 rintro⟨j,h,f⟩ ws es ⟨⟨hj,a,y,J,hfl⟩,⟨P,Q⟩,p,b,q,t,u,v,z⟩;simp only at hj a y J hfl;by_cases o:j<G.length
 ·obtain⟨i,C⟩:=gE o;have L:=hG i (Mv C);obtain⟨s,A⟩:=gE L;obtain⟨_,s1,s2⟩:=uS E.h A;have ho:Tm c i=s.ZW:=by unfold Tm;rw[bN,A]
  have hk:bY c i=s.kind:=by unfold bY;rw[bN,A]
  have H:=it o;have T:=aD o (by omega);have U:=it L;have B:=(bL env h.act i (by omega)).lend rfl;rw[xk (rJ C),ho,hk]at a;cases hc:h.act.contains (i:Int) with
  | true=>
    rw[hc]at a B;simp only[Nt]at a;have F:=ed Uw Ux UK UA Uz UC C A H T U<|mc p b q t u v z;repeat refine st ?_
    refine lL B ?_;repeat refine st ?_
    refine⟨(j+1,h,f),⟨⟨o,a,y,by simp only;omega,by simp only;omega⟩,?_,?_⟩,?_,?_,?_⟩
    ·simp only[go_sem,P,Q,NH]
    ·simp only[go_sem,p,b,q,t,u,v,z,NH]
    ·exact qe
    ·exact qe
    simp only;omega
  | false=>
    rw[hc]at a B;simp only[NU,OA]at a;have m:(bR (h.act++[(i:Int)])).length<=r.act.length+(j+1):=by rw[l6,My,Na];omega
    have f0:=hdo { h with act:=bR (h.act++[(i:Int)]) } { y with } (by simp only;omega) s.ZW (by omega) s2;obtain⟨N,O⟩:=hok { h with act:=bR (h.act++[(i:Int)]) } { y with } s.ZW s2;have X:=qV (h.act++[(i:Int)]) (by simp;omega);have Y:bO ((h.act++[(i:Int)]).map tM)=h.act.map aa++[[I i]]:=by rw[cB,NA];rfl
    have Z:=cB (bR (h.act++[(i:Int)]));have q4:cU (h.act.length+1) 8:=aC (by omega) (by omega);rcases hX:l' c d now { h with act:=bR (h.act++[(i:Int)]) } s.ZW with⟨r2,_|⟨k,ps⟩⟩
    ·rw[hX]at a f0 N O;simp only at a N O;have w:r2.act.length<=r.act.length+(j+1):=by have:=O.act;rw[this];exact m
     try clear O m
     generalize hS:bR (h.act++[(i:Int)])=S at*;unfold cr RY lf at f0;simp only at f0;cases R:s.kind==3 with
     | false=>
       have h4: ¬s.kind=3:=by simpa using R
       rw[Mt h4]at a;have F:=ed Uw Ux UK UA Uz UC C A H T U<|qr q4 R p b q t u v z;repeat refine st ?_
       refine lL B ?_;repeat refine st ?_
       refine oW 1001 rfl (row:=⟨1,h.act.map aa++[[I i]],3,true⟩) X (Nf 0) rfl Y.symm (by simp only[go_sem,b]<;>exact iR) (by simp only[go_sem,b]<;>exact iR) (by simp only[go_sem,b]<;>exact iR) (by simp only[go_sem,b]<;>exact iR) ?_;rw[Z];repeat refine st ?_
       refine iL L6 f0 ?_;repeat refine st ?_
       refine⟨(j+1,r2,f),⟨⟨o,a,N,w,by simp only;omega⟩,?_,?_⟩,?_,?_,?_⟩
       ·simp only[go_sem,P,Q,NH]
       ·simp only[go_sem,p,b,q,t,u,v,z,NH]
       ·exact qe
       ·exact qe
       simp only;omega
     | true=>
       have h4:s.kind=3:=by simpa using R
       rw[Mw h4]at a;have q5:cU (f.length+1) 8:=aC (by omega) (by omega);have q6:(f++[(i:Int)]).map aa=f.map aa++[[I i]]:=by rw[NA];rfl
       have F:=ed Uw Ux UK UA Uz UC C A H T U<|lE q4 q5 R p b q t u v z;repeat refine st ?_
       refine lL B ?_;repeat refine st ?_
       refine oW 1001 rfl (row:=⟨1,h.act.map aa++[[I i]],3,true⟩) X (Nf 0) rfl Y.symm (by simp only[go_sem,b]<;>exact iR) (by simp only[go_sem,b]<;>exact iR) (by simp only[go_sem,b]<;>exact iR) (by simp only[go_sem,b]<;>exact iR) ?_;rw[Z];repeat refine st ?_
       refine iL L6 f0 ?_;repeat refine st ?_
       refine⟨(j+1,r2,f++[(i:Int)]),⟨⟨o,a,N,w,by simp only[My,Na];omega⟩,?_,?_⟩,?_,?_,?_⟩
       ·simp only[go_sem,P,Q,NH]
       ·simp only[go_sem,p,b,q,t,u,v,z,NH]
       ·exact qe
       ·simp only[q6];exact qe
       simp only;omega
    rw[hX]at a f0;simp only at a;rw[a];try clear N O m
    generalize hS:bR (h.act++[(i:Int)])=S at*;unfold cr RY lf at f0;simp only at f0;show fp _ _ _ _ _ _;unfold EI cr;simp only;have F:=ed Uw Ux UK UA Uz UC C A H T U<|lE q4 P Q p b q t u v z;repeat refine st ?_
    refine lL B ?_;repeat refine st ?_
    refine oW 1001 rfl (row:=⟨1,h.act.map aa++[[I i]],3,true⟩) X (Nf 0) rfl Y.symm (by simp only[go_sem,b]<;>exact iR) (by simp only[go_sem,b]<;>exact iR) (by simp only[go_sem,b]<;>exact iR) (by simp only[go_sem,b]<;>exact iR) ?_;rw[Z];repeat refine st ?_
    refine iL L6 f0 ?_;repeat refine st ?_
    exact rI
 obtain rfl:j=G.length:=by omega
 have H:=nl G.length;rw[OG (by rw[am];omega)]at a;rw[a];unfold ak;show fp _ _ _ _ _ _;unfold EI;simp only;refine fG (dd.frozen 6 6 ⟨1,f.map aa,3,true⟩ rfl (Nf 0) (by simp only[go_sem]) (by simp only[go_sem])) ?_;have F:=ed UA Uz UC H P Q p b q t u<|ai v z;repeat refine st ?_
 exact rI
end
section
def u6{l:List Int}(h:l.Pairwise (· < ·)){i:Int}(hi:l.contains i=false):(bR (l++[i])).Pairwise (· < ·)/\ ∀x,x∈bR (l++[i])↔x∈l\/x=i:=by
 have j:(l++[i]).Nodup:=Ov.2 ⟨h.imp fun h=>by omega,by simp,fun a f b g e=>by
  rw[NO.1 g]at e;have:l.contains i=true:=Mx.2 (e ▸ f);rw[hi]at this
  cases this⟩
 obtain⟨c,d⟩:=mn j;exact⟨c,fun x=>by rw[d];simp⟩
structure Uf(c:aq)(r:cD)(f l:List Int)(r1:cD)(f1:List Int):Prop where
 ZZ:r1.act.Pairwise (· < ·)
 mem: ∀x,x∈r1.act↔x∈r.act\/x∈l
 fin: ∀x,x∈f1↔x∈f\/(x∈l/\x∉r.act/\bY c x=3)
 mm:r1.mem=r.mem
 over:r1.over=r.over
 len:f1.length<=f.length+l.length
def iX{c:aq}(u:PB c){d now:Int}(w:aL d=true)(z:0<=now/\now<=1099511627776): ∀ {l:List Int}{r:cD}{f:List Int},ff c r->r.act.Pairwise (· < ·)->ff c (ak c d now r f l).1.1/\((ak c d now r f l).1.2=none->Uf c r f l (ak c d now r f l).1.1 (ak c d now r f l).2)
 |[],r,f,h,s=>⟨h,fun _=>⟨s,fun x=>by simp[ak],fun x=>by simp[ak],rfl,rfl,by simp[ak]⟩⟩
 | i::l,r,f,h,s=>by
   unfold ak;split
   ·rename_i m;obtain⟨p,n⟩:=iX u (l:=l) (f:=f) w z h s;refine⟨p,fun o=> ?_⟩;have B:i∈r.act:=Mx.1 m;have k:=n o;refine⟨k.ZZ,fun x=> ?_,fun x=> ?_,k.mm,k.over,NK k.len (by simp)⟩
    ·rw[k.mem,NV];constructor
     ·rintro(q|q)
      ·exact .inl q
      exact .inr (.inr q)
     rintro(q|rfl|q)
     ·exact .inl q
     ·exact .inl B
     exact .inr q
    rw[k.fin,NV];constructor
    ·rintro(q|⟨g,b⟩)
     ·exact .inl q
     exact .inr ⟨.inr g,b⟩
    rintro(q|⟨rfl|g,b,j⟩)
    ·exact .inl q
    ·exact absurd B b
    exact .inr ⟨g,b,j⟩
   rename_i m;have m:r.act.contains i=false:=by simpa using m
   obtain⟨J,D⟩:=u6 s m;obtain⟨p,n⟩:=jm (r:={ r with act:=bR (r.act++[i]) }) w z { h with } (u.ZW i);split
   ·rename_i A e;rw[e]at p n;have v:A.act=bR (r.act++[i]):=n.act;obtain⟨H,I⟩:=iX u (l:=l) (f:=if bY c i=3 then f++[i] else f) w z p (by rw[v];exact J);refine⟨H,fun o=> ?_⟩;have k:=I o
    have y:i∉r.act:=fun a=>by
     have:=Mx.2 a;rw[m]at this;cases this
    refine⟨k.ZZ,fun x=> ?_,fun x=> ?_,k.mm.trans n.mem,k.over.trans n.over,?_⟩
    ·rw[k.mem,v,D,NV];constructor
     ·rintro((q|q)|q)
      ·exact .inl q
      ·exact .inr (.inl q)
      exact .inr (.inr q)
     rintro(q|q|q)
     ·exact .inl (.inl q)
     ·exact .inl (.inr q)
     exact .inr q
    ·rw[k.fin,v]
     have E:x∈(if bY c i=3 then f++[i] else f)↔x∈f\/(x=i/\bY c i=3):=by
      split
      ·rename_i t;simp[t]
      rename_i t;simp[t]
     rw[E,D,NV];constructor
     ·rintro((q|⟨rfl,q⟩)|⟨g,b,j⟩)
      ·exact .inl q
      ·exact .inr ⟨.inl rfl,y,q⟩
      exact .inr ⟨.inr g,fun a=>b (.inl a),j⟩
     rintro(q|⟨rfl|g,b,j⟩)
     ·exact .inl (.inl q)
     ·exact .inl (.inr ⟨rfl,j⟩)
     by_cases e:x=i
     ·subst e;exact .inl (.inr ⟨rfl,j⟩)
     exact .inr ⟨g,fun a=>a.elim b e,j⟩
    refine NK k.len ?_;split
    ·simp only[My,NN,Pq];omega
    simp only[NN];omega
   rename_i x G;refine⟨p,fun o=>absurd o ?_⟩;intro a;rcases C:l' c d now { r with act:=bR (r.act++[i]) } (Tm c i) with⟨A,K⟩;rw[C]at a;simp only at a;subst a;exact G A C
def zG{c:aq} : ∀ {l:List Int}{r:cD}{o:List Int},ff c r->ff c (cY c r o l).1.1/\(cY c r o l).1.1.act=r.act/\(cY c r o l).1.1.mem=r.mem/\((cY c r o l).1.2=none->(cY c r o l).1.1.over=(r.over||l.any fun i=>decide (aP c i<0))/\(cY c r o l).2=o++(((l.filter fun i=> !decide (aP c i<0)).map fun i=>aP c (aP c i)).filter fun g=>decide (0<=g)&&bY c g==2))
 |[],r,o,h=>⟨h,rfl,rfl,fun _=>by simp[cY]⟩
 | i::l,r,o,h=>by
   unfold cY;split
   ·rename_i f;obtain⟨d,a,n,p⟩:=zG (l:=l) (r:={ r with over:=true }) (o:=o) { h with };refine⟨d,a,n,fun b=> ?_⟩;obtain⟨q,s⟩:=p b;rw[q,s];simp[f]
   rename_i f;obtain⟨d,a⟩:=u7 h (ja c (aP c i)) (show aL 0=true by rfl);split
   ·rename_i j e;rw[e]at d a;obtain⟨n,p,y,z⟩:=zG (l:=l) (r:=j) (o:=if 0<=aP c (aP c i)/\bY c (aP c (aP c i))=2 then o++[aP c (aP c i)] else o) d;refine⟨n,p.trans a.act,y.trans a.mem,fun b=> ?_⟩;obtain⟨q,s⟩:=z b;have m:j.over=r.over:=a.over;rw[q,s,m];refine⟨by simp[f],?_⟩;have t:(i::l).filter (fun i=> !decide (aP c i<0))=i::l.filter (fun i=> !decide (aP c i<0)):=QM (by simp[f]);rw[t,Nh];split
    ·rename_i u;rw[QM (by simp[u]),Nl];rfl
    rename_i u;rw[QN (by simp;omega)]
   rename_i x w;refine⟨d,a.act,a.mem,fun b=>absurd b ?_⟩;intro k;rcases v:gs r (ja c (aP c i)) 0 with⟨j,t⟩;rw[v]at k;simp only at k;subst k;exact w j v
def zF{c:aq} : ∀ {l:List Int}{r:cD},ff c r->ff c (dV c r l).1/\qs r (dV c r l).1
 |[],r,h=>⟨h, .rfl⟩
 | g::l,r,h=>by
   unfold dV;split
   ·obtain⟨a,b⟩:=u7 h (ja c g) (show aL 0=true by rfl);split
    ·rename_i i e;rw[e]at a b;obtain⟨d,f⟩:=zF (l:=l) a;exact⟨d,b.trans f⟩
    exact⟨a,b⟩
   exact zF h
structure TE(c:aq)(r:cD)(l:List Int)(r1:cD):Prop where
 ZZ:r1.act.Pairwise (· < ·)
 mem: ∀x,x∈r1.act↔x∈r.act\/x∈l
 mm:r1.mem=r.mem
 over:r1.over=(r.over||l.any fun x=> !r.act.contains x&&bY c x==3&&decide (aP c x<0))
def vD{c:aq}(G:PB c){d now:Int}(H:aL d=true)(I:0<=now/\now<=1099511627776){l:List Int}{r:cD}(h:ff c r)(J:r.act.Pairwise (· < ·)):ff c (gv c d now r l).1/\((gv c d now r l).2=none->TE c r l (gv c d now r l).1):=by
 obtain⟨k,A⟩:=iX G (l:=l) (f:=[]) H I h J;unfold gv;split
 ·rename_i w f e;rw[e]at k A;have b:=A rfl;obtain⟨m,B,C,D⟩:=zG (l:=f) (o:=[]) k;unfold p';split
  ·rename_i n o p;rw[p]at m B C D;obtain⟨K,v⟩:=zF (l:=zL (bt c o)) m;refine⟨K,fun j=> ?_⟩;obtain⟨u,_⟩:=D rfl;have z:(dV c n (zL (bt c o))).1.act=w.act:=v.act.trans B;refine⟨by rw[z];exact b.ZZ,fun x=>by rw[z];exact b.mem x,v.mem.trans (C.trans b.mm),?_⟩;rw[v.over];have u:n.over=(w.over||f.any fun i=>decide (aP c i<0)):=u;have t:w.over=r.over:=b.over;rw[u,t]
   congr 1
   rw[N4,OE,OE];constructor
   ·rintro⟨x,s,a⟩;rcases (b.fin x).1 s with q|⟨L,M,N⟩
    ·simp at q
    refine⟨x,L,?_⟩;rw[a,N];simp[M]
   rintro⟨x,s,a⟩;simp only[Mu,Nx,Nz]at a;refine⟨x,(b.fin x).2 (.inr ⟨s,fun g=> ?_,a.1.2⟩),a.2⟩;have:=Mx.2 g;rw[a.1.1]at this;cases this
  rename_i x y g p;rw[p]at m;refine⟨m,fun j=> ?_⟩;rcases x with⟨n,_|E⟩
  ·exact(g _ rfl).elim
  cases j
 rename_i x y g e;rw[e]at k;refine⟨k,fun j=> ?_⟩;rcases x with⟨n,_|E⟩
 ·exact(g _ rfl).elim
 cases j
end
end Go.Proofs.YtfhkmjbjafeckaaGreatDoor
