/- The laws of layer 31: their small functions. -/
import Derived.Test.YtfhkmjbjafeckaaGreatDoorQ23
import Derived.Shelf.SlSortCmp.NoneTotal
set_option linter.unusedSimpArgs false
set_option linter.defProp false
namespace Go.Proofs.YtfhkmjbjafeckaaGreatDoor
open Go.Proofs.Tryz
open Go.RowKit
set_option maxRecDepth 100000
set_option maxHeartbeats 16000000
def Tw(w:rx)(g:Nat->Nat):AV:= .agg [.row 1002 (g 1002),I w.data, .seq 1 (w.act.map Bk)]
def ve(w:rx):Nat×Row:=(1002,⟨1,w.vars.map aa,3,true⟩)
def Co(env:cf)(w:rx)(o:mu)(R:List Int)(l:R.length<=1000)(b:1<=o.kind/\o.kind<=4)(h:nP o w.vars.length w.act.length=true):i9 prog env 291 [1002,27] (fun k=>k==27) (fun g=>[bs R, .agg (bW o),Tw w g]) (fun _=>[ve w]) (fun _=>[ve w,(27,⟨1,(R++[m5 w o]).map aa,3,true⟩)]) (fun g=> .tuple [.row 27 (g 27),B true]):=by
 have f0:=(Bs env w o b h).lend rfl;have i:o.kind<=4:=b.2;have j:dd (R.length+1) 8:=aC (by omega) (by omega);have c:(R++[m5 w o]).map aa=R.map aa++[[I (m5 w o)]]:=by simp
 rw[c];try clear c
 generalize m5 w o=v at*;unfold bW dv at f0;unfold Tw ve;refine qi func291 call291 ntmps291 results291 ?_;intro m f a;obtain⟨d,e⟩:=OF a;have F:=ii UA i j d e;repeat refine st ?_
 refine lL f0 ?_;repeat refine st ?_
 exact rI
def Cn(env:cf)(w:rx)(o:mu)(a:Int)(R:List Int)(A:R.length<=1000)(j:o.kind=5\/o.kind=6)(i:aJ a=true):i9 prog env 291 [1002,51] (fun k=>k==51) (fun g=>[bs (R++[a]), .agg (bW o),Tw w g]) (fun _=>[ve w]) (fun _=>[ve w,(51,⟨1,(R++[RW o.kind a]).map aa,3,true⟩)]) (fun g=> .tuple [.row 51 (g 51),B true]):=by
 have f0:=wR env o.kind a j i;have l: ¬o.kind<=4:=by omega
 have m:o.kind<=6:=by omega
 have n:dd (R.length+1) 8:=aC (by omega) (by omega);have d: ∀x:Int,(R++[x]).map aa=R.map aa++[[I x]]:=fun x=>by simp
 have e:bs (R++[a])= .seq 1 (R.map aa++[[I a]]):=by rw[show R.map aa++[[I a]]=(R++[a]).map aa by simp]
 rw[d,e];have q:(R.map aa++[[I a]]).length=R.length+1:=by simp
 have r:(R.map aa++[[I a]])[R.length]? =some [I a]:=by rw[NY (by simp)];simp
 have s:(R.map aa++[[I a]]).take R.length=R.map aa:=by rw[Og (by simp),Nu (by simp)]
 have p:IntKind.i64.wrap (((R.length+1:Nat):Int)-1)=(R.length:Int):=(aX (by omega) (by omega)).trans (by omega);have t:(R.length:Int)< ((R.length+1:Nat):Int):=by omega
 have u: ¬((R.length:Int)=((R.length+1:Nat):Int)):=by omega
 have y:(R.length:Int)<=((R.length+1:Nat):Int):=by omega
 generalize z:R.map aa++[[I a]]=X at*;generalize RW o.kind a=v at*;unfold Tw ve;refine qi func291 call291 ntmps291 results291 ?_;intro C h b;obtain⟨c,f⟩:=OF b;have F:=ed UA l m n p q r s t u y<|ai c f;repeat refine ff f0 ?_
 exact rI
def Cp(env:cf)(w:rx)(o:mu)(a b:Int)(R:List Int)(D:R.length<=1000)(m:7<=o.kind/\o.kind<=19)(j:aJ a=true)(l:aJ b=true):i9 prog env 291 [1002,77] (fun k=>k==77) (fun g=>[bs (R++[a,b]), .agg (bW o),Tw w g]) (fun _=>[ve w]) (fun _=>[ve w,(77,⟨1,(R++[(kX o.kind a b).1]).map aa,3,true⟩)]) (fun g=> .tuple [.row 77 (g 77),B (kX o.kind a b).2]):=by
 have f0:=uR env o.kind a b m j l;have n: ¬o.kind<=4:=by omega
 have p: ¬o.kind<=6:=by omega
 have q:dd (R.length+1) 8:=aC (by omega) (by omega);have e: ∀x:Int,(R++[x]).map aa=R.map aa++[[I x]]:=fun x=>by simp
 have f:bs (R++[a,b])= .seq 1 (R.map aa++[[I a],[I b]]):=by rw[show R.map aa++[[I a],[I b]]=(R++[a,b]).map aa by simp]
 rw[e,f];have s:(R.map aa++[[I a],[I b]]).length=R.length+2:=by simp
 have t:(R.map aa++[[I a],[I b]])[R.length]? =some [I a]:=by rw[NY (by simp)];simp
 have p5:(R.map aa++[[I a],[I b]])[R.length+1]? =some [I b]:=by rw[NY (by simp)];simp
 have u:(R.map aa++[[I a],[I b]]).take R.length=R.map aa:=by rw[Og (by simp),Nu (by simp)]
 have r:IntKind.i64.wrap (((R.length+2:Nat):Int)-2)=(R.length:Int):=(aX (by omega) (by omega)).trans (by omega);have p3:IntKind.i64.wrap (((R.length+2:Nat):Int)-1)=((R.length+1:Nat):Int):=(aX (by omega) (by omega)).trans (by omega);have y:(R.length:Int)< ((R.length+2:Nat):Int):=by omega
 have p7:((R.length+1:Nat):Int)< ((R.length+2:Nat):Int):=by omega
 have z: ¬((R.length:Int)=((R.length+2:Nat):Int)):=by omega
 have A:(R.length:Int)<=((R.length+2:Nat):Int):=by omega
 generalize C:R.map aa++[[I a],[I b]]=X at*;generalize kX o.kind a b=v at*;unfold Tw ve;refine qi func291 call291 ntmps291 results291 ?_;intro E i c;obtain⟨d,h⟩:=OF c;have F:=ed UA n p q r p3 s t p5 u y<|ii p7 z A d h;repeat refine ff f0 ?_
 exact rI
def Hu(env:cf)(W Q X:Addr)(he:gb env W X)(h2:env 1=some (bt Q))(w:rx)(O:w.Ok)(hl:w.vars.length<=1000000)(e:List mu)(U:bo e w.vars.length w.act.length=true):i9 prog env 262 [1002] (fun _=>false) (fun g=>[sv e,Tw w g]) (fun _=>[ve w]) (fun _=>[ve w]) (fun _=>jh Q (ki w e)):=by
 have f0:=(kD env w O hl).lend rfl;have f1:=gp env W X he e w.vars.length w.act.length;have g2:=gg h2;have f9:=b9 env [118,97,108,117,101,46,69,118,97,108] Q;obtain⟨M,Y⟩:=pG U;have h0:iY e w.vars.length w.act.length=0:=by unfold bo at U;simpa using U
 unfold iH at f1;rw[Mw h0]at f1;have r:=CO w M;have q0:(w.act.map Bk).length=w.act.length:=NT ..;have s1: ∀(o:mu)(R:List Int),R.length<=1000->1<=o.kind/\o.kind<=4->nP o w.vars.length w.act.length=true->_:=fun o R=>Co env w o R;have s2: ∀(o:mu)(a:Int)(R:List Int),_:=fun o a R=>Cn env w o a R;have s3: ∀(o:mu)(a b:Int)(R:List Int),_:=fun o a b R=>Cp env w o a b R;unfold dv at f0;unfold Tw ve at*;refine qi func262 call262 ntmps262 results262 ?_;intro K t H;have n:=H 1002 (by simp);have F:=n;repeat refine st ?_
 refine lL f0 ?_;repeat refine ff f1 ?_
 refine fG (dg.nil 8 1 (by simp only[go_sem])) ?_;refine lp (D:=Nat×List Int) (fun d K=>[(3, .loc 3 (K 3) 0 0),(8,bs d.2.reverse),(31,sv e),(32,I e.length),(33,I d.1)]) (fun _ K=>[(3,⟨3,[[.row 1002 (K 1002),I w.data, .seq 1 (w.act.map Bk)]],300,false⟩),(1002,⟨1,w.vars.map aa,3,true⟩)]) (fun d V t=>(d.1<=e.length/\nI w (e.take d.1) []=some d.2/\sh w.vars.length w.act.length e 0=sh w.vars.length w.act.length (e.drop d.1) d.2.length/\(∀x∈d.2,aJ x=true)/\d.2.length<=d.1)/\V 1002=K 1002/\t 1002=false) (fun d=>e.length-d.1) (0,[]) ⟨⟨NJ _,rfl,rfl,by simp,ND _⟩,by simp only[go_sem],by simp only[go_sem,n]⟩ ?_;try clear n
 rintro⟨i,s⟩ ws t ⟨⟨hi,q,u,p,j⟩,J,n⟩;simp only at hi q u p j;by_cases m:i<e.length
 ·obtain⟨o,y,_⟩:=aS m;obtain⟨up,no⟩:=pB y u;have z:=ip m;have P:=aD m (by omega);have c:=B5 (w:=w) y q
  have h:cE w.vars.length w.act.length s.length o=true:=by
   cases h:cE w.vars.length w.act.length s.length o with
   |true=>rfl
   |false=>rw[no h]at M;cases M
  have k:=up h;have l:=Eg h;refine yE 9001 rfl ?_;rcases nF h with⟨A,L,B⟩|⟨A,B,C⟩|⟨A,L,B,C⟩
  ·have f2:=s1 o s.reverse (by rw[Oj];omega) ⟨A,L⟩ l;have f:eA w o s=some (m5 w o::s):=by unfold eA;rw[Mw L]
   rw[f]at c;have E:s.reverse++[m5 w o]=(m5 w o::s).reverse:=by simp
   rw[E]at f2;refine dy ?_;have F:=ii UA y z P n;repeat refine st ?_
   refine iL [(1002,1002),(27,9001)] f2 ?_;repeat refine st ?_
   refine⟨_,dg.frozen 9001 8 ⟨1,(m5 w o::s).reverse.map aa,3,true⟩ rfl (Ng 0) (by simp only[go_sem]) (by simp only[go_sem]),(i+1,m5 w o::s),⟨⟨m,c,?_,gz O l p f,?_⟩,?_,?_⟩,?_,?_,?_⟩
   ·rw[k,B]
    congr 1<;>simp
   ·simp only[NQ];omega
   ·simp only[go_sem,J]
   ·simp only[go_sem,n]
   ·exact qe
   ·exact qe
   simp only;omega
  ·match s,q,u,p,j,h,k,c,C with
   | a::s,q,u,p,j,h,k,c,C=>
     have T:=p a (by simp);have f2:=s2 o a s.reverse (by rw[Oj];simp only[NQ]at j;omega) A T;have f:eA w o (a::s)=some (RW o.kind a::s):=by unfold eA;rw[Mv (by omega),Mw (by omega)]
     rw[f]at c;have E:s.reverse++[RW o.kind a]=(RW o.kind a::s).reverse:=by simp
     have S:s.reverse++[a]=(a::s).reverse:=by simp
     rw[E,S]at f2;refine dy ?_;have F:=ii UA y z P n;repeat refine st ?_
     refine iL [(1002,1002),(51,9001)] f2 ?_;repeat refine st ?_
     refine⟨_,dg.frozen 9001 8 ⟨1,(RW o.kind a::s).reverse.map aa,3,true⟩ rfl (Ng 0) (by simp only[go_sem]) (by simp only[go_sem]),(i+1,RW o.kind a::s),⟨⟨m,c,?_,gz O l p f,?_⟩,?_,?_⟩,?_,?_,?_⟩
     ·rw[k,B]
      congr 1<;>simp
     ·simp only[NQ]at j |-;omega
     ·simp only[go_sem,J]
     ·simp only[go_sem,n]
     ·exact qe
     ·exact qe
     simp only;omega
  ·match s,q,u,p,j,h,k,c,C with
   | b::a::s,q,u,p,j,h,k,c,C=>
     have hb:=p b (by simp);have T:=p a (by simp);have f2:=s3 o a b s.reverse (by rw[Oj];simp only[NQ]at j;omega) ⟨A,L⟩ T hb;have f:eA w o (b::a::s)=if (kX o.kind a b).2 then some ((kX o.kind a b).1::s) else none:=by unfold eA;rw[Mv (by omega),Mv (by omega)]
     rw[f]at c;have E:s.reverse++[(kX o.kind a b).1]=((kX o.kind a b).1::s).reverse:=by simp
     have S:s.reverse++[a,b]=(b::a::s).reverse:=by simp
     rw[E,S]at f2;cases N:(kX o.kind a b).2 with
     | true=>
       rw[N]at f2 f c;simp only[Nn]at f c;refine dy ?_;have F:=ii UA y z P n;repeat refine st ?_
       refine iL [(1002,1002),(77,9001)] f2 ?_;repeat refine st ?_
       refine⟨_,dg.frozen 9001 8 ⟨1,((kX o.kind a b).1::s).reverse.map aa,3,true⟩ rfl (Ng 0) (by simp only[go_sem]) (by simp only[go_sem]),(i+1,(kX o.kind a b).1::s),⟨⟨m,c,?_,gz O l p f,?_⟩,?_,?_⟩,?_,?_,?_⟩
       ·rw[k,B]
        congr 1
        simp only[NQ];omega
       ·simp only[NQ]at j |-;omega
       ·simp only[go_sem,J]
       ·simp only[go_sem,n]
       ·exact qe
       ·exact qe
       simp only;omega
     | false=>
       rw[N]at f2 c;simp only[NW,OB]at c;have Z:=run_stuck c;rw[r,Qw]at Z;rw[Z];show fq _ _ _ _ _ _;unfold jh;have F:=m7 UA y z P g2 n J;repeat refine st ?_
       refine iL [(1002,1002),(77,9001)] f2 ?_;repeat refine ff f9 ?_
       exact rI
 obtain rfl:i=e.length:=by omega
 have z:=nl e.length;have G:=t8 (ND _) u;rw[M]at G;rw[NS,r]at q;obtain⟨v,N,rfl⟩:=OK.1 q;rw[N];unfold jh;have F:=kv UB z @Rs.{0} @List.reverse_nil.{0} n J;repeat refine st ?_
 exact rI
end Go.Proofs.YtfhkmjbjafeckaaGreatDoor
set_option linter.unusedSimpArgs false
namespace Go.Proofs.YtfhkmjbjafeckaaGreatDoor
open Go.Proofs.Tryz
open Go.RowKit
set_option maxRecDepth 100000
set_option maxHeartbeats 16000000
def pY(p:(List UInt8×Int)->Bool):List (List UInt8×Int)->Option Nat
 |[]=>none
 |d::l=>if p d=true then some 0 else(pY p l).map (· +1)
def xM{p:(List UInt8×Int)->Bool} : ∀ {l:List (List UInt8×Int)}{i:Nat},pY p l=some i->i<l.length/\l.take i=(l.take i).filter (fun d=> !p d)/\ ∃d,l[i]? =some d/\p d=true
 |[],i,h=>by simp[pY]at h
 | d::l,i,h=>by
   unfold pY at h;split at h
   ·rename_i a;cases h;exact⟨by simp,by simp,d,rfl,a⟩
   ·rename_i a;cases b:pY p l with
    |none=>rw[b]at h;cases h
    | some j=>
      rw[b]at h;cases h;obtain⟨g,c,x,e,f⟩:=xM b;refine⟨by simp;omega,?_,x,by simpa using e,f⟩;have a:p d=false:=by simpa using a
      simp only[List.take_succ_cons,PC,a,OW,Nn];rw[<-c]
def xN{p:(List UInt8×Int)->Bool} : ∀ {l:List (List UInt8×Int)},pY p l=none->l.filter (fun d=> !p d)=l/\ ∀d∈l,p d=false
 |[],h=>by simp
 | d::l,h=>by
   unfold pY at h;split at h
   ·cases h
   ·rename_i a;have a:p d=false:=by simpa using a
    cases c:pY p l with
    |some j=>rw[c]at h;cases h
    | none=>
      obtain⟨e,f⟩:=xN c;refine⟨by simp only[PC,a,OW,Nn,e],fun x b=> ?_⟩;rcases NX.1 b with rfl|b
      ·exact a
      exact f x b
def Hh{p:(List UInt8×Int)->Bool}{l:List (List UInt8×Int)}{n:Nat}{d:(List UInt8×Int)}(a:l[n]? =some d):pY p (l.drop n)=if p d=true then some 0 else(pY p (l.drop (n+1))).map (· +1):=by
 rw[aZ a];rfl
def Ar(env:cf)(l:List (List UInt8×Int))(p:(List UInt8×Int)->Bool)(g:FuncId)(a:List (List AV))(m: ∀d,b8 prog env g [.agg (cI d), .ref 1 a 0 0] (B (p d)))(o:l.length<=4096):b8 prog env 302 [.seq 2 (l.map cI), .clo g [.ref 1 a 0 0]] (I (mY (pY p l))):=by
 refine qf func302 call302 ntmps302 results302 ?_;repeat refine nw ?_
 refine Q' l.length (by omega) (fun n i=>[(0, .seq 2 (l.map cI)),(1, .clo g [.ref 1 a 0 0]),(7,I l.length),(8,I n)]) (fun n i=>[]) (fun n _ c=>pY p l=(pY p (l.drop n)).map (· +n)) (by simp) ?_ ?_
 ·rintro n i c e f j b;obtain⟨d,h⟩:=gE e;have f1:=m d;unfold cI at f1;rw[Hh h]at b;cases k:p d
  ·rw[k]at b f1;simp only[NW,OB]at b;have F:=i0 UD h f j;repeat refine st ?_
   refine oC (cK rfl (by simp only[go_sem,F];exact iR)) (f1) (by simp only[go_sem,F];exact iR) (by simp only[go_sem,F];exact⟨rfl,rfl⟩) ?_;repeat refine st ?_
   refine⟨n+1,⟨e,?_⟩,?_,?_,?_⟩
   ·rw[b];cases pY p (l.drop (n+1))
    ·rfl
    simp;omega
   ·exact qe
   ·exact qe
   omega
  rw[k]at b f1;simp only[Nn,NU,OI]at b;rw[b];have F:=kv UD h f j UT mY.eq_2;repeat refine st ?_
  refine oC (cK rfl (by simp only[go_sem,F];exact iR)) (f1) (by simp only[go_sem,F];exact iR) (by simp only[go_sem,F];exact⟨rfl,rfl⟩) ?_;exact fc
 rintro i c f b;rw[OH (by omega)]at b;rw[b];have F:=ii f UT mY.eq_2 pY.eq_1 pY.eq_2;exact fc
def yd(env:cf)(l:List (List UInt8×Int))(p:(List UInt8×Int)->Bool)(g:FuncId)(G:List UInt8)(P:TypeId)(U: ∀d,b8 prog env g [.agg (cI d), .ref 1 [[Sg G]] 0 0] (B (p d)))(hl:l.length<=4096):
 i9 prog env 289 [1000,1001] (fun k=>k==1000) (fun vs=>[.row 1000 (vs 1000), .clo g [.loc 1001 (vs 1001) 0 0]]) (fun _=>[(1000,⟨2,l.map cI,98,true⟩),(1001,⟨1,[[Sg G]],P,false⟩)]) (fun _=>[(1000,⟨2,(l.filter fun d=> !p d).map cI,98,true⟩),(1001,⟨1,[[Sg G]],P,false⟩)]) (fun vs=> .row 1000 (vs 1000)):=by
 have f0:=(Ar env l p g [[Sg G]] U hl).lend rfl;cases t:pY p l with
 | none=>
   rw[t]at f0;obtain⟨m,_⟩:=xN t;rw[m];refine qi func289 call289 ntmps289 results289 ?_;intro vs z h;obtain⟨e,f⟩:=OF h;have F:=i0 e f UT mY.eq_2;repeat refine st ?_
   refine lL f0 ?_;repeat refine st ?_
   exact rI
 | some s=>
   rw[t]at f0;obtain⟨m,E,d0,H,J⟩:=xM t;have R:((s:Int) == -1)=false:=by simp
   have r:=aD m (by omega);refine qi func289 call289 ntmps289 results289 ?_;intro vs z h;obtain⟨e,f⟩:=OF h;have F:=kv e f UT mY.eq_2 R r;repeat refine st ?_
   refine lL f0 ?_;repeat refine st ?_
   refine aH (D:=Nat×List (List UInt8×Int)) (fun x i=>[(0, .row 1000 (i 1000)),(1, .clo g [.loc 1001 (i 1001) 0 0]),(5,I (((l.take x.1).filter fun d=> !p d).length:Int)),(6,I (x.1:Int))]) (fun x i=>[(1000,⟨2,x.2.map cI,98,true⟩),(1001,⟨1,[[Sg G]],P,false⟩)]) (fun x i o=>(x.1<=l.length/\x.2.length=l.length/\((l.take x.1).filter fun d=> !p d).length<x.1/\x.2.take ((l.take x.1).filter fun d=> !p d).length=(l.take x.1).filter (fun d=> !p d)/\x.2.drop x.1=l.drop x.1)/\i 1001=vs 1001/\o 1000=false/\o 1001=false) (fun x=>l.length-x.1) (s+1,l) ?_ ?_ ?_ ?_
   ·have b:(l.take (s+1)).filter (fun d=> !p d)=l.take s:=by
     rw[bO H,N6, <-E];simp[J]
    refine⟨⟨m,rfl,?_,?_,rfl⟩,by simp only[go_sem],by simp only[go_sem,e],by simp only[go_sem,f]⟩
    ·rw[b,NK];omega
    simp only;rw[b,NK,P3 (by omega)]
   ·have b:((l.take (s+1)).filter fun d=> !p d).length=s:=by
     rw[bO H,N6, <-E];simp[J];omega
    simp only[b];exact qe
   ·exact qe
   try clear e f R r m E H J t
   rintro⟨j,L⟩ ws es ⟨⟨hj,K,hc,u,w⟩,Q,e,f⟩;simp only at hj K hc u w;generalize a:((l.take j).filter fun d=> !p d).length=c at*;by_cases n:j<l.length
   ·obtain⟨d,V⟩:=gE n
    have v:L[j]? =some d:=by
     have:=N7 (fun q:List (List UInt8×Int)=>q[0]?) w;simpa[V]using this
    have f1:=U d;unfold cI at f1;have r:(j:Int)< (L.length:Int):=by omega
    have S:=aD n (by omega);have T:=bO V;cases m:p d
    ·rw[m]at f1;obtain⟨y,hy⟩: ∃x,L[c]? =some x:=⟨L[c]'(by omega),Ms (by omega)⟩;have A:(c:Int)< (L.length:Int):=by omega
     have C:IntKind.i64.wrap ((c:Int)+1)=((c+1:Nat):Int):=aD (show c<l.length by omega) (by omega);have b:((l.take (j+1)).filter fun d=> !p d)=(l.take j).filter (fun d=> !p d)++[d]:=by rw[T,N6];simp[m]
     have hs:(L.map cI).set c [Sg d.1,I d.2]=(L.set c d).map cI:=by rw[QC];rfl
     have F:=mX UD v hy e f r S A C hs;repeat refine st ?_
     refine oL (cK rfl (by simp only[go_sem,F];exact iR)) (f1.lend rfl) (by simp only[go_sem,F];exact iR) (by simp only[go_sem,F];exact⟨rfl,rfl⟩) ?_;repeat refine st ?_
     refine⟨(j+1,L.set c d),⟨⟨n,by simpa using K,?_,?_,?_⟩,?_,?_,?_⟩,?_,?_,?_⟩
     ·simp only[b,NA,Nf,a];omega
     ·simp only[b,NA,Nf,a];rw[<-u];apply Nv;intro k;rw[Na,O0];by_cases hk:k<c
      ·rw[Mw (by omega),Mv (by omega),N9 (by simp;omega),Na,Mw hk]
      by_cases N:k=c
      ·subst N;rw[Mw (by omega),Mw rfl,Mw (by omega),NY (by rw[NK];omega),NK,P3 (by omega)];simp
      rw[Mv (by omega),NL (by rw[NA,NK,Nf];omega)]
     ·simp only;rw[List.drop_set_of_lt (by omega)];have:=N7 (List.drop 1) w;simpa[Qx]using this
     ·simp only[go_sem,Q]
     ·simp only[go_sem,e]
     ·simp only[go_sem,f]
     ·have O:((l.take (j+1)).filter fun d=> !p d).length=c+1:=by rw[b,NA,a];rfl
      simp only[O];exact qe
     ·exact qe
     simp only;omega
    rw[m]at f1;have b:((l.take (j+1)).filter fun d=> !p d)=(l.take j).filter (fun d=> !p d):=by rw[T,N6];simp[m]
    have F:=kv UD v e f r S;repeat refine st ?_
    refine oL (cK rfl (by simp only[go_sem,F];exact iR)) (f1.lend rfl) (by simp only[go_sem,F];exact iR) (by simp only[go_sem,F];exact⟨rfl,rfl⟩) ?_;repeat refine st ?_
    refine⟨(j+1,L),⟨⟨n,K,?_,?_,?_⟩,?_,?_,?_⟩,?_,?_,?_⟩
    ·simp only[b,a];omega
    ·simp only[b,a];exact u
    ·simp only;have:=N7 (List.drop 1) w;simpa[Qx]using this
    ·simp only[go_sem,Q]
    ·simp only[go_sem,e]
    ·simp only[go_sem,f]
    ·simp only[b,a];exact qe
    ·exact qe
    simp only;omega
   have r: ¬(j:Int)< (L.length:Int):=by omega
   have M:l.take j=l:=Nu (by omega);rw[M]at u a;have A:(c:Int)<=(L.length:Int):=by omega
   have C:c<=L.length:=by omega
   have W: ∀X:List (List AV),((L.take c).map cI++X).take c=(l.filter fun d=> !p d).map cI:=fun X=>by
    rw[Pq (by rw[NT,NK];omega),u]
   have Y:c+(L.length-c)=L.length:=by omega
   have Z:min c L.length=c:=by omega
   have F:=o' Q e f @NK.{0} @List.length_replicate.{0} r A C W Y Z;repeat refine st ?_
   exact rI
end Go.Proofs.YtfhkmjbjafeckaaGreatDoor
namespace Go.Proofs.YtfhkmjbjafeckaaGreatDoor
open Go.Proofs.Tryz
open Go.RowKit Go.Sort Go.Shelf Go.Lib
section
variable {α:Type} [Inhabited α]
theorem tq(enc:α->List Value)(k:Nat)(a: ∀x,(enc x).length=k)(d:List α):flatK enc k d.toArray=(d.map enc).flatten.toArray:=by
 have j: ∀l∈d.map enc,l.length=k:=fun l c=>by
  obtain⟨x,_,rfl⟩:=NG.1 c;exact a x
 have c:=eD (d.map enc) j;apply Array.ext';apply Nv;intro p;by_cases e:p<d.length*k
 ·have b:0<k:=by
   rcases Nat.eq_zero_or_pos k with h|h
   ·subst h;simp at e
   exact h
  have g:p/k<d.length:=Q5 (by rw[Ph];exact e);have i:p%k<k:=Qm _ b;have f:=fo (d.map enc) j (p/k) (p%k) (enc d[p/k]) ((enc d[p/k])[p%k]'(by rw[a];exact i)) (by simp[g]) (Ms _);rw[Q8]at f;rw[Qc,f,Pg];simp[flatK,e,g,a,i]
 rw[NL (by simp;omega),NL (by simp[c];omega)]
theorem sB{P:Program}{ρ:Ren}(L:SlLaysF0.n6 P ρ){e:TypeId}(k:Nat)(q: ∀w,(isAgg (ρ.t 24)).run P w= .ok true w)(D: ∀w,(Go.sizeOf (ρ.t 24)).run P w= .ok k w)(enc:α->List Value)(h: ∀x,(enc x).length=k)(p: ∀x,∀v∈enc x,v.oneCell'=true)
 (a:α->α->Int)(u:SWO (ltOf a))(g:Nat)(i:Array Value)(d:List α)(B:0<d.length)(o:d.length<4611686018427387904)(r: ∀(args:Array Value)(w:World),(callFunc (ρ.f 6) args).run P w= .ok (.enter (ρ.f 6) args) w)(s: ∀args w,(callFunc g args).run P w= .ok (.enter g args) w)
 (f: ∀j w,CmpLays P g i enc k a j 0 d.length w)(z: ∀x y,(ltOf a) x y=false->(ltOf a) y x=false->x=y):
 A' P (ρ.f 6) [.func (.func g) #[] i] e k (d.map enc) ((d.mergeSort fun x y=> !(ltOf a) y x).map enc):=by
 refine kG (by simpa using B) r (by simp) (fun l m=> ?_) (fun l m=> ?_) fun w b c t A=> ?_
 ·obtain⟨x,_,rfl⟩:=NG.1 m;exact h x
 ·obtain⟨x,_,rfl⟩:=NG.1 m;exact⟨h x,p x⟩
 have:=AnyQ.slices_SortFunc_total L k q D enc h p a u g i b 0 c d.toArray w s (by simpa using f b w) (by unfold HoldsK;rw[tq enc k h];exact t) A (by simpa using o) z;rw[NT];refine(by simpa using this:Calls P (ρ.f 6) #[.slice (some ⟨b,0,none⟩) d.length c, .func (.func g) #[] i] w _).mono ?_;rintro E G ⟨rfl,n,C,rfl⟩;refine⟨rfl,n,C,?_⟩;unfold sortWorldK putRowK;rw[tq enc k h]
end
end Go.Proofs.YtfhkmjbjafeckaaGreatDoor
namespace Go.Proofs
open Go.Shelf
def Tryz.sortTm_ren:Go.Shelf.Ren:=⟨fun|6=>292|15=>152|14=>306|28=>216|29=>217|20=>315|21=>316|22=>317|23=>318|24=>319|25=>320|26=>321|27=>322|46=>325|47=>247|48=>248|49=>326|50=>327|57=>329|n=>n,fun|22=>35|24=>98|25=>344|3=>3|39=>231|0=>0|53=>168|55=>288|4=>4|46=>282|45=>281|50=>179|5=>5|9=>9|66=>309|70=>313|76=>332|77=>71|n=>n,fun|n=>n⟩
def Tryz.sortTm:Go.Proofs.SlLaysF0.n6 prog Tryz.sortTm_ren:={
 mixed:=by kernel_rfl
 f6:=⟨Tryz.f292.name,by decide,func292.trans (congrArg some (by kernel_rfl))⟩
 f14:=⟨Tryz.f306.name,by decide,func306.trans (congrArg some (by kernel_rfl))⟩
 f15:=func152.trans (congrArg some (by kernel_rfl))
 f20:=⟨Tryz.f315.name,by decide,func315.trans (congrArg some (by kernel_rfl))⟩
 f21:=⟨Tryz.f316.name,by decide,func316.trans (congrArg some (by kernel_rfl))⟩
 f22:=⟨Tryz.f317.name,by decide,func317.trans (congrArg some (by kernel_rfl))⟩
 f23:=⟨Tryz.f318.name,by decide,func318.trans (congrArg some (by kernel_rfl))⟩
 f24:=⟨Tryz.f319.name,by decide,func319.trans (congrArg some (by kernel_rfl))⟩
 f25:=⟨Tryz.f320.name,by decide,func320.trans (congrArg some (by kernel_rfl))⟩
 f26:=⟨Tryz.f321.name,by decide,func321.trans (congrArg some (by kernel_rfl))⟩
 f27:=⟨Tryz.f322.name,by decide,func322.trans (congrArg some (by kernel_rfl))⟩
 f28:=func216.trans (congrArg some (by kernel_rfl))
 f29:=func217.trans (congrArg some (by kernel_rfl))
 f46:=⟨Tryz.f325.name,by decide,func325.trans (congrArg some (by kernel_rfl))⟩
 f47:=func247.trans (congrArg some (by kernel_rfl))
 f48:=func248.trans (congrArg some (by kernel_rfl))
 f49:=⟨Tryz.f326.name,by decide,func326.trans (congrArg some (by kernel_rfl))⟩
 f50:=⟨Tryz.f327.name,by decide,func327.trans (congrArg some (by kernel_rfl))⟩
 f57:=⟨Tryz.f329.name,by decide,func329.trans (congrArg some (by kernel_rfl))⟩
 t0:=Tryz.underlying0
 a0:=Tryz.isAgg0
 z0:=Tryz.sizeOf0
 v0:=Tryz.zeroValue0
 t3:=Tryz.underlying3
 a3:=Tryz.isAgg3
 z3:=Tryz.sizeOf3
 v3:=Tryz.zeroValue3
 t4:=Tryz.underlying4
 a4:=Tryz.isAgg4
 z4:=Tryz.sizeOf4
 v4:=Tryz.zeroValue4
 t5:=Tryz.underlying5
 a5:=Tryz.isAgg5
 z5:=Tryz.sizeOf5
 v5:=Tryz.zeroValue5
 t9:=Tryz.underlying9
 a9:=Tryz.isAgg9
 z9:=Tryz.sizeOf9
 v9:=Tryz.zeroValue9
 t22:=Tryz.underlying35
 a22:=Tryz.isAgg35
 z22:=Tryz.sizeOf35
 v22:=Tryz.zeroValue35
 t25:=Tryz.underlying344
 a25:=Tryz.isAgg344
 z25:=Tryz.sizeOf344
 v25:=Tryz.zeroValue344
 t39:=Tryz.underlying231
 a39:=Tryz.isAgg231
 z39:=Tryz.sizeOf231
 v39:=Tryz.zeroValue231
 t45:=Tryz.underlying281
 a45:=Tryz.isAgg281
 z45:=Tryz.sizeOf281
 v45:=Tryz.zeroValue281
 t46:=Tryz.underlying282
 a46:=Tryz.isAgg282
 z46:=Tryz.sizeOf282
 v46:=Tryz.zeroValue282
 t50:=Tryz.underlying179
 a50:=Tryz.isAgg179
 z50:=Tryz.sizeOf179
 v50:=Tryz.zeroValue179
 t53:=Tryz.underlying168
 a53:=Tryz.isAgg168
 z53:=Tryz.sizeOf168
 v53:=Tryz.zeroValue168
 t55:=Tryz.underlying288
 a55:=Tryz.isAgg288
 z55:=Tryz.sizeOf288
 v55:=Tryz.zeroValue288
 t66:=Tryz.underlying309
 a66:=Tryz.isAgg309
 z66:=Tryz.sizeOf309
 v66:=Tryz.zeroValue309
 t70:=Tryz.underlying313
 a70:=Tryz.isAgg313
 z70:=Tryz.sizeOf313
 v70:=Tryz.zeroValue313
 t76:=Tryz.underlying332
 a76:=Tryz.isAgg332
 z76:=Tryz.sizeOf332
 v76:=Tryz.zeroValue332
 t77:=Tryz.underlying71
 a77:=Tryz.isAgg71
 z77:=Tryz.sizeOf71
 v77:=Tryz.zeroValue71 }
end Go.Proofs
set_option linter.unusedSimpArgs false
namespace Go.Proofs.YtfhkmjbjafeckaaGreatDoor
open Go.Proofs.Tryz
open Go.RowKit
set_option maxRecDepth 100000
set_option maxHeartbeats 1000000
def pk(p:List UInt8×Int):List Value:=[.string ⟨p.1.toArray⟩, .int .i64 p.2]
def Bo(l:List (List UInt8×Int)):bM (l.map pk)=l.map cI:=by simp[bM,pk,cI,Sg,I]
def uz(x:List UInt8×Int): ∀l,(sT x l).Perm (l++[x])
 |[]=> .refl _
 | y::l=>by
   unfold sT;split
   ·exact(List.perm_append_comm (l₁:=[x]) (l₂:=y::l))
   exact(uz x l).cons y
def J1{x:List UInt8×Int}{l:List (List UInt8×Int)}(h:l.Pairwise fun a b=>Op.bytesLess a.1 b.1=true)(B: ∀y∈l,y.1≠x.1):(l++[x]).mergeSort (fun x y=> !Op.bytesLess y.1 x.1)=sT x l:=by
 have o:=uy h B
 have u:((l++[x]).mergeSort fun x y=> !Op.bytesLess y.1 x.1).Pairwise fun x y=>(!Op.bytesLess y.1 x.1)=true:=Qr (fun a b c d g=>by
  simp only[OA]at*;cases k:Op.bytesLess c.1 a.1
  ·rfl
  ·cases s:Op.bytesLess b.1 a.1
   ·cases t:Op.bytesLess a.1 b.1
    ·rw[<-dx t s,k]at g;cases g
    rw[fB k t]at g;cases g
   rw[s]at d;cases d) (fun a b=>by
  cases k:Op.bytesLess b.1 a.1
  ·simp
  rw[pM k];simp) (l++[x])
 refine(Qi (le:=fun x y=>(!Op.bytesLess y.1 x.1)=true) ?_ (o.imp fun {a b} h=>by simp[pM h]) u ((uz x l).trans (Qe _ _).symm)).symm;intro a b z A v w;have e:a.1=b.1:=dx (by simpa using w) (by simpa using v);by_cases d:a=b
 ·exact d
 exfalso
 obtain⟨i,p,m⟩:=O1 z;obtain⟨j,q,n⟩:=O1 (((uz x l).trans (Qe _ _).symm).mem_iff.2 A);have r:=Nk.1 o;rcases Py i j with f|f|f
 ·have:=r i j p q f;rw[m,n,e,eO]at this;cases this
 ·subst f;exact d (m.symm.trans n)
 have:=r j i q p f;rw[m,n,e,eO]at this;cases this
def MN{x:List UInt8×Int}{l:List (List UInt8×Int)}(h:l.Pairwise fun a b=>Op.bytesLess a.1 b.1=true)(f: ∀y∈l,y.1≠x.1):(l++[x]).Pairwise fun x y=>x.1≠y.1:=by
 rw[Pj];refine⟨h.imp (fun {a b} h e=>by rw[e,eO]at h;cases h),QJ _ _,fun a c b d=> ?_⟩;obtain rfl:=NP.1 d;exact f a c
section
open Go.Shelf Go.Lib Go.Sort
def LH: ∀w,(isAgg 98).run prog w= .ok true w:=fun w=>by kernel_rfl
def Io: ∀w,(Go.sizeOf 98).run prog w= .ok 2 w:=fun w=>by kernel_rfl
def TD(x y:List UInt8):Int:=if Op.bytesLess x y then -1 else 1
def Jo(a:List UInt8)(b:Int)(c:List UInt8)(d:Int)(W:World):Calls prog 293 #[.agg #[.string ⟨a.toArray⟩, .int .i64 b], .agg #[.string ⟨c.toArray⟩, .int .i64 d]] W fun e w'=>e= .returned (.int .i64 (TD a c))/\ ∃q os',w'=grow (W.drewN q) os':=by
 unfold TD;by_cases h:Op.bytesLess a c=true
 ·rw[Mw h]
  go_enter func293,ntmps293
  go_wp2_with fail
  go_ret
  exact⟨rfl,0,_,by rw[alloc_eq_grow,alloc_eq_grow,grow_grow];rfl⟩
 have h:Op.bytesLess a c=false:=by simpa using h
 rw[Mv (by rw[h];simp)]
 go_enter func293,ntmps293
 go_wp2_with fail
 go_ret
 exact⟨rfl,0,_,by rw[alloc_eq_grow,alloc_eq_grow,grow_grow];rfl⟩
def yL(ps:List (List UInt8×Int))(J:ps.Pairwise (fun x y=>x.1≠y.1))(L:ps.length<=1000)(H:ps≠[]):
 A' prog 292 [.func (.func 293) #[] #[]] 98 2 (ps.map pk) ((ps.mergeSort fun x y=> !Op.bytesLess y.1 x.1).map pk):=by
 have G:=call292;have g:0<ps.length:=Oi.2 H
 haveI:Inhabited {p // p∈ps} :=⟨⟨ps[0],Oo g⟩⟩
 have d: ∀x y: {p // p∈ps},ltOf (fun x y: {p // p∈ps} =>TD x.1.1 y.1.1) x y=Op.bytesLess x.1.1 y.1.1:=fun x y=>by
  unfold ltOf TD;cases k:Op.bytesLess x.1.1 y.1.1<;>simp[k]
 have l:SWO (ltOf fun x y: {p // p∈ps} =>TD x.1.1 y.1.1):=by
  refine⟨fun x=> ?_,fun x y z h f=> ?_,fun x y z h f=> ?_⟩
  ·rw[d];exact eO _
  ·rw[d]at*;exact fB h f
  rw[d]at*;cases k:Op.bytesLess x.1.1 z.1.1
  ·rfl
  cases B:Op.bytesLess y.1.1 x.1.1
  ·rw[dx h B]at k;rw[k]at f;cases f
  rw[fB B k]at f;cases f
 have I: ∀x y: {p // p∈ps},ltOf (fun x y: {p // p∈ps} =>TD x.1.1 y.1.1) x y=false->ltOf (fun x y: {p // p∈ps} =>TD x.1.1 y.1.1) y x=false->x=y:=fun x y h f=>by
  rw[d]at h f;have e:=dx h f;obtain⟨i,q,n⟩:=O1 x.2;obtain⟨j,r,o⟩:=O1 y.2;have t:=Nk.1 J;apply Subtype.ext;rw[<-n, <-o]at e |-;rcases Py i j with c|c|c
  ·exact absurd e (t i j q r c)
  ·subst c;rfl
  exact absurd e.symm (t j i r q c)
 have u:=sB (e:=98) Tryz.sortTm 2 LH Io (fun x: {p // p∈ps} =>pk x.1) (fun _=>rfl) (fun x v A=>by simp[pk]at A;rcases A with rfl|rfl<;>rfl) (fun x y=>TD x.1.1 y.1.1) l 293 #[] ps.attach (by simpa using g) (by simp;omega) G call293
  (fun C w m M K _ x y=>Jo _ _ _ _ _) I
 have D:ps.attach.map (fun x: {p // p∈ps} =>pk x.1)=ps.map pk:=by
  rw[show (fun x: {p // p∈ps} =>pk x.1)=pk ∘ Subtype.val from rfl, <-P4,List.attach_map_subtype_val]
 have E:(ps.attach.mergeSort fun x y=> !ltOf (fun x y: {p // p∈ps} =>TD x.1.1 y.1.1) y x).map (fun x: {p // p∈ps} =>pk x.1)=(ps.mergeSort fun x y=> !Op.bytesLess y.1 x.1).map pk:=by
  rw[show (fun x: {p // p∈ps} =>pk x.1)=pk ∘ Subtype.val from rfl, <-P4]
  congr 1
  rw[List.map_mergeSort (s:=fun x y:List UInt8×Int=> !Op.bytesLess y.1 x.1) (fun a _ b _=>by simp only[d]),List.attach_map_subtype_val]
 rw[D,E]at u;exact u
def GL(x:List UInt8×Int)(l:List (List UInt8×Int))(h:l.Pairwise fun a b=>Op.bytesLess a.1 b.1=true)(c: ∀y∈l,y.1≠x.1)(d:l.length<=100):
 A' prog 292 [.func (.func 293) #[] #[]] 98 2 ((l++[x]).map pk) ((sT x l).map pk):=by
 rw[<-J1 h c];exact yL _ (MN h c) (by simp;omega) (by simp)
end
end Go.Proofs.YtfhkmjbjafeckaaGreatDoor
namespace Go.Proofs.YtfhkmjbjafeckaaGreatDoor
open Go.Proofs.Tryz
open Go.RowKit
def AI:List eg->Int->Nat
 |[],_=>0
 |x::r,h=>if x.1<h then AI r h+1 else 0
def yv(h:Int): ∀l:List eg,AI l h<=l.length
 |[]=>ND _
 | x::r=>by
   unfold AI;split
   ·have:=yv h r;simp only[NQ];omega
   exact NJ _
def FI{h:Int} : ∀ {l:List eg},R' l-> ∀ {j:Nat}{y:eg},l[j]? =some y->(j<AI l h↔y.1<h)
 |[],_,j,y,a=>by simp at a
 | x::r,f,j,y,a=>by
   obtain⟨d,e⟩:=Ob.1 f;unfold AI;by_cases b:x.1<h
   ·rw[Mw b];cases j with
    | zero=>
      simp only[Nr,Mu]at a;subst a;exact⟨fun _=>b,fun _=>by omega⟩
    | succ j=>
      rw[Of]at a;have:=FI (h:=h) e a;omega
   ·rw[Mv b];refine⟨fun h=>by omega,fun c=> ?_⟩;cases j with
    | zero=>
      simp only[Nr,Mu]at a;subst a;exact absurd c b
    | succ j=>
      rw[Of]at a;have:=d y (My a);omega
def Te(l:List eg)(h:Int):Bool:=match l[AI l h]? with
 |some y=>y.1==h
 |none=>false
def Bd{m:eg} : ∀ {l:List eg},Te l m.1=true->lR l m=l.set (AI l m.1) m
 |[],h=>by simp[Te]at h
 | x::r,h=>by
   unfold lR;unfold Te at h;unfold AI at h |-;by_cases a:x.1<m.1
   ·rw[Mw a]at h |-;rw[Mw a,List.set_cons_succ,Bd (by unfold Te;rw[Of]at h;exact h)]
   rw[Mv a]at h |-;rw[Mv a];have h:(x.1==m.1)=true:=h;rw[Mw (by simpa using h)];rfl
def Be{m:eg} : ∀ {l:List eg},Te l m.1=false->lR l m=l.take (AI l m.1)++m::l.drop (AI l m.1)
 |[],h=>by simp[lR,AI]
 | x::r,h=>by
   unfold lR;unfold Te at h;unfold AI at h |-;by_cases a:x.1<m.1
   ·rw[Mw a]at h |-;rw[Mw a,Be (by unfold Te;rw[Of]at h;exact h)];rfl
   rw[Mv a]at h |-;rw[Mv a];have h:(x.1==m.1)=false:=h;rw[Mv (by simpa using h)];rfl
def ML{l:List eg}{h:Int}(hi:Te l h=true):AI l h<l.length:=by
 unfold Te at hi;cases a:l[AI l h]? with
 |none=>rw[a]at hi;cases hi
 |some y=>exact(Mt.1 a).1
end Go.Proofs.YtfhkmjbjafeckaaGreatDoor
set_option linter.unusedSimpArgs false
namespace Go.Proofs.YtfhkmjbjafeckaaGreatDoor
open Go.Proofs.Tryz
open Go.RowKit
set_option maxRecDepth 100000
set_option maxHeartbeats 16000000
def EG(env:cf)(mem:List eg)(q:mem.length<=4096)(n: ∀m∈mem,m.2.length<=4096):b8 prog env 295 [go mem] (.own 146 2 (mem.map fj)):=by
 refine qf func295 call295 ntmps295 results295 ?_;repeat refine nw ?_
 refine ap 3 3 146 2 ?_;refine Q' mem.length (by omega) (fun j o=>[(3, .row 3 (o 3)),(6,go mem),(7,I mem.length),(8,I j)]) (fun j _=>[(3,⟨2,(mem.take j).map fj,146,true⟩)]) (fun j _ b=>b 3=false) rfl ?_ ?_
 ·rintro j p b c e k d;obtain⟨a,f⟩:=gE c;have f0:=dV env (a.2.map aa) (by rw[NT];exact n a (My f));have i:(mem.take j).length=j:=by rw[NK];omega
  have l:dd (j+1) 32:=aC (by omega) (by omega);have h:mem.take (j+1)=mem.take j++[a]:=by rw[N4,f];rfl
  have F:=m7 UF e k f i l d;repeat refine ff f0 ?_
  refine⟨j+1,⟨c,by simp only[go_sem,d]⟩,?_,?_,by omega⟩
  ·exact qe
  have F:=gs UF h @NC.{0,0};exact qe
 rintro p b e d;have g:mem.take mem.length=mem:=NS;have F:=gs e g d;exact fc
def BH(env:cf)(c:aq)(o:Right c)(L:List Int)(s:L.length<=4000)(d:Int):b8 prog env 298 [aG c, .seq 1 (L.map aa),I d] (.own 3 1 ((fA c L d).map aa)):=by
 have f1:=bP env c;unfold aG aQ at f1;unfold aG;refine qf func298 call298 ntmps298 results298 ?_;repeat refine nw ?_
 refine ap 7 7 3 1 ?_;refine Q' L.length (by omega) (fun j q=>[(0, .ref 9 [cy c] 0 0),(2,I d),(7, .row 7 (q 7)),(10, .seq 1 (L.map aa)),(11,I L.length),(12,I j)]) (fun j _=>[(7,⟨1,(gd c L d j).map aa,3,true⟩)]) (fun j _ a=>a 7=false) rfl ?_ ?_
 ·rintro j r a b k n e;obtain⟨x,l⟩:=gE b;have f3:=fQ env c o d x;unfold aQ at f3;have p:=pm c L d j;have m:dd ((gd c L d j).length+1) 8:=aC (by omega) (by omega);have h:=nA (c:=c) (i:=d) l;cases g:b4 c d x with
  | true=>
    rw[g]at f3;rw[g,Mw rfl]at h;have F:=ii k n l m e;repeat refine y3 f1 f3 ?_
    refine⟨j+1,⟨b,by simp only[go_sem,e]⟩,?_,?_,by omega⟩
    ·exact qe
    have F:=ai h @NC.{0,0};exact qe
  | false=>
    rw[g]at f3;rw[g,Mv Nb]at h;have F:=ii k n l m e;repeat refine y3 f1 f3 ?_
    refine⟨j+1,⟨b,by simp only[go_sem,e]⟩,?_,?_,by omega⟩
    ·exact qe
    have F:=ai h @NC.{0,0};exact qe
 rintro r a k e;have f:gd c L d L.length=fA c L d:=by unfold gd fA;rw[NS]
 rw[f];have F:=ai k e;exact fc
def ku(env:cf)(l:List Int)(p:Int->Bool)(g:FuncId)(a:List (List AV))(j: ∀d,b8 prog env g [I d, .ref 1 a 0 0] (B (p d)))(h:l.length<=4096):b8 prog env 236 [.seq 1 (l.map aa), .clo g [.ref 1 a 0 0]] (B (l.any p)):=by
 have f0:=qv env l p g a j h;cases b:mW p l with
 | none=>
   rw[b]at f0;have c:l.any p=false:=Q0.2 fun x k=>by rw[(qI b).2 x k];simp
   rw[c];unfold mY at f0;refine qf func236 call236 ntmps236 results236 ?_;repeat refine jG f0 ?_
   exact px
 | some i=>
   rw[b]at f0;obtain⟨_,_,d,e,f⟩:=qH b;have c:l.any p=true:=OG.2 ⟨d,My e,f⟩;have m:(0:Int)<=(i:Int):=by omega
   rw[c];unfold mY at f0;refine qf func236 call236 ntmps236 results236 ?_;have F:=m;exact kb f0
def Dq(env:cf)(G:List Int)(a:G.length<=1000000)(i:Int):b8 prog env 307 [I i, .ref 1 [[.seq 1 (G.map aa)]] 0 0] (B (G.contains i)):=by
 have f0:=bI env G i a;refine qf func307 call307 ntmps307 results307 ?_;repeat refine jG f0 ?_
 exact px
def pA(c:aq)(l:List Int)(j:Nat):List Int:=(l.take j).filter (pc c l)
def Dr{c:aq}{l:List Int}{j:Nat}{x:Int}(h:l[j]? =some x):pA c l (j+1)=if pc c l x then pA c l j++[x] else pA c l j:=by
 unfold pA;rw[N4,h,N6];cases a:pc c l x<;>simp[a]
def Hd(c:aq)(l:List Int)(j:Nat):(pA c l j).length<=l.length:=by
 unfold pA;exact NN (NV ..) (by rw[NK];omega)
def Hc(env:cf)(c:aq)(h:ct c)(l:List Int)(y:l.length<=4000)(t: ∀x∈l,fi c x=true):b8 prog env 297 [aG c, .seq 1 (l.map aa)] (.own 3 1 ((lE c l).map aa)):=by
 unfold aG;refine qf func297 call297 ntmps297 results297 ?_;repeat refine nw ?_
 refine ap 5 5 3 1 ?_;refine Q' l.length (by omega) (fun j r=>[(0, .ref 9 [cy c] 0 0),(3, .loc 3 (r 3) 0 0),(5, .row 5 (r 5)),(9, .seq 1 (l.map aa)),(10,I l.length),(11,I j)]) (fun j _=>[(3,⟨1,[[.seq 1 (l.map aa)]],33,false⟩),(5,⟨1,(pA c l j).map aa,3,true⟩)]) (fun j _ f=>f 3=false/\f 5=false) ⟨rfl,rfl⟩ ?_ ?_
 ·rintro j u f g n q ⟨a,e⟩;obtain⟨x,m⟩:=gE g;have f2:=bc env c h x;rw[Mw (.inr (t x (My m)))]at f2;have v:=bU h.toRight x true;have f3:=(ku env (hH c x) (fun d=>l.contains d) 307 [[.seq 1 (l.map aa)]] (Dq env l (by omega)) (by rw[ar];omega)).lend rfl;rw[bl]at f3;have s:=Hd c l j;have p:dd ((pA c l j).length+1) 8:=aC (by omega) (by omega);have k:=Dr (c:=c) m;have o:pc c l x= !((hH c x).any fun d=>l.contains d):=rfl;generalize ((hH c x).any fun d=>l.contains d)=b at*;generalize av c x true=K at*;unfold aG at f2;cases b with
  | true=>
    rw[o,Oh,Mv Nb]at k;have F:=kv n q m p a e;repeat refine ff f2 ?_
    refine lL f3 ?_;repeat refine st ?_
    refine⟨j+1,⟨g,by simp only[go_sem,a],by simp only[go_sem,e]⟩,?_,?_,by omega⟩
    ·exact qe
    have F:=k;exact qe
  | false=>
    rw[o,OW,Mw rfl]at k;have F:=kv n q m p a e;repeat refine ff f2 ?_
    refine lL f3 ?_;repeat refine st ?_
    refine⟨j+1,⟨g,by simp only[go_sem,a],by simp only[go_sem,e]⟩,?_,?_,by omega⟩
    ·exact qe
    have F:=ai k @NC.{0,0};exact qe
 rintro u f n ⟨a,e⟩;have i:pA c l l.length=l.filter (pc c l):=by unfold pA;rw[NS]
 rw[i];have w:(l.filter (pc c l)).length<=l.length:=NV ..;unfold lE;generalize l.filter (pc c l)=U at*;have f4:=qX U (by omega);have F:=gs n a e;repeat refine st ?_
 refine oc 5 rfl (row:=⟨1,U.map aa,3,true⟩) f4 (Ng 0) rfl (bz _).symm (by simp only[go_sem,a,e];exact iR) (by simp only[go_sem,a,e];exact iR) (by simp only[go_sem,a,e];exact iR) (by simp only[go_sem,a,e];exact iR) ?_;rw[bz];exact fc
end Go.Proofs.YtfhkmjbjafeckaaGreatDoor
set_option linter.unusedSimpArgs false
namespace Go.Proofs.YtfhkmjbjafeckaaGreatDoor
open Go.Proofs.Tryz
open Go.RowKit Go.ChangeShapes Go.WideShapes Go.ChangeAt
set_option maxRecDepth 100000
abbrev tD:=List Int×List Int×List eg×List (List UInt8×Int)×Bool
def i'(x:tD):List AV:=[bs x.1,bs x.2.1, .seq 2 (x.2.2.1.map fj), .seq 2 (x.2.2.2.1.map cI),B x.2.2.2.2]
def UK:=@i'.eq_1
def vq(t:List UInt8×Int):Prop:=t.1.length<=maxLen
def zw(x:tD):Prop:=(x.1.length<=maxLen/\x.2.1.length<=maxLen)/\(x.2.2.1.length<=maxLen/\ ∀m∈x.2.2.1,KT m)/\x.2.2.2.1.length<=maxLen/\ ∀t∈x.2.2.2.1,vq t
section
variable {H:Type} {enc:TypeId×Value->H} {w:World} {base:Nat} {spare:Nat->Bool} {held:Bool}
end
end Go.Proofs.YtfhkmjbjafeckaaGreatDoor
set_option linter.unusedSimpArgs false
namespace Go.Proofs.YtfhkmjbjafeckaaGreatDoor
open Go.Proofs.Tryz
open Go.RowKit
set_option maxRecDepth 100000
set_option maxHeartbeats 8000000
end Go.Proofs.YtfhkmjbjafeckaaGreatDoor
