/- The document's word on a step. -/
import Derived.Test.YtfhkmjbjafeckaaGreatDoorQ30
set_option maxRecDepth 100000
set_option maxHeartbeats 16000000
set_option linter.unusedSimpArgs false
set_option linter.defProp false
namespace Go.Proofs.YtfhkmjbjafeckaaGreatDoor
open Go.Proofs.Tryz
open Go.RowKit
section
def ry(c:aq)(t:tS):Int:=n5 c t.src t.target
def ny(c:aq)(t:tS)(x:Int):Prop:=0<=t.target/\b4 c (ry c t) x=true
def TJ(c:aq)(mem:List eg)(t:tS)(x:Int):Prop:=0<=t.target/\Gr c (na c (k9 c t.target mem) (ry c t)) x
def i6(c:aq)(act:List Int)(mem:List eg)(ts:List Nat)(x:Int):Prop:=(x∈act/\ ∀n∈ts,¬ny c (dl c n) x)\/ ∃n∈ts,TJ c mem (dl c n) x
def Ek{c:aq}(h:ct c){d:Int}{P:List Int}(m: ∀k∈P,b4 c d k=true){x:Int}(g:Gr c P x):b4 c d x=true:=by
 have a:=h.toRight
 induction g with
 |base n=>exact m _ n
 | ini g j o l e=>
   have b:=ij h j l;obtain⟨f,i,_⟩:=bN a b;exact(aj a f).2 (.inr (by rw[i];exact e))
 | par g j b e=>
   obtain⟨f,i,_⟩:=bN a b;exact(aj a f).2 (.inr (by rw[i];exact e))
def LV{c:aq}{act:List Int}{a b:Nat}{x:Int}(d:x∈fy c act (dl c a))(e:x∈fy c act (dl c b)):bd c act a b=true:=by
 unfold bd;rw[OG];exact⟨x,d,Mz.2 e⟩
structure Tp(c:aq)(act:List Int)(mem:List eg)(t:tS):Prop where
 src:t.src∈act
 Z4:0<=t.target->b4 c (ry c t) t.src=true
 dom:0<=t.target->ry c t= -1\/(ry c t∈act/\an c (ry c t)=true)
 uni:0<=t.target->TQ c (ry c t) (na c (k9 c t.target mem) (ry c t))
 left: ∀x,x∈fy c act t↔x∈act/\ny c t x
 to: ∀x,x∈zL (m9 c t mem)↔TJ c mem t x
def yo{c:aq}(h:ct c){act:List Int}(p:tU c act=true){mem:List eg}(m:bm c mem=true){n:Nat}{t:tS}(r:c.trans[n]? =some t)(b:t.src∈act):Tp c act mem t:=by
 obtain⟨i,u⟩:=h.src r;have k:=cx p;have f:0<=t.target->fi c t.target=true:=fun a=>u.resolve_left (by omega);refine⟨b,fun a=> ?_,fun a=> ?_,fun a=> ?_,fun x=> ?_,fun x=> ?_⟩
 ·exact Mz.2 (wA h i (f a)).2.1
 ·obtain⟨_,d2,d3⟩:=wA h i (f a);exact d3.imp id fun e=>⟨k.up h.toRight (t.src.toNat+1) t.src _ (by have:=(aI.1 i).1;omega) b d2 e.1,e.2⟩
 ·obtain⟨d1,_,d3⟩:=wA h i (f a);exact ut h (f a) m d1 (by unfold ry;rcases d3 with e|e<;>omega)
 ·by_cases a:0<=t.target
  ·unfold fy;rw[Mv (by omega),QL];unfold IN
   rw[NF,iA h.toRight fun y g=>by
    obtain⟨_,_,f,_⟩:=k.of g
    exact f]
   exact⟨fun q=>⟨q.1,a,q.2⟩,fun q=>⟨q.1,q.2.2⟩⟩
  unfold fy ny;rw[Mw (by omega)];simp[a]
 by_cases a:0<=t.target
 ·obtain⟨d1,_,d3⟩:=wA h i (f a);have s:=ut h (f a) m d1 (by rcases d3 with e|e<;>omega);have j: ∀y∈na c (k9 c t.target mem) (n5 c t.src t.target),fi c y=true:=fun y g=>am (s.Z4 y g);have o:=(gy (c:=c) (d:=n5 c t.src t.target) (l:=k9 c t.target mem)).1;unfold m9 I2 TJ ry;rw[Mv (by omega),iA h.toRight fun y g=>((eh h o).1 g).in h j,eh h o];exact⟨fun q=>⟨a,q⟩,fun q=>q.2⟩
 unfold m9 TJ;rw[Mw (by omega)];simp[a,zL]
def Cc{c:aq}(h:ct c){act:List Int}{mem:List eg}{a b:Nat}(f:Tp c act mem (dl c a))(j:Tp c act mem (dl c b))(m:bd c act a b=false){x:Int}(d:ny c (dl c a) x)(i:ny c (dl c b) x):False:=by
 have k:=h.toRight
 have g: ∀y,y∈act->ny c (dl c a) y->ny c (dl c b) y->False:=fun y l o p=>by
  have:=LV ((f.left y).2 ⟨l,o⟩) ((j.left y).2 ⟨l,p⟩);rw[m]at this;cases this
 have n:=aI.1 (am d.2);rcases qR k (c.Z9.length) x n.2 (Mz.1 d.2) (Mz.1 i.2) with e|e|e
 ·exact g _ f.src ⟨d.1,f.Z4 d.1⟩ ⟨i.1,by rw[<-e];exact f.Z4 d.1⟩
 ·exact g _ j.src ⟨d.1,jE k (Mz.2 e) (j.Z4 i.1)⟩ ⟨i.1,j.Z4 i.1⟩
 exact g _ f.src ⟨d.1,f.Z4 d.1⟩ ⟨i.1,jE k (Mz.2 e) (f.Z4 d.1)⟩
def Fit.front{c:aq}{act:List Int}{l:List Nat}{n:Nat}(h:Fit c act (l++[n])):Fit c act l/\ ∀k∈l,bd c act k n=false:=by
 obtain⟨a,_,b⟩:=Pj.1 h.two;exact⟨⟨fun m e=>h.real m (Ns _ e),a⟩,fun k d=>(b k d n (by simp)).2⟩
def tL{c:aq}(h:ct c){act:List Int}(j:tU c act=true){mem:List eg}(C:bm c mem=true): ∀(m:Nat)(ts:List Nat),ts.length=m->Fit c act ts-> ∃O:List Nat,O.Pairwise (· < ·)/\tU c (zL O)=true/\ ∀x,x∈zL O↔i6 c act mem ts x
 | 0,ts,a,y=>by
   obtain rfl:ts=[]:=OZ.1 a;have M:=cx j;obtain⟨l,e,hk⟩:=tQ j
   have N:l.Pairwise (· < ·):=by
    have:=M.ZZ;rw[e]at this;unfold zL at this;exact(Q1.1 this).imp fun h=>by omega
   exact⟨l,N,by rw[<-e];exact j,fun x=>by rw[<-e];simp[i6]⟩
 | m+1,ts,a,y=>by
   rcases List.eq_nil_or_concat ts with rfl|⟨l,n,rfl⟩
   ·simp at a
   rw[List.concat_eq_append]at y a |-;obtain⟨s,u⟩:=y.front;obtain⟨O,R,K,E⟩:=tL h j C m l (by simpa using a) s;obtain⟨t,I,v⟩:=y.real n (by simp);have i:=yo h j C I v
   have o: ∀k∈l,Tp c act mem (dl c k):=fun k hk=>by
    obtain⟨S,w,D⟩:=s.real k hk;rw[dD w];exact yo h j C w D
   rw[<-dD I]at i;by_cases b:0<=(dl c n).target
   ·have A:=cx K;have J:=i.uni b;have r: ∀k∈l,∀x,TJ c mem (dl c k) x->ny c (dl c k) x:=fun k hk x q=>⟨q.1,Ek h ((o k hk).uni q.1).Z4 q.2⟩
    have L:ry c (dl c n)= -1\/(ry c (dl c n)∈zL O/\an c (ry c (dl c n))=true):=by
     refine(i.dom b).imp id fun e=>⟨(E _).2 (.inl ⟨e.1,fun k hk a=> ?_⟩),e.2⟩;exact Cc h (o k hk) i (u k hk) (x:=(dl c n).src) ⟨a.1,jE h.toRight a.2 (i.Z4 b)⟩ ⟨b,i.Z4 b⟩
    classical
    let G:List Nat:=(List.range c.Z9.length).filter fun k:Nat=>decide (i6 c act mem (l++[n]) (k:Int))
    have z: ∀x,i6 c act mem (l++[n]) x->fi c x=true:=fun x d=>by
     rcases d with⟨d,_⟩|⟨k,hk,q⟩
     ·obtain⟨_,_,z,_⟩:=(cx j).of d;exact z
     rcases N1.1 hk with hk|hk
     ·exact am (r k hk x q).2
     rw[NP.1 hk]at q;exact am (Ek h J.Z4 q.2)
    have f: ∀x,x∈zL G↔i6 c act mem (l++[n]) x:=fun x=>by
     constructor
     ·intro d;obtain⟨k,hk,rfl⟩:=NG.1 d;simpa using (NF.1 hk).2
     intro d;obtain⟨k,rfl⟩: ∃k:Nat,x=k:=⟨x.toNat,by have:=aI.1 (z x d);omega⟩;exact NG.2 ⟨k,NF.2 ⟨NZ.2 (aW.1 (z _ d)),by simpa using d⟩,rfl⟩
    refine⟨G,DF,(Db h A J L DF fun x=> ?_).1,f⟩;rw[f,E];constructor
    ·rintro(⟨p,g⟩|⟨k,hk,q⟩)
     ·refine .inl ⟨.inl ⟨p,fun k hk=>g k (Ns _ hk)⟩,?_⟩;cases B:b4 c (ry c (dl c n)) x
      ·rfl
      exact absurd ⟨b,B⟩ (g n (by simp))
     rcases N1.1 hk with hk|hk
     ·refine .inl ⟨.inr ⟨k,hk,q⟩,?_⟩;cases B:b4 c (ry c (dl c n)) x
      ·rfl
      exact(Cc h (o k hk) i (u k hk) (r k hk x q) ⟨b,B⟩).elim
     rw[NP.1 hk]at q;exact .inr q.2
    rintro(⟨⟨p,g⟩|⟨k,hk,q⟩,H⟩|q)
    ·refine .inl ⟨p,fun k hk a=> ?_⟩;rcases N1.1 hk with hk|hk
     ·exact g k hk a
     rw[NP.1 hk]at a;rw[a.2]at H;cases H
    ·exact .inr ⟨k,Ns _ hk,q⟩
    exact .inr ⟨n,by simp,b,q⟩
   refine⟨O,R,K,fun x=> ?_⟩;rw[E];have P: ¬ny c (dl c n) x:=fun q=>b q.1;have Q: ¬TJ c mem (dl c n) x:=fun q=>b q.1;constructor
   ·rintro(⟨p,g⟩|⟨k,hk,q⟩)
    ·refine .inl ⟨p,fun k hk=> ?_⟩;rcases N1.1 hk with hk|hk
     ·exact g k hk
     rw[NP.1 hk];exact P
    exact .inr ⟨k,Ns _ hk,q⟩
   rintro(⟨p,g⟩|⟨k,hk,q⟩)
   ·exact .inl ⟨p,fun k hk=>g k (Ns _ hk)⟩
   rcases N1.1 hk with hk|hk
   ·exact .inr ⟨k,hk,q⟩
   rw[NP.1 hk]at q;exact absurd q Q
end
section
def C5{c:aq}(h:(n9 c).1=0):c.vars.length<=8/\ ∀v∈c.vars,aJ v.start=true:=by
 unfold n9 at h;split at h
 ·simp at h
 rename_i e;split at h
 ·simp at h
 split at h
 ·simp at h
 rename_i b;refine⟨by omega,fun v d=> ?_⟩;obtain⟨k,a,rfl⟩:=O1 d;have:=cg b k a;unfold jl qU at this;rw[Ms a]at this;simp only[Mx,NI]at this;rw[cA];exact⟨this.1.2,this.2⟩
def g4(c:aq):cD:=⟨[],c.vars.map (·.start),[],[],false,[],[]⟩
def y6{c:aq}(b: ∀v∈c.vars,aJ v.start=true):fe c (g4 c):=⟨by unfold g4;simp,fun x d=>by
 obtain⟨v,a,rfl⟩:=NG.1 d
 exact b v a,⟨.nil,by simp[g4]⟩,by simp[g4],by simp[g4],by simp[g4],by simp[g4]⟩
def IV{c:aq}(h:ct c):h9 c (-1)=Se c (Es c):=by
 obtain⟨s,d,a,_⟩:=h.topS;have b:=(Mt.1 d).1;have e:fi c c.initial=true:=by rw[a];exact aW.2 b
 unfold h9;simp only[Nn];rw[e,Mw rfl];rfl
def u9{c:aq}(h:ct c){k:Nat}(a:k∈h9 c (-1)):k<c.Z9.length:=by
 obtain⟨s,d,_⟩:=h.topS;have b:=(Mt.1 d).1;rw[IV h,Ec h b, <-j6 h]at a;exact NZ.1 (NF.1 a).1
def A8{c:aq}(h:ct c):nL c (h9 c (-1))=rf c:=by
 rw[IV h];unfold nL rf;apply O9;intro k _;rw[N8,mV,decide_eq_true_iff]
def ky{c:aq}(h:ct c){now:Int}(m:0<=now/\now<=1099511627776)(n: ∀v∈c.vars,aJ v.start=true)(i:(ak c 0 now (g4 c) [] (zL (h9 c (-1)))).1.2=none):tU c (ak c 0 now (g4 c) [] (zL (h9 c (-1)))).1.1.act=true/\(ak c 0 now (g4 c) [] (zL (h9 c (-1)))).1.1.act=zL (nL c (h9 c (-1))):=by
 obtain⟨_,k⟩:=iX (bL h) (l:=zL (h9 c (-1))) (f:=[]) (show aJ 0=true by rfl) m (y6 n) .nil;have g:=k i;have d:=Av h;rw[<-A8 h]at d
 have e:(ak c 0 now (g4 c) [] (zL (h9 c (-1)))).1.1.act=zL (nL c (h9 c (-1))):=mL g.ZZ (by unfold nL;exact yk) fun x=>by
  rw[g.mem];simp only[g4,List.not_mem_nil,false_or];constructor
  ·intro b;obtain⟨j,a,rfl⟩:=NG.1 b;refine NG.2 ⟨j,NF.2 ⟨NZ.2 ?_,mV.2 a⟩,rfl⟩;exact u9 h a
  intro b;obtain⟨j,a,rfl⟩:=NG.1 b;exact NG.2 ⟨j,mV.1 (NF.1 a).2,rfl⟩
 exact⟨by rw[e];exact d,e⟩
def tJ(env:cf)(now:Int):b8 prog env 64 [I now] (B (decide (0<=now/\now<=1099511627776))):=by
 by_cases a:0<=now
 ·by_cases b:now<=1099511627776
  ·have k:decide (0<=now/\now<=1099511627776)=true:=by simp[a,b]
   rw[k];refine qf func64 call64 ntmps64 results64 ?_;have F:=ai a b;exact fc
  have k:decide (0<=now/\now<=1099511627776)=false:=by simp[b]
  rw[k];refine qf func64 call64 ntmps64 results64 ?_;have F:=ai a b;exact fc
 have k:decide (0<=now/\now<=1099511627776)=false:=by simp[a]
 rw[k];refine qf func64 call64 ntmps64 results64 ?_;have F:=a;exact fc
def vo(a b:Addr):cD×tn->AV
 |(r,none)=> .tuple [.agg [bs r.act,bs r.vars, .seq 2 (r.mem.map fj), .seq 2 (r.Z2.map cI),B r.over], .agg [bs r.outs, .seq 2 (r.Z8.map cI)],ik]
 |(_,some e)=> .tuple [.agg [b6,b6,b6,b6,B false], .agg [b6,b6],c0 (-1) (cr a b (some e))]
def E5(env:cf)(t f g:Addr)(c:aq)(now:Int)(E:zs env t f g c 0 now)(u: ∀v∈c.vars,aJ v.start=true):b8 prog env 37 [aG c,I now] (vo f g (gu c now)):=by
 have J:=E.hs.vars;have f0:=tJ env now;rw[Ny E.hn]at f0;have f1:=ay env c E.hs;have f2:=pw env c E.hs;have f3:=((yO env c E.h (-1)).lend (al (fun _=>rfl) _)).seen
 have s:(h9 c (-1)).length<=1000:=by
  rw[IV E.h];have:=zh E.h (Es c);omega
 have f4:=xq env t f g c 0 now E (g4 c) (y6 u) .nil (NJ _) (h9 c (-1)) (fun i C=>u9 E.h C) s (fun A=>(ky E.h E.hn u A).1);unfold gu;rw[show (⟨[],c.vars.map (·.start),[],[],false,[],[]⟩:cD)=g4 c from rfl];generalize h9 c (-1)=G at*;unfold aG at f1 f3 |-;unfold aA at f1 f2;have z: ∀k,k<=c.vars.length->((c.vars.take k).map (·.start)).length=k:=fun k P=>by simp;omega
 refine qf func37 call37 ntmps37 results37 ?_;repeat refine Ci f0 f1 f2 ?_
 refine Tz 29 9001 0 0 3 1 ?_;refine Tz 29 9002 0 1 3 1 ?_;refine Tz 29 9006 0 2 146 2 ?_;refine Tz 29 9003 0 3 98 2 ?_;refine Tz 29 9004 0 5 3 1 ?_;refine Tz 29 9005 0 6 50 2 ?_;refine cV [(9006,⟨2,[],146,true⟩)] ?_ ?_
 ·exact TZ
 refine aH (D:=Nat) (fun j e=>[(0, .ref 9 [cy c] 0 0),(4, .loc 4 (e 4) 0 0),(5, .loc 5 (e 5) 0 0),(6,ik),(7, .loc 29 (e 29) 0 0),(34,qa c.vars),(35,I c.vars.length),(36,I j)]) (fun j e=>[(4,⟨5,[[b6,b6,b6,b6,B false]],37,false⟩),(5,⟨2,[[b6,b6]],101,false⟩),(29,⟨15,[[.row 9001 (e 9001), .row 9002 (e 9002), .seq 2 [], .row 9003 (e 9003),B false, .row 9004 (e 9004), .row 9005 (e 9005), .ref 9 [cy c] 0 0,Sg c.name,I c.initial,qa c.vars,rv c.Z9,tg c.trans,I 0,I now]],150,false⟩),(9001,⟨1,[],3,true⟩),(9002,⟨1,((c.vars.take j).map (·.start)).map aa,3,true⟩),(9003,⟨2,[],98,true⟩),(9004,⟨1,[],3,true⟩),(9005,⟨2,[],50,true⟩)]) (fun j _ a=>j<=c.vars.length/\a 4=false/\a 5=false/\a 29=false/\a 9001=false/\a 9002=false/\a 9003=false/\a 9004=false/\a 9005=false) (fun j=>c.vars.length-j) 0 ?_ ?_ ?_ ?_
 ·refine⟨NJ _,?_⟩;simp only[k6,oj,fV,QH,Qv,go_sem];try simp
 ·simp only[k6,oj,fV,Row.see,AV.see,AV.see.seeL,PH,OJ,go_sem];try rfl
 ·simp only[k6,oj,fV,Row.see,AV.see,AV.see.seeL,PH,OJ,go_sem];try rfl
 rintro j R N ⟨H,n,o,b,h,l,m,p,q⟩;by_cases d:j<c.vars.length
 ·obtain⟨v,w⟩:=gE d;have r:=ip d;have K:=aD d (by omega);have L:dd (((c.vars.take j).map (·.start)).length+1) 8:=by rw[z j H];exact aC (by omega) (by omega)
  have M:((c.vars.take (j+1)).map (·.start)).map aa=((c.vars.take j).map (·.start)).map aa++[[I v.start]]:=by rw[bO w];simp
  generalize O:(c.vars.take j).map (·.start)=U at*;have F:=ed UO w r K L n o b h l m<|ai p q;repeat refine st ?_
  refine⟨j+1,⟨d,?_⟩,?_,?_,by omega⟩
  ·simp only[go_sem,n,o,b,h,l,m,p,q,NH]
  ·exact qe
  simp only[M];exact qe
 obtain rfl:j=c.vars.length:=by omega
 have r:=nl c.vars.length;have y:((c.vars.take c.vars.length).map (·.start)).map aa=(g4 c).vars.map aa:=by rw[NS];rfl
 generalize g5 c 0 now (g4 c) (zL G)=X at*;rcases X with⟨Q,_|⟨k,x⟩⟩
 ·unfold vo;unfold cr RY mc at f4;simp only at f4;simp only[y];have F:=ed Ux Uz g4.eq_1 r n o b h l m p q;repeat refine st ?_
  refine lL f3 ?_;repeat refine st ?_
  refine iL [(1000,29),(1001,9001),(1002,9002),(1003,9003),(1004,9004),(1005,9005)] f4 ?_;exact fc
 unfold vo;unfold cr RY mc at f4;simp only at f4;unfold cr;simp only;have f5:=eZ env [109,105,99,114,111,46,70,105,114,115,116] (x.headD (-1)) (fp x.tail (bt (if k=2 then f else g)));simp only[y];have F:=ed Ux Uz g4.eq_1 r n o b h l m p q;repeat refine st ?_
 refine lL f3 ?_;repeat refine st ?_
 refine iL [(1000,29),(1001,9001),(1002,9002),(1003,9003),(1004,9004),(1005,9005)] f4 ?_;exact kb f5
end
section
def tN(env:cf)(x:tD)(u:x.1.length<=4096)(w:x.2.1.length<=4096)(C:x.2.2.1.length<=4096)(o: ∀m∈x.2.2.1,dd m.2.length 8)(v:dd x.2.2.2.1.length 24):
 i9 prog env 43 [8,11,14] (fun i=>i==8||(i==11||i==14)) (fun _=>[.agg [.seq 1 (x.1.map aa), .seq 1 (x.2.1.map aa), .seq 2 (x.2.2.1.map fj), .seq 2 (x.2.2.2.1.map cI),B x.2.2.2.2]]) (fun _=>[]) (fun _=>[(8,⟨1,x.1.map aa,3,true⟩),(11,⟨1,x.2.1.map aa,3,true⟩),(14,⟨2,x.2.2.2.1.map cI,98,true⟩)]) (fun g=> .agg [.row 8 (g 8), .row 11 (g 11), .seq 2 (x.2.2.1.map fj), .row 14 (g 14),B x.2.2.2.2]):=by
 have f0:=lI env (x.1.map aa) (by rw[NT];exact aC u (by omega));have f1:=lI env (x.2.1.map aa) (by rw[NT];exact aC w (by omega));have f2:=BD env (x.2.2.2.1.map cI) (by rw[NT];exact v);obtain⟨A,V,M,T,O⟩:=x;simp only at*;refine qi func43 call43 ntmps43 results43 ?_;intro f a n;obtain⟨b,c,d⟩:=S5 n;have F:=gs b c d;repeat refine Sw f0 f1 f2 ?_
 refine nC 3 9000 0 2 146 2 ?_
 refine aH (D:=Nat) (fun j f=>[(1, .loc 1 (f 1) 0 0),(2, .loc 2 (f 2) 0 0),(3, .loc 3 (f 3) 0 0),(19, .seq 2 (M.map fj)),(20,I M.length),(21,I j)])
  (fun j f=>[(1,⟨5,[[.seq 1 (A.map aa), .seq 1 (V.map aa), .seq 2 (M.map fj), .seq 2 (T.map cI),B O]],37,false⟩),(2,⟨5,[[b6,b6,b6,b6,B false]],37,false⟩),(3,⟨5,[[.row 8 (f 8), .row 11 (f 11), .row 9000 (f 9000), .row 14 (f 14),B O]],37,false⟩),(8,⟨1,A.map aa,3,true⟩),(11,⟨1,V.map aa,3,true⟩),(14,⟨2,T.map cI,98,true⟩),(9000,⟨2,(M.take j).map fj,146,true⟩)])
  (fun j _ a=>j<=M.length/\a 2=false/\a 3=false/\a 8=false/\a 11=false/\a 9000=false/\a 14=false) (fun j=>M.length-j) 0 ?_ ?_ ?_ ?_
 ·refine⟨NJ _,?_,?_,?_,?_,?_,?_⟩<;>simp only[go_sem,b,c,d]
 ·exact qe
 ·exact qe
 try clear b c d
 rintro j G a ⟨E,h,k,b,c,l,d⟩;by_cases e:j<M.length
 ·obtain⟨m,p⟩:=gE e;have t:=ip e;have z:=aD e (by omega);have f3:=lI env (m.2.map aa) (by rw[NT];exact o m (My p));have s:(M.take j).length=j:=by rw[NK];omega
  have y:dd (j+1) 32:=aC (by omega) (by omega);have r:M.take (j+1)=M.take j++[m]:=by rw[N4,p];rfl
  have F:=ed UF t z p s y b c h k l d;repeat refine ff f3 ?_
  refine⟨j+1,⟨e,?_,?_,?_,?_,?_,?_⟩,?_,?_,by omega⟩;all_goals (first|(show _=false;simp only[go_sem,b,c,h,k,l,d];done)|skip)
  ·exact qe
  have F:=qs UF r @NC.{0,0} b c h k l d;exact qe
 obtain rfl:j=M.length:=by omega
 have t:=nl M.length;have q:M.take M.length=M:=NS;have F:=qr t q b c h k l d;repeat refine st ?_
 refine cV [(9000,⟨2,M.map fj,146,true⟩)] ?_ ?_
 ·exact qe
 have F:=kv b c h k l d;exact rI
def wG(a b:Addr):cD×tn->AV
 |(r,none)=> .tuple [.agg [bs r.act,bs r.vars, .seq 2 (r.mem.map fj), .seq 2 (r.Z2.map cI),B r.over], .agg [bs r.outs, .seq 2 (r.Z8.map cI)],ik]
 |(_,some e)=> .tuple [.agg [b6,b6,b6,b6,B false], .agg [b6,b6],c0 (-1) (cr a b (some e))]
def bj(x:tD):cD:=⟨x.1,x.2.1,x.2.2.1,x.2.2.2.1,x.2.2.2.2,[],[]⟩
def IQ(env:cf)(l b e:Addr)(c:aq)(d now:Int)(E:zs env l b e c d now)(x:tD)(q:x.1.length<=100)(p:x.2.1.length<=4096)(n:x.2.2.1.length<=4096)(i: ∀m∈x.2.2.1,dd m.2.length 8)(o:dd x.2.2.2.1.length 24)(ts:List Nat)
 (h:b8 prog env 133 [Sg [109,105,99,114,111,46,83,116,101,112],aG c, .agg (i' x),I d] ik)
 (f:i9 prog env 195 [1000,1001,1002,1003,1004,1005] (fun _=>false) (fun g=>[.loc 1000 (g 1000) 0 0, .seq 1 (ts.map aB)]) (RY c d now (bj x)) (RY c d now (bj x)) (fun _=>B true))
 (a:i9 prog env 196 [1000,1001,1002,1003,1004,1005] pi (fun g=>[.loc 1000 (g 1000) 0 0, .seq 1 (ts.map aB)]) (RY c d now (bj x)) (RY c d now (md c d now (bj x) ts).1) (fun _=>cr b e (md c d now (bj x) ts).2)):
 b8 prog env 138 [aG c, .agg (i' x), .seq 1 (ts.map aB),I d,I now] (wG b e (md c d now (bj x) ts)):=by
 have f1:=ay env c E.hs;have f2:=tN env x (by omega) p n i o;have f3:=tJ env now;rw[Ny E.hn]at f3;unfold i' at h |-;unfold aG at f1 h |-;unfold aA at f1;unfold RY mc at f;obtain⟨A,V,M,T,O⟩:=x;unfold bj at f a |-;simp only at*;generalize md c d now _ ts=X at*;refine qf func138 call138 ntmps138 results138 ?_;repeat refine jG h ?_
 refine Uh [(8,9001),(11,9002),(14,9003)] f2 ?_
 iterate 9 (first|refine nw ?_|refine S3 f1 ?_)
 show fq _ _ _ _ _ _;refine Tz 33 9004 0 5 3 1 ?_;refine Tz 33 9005 0 6 50 2 ?_;repeat refine jG f3 ?_
 refine Uh [(1000,33),(1001,9001),(1002,9002),(1003,9003),(1004,9004),(1005,9005)] f ?_;repeat refine nw ?_
 rcases X with⟨r,_|⟨k,j⟩⟩
 ·unfold cr RY mc at a;simp only at a;unfold wG;have F:=pi.eq_1;repeat refine st ?_
  refine iL [(1000,33),(1001,9001),(1002,9002),(1003,9003),(1004,9004),(1005,9005)] a ?_;exact fc
 unfold cr RY mc at a;simp only at a;unfold wG cr;simp only;have f5:=eZ env [109,105,99,114,111,46,83,116,101,112] (j.headD (-1)) (fp j.tail (bt (if k=2 then b else e)));have F:=pi.eq_1;repeat refine st ?_
 refine iL [(1000,33),(1001,9001),(1002,9002),(1003,9003),(1004,9004),(1005,9005)] a ?_;exact kb f5
end
section
def b8.seenY{P:Program}{env:cf}{f:FuncId}{cs:List AV}{e:TypeId}{sz:Nat}{es:List (List AV)}(h:b8 P env f cs (.own e sz es)):b8 P env f cs (.seq sz es):=by
 refine⟨h.enter,fun w S t k m p=>(h.calls w S t k m p).mono ?_⟩;rintro x y ⟨v,rfl,l,u,g,i,j,n⟩;obtain⟨d,r,c,s⟩:=Lh.seq n;exact⟨v,rfl,l,d,fun b o a=>r b o (g b o a),fun b o a=>(c b o a).elim (i b o) fun q=> .inr q.1,fun b o a=>(c b o a).elim (j b o) fun q=>q.2,s⟩
def Br(c:aq)(d now:Int): ∀(l:List Int)(r:cD),rK (bS c d now r l).2
 |[],r=>fun x h=>by cases h
 | i::l,r=>by
   unfold bS;split
   ·exact Br c d now l _
   exact wE _ _ _ _ _
def GA(c:aq)(d now:Int): ∀(l:List Nat)(r:cD),rK (dW c d now r l).2
 |[],r=>fun x h=>by cases h
 | i::l,r=>by
   unfold dW;split
   ·exact GA c d now l _
   exact wE _ _ _ _ _
def sQ(c:aq)(d now:Int)(r:cD)(ts:List Nat):rK (md c d now r ts).2:=by
 unfold md;simp only;have a:=Br c d now (zL (b7 c (dj c r.act ts))).reverse { r with mem:=nr c r.act (zL (b7 c (dj c r.act ts))) r.mem };split
 ·rename_i e f;have b:=GA c d now ts e;split
  ·exact lX _ _ _ _ _
  exact b
 exact a
def TO(d now:Int):cD×tn->AV
 |(r,none)=> .agg (fk r d now none)
 |(r,some (k,_))=> .agg [.any, .any, .any, .any, .any,bs r.outs, .seq 2 (r.Z8.map cI),I d,I now,I (k:Nat),I (-1)]
def SE(S:cD×tn)(r:cD)(e:Nat×List Int):Prop:=S.2=some e/\S.1.outs=r.outs/\S.1.Z8=r.Z8
def FD(c e f g i a b:AV)(d now k:Int):fN (.agg [c,e,f,g,i,a,b,I d,I now,I k,I (-1)]) (.agg [.any, .any, .any, .any, .any,a,b,I d,I now,I k,I (-1)]):=
 .of (.agg (.cons (.any _) (.cons (.any _) (.cons (.any _) (.cons (.any _) (.cons (.any _) (.cons (.refl _) (.cons (.refl _) (.cons (.refl _) (.cons (.refl _) (.cons (.refl _) (.cons (.refl _) .nil)))))))))))) (fun _ _ _ h=>by cases h) (fun _ _ _ h=>by cases h)
def Gh(env:cf)(c:aq)(h:ct c)(hcv:c.vars.length<=1000)(d now:Int)(hd:aJ d=true)(hn:0<=now/\now<=1099511627776)(x:tD)(hr:fe c (bj x))(hl:x.1.length<=100)(hb:tU c x.1=true)(hml:x.2.2.1.length<=1000000)(ts:List Nat)(hts: ∀n∈ts,∃t,c.trans[n]? =some t)(htl:ts.length<=64)(G0:List Nat)(hG0:dj c x.1 ts=zL G0)
 (hmem:bm c (nr c x.1 (zL (b7 c (dj c x.1 ts))) x.2.2.1)=true)(hmem2:(nr c x.1 (zL (b7 c (dj c x.1 ts))) x.2.2.1).length<=1000000)(hsame:DL c x.1 (zL (b7 c (dj c x.1 ts))) x.2.2.1=nr c x.1 (zL (b7 c (dj c x.1 ts))) x.2.2.1)
 (M: ∀r2:cD,fe c r2->r2.act=x.1.filter (fun k=> !(zL (b7 c (dj c x.1 ts))).reverse.contains k)->(ak c d now r2 [] (zL (b7 c (zL (toR c (nr c x.1 (zL (b7 c (dj c x.1 ts))) x.2.2.1) ts))))).1.2=none->tU c (ak c d now r2 [] (zL (b7 c (zL (toR c (nr c x.1 (zL (b7 c (dj c x.1 ts))) x.2.2.1) ts))))).1.1.act=true):
 b8 prog env 62 [.agg (aA c), .agg (i' x), .seq 1 (ts.map aB),I d,I now] (TO d now (md c d now (bj x) ts)):=by
 have hfew:=h.Z6;have T: ∀y∈x.1,0<=y:=fun y hy=>(Kc hb y hy).1;have fL:=fun(n:Nat)(t:tS)(z:c.trans[n]? =some t)=>ju env c h x.1 (by omega) T n t z;have hgl:=vF h x.1;have hlf:=fun t=>gG h x.1 t;have fS:=(jY env c h.toRight G0 (by have:=hgl ts;rw[hG0,ar]at this;omega)).lend (al (fun _=>rfl) _);rw[<-hG0]at fS;have hSl:=cQ h.toRight (dj c x.1 ts);have fT:=((mM env (zL (b7 c (dj c x.1 ts))) (by rw[ar];omega)).lend (al (fun _=>rfl) _)).seen;rw[bl]at fT;have fR:=((vi env c h x.1 (zL (b7 c (dj c x.1 ts))).reverse (by omega) T (by rw[Oj,ar];omega) x.2.2.1 hml).seenY);rw[Iq,hsame]at fR;have fTg:=fun(n:Nat)(t:tS)(z:c.trans[n]? =some t)=>yU env c h (nr c x.1 (zL (b7 c (dj c x.1 ts))) x.2.2.1) hmem2 n t z hmem;obtain⟨S,P⟩: ∃S,md c d now (bj x) ts=S:=⟨_,rfl⟩;have hSE:rK S.2:=by rw[<-P];exact sQ c d now (bj x) ts
 rw[P]
 replace P:(match bS c d now { bj x with mem:=nr c x.1 (zL (b7 c (dj c x.1 ts))) x.2.2.1 } (zL (b7 c (dj c x.1 ts))).reverse with
  |(u,none)=>(match dW c d now u ts with
    |(r2,none)=>g5 c d now r2 (zL (b7 c (zL (toR c (nr c x.1 (zL (b7 c (dj c x.1 ts))) x.2.2.1) ts))))
    |y=>y)
  |y=>y)=S:=P
 generalize hM:nr c x.1 (zL (b7 c (dj c x.1 ts))) x.2.2.1=g at*;generalize hGG:b7 c (dj c x.1 ts)=G at*;unfold aA at fL fS fR fTg;unfold i';refine qw func62 call62 ntmps62 results62 ?_;have F:=aA.eq_1;repeat refine st ?_
 refine nC 11 9004 0 5 3 1 ?_;refine nC 11 9005 0 6 50 2 ?_;refine cV [(9004,⟨1,[],3,true⟩),(9005,⟨2,[],50,true⟩)] ?_ ?_
 ·exact qe
 refine aH (D:=Nat) (fun j q=>[(2, .seq 1 (ts.map aB)),(5, .loc 5 (q 5) 0 0),(6, .loc 6 (q 6) 0 0),(10, .loc 10 (q 10) 0 0),(11, .loc 11 (q 11) 0 0),(12, .row 22 (q 22)),(13, .row 23 (q 23)),(14,I j)]) (fun j q=>[(5,⟨5,[aA c],26,false⟩),(6,⟨5,[i' x],37,false⟩),(10,⟨11,[[b6,b6,b6,b6,B false,b6,b6,I 0,I 0,I 0,I 0]],91,false⟩),(11,⟨11,[fk (bj x) d now none],91,false⟩),(22,⟨1,(dj c x.1 (ts.take j)).map aa,3,true⟩),(23,⟨1,[],3,true⟩)]) (fun j _ f=>j<=ts.length/\f 10=false/\f 11=false/\f 22=false/\f 23=false) (fun j=>ts.length-j) 0 ?_ ?_ ?_ ?_
 ·refine⟨NJ _,?_⟩;simp only[k6,oj,fV,QH,Qv,go_sem];try simp
 ·simp only[k6,oj,fV,Row.see,AV.see,AV.see.seeL,PH,OJ,go_sem];try rfl
 ·simp only[k6,oj,fV,Row.see,AV.see,AV.see.seeL,PH,OJ,aA,i',fk,bj,go_sem];exact⟨rfl,rfl⟩
 rintro j ws es ⟨hj,m,o,e2,p⟩;by_cases b:j<ts.length
 ·obtain⟨n,H⟩:=gE b;obtain⟨t,z⟩:=hts n (My H);have hnl:=(Mt.1 z).1;have C:=ip b;have Y:=aD b (by omega);have Z:=ip hnl;have hlft:=hlf t;have q4:(dj c x.1 (ts.take (j+1))).map aa=(dj c x.1 (ts.take j)).map aa++(fy c x.1 t).map aa:=by rw[xV H z,NC]
  have q6:(dj c x.1 (ts.take j)).length<=32*j:=NN (hgl _) (by rw[NK];omega);have f0:=fL n t z;generalize dj c x.1 (ts.take j)=A at*;generalize fy c x.1 t=Lv at*;have q5:dd (A.length+Lv.length) 8:=aC (by omega) (by omega);unfold ax at f0;have F:=ed Us UK Uv Uu H z C Y Z q5 m<|gs o e2 p;repeat refine ff f0 ?_
  refine⟨j+1,⟨b,by simp only[go_sem,m,o,e2,p,NH]⟩,?_,?_,by omega⟩
  ·exact qe
  simp only[q4];exact qe
 obtain rfl:j=ts.length:=by omega
 have C:=nl ts.length;rw[NS,hG0,bl];unfold go at fR;have hto:=Ea h g;have F:=mX Us UK Uy fk.eq_2 bj.eq_1 C m o e2 p;repeat refine st ?_
 refine lL fS ?_;repeat refine st ?_
 refine lL fT ?_;repeat refine ff fR ?_
 refine lp (D:=Nat) (fun j q=>[(2, .seq 1 (ts.map aB)),(5, .loc 5 (q 5) 0 0),(6, .loc 6 (q 6) 0 0),(10, .loc 10 (q 10) 0 0),(11, .loc 11 (q 11) 0 0),(12, .seq 1 ((zL G).reverse.map aa)),(13, .row 23 (q 23)),(15,I j)]) (fun j q=>[(5,⟨5,[aA c],26,false⟩),(6,⟨5,[i' x],37,false⟩),(10,⟨11,[[b6,b6,b6,b6,B false,b6,b6,I 0,I 0,I 0,I 0]],91,false⟩),(11,⟨11,[fk { bj x with mem:=g } d now none],91,false⟩),(23,⟨1,(toR c g (ts.take j)).map aB,3,true⟩)]) (fun j _ f=>j<=ts.length/\f 10=false/\f 11=false/\f 23=false) (fun j=>ts.length-j) 0 ⟨NJ _,by simp only[go_sem,m,o,p,NH]⟩ ?_;try clear m o e2 p b C hj
 rintro j us fs ⟨hj,m,o,p⟩;by_cases b:j<ts.length
 ·obtain⟨n,H⟩:=gE b;obtain⟨t,z⟩:=hts n (My H);have hnl:=(Mt.1 z).1;have C:=ip b;have Y:=aD b (by omega);have Z:=ip hnl;have q4:(toR c g (ts.take (j+1))).map aB=(toR c g (ts.take j)).map aB++(m9 c t g).map aB:=by rw[sM H z,NC]
  have q6:(toR c g (ts.take j)).length<=32*j:=NN (hto _) (by rw[NK];omega);have q7:(toR c g (ts.take (j+1))).length<=32*(j+1):=NN (hto _) (by rw[NK];omega);rw[sM H z,NA]at q7;have f0:=fTg n t z;generalize toR c g (ts.take j)=A at*;generalize m9 c t g=Tg at*;have q5:dd (A.length+Tg.length) 8:=aC (by omega) (by omega);unfold ax go at f0;have F:=ed Us Uy fk.eq_2 bj.eq_1 Uv Uu H z C Y Z<|i0 q5 m o p;repeat refine ff f0 ?_
  refine⟨j+1,⟨b,by simp only[go_sem,m,o,p,NH]⟩,?_,?_,by omega⟩
  ·exact qe
  simp only[q4];exact qe
 obtain rfl:j=ts.length:=by omega
 have C:=nl ts.length;rw[NS];have hrev:(zL G).reverse=zL G.reverse:=by unfold zL;rw[List.map_reverse]
 rw[hrev]
 have hGk: ∀k∈G.reverse,k<c.Z9.length:=fun k hk=>by
  rw[<-hGG]at hk;exact lM h.toRight (QL.1 hk)
 have hal:=fun(r:cD) hr hl (l:List la) hll E=>Ba env c (by omega) hcv d now hd hn r hr hl l hll E;have hok:=fun(r:cD)(hr:fe c r)(l:List la) E=>jo hd hn (l:=l) hr E;have hgo:=fun(l:List Int)(hl:l.length<=4000)(n:Int)=>((Gl env l hl n).lend (al (fun _=>rfl) _)).seen;have hRl:G.reverse.length<=32:=by rw[Oj];exact hSl
 have K:=(cx hb).ZZ
 have hin0: ∀y∈x.1,fi c y=true:=fun y hy=>by
  obtain⟨_,_,hz,_⟩:=(cx hb).of hy;exact hz
 have hS2l:=cQ h.toRight (zL (toR c g ts));have hS2k:=fun(k:Nat)(hk:k∈b7 c (zL (toR c g ts)))=>lM h.toRight hk;have W:=((jY env c h.toRight (toR c g ts) (by have:=hto ts;omega)).lend (al (fun _=>rfl) _)).seen;have hen:=fun(r2:cD) hr K hin hl M=>sl env c h hcv d now hd hn r2 hr K hin hl (b7 c (zL (toR c g ts))) hS2k (by omega) M;rw[hrev]at P M;have hlk:=lV (bL h) hd hn (l:=zL G.reverse) (r:={ bj x with mem:=g }) { hr with };generalize hTT:b7 c (zL (toR c g ts))=T2 at*;generalize G.reverse=R at*;obtain⟨X,hX⟩: ∃X,bS c d now { bj x with mem:=g } (zL R)=X:=⟨_,rfl⟩;rw[hX]at P hlk;have hSX: ∀r e,X=(r,some e)->SE S r e:=fun r e he=>by rw[<-P,he];exact⟨rfl,rfl,rfl⟩
 have hSA: ∀u r e,X=(u,none)->dW c d now u ts=(r,some e)->SE S r e:=fun u r e h1 h2=>by
  rw[<-P,h1];simp only[h2];exact⟨rfl,rfl,rfl⟩
 have hSN: ∀u r,X=(u,none)->dW c d now u ts=(r,none)->g5 c d now r (zL T2)=S:=fun u r h1 h2=>by
  rw[<-P,h1];simp only[h2]
 try clear P hTT
 unfold aA at hal hen W;rw[bl R];have F:=qr Us Uy fk.eq_2 bj.eq_1 C m o p;repeat refine st ?_
 refine o7 (D:=cD×tn) (fun _ q=>[(2, .seq 1 (ts.map aB)),(5, .loc 5 (q 5) 0 0),(10, .loc 10 (q 10) 0 0),(11, .loc 11 (q 11) 0 0),(13, .row 23 (q 23))]) (fun y q=>[(5,⟨5,[aA c],26,false⟩),(10,⟨11,[[b6,b6,b6,b6,B false,b6,b6,I 0,I 0,I 0,I 0]],91,false⟩),(11,⟨11,[fk y.1 d now y.2],91,false⟩),(23,⟨1,(toR c g ts).map aB,3,true⟩)]) (fun y _ f=>(y.1.act.length<=100/\(match y.2 with
  |none=>X=(y.1,none)/\fe c y.1
  |some e=>SE S y.1 e))/\f 10=false/\f 11=false/\f 23=false) ?_ ?_
 ·refine aH (D:=Nat×cD×tn) (fun y q=>[(2, .seq 1 (ts.map aB)),(5, .loc 5 (q 5) 0 0),(10, .loc 10 (q 10) 0 0),(11, .loc 11 (q 11) 0 0),(12, .seq 1 (R.map aB)),(13, .row 23 (q 23)),(16,I y.1)]) (fun y q=>[(5,⟨5,[aA c],26,false⟩),(10,⟨11,[[b6,b6,b6,b6,B false,b6,b6,I 0,I 0,I 0,I 0]],91,false⟩),(11,⟨11,[fk y.2.1 d now y.2.2],91,false⟩),(23,⟨1,(toR c g ts).map aB,3,true⟩)]) (fun y _ f=>(y.1<=R.length/\y.2.1.act.length<=100/\(match y.2.2 with
   |none=>X=bS c d now y.2.1 ((zL R).drop y.1)/\fe c y.2.1
   |some e=>SE S y.2.1 e))/\f 10=false/\f 11=false/\f 23=false) (fun y=>(R.length-y.1)+(if y.2.2.isSome=true then 0 else 1)) (0,{ bj x with mem:=g },none) ?_ ?_ ?_ ?_
  ·exact⟨⟨NJ _,hl,hX.symm,{ hr with }⟩,by simp only[go_sem,m,o,p,NH]⟩
  ·exact qe
  ·(simp only[go_sem,F])
   try rfl
  try clear m o p b C hj
  rintro⟨j,u,e⟩ us fs ⟨⟨hj,E,a⟩,m,o,p⟩;simp only at hj E a;rcases e with _|⟨k,O⟩
  ·obtain⟨a,w⟩:=a;by_cases b:j<R.length
   ·obtain⟨i,H⟩:=gE b;have hil:=hGk i (My H);obtain⟨s,hs⟩:=gE hil;obtain⟨⟨s1,s2⟩,_⟩:=uZ h hs;have ho:ww c i=s.out:=by unfold ww;rw[bK,hs]
    have f0:=hal u w (by omega) s.out (by omega) s2;obtain⟨k1,k2⟩:=hok u w s.out s2;have C:=ip b;have Y:=aD b (by omega);have Z:=ip hil;rw[tV (rL H),ho]at a;have v:(mv c d now u s.out).1.act.length<=100:=by rw[k2.act];exact E
    rcases Q:mv c d now u s.out with⟨r2,_|⟨k,O⟩⟩
    ·rw[Q]at a f0 k1 v;simp only at a k1 v;have f1:=hgo r2.act (by omega) i;unfold fk at f0;simp only at f0;have F:=ed Uy fk.eq_2 Us Ut Uu UB UG H hs C Y<|i0 Z m o p;repeat refine ff f0 ?_
     refine lL f1 ?_;repeat refine st ?_
     exact qn (j+1,{ r2 with act:=r2.act.filter fun k=> !(k==(i:Int)) },none) ⟨⟨b,NN (NV ..) v,a,{ k1 with }⟩,by simp only[go_sem,m,o,p,NH]⟩
    rw[Q]at a f0 v;simp only at a v;have f1:=hgo r2.act (by omega) i;unfold fk at f0;simp only at f0;have F:=ed Uy fk.eq_2 Us Ut Uu UB UG H hs C Y<|i0 Z m o p;repeat refine ff f0 ?_
    refine lL f1 ?_;repeat refine st ?_
    exact qn (j+1,{ r2 with act:=r2.act.filter fun k=> !(k==(i:Int)) },some (k,O)) ⟨⟨b,NN (NV ..) v,hSX r2 (k,O) a⟩,by simp only[go_sem,m,o,p,NH]⟩
   obtain rfl:j=R.length:=by omega
   have C:=nl R.length;rw[OH (by rw[ar];omega)]at a;have F:=m7 Uy fk.eq_2 Us C m o p;repeat refine st ?_
   refine⟨(u,none),⟨⟨E,a,w⟩,by simp only[go_sem,m,o,p,NH]⟩,?_,?_⟩
   ·exact qe
   exact qe
  have U:=uD hSE a.1;by_cases b:(j:Int)< (R.length:Int)
  ·have F:=qr Uy fk.eq_2 Us b U m o p;repeat refine st ?_
   refine⟨(u,some (k,O)),⟨⟨E,a⟩,by simp only[go_sem,m,o,p,NH]⟩,?_,?_⟩
   ·exact qe
   exact qe
  have F:=qr Uy fk.eq_2 Us b U m o p;repeat refine st ?_
  refine⟨(u,some (k,O)),⟨⟨E,a⟩,by simp only[go_sem,m,o,p,NH]⟩,?_,?_⟩
  ·exact qe
  exact qe
 try clear m o p b C hj
 rintro⟨u,e⟩ us fs ⟨⟨E,a⟩,m,o,p⟩;simp only at E a;have hSA:=hSA;have F:=gs m o p;repeat refine st ?_
 refine o7 (D:=cD×tn) (fun _ q=>[(5, .loc 5 (q 5) 0 0),(10, .loc 10 (q 10) 0 0),(11, .loc 11 (q 11) 0 0),(13, .row 23 (q 23))]) (fun y q=>[(5,⟨5,[aA c],26,false⟩),(10,⟨11,[[b6,b6,b6,b6,B false,b6,b6,I 0,I 0,I 0,I 0]],91,false⟩),(11,⟨11,[fk y.1 d now y.2],91,false⟩),(23,⟨1,(toR c g ts).map aB,3,true⟩)]) (fun y _ f=>(match y.2 with
  |none=> ∃V,X=(V,none)/\dW c d now V ts=(y.1,none)/\fe c y.1/\y.1.act=V.act
  |some e=>SE S y.1 e)/\f 10=false/\f 11=false/\f 23=false) ?_ ?_
 ·refine aH (D:=Nat×cD×tn) (fun y q=>[(2, .seq 1 (ts.map aB)),(5, .loc 5 (q 5) 0 0),(10, .loc 10 (q 10) 0 0),(11, .loc 11 (q 11) 0 0),(13, .row 23 (q 23)),(17,I y.1)]) (fun y q=>[(5,⟨5,[aA c],26,false⟩),(10,⟨11,[[b6,b6,b6,b6,B false,b6,b6,I 0,I 0,I 0,I 0]],91,false⟩),(11,⟨11,[fk y.2.1 d now y.2.2],91,false⟩),(23,⟨1,(toR c g ts).map aB,3,true⟩)]) (fun y _ f=>(y.1<=ts.length/\y.2.1.act.length<=100/\(match y.2.2 with
   |none=> ∃V,X=(V,none)/\dW c d now V ts=dW c d now y.2.1 (ts.drop y.1)/\fe c y.2.1/\y.2.1.act=V.act
   |some e=>SE S y.2.1 e))/\f 10=false/\f 11=false/\f 23=false) (fun y=>(ts.length-y.1)+(if y.2.2.isSome=true then 0 else 1)) (0,u,e) ?_ ?_ ?_ ?_
  ·refine⟨⟨NJ _,E,?_⟩,by simp only[go_sem,m,o,p,NH]⟩;rcases e with _|e
   ·exact⟨u,a.1,rfl,a.2,rfl⟩
   exact a
  ·exact qe
  ·exact qe
  try clear m o p E a e u
  rintro⟨j,u,e⟩ us fs ⟨⟨hj,E,a⟩,m,o,p⟩;simp only at hj E a;rcases e with _|⟨k,O⟩
  ·obtain⟨V,J,a,w,L⟩:=a;by_cases b:j<ts.length
   ·obtain⟨n,H⟩:=gE b;obtain⟨t,z⟩:=hts n (My H);obtain⟨s1,s2⟩:=Ex h z;have f0:=hal u w (by omega) t.Z1 (by omega) s2;obtain⟨k1,k2⟩:=hok u w t.Z1 s2;have C:=ip b;have Y:=aD b (by omega);have Z:=ip (Mt.1 z).1;rw[yJ H z]at a;have v:=k2.act;rcases Q:mv c d now u t.Z1 with⟨r2,_|⟨k,O⟩⟩
    ·rw[Q]at a f0 k1 v;simp only at a k1 v;unfold fk at f0;simp only at f0;have F:=ed Uy fk.eq_2 Us Uv Uu UG H z C Y Z<|gs m o p;repeat refine ff f0 ?_
     exact qn (j+1,r2,none) ⟨⟨b,by rw[v];exact E,V,J,a,k1,v.trans L⟩,by simp only[go_sem,m,o,p,NH]⟩
    rw[Q]at a f0 v;simp only at a v;unfold fk at f0;simp only at f0;have F:=ed Uy fk.eq_2 Us Uv Uu UG H z C Y Z<|gs m o p;repeat refine ff f0 ?_
    exact qn (j+1,r2,some (k,O)) ⟨⟨b,by rw[v];exact E,hSA _ _ _ J a⟩,by simp only[go_sem,m,o,p,NH]⟩
   obtain rfl:j=ts.length:=by omega
   have C:=nl ts.length;rw[OE]at a;have F:=m7 Uy fk.eq_2 Us C m o p;repeat refine st ?_
   refine⟨(u,none),⟨⟨V,J,a,w,L⟩,by simp only[go_sem,m,o,p,NH]⟩,?_,?_⟩
   ·exact qe
   exact qe
  have U:=uD hSE a.1;by_cases b:(j:Int)< (ts.length:Int)
  ·have F:=qr Uy fk.eq_2 Us b U m o p;repeat refine st ?_
   refine⟨(u,some (k,O)),⟨a,by simp only[go_sem,m,o,p,NH]⟩,?_,?_⟩
   ·exact qe
   exact qe
  have F:=qr Uy fk.eq_2 Us b U m o p;repeat refine st ?_
  refine⟨(u,some (k,O)),⟨a,by simp only[go_sem,m,o,p,NH]⟩,?_,?_⟩
  ·exact qe
  exact qe
 try clear m o p E a e u
 rintro⟨u,_|⟨k,O⟩⟩ us fs ⟨a,m,o,p⟩
 ·obtain⟨V,J,a,w,L⟩:=a;have ka:=hlk.2.2.2 (by rw[J]);rw[J]at ka;have P:=hSN _ _ J a;have N:u.act=x.1.filter fun k=> !(zL R).contains k:=L.trans ka;have f9:=hen u w (by rw[N];exact K.sublist OT) (fun y hy=>hin0 y (by rw[N]at hy;exact(NF.1 hy).1)) (by rw[N];exact NN (NV ..) (by omega)) (M u w N);rw[P]at f9;obtain⟨r2,_|⟨k,O⟩⟩:=S
  ·unfold fk at f9;unfold TO fk;simp only at f9 |-;have F:=kv Uy fk.eq_2 Us m o p;repeat refine st ?_
   refine lL W ?_;repeat refine ff f9 ?_
   (refine aM ?_;refine⟨_,(by show (ag _ _ _).run _=some _;simp only[go_sem,F];rfl),?_⟩)
   exact .refl _
  unfold fk at f9;unfold TO;simp only at f9 |-;have F:=kv Uy fk.eq_2 Us m o p;repeat refine st ?_
  refine lL W ?_;repeat refine ff f9 ?_
  (refine aM ?_;refine⟨_,(by show (ag _ _ _).run _=some _;simp only[go_sem,F];rfl),?_⟩)
  exact FD _ _ _ _ _ _ _ _ _ _
 simp only at a;have f9:=Ah env c h d now u T2 k O (uD hSE a.1);obtain⟨r2,e⟩:=S;obtain⟨a,ho,hra⟩:=a;simp only at a ho hra;subst a;unfold fk aA at f9;simp only at f9;unfold TO;simp only;rw[ho,hra];have F:=kv Uy fk.eq_2 Us m o p;repeat refine st ?_
 refine lL W ?_;repeat refine ff f9 ?_
 (refine aM ?_;refine⟨_,(by show (ag _ _ _).run _=some _;simp only[go_sem,F];rfl),?_⟩)
 exact FD _ _ _ _ _ _ _ _ _ _
end
end Go.Proofs.YtfhkmjbjafeckaaGreatDoor
