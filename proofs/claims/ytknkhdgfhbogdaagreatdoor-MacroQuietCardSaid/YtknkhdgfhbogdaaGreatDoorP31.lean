/- The document's word on a step. -/
import Derived.Test.YtknkhdgfhbogdaaGreatDoorP30
set_option maxRecDepth 100000
set_option maxHeartbeats 16000000
set_option linter.unusedSimpArgs false
set_option linter.defProp false
namespace Go.Proofs.YtknkhdgfhbogdaaGreatDoor
open Go.Proofs.Tryz
open Go.RowKit
section
def qz(c:aq)(t:sh):Int:=nb c t.src t.target
def nE(c:aq)(t:sh)(x:Int):Prop:=0<=t.target/\aE c (qz c t) x=true
def R8(c:aq)(mem:List dg)(t:sh)(x:Int):Prop:=0<=t.target/\Gr c (mw c (j' c t.target mem) (qz c t)) x
def iN(c:aq)(act:List Int)(mem:List dg)(ts:List Nat)(x:Int):Prop:=(x∈act/\ ∀n∈ts,¬nE c (da c n) x)\/ ∃n∈ts,R8 c mem (da c n) x
def D8{c:aq}(h:b8 c){d:Int}{P:List Int}(m: ∀k∈P,aE c d k=true){x:Int}(g:Gr c P x):aE c d x=true:=by
 have a:=h.toRight
 induction g with
 |base n=>exact m _ n
 | ini g j o l e=>
   have b:=iX h j l;obtain⟨f,i,_⟩:=bO a b;exact(ae a f).2 (.inr (by rw[i];exact e))
 | par g j b e=>
   obtain⟨f,i,_⟩:=bO a b;exact(ae a f).2 (.inr (by rw[i];exact e))
def KA{c:aq}{act:List Int}{a b:Nat}{x:Int}(d:x∈fe c act (da c a))(e:x∈fe c act (da c b)):bd c act a b=true:=by
 unfold bd;rw[Ml];exact⟨x,d,Lk.2 e⟩
structure RB(c:aq)(act:List Int)(mem:List dg)(t:sh):Prop where
 src:t.src∈act
 Z3:0<=t.target->aE c (qz c t) t.src=true
 dom:0<=t.target->qz c t= -1\/(qz c t∈act/\al c (qz c t)=true)
 uni:0<=t.target->Sd c (qz c t) (mw c (j' c t.target mem) (qz c t))
 left: ∀x,x∈fe c act t↔x∈act/\nE c t x
 to: ∀x,x∈zL (mv c t mem)↔R8 c mem t x
def xf{c:aq}(h:b8 c){act:List Int}(p:rx c act=true){mem:List dg}(m:bZ c mem=true){n:Nat}{t:sh}(r:c.trans[n]? =some t)(b:t.src∈act):RB c act mem t:=by
 obtain⟨i,u⟩:=h.src r;have k:=cr p;have f:0<=t.target->ed c t.target=true:=fun a=>u.resolve_left (by omega);refine⟨b,fun a=> ?_,fun a=> ?_,fun a=> ?_,fun x=> ?_,fun x=> ?_⟩
 ·exact Lk.2 (uy h i (f a)).2.1
 ·obtain⟨_,d2,d3⟩:=uy h i (f a);exact d3.imp id fun e=>⟨k.up h.toRight (t.src.toNat+1) t.src _ (by have:=(aI.1 i).1;omega) b d2 e.1,e.2⟩
 ·obtain⟨d1,_,d3⟩:=uy h i (f a);exact tx h (f a) m d1 (by unfold qz;rcases d3 with e|e<;>omega)
 ·by_cases a:0<=t.target
  ·unfold fe;rw[Lf (by omega),Of];unfold F'
   rw[Lq,gh h.toRight fun y g=>by
    obtain⟨_,_,f,_⟩:=k.of g
    exact f]
   exact⟨fun q=>⟨q.1,a,q.2⟩,fun q=>⟨q.1,q.2.2⟩⟩
  unfold fe nE;rw[Lj (by omega)];simp[a]
 by_cases a:0<=t.target
 ·obtain⟨d1,_,d3⟩:=uy h i (f a);have s:=tx h (f a) m d1 (by rcases d3 with e|e<;>omega);have j: ∀y∈mw c (j' c t.target mem) (nb c t.src t.target),ed c y=true:=fun y g=>aZ (s.Z3 y g);have o:=(gf (c:=c) (d:=nb c t.src t.target) (l:=j' c t.target mem)).1;unfold mv HG R8 qz;rw[Lf (by omega),gh h.toRight fun y g=>((eV h o).1 g).in h j,eV h o];exact⟨fun q=>⟨a,q⟩,fun q=>q.2⟩
 unfold mv R8;rw[Lj (by omega)];simp[a,zL]
def BU{c:aq}(h:b8 c){act:List Int}{mem:List dg}{a b:Nat}(f:RB c act mem (da c a))(j:RB c act mem (da c b))(m:bd c act a b=false){x:Int}(d:nE c (da c a) x)(i:nE c (da c b) x):False:=by
 have k:=h.toRight
 have g: ∀y,y∈act->nE c (da c a) y->nE c (da c b) y->False:=fun y l o p=>by
  have:=KA ((f.left y).2 ⟨l,o⟩) ((j.left y).2 ⟨l,p⟩);rw[m]at this;cases this
 have n:=aI.1 (aZ d.2);rcases pY k (c.Z9.length) x n.2 (Lk.1 d.2) (Lk.1 i.2) with e|e|e
 ·exact g _ f.src ⟨d.1,f.Z3 d.1⟩ ⟨i.1,by rw[<-e];exact f.Z3 d.1⟩
 ·exact g _ j.src ⟨d.1,iw k (Lk.2 e) (j.Z3 i.1)⟩ ⟨i.1,j.Z3 i.1⟩
 exact g _ f.src ⟨d.1,f.Z3 d.1⟩ ⟨i.1,iw k (Lk.2 e) (f.Z3 d.1)⟩
def Fit.front{c:aq}{act:List Int}{l:List Nat}{n:Nat}(h:Fit c act (l++[n])):Fit c act l/\ ∀k∈l,bd c act k n=false:=by
 obtain⟨a,_,b⟩:=OR.1 h.two;exact⟨⟨fun m e=>h.real m (Ma _ e),a⟩,fun k d=>(b k d n (by simp)).2⟩
def sD{c:aq}(h:b8 c){act:List Int}(j:rx c act=true){mem:List dg}(C:bZ c mem=true): ∀(m:Nat)(ts:List Nat),ts.length=m->Fit c act ts-> ∃O:List Nat,O.Pairwise (· < ·)/\rx c (zL O)=true/\ ∀x,x∈zL O↔iN c act mem ts x
 | 0,ts,a,y=>by
   obtain rfl:ts=[]:=NE.1 a;have M:=cr j;obtain⟨l,e,hk⟩:=sI j
   have N:l.Pairwise (· < ·):=by
    have:=M.ZZ;rw[e]at this;unfold zL at this;exact(Oz.1 this).imp fun h=>by omega
   exact⟨l,N,by rw[<-e];exact j,fun x=>by rw[<-e];simp[iN]⟩
 | m+1,ts,a,y=>by
   rcases List.eq_nil_or_concat ts with rfl|⟨l,n,rfl⟩
   ·simp at a
   rw[List.concat_eq_append]at y a |-;obtain⟨s,u⟩:=y.front;obtain⟨O,R,K,E⟩:=sD h j C m l (by simpa using a) s;obtain⟨t,I,v⟩:=y.real n (by simp);have i:=xf h j C I v
   have o: ∀k∈l,RB c act mem (da c k):=fun k hk=>by
    obtain⟨S,w,D⟩:=s.real k hk;rw[cx w];exact xf h j C w D
   rw[<-cx I]at i;by_cases b:0<=(da c n).target
   ·have A:=cr K;have J:=i.uni b;have r: ∀k∈l,∀x,R8 c mem (da c k) x->nE c (da c k) x:=fun k hk x q=>⟨q.1,D8 h ((o k hk).uni q.1).Z3 q.2⟩
    have L:qz c (da c n)= -1\/(qz c (da c n)∈zL O/\al c (qz c (da c n))=true):=by
     refine(i.dom b).imp id fun e=>⟨(E _).2 (.inl ⟨e.1,fun k hk a=> ?_⟩),e.2⟩;exact BU h (o k hk) i (u k hk) (x:=(da c n).src) ⟨a.1,iw h.toRight a.2 (i.Z3 b)⟩ ⟨b,i.Z3 b⟩
    classical
    let G:List Nat:=(List.range c.Z9.length).filter fun k:Nat=>decide (iN c act mem (l++[n]) (k:Int))
    have z: ∀x,iN c act mem (l++[n]) x->ed c x=true:=fun x d=>by
     rcases d with⟨d,_⟩|⟨k,hk,q⟩
     ·obtain⟨_,_,z,_⟩:=(cr j).of d;exact z
     rcases ML.1 hk with hk|hk
     ·exact aZ (r k hk x q).2
     rw[MA.1 hk]at q;exact aZ (D8 h J.Z3 q.2)
    have f: ∀x,x∈zL G↔iN c act mem (l++[n]) x:=fun x=>by
     constructor
     ·intro d;obtain⟨k,hk,rfl⟩:=Lp.1 d;simpa using (Lq.1 hk).2
     intro d;obtain⟨k,rfl⟩: ∃k:Nat,x=k:=⟨x.toNat,by have:=aI.1 (z x d);omega⟩;exact Lp.2 ⟨k,Lq.2 ⟨MK.2 (aV.1 (z _ d)),by simpa using d⟩,rfl⟩
    refine⟨G,Bn,(CS h A J L Bn fun x=> ?_).1,f⟩;rw[f,E];constructor
    ·rintro(⟨p,g⟩|⟨k,hk,q⟩)
     ·refine .inl ⟨.inl ⟨p,fun k hk=>g k (Ma _ hk)⟩,?_⟩;cases B:aE c (qz c (da c n)) x
      ·rfl
      exact absurd ⟨b,B⟩ (g n (by simp))
     rcases ML.1 hk with hk|hk
     ·refine .inl ⟨.inr ⟨k,hk,q⟩,?_⟩;cases B:aE c (qz c (da c n)) x
      ·rfl
      exact(BU h (o k hk) i (u k hk) (r k hk x q) ⟨b,B⟩).elim
     rw[MA.1 hk]at q;exact .inr q.2
    rintro(⟨⟨p,g⟩|⟨k,hk,q⟩,H⟩|q)
    ·refine .inl ⟨p,fun k hk a=> ?_⟩;rcases ML.1 hk with hk|hk
     ·exact g k hk a
     rw[MA.1 hk]at a;rw[a.2]at H;cases H
    ·exact .inr ⟨k,Ma _ hk,q⟩
    exact .inr ⟨n,by simp,b,q⟩
   refine⟨O,R,K,fun x=> ?_⟩;rw[E];have P: ¬nE c (da c n) x:=fun q=>b q.1;have Q: ¬R8 c mem (da c n) x:=fun q=>b q.1;constructor
   ·rintro(⟨p,g⟩|⟨k,hk,q⟩)
    ·refine .inl ⟨p,fun k hk=> ?_⟩;rcases ML.1 hk with hk|hk
     ·exact g k hk
     rw[MA.1 hk];exact P
    exact .inr ⟨k,Ma _ hk,q⟩
   rintro(⟨p,g⟩|⟨k,hk,q⟩)
   ·exact .inl ⟨p,fun k hk=>g k (Ma _ hk)⟩
   rcases ML.1 hk with hk|hk
   ·exact .inr ⟨k,hk,q⟩
   rw[MA.1 hk]at q;exact absurd q Q
end
section
def I6{c:aq}(h:(nv c).1=0):c.vars.length<=8/\ ∀v∈c.vars,aL v.start=true:=by
 unfold nv at h;split at h
 ·simp at h
 rename_i e;split at h
 ·simp at h
 split at h
 ·simp at h
 rename_i b;refine⟨by omega,fun v d=> ?_⟩;obtain⟨k,a,rfl⟩:=NC d;have:=cc b k a;unfold ja pd at this;rw[Lc a]at this;simp only[Li,Lt]at this;rw[bw];exact⟨this.1.2,this.2⟩
def ik(c:aq):ch:=⟨[],c.vars.map (·.start),[],[],false,[],[]⟩
def nj{c:aq}(b: ∀v∈c.vars,aL v.start=true):ek c (ik c):=⟨by unfold ik;simp,fun x d=>by
 obtain⟨v,a,rfl⟩:=Lp.1 d
 exact b v a,⟨.nil,by simp[ik]⟩,by simp[ik],by simp[ik],by simp[ik],by simp[ik]⟩
def JR{c:aq}(h:b8 c):kv c (-1)=Rq c (Fr c):=by
 obtain⟨s,d,a,_⟩:=h.topS;have b:=(Ld.1 d).1;have e:ed c c.initial=true:=by rw[a];exact aV.2 b
 unfold kv;simp only[Mb];rw[e,Lj rfl];rfl
def AC{c:aq}(h:b8 c){k:Nat}(a:k∈kv c (-1)):k<c.Z9.length:=by
 obtain⟨s,d,_⟩:=h.topS;have b:=(Ld.1 d).1;rw[JR h,Ip h b, <-jT h]at a;exact MK.1 (Lq.1 a).1
def zC{c:aq}(h:b8 c):mV c (kv c (-1))=qk c:=by
 rw[JR h];unfold mV qk;apply NR;intro k _;rw[MP,lx,decide_eq_true_iff]
def pg{c:aq}(h:b8 c){now:Int}(m:0<=now/\now<=1099511627776)(n: ∀v∈c.vars,aL v.start=true)(i:(ah c 0 now (ik c) [] (zL (kv c (-1)))).1.2=none):rx c (ah c 0 now (ik c) [] (zL (kv c (-1)))).1.1.act=true/\(ah c 0 now (ik c) [] (zL (kv c (-1)))).1.1.act=zL (mV c (kv c (-1))):=by
 obtain⟨_,k⟩:=iK (bT h) (l:=zL (kv c (-1))) (f:=[]) (show aL 0=true by rfl) m (nj n) .nil;have g:=k i;have d:=zb h;rw[<-zC h]at d
 have e:(ah c 0 now (ik c) [] (zL (kv c (-1)))).1.1.act=zL (mV c (kv c (-1))):=lh g.ZZ (by unfold mV;exact xa) fun x=>by
  rw[g.mem];simp only[ik,List.not_mem_nil,false_or];constructor
  ·intro b;obtain⟨j,a,rfl⟩:=Lp.1 b;refine Lp.2 ⟨j,Lq.2 ⟨MK.2 ?_,lx.2 a⟩,rfl⟩;exact AC h a
  intro b;obtain⟨j,a,rfl⟩:=Lp.1 b;exact Lp.2 ⟨j,lx.1 (Lq.1 a).2,rfl⟩
 exact⟨by rw[e];exact d,e⟩
def sB(env:b6)(now:Int):b7 prog env 72 [I now] (B (decide (0<=now/\now<=1099511627776))):=by
 by_cases a:0<=now
 ·by_cases b:now<=1099511627776
  ·have k:decide (0<=now/\now<=1099511627776)=true:=by simp[a,b]
   rw[k];refine qf func72 call72 ntmps72 results72 ?_;have F:=ai a b;exact dT
  have k:decide (0<=now/\now<=1099511627776)=false:=by simp[b]
  rw[k];refine qf func72 call72 ntmps72 results72 ?_;have F:=ai a b;exact dT
 have k:decide (0<=now/\now<=1099511627776)=false:=by simp[a]
 rw[k];refine qf func72 call72 ntmps72 results72 ?_;have F:=a;exact dT
def ul(a b:Addr):ch×r5->AV
 |(r,none)=> .tuple [.agg [b0 r.act,b0 r.vars, .seq 2 (r.mem.map eg), .seq 2 (r.Z0.map cR),B r.over], .agg [b0 r.outs, .seq 2 (r.Z7.map cR)],h8]
 |(_,some e)=> .tuple [.agg [ct,ct,ct,ct,B false], .agg [ct,ct],fc (-1) (ck a b (some e))]
def DT(env:b6)(t f g:Addr)(c:aq)(now:Int)(E:x6 env t f g c 0 now)(u: ∀v∈c.vars,aL v.start=true):b7 prog env 41 [aH c,I now] (ul f g (dJ c now)):=by
 have J:=E.hs.vars;have f0:=sB env now;rw[M2 E.hn]at f0;have f1:=au env c E.hs;have f2:=pD env c E.hs;have f3:=((xC env c E.h (-1)).lend (aj (fun _=>rfl) _)).seen
 have s:(kv c (-1)).length<=1000:=by
  rw[JR E.h];have:=DZ E.h (Fr c);omega
 have f4:=w8 env t f g c 0 now E (ik c) (nj u) .nil (Lx _) (kv c (-1)) (fun i C=>AC E.h C) s (fun A=>(pg E.h E.hn u A).1);unfold dJ;rw[show (⟨[],c.vars.map (·.start),[],[],false,[],[]⟩:ch)=ik c from rfl];generalize kv c (-1)=G at*;unfold aH at f1 f3 |-;unfold aA at f1 f2;have z: ∀k,k<=c.vars.length->((c.vars.take k).map (·.start)).length=k:=fun k P=>by simp;omega
 refine qf func41 call41 ntmps41 results41 ?_;repeat refine HF f0 f1 f2 ?_
 refine R3 29 9001 0 0 3 1 ?_;refine R3 29 9002 0 1 3 1 ?_;refine R3 29 9006 0 2 122 2 ?_;refine R3 29 9003 0 3 85 2 ?_;refine R3 29 9004 0 5 3 1 ?_;refine R3 29 9005 0 6 33 2 ?_;refine cT [(9006,⟨2,[],122,true⟩)] ?_ ?_
 ·exact Sp
 refine aG (D:=Nat) (fun j e=>[(0, .ref 9 [ca c] 0 0),(4, .loc 4 (e 4) 0 0),(5, .loc 5 (e 5) 0 0),(6,h8),(7, .loc 29 (e 29) 0 0),(34,n7 c.vars),(35,I c.vars.length),(36,I j)]) (fun j e=>[(4,⟨5,[[ct,ct,ct,ct,B false]],31,false⟩),(5,⟨2,[[ct,ct]],113,false⟩),(29,⟨15,[[.row 9001 (e 9001), .row 9002 (e 9002), .seq 2 [], .row 9003 (e 9003),B false, .row 9004 (e 9004), .row 9005 (e 9005), .ref 9 [ca c] 0 0,Sg c.name,I c.initial,n7 c.vars,o' c.Z9,rk c.trans,I 0,I now]],157,false⟩),(9001,⟨1,[],3,true⟩),(9002,⟨1,((c.vars.take j).map (·.start)).map aa,3,true⟩),(9003,⟨2,[],85,true⟩),(9004,⟨1,[],3,true⟩),(9005,⟨2,[],33,true⟩)]) (fun j _ a=>j<=c.vars.length/\a 4=false/\a 5=false/\a 29=false/\a 9001=false/\a 9002=false/\a 9003=false/\a 9004=false/\a 9005=false) (fun j=>c.vars.length-j) 0 ?_ ?_ ?_ ?_
 ·refine⟨Lx _,?_⟩;simp only[j0,nw,fH,Ob,P8,go_sem];try simp
 ·simp only[j0,nw,fH,Row.see,AV.see,AV.see.seeL,Ni,Mn,go_sem];try rfl
 ·simp only[j0,nw,fH,Row.see,AV.see,AV.see.seeL,Ni,Mn,go_sem];try rfl
 rintro j R N ⟨H,n,o,b,h,l,m,p,q⟩;by_cases d:j<c.vars.length
 ·obtain⟨v,w⟩:=gE d;have r:=h9 d;have K:=aD d (by omega);have L:cI (((c.vars.take j).map (·.start)).length+1) 8:=by rw[z j H];exact aC (by omega) (by omega)
  have M:((c.vars.take (j+1)).map (·.start)).map aa=((c.vars.take j).map (·.start)).map aa++[[I v.start]]:=by rw[bE w];simp
  generalize O:(c.vars.take j).map (·.start)=U at*;have F:=dk Tm w r K L n o b h l m<|ai p q;repeat refine st ?_
  refine⟨j+1,⟨d,?_⟩,?_,?_,by omega⟩
  ·simp only[go_sem,n,o,b,h,l,m,p,q,Ls]
  ·exact qe
  simp only[M];exact qe
 obtain rfl:j=c.vars.length:=by omega
 have r:=nl c.vars.length;have y:((c.vars.take c.vars.length).map (·.start)).map aa=(ik c).vars.map aa:=by rw[MC];rfl
 generalize go c 0 now (ik c) (zL G)=X at*;rcases X with⟨Q,_|⟨k,x⟩⟩
 ·unfold ul;unfold ck RY k9 at f4;simp only at f4;simp only[y];have F:=dk SY S0 ik.eq_1 r n o b h l m p q;repeat refine st ?_
  refine lL f3 ?_;repeat refine st ?_
  refine iL [(1000,29),(1001,9001),(1002,9002),(1003,9003),(1004,9004),(1005,9005)] f4 ?_;exact dT
 unfold ul;unfold ck RY k9 at f4;simp only at f4;unfold ck;simp only;have f5:=iO env [109,105,99,114,111,46,70,105,114,115,116] (x.headD (-1)) (l5 x.tail (cf (if k=2 then f else g)));simp only[y];have F:=dk SY S0 ik.eq_1 r n o b h l m p q;repeat refine st ?_
 refine lL f3 ?_;repeat refine st ?_
 refine iL [(1000,29),(1001,9001),(1002,9002),(1003,9003),(1004,9004),(1005,9005)] f4 ?_;exact g9 f5
end
section
def sF(env:b6)(x:pb)(u:x.1.length<=4096)(w:x.2.1.length<=4096)(C:x.2.2.1.length<=4096)(o: ∀m∈x.2.2.1,cI m.2.length 8)(v:cI x.2.2.2.1.length 24):
 hU prog env 23 [8,11,14] (fun i=>i==8||(i==11||i==14)) (fun _=>[.agg [.seq 1 (x.1.map aa), .seq 1 (x.2.1.map aa), .seq 2 (x.2.2.1.map eg), .seq 2 (x.2.2.2.1.map cR),B x.2.2.2.2]]) (fun _=>[]) (fun _=>[(8,⟨1,x.1.map aa,3,true⟩),(11,⟨1,x.2.1.map aa,3,true⟩),(14,⟨2,x.2.2.2.1.map cR,85,true⟩)]) (fun g=> .agg [.row 8 (g 8), .row 11 (g 11), .seq 2 (x.2.2.1.map eg), .row 14 (g 14),B x.2.2.2.2]):=by
 have f0:=kg env (x.1.map aa) (by rw[ME];exact aC u (by omega));have f1:=kg env (x.2.1.map aa) (by rw[ME];exact aC w (by omega));have f2:=zj env (x.2.2.2.1.map cR) (by rw[ME];exact v);obtain⟨A,V,M,T,O⟩:=x;simp only at*;refine qi func23 call23 ntmps23 results23 ?_;intro f a n;obtain⟨b,c,d⟩:=Rl n;have F:=fI b c d;repeat refine Qs f0 f1 f2 ?_
 refine nC 3 9000 0 2 122 2 ?_
 refine aG (D:=Nat) (fun j f=>[(1, .loc 1 (f 1) 0 0),(2, .loc 2 (f 2) 0 0),(3, .loc 3 (f 3) 0 0),(19, .seq 2 (M.map eg)),(20,I M.length),(21,I j)])
  (fun j f=>[(1,⟨5,[[.seq 1 (A.map aa), .seq 1 (V.map aa), .seq 2 (M.map eg), .seq 2 (T.map cR),B O]],31,false⟩),(2,⟨5,[[ct,ct,ct,ct,B false]],31,false⟩),(3,⟨5,[[.row 8 (f 8), .row 11 (f 11), .row 9000 (f 9000), .row 14 (f 14),B O]],31,false⟩),(8,⟨1,A.map aa,3,true⟩),(11,⟨1,V.map aa,3,true⟩),(14,⟨2,T.map cR,85,true⟩),(9000,⟨2,(M.take j).map eg,122,true⟩)])
  (fun j _ a=>j<=M.length/\a 2=false/\a 3=false/\a 8=false/\a 11=false/\a 9000=false/\a 14=false) (fun j=>M.length-j) 0 ?_ ?_ ?_ ?_
 ·refine⟨Lx _,?_,?_,?_,?_,?_,?_⟩<;>simp only[go_sem,b,c,d]
 ·exact qe
 ·exact qe
 try clear b c d
 rintro j G a ⟨E,h,k,b,c,l,d⟩;by_cases e:j<M.length
 ·obtain⟨m,p⟩:=gE e;have t:=h9 e;have z:=aD e (by omega);have f3:=kg env (m.2.map aa) (by rw[ME];exact o m (Lh p));have s:(M.take j).length=j:=by rw[Lw];omega
  have y:cI (j+1) 32:=aC (by omega) (by omega);have r:M.take (j+1)=M.take j++[m]:=by rw[MM,p];rfl
  have F:=dk S6 t z p s y b c h k l d;repeat refine ef f3 ?_
  refine⟨j+1,⟨e,?_,?_,?_,?_,?_,?_⟩,?_,?_,by omega⟩;all_goals (first|(show _=false;simp only[go_sem,b,c,h,k,l,d];done)|skip)
  ·exact qe
  have F:=pf S6 r @Ln.{0,0} b c h k l d;exact qe
 obtain rfl:j=M.length:=by omega
 have t:=nl M.length;have q:M.take M.length=M:=MC;have F:=ns t q b c h k l d;repeat refine st ?_
 refine cT [(9000,⟨2,M.map eg,122,true⟩)] ?_ ?_
 ·exact qe
 have F:=ip b c h k l d;exact rI
def vF(a b:Addr):ch×r5->AV
 |(r,none)=> .tuple [.agg [b0 r.act,b0 r.vars, .seq 2 (r.mem.map eg), .seq 2 (r.Z0.map cR),B r.over], .agg [b0 r.outs, .seq 2 (r.Z7.map cR)],h8]
 |(_,some e)=> .tuple [.agg [ct,ct,ct,ct,B false], .agg [ct,ct],fc (-1) (ck a b (some e))]
def bj(x:pb):ch:=⟨x.1,x.2.1,x.2.2.1,x.2.2.2.1,x.2.2.2.2,[],[]⟩
def Gw(env:b6)(l b e:Addr)(c:aq)(d now:Int)(E:x6 env l b e c d now)(x:pb)(q:x.1.length<=100)(p:x.2.1.length<=4096)(n:x.2.2.1.length<=4096)(i: ∀m∈x.2.2.1,cI m.2.length 8)(o:cI x.2.2.2.1.length 24)(ts:List Nat)
 (h:b7 prog env 85 [Sg [109,105,99,114,111,46,83,116,101,112],aH c, .agg (k0 x),I d] h8)
 (f:hU prog env 149 [1000,1001,1002,1003,1004,1005] (fun _=>false) (fun g=>[.loc 1000 (g 1000) 0 0, .seq 1 (ts.map aB)]) (RY c d now (bj x)) (RY c d now (bj x)) (fun _=>B true))
 (a:hU prog env 150 [1000,1001,1002,1003,1004,1005] n8 (fun g=>[.loc 1000 (g 1000) 0 0, .seq 1 (ts.map aB)]) (RY c d now (bj x)) (RY c d now (ld c d now (bj x) ts).1) (fun _=>ck b e (ld c d now (bj x) ts).2)):
 b7 prog env 90 [aH c, .agg (k0 x), .seq 1 (ts.map aB),I d,I now] (vF b e (ld c d now (bj x) ts)):=by
 have f1:=au env c E.hs;have f2:=sF env x (by omega) p n i o;have f3:=sB env now;rw[M2 E.hn]at f3;unfold k0 at h |-;unfold aH at f1 h |-;unfold aA at f1;unfold RY k9 at f;obtain⟨A,V,M,T,O⟩:=x;unfold bj at f a |-;simp only at*;generalize ld c d now _ ts=X at*;refine qf func90 call90 ntmps90 results90 ?_;repeat refine jL h ?_
 refine SG [(8,9001),(11,9002),(14,9003)] f2 ?_
 iterate 9 (first|refine m8 ?_|refine Rj f1 ?_)
 show fk _ _ _ _ _ _;refine R3 33 9004 0 5 3 1 ?_;refine R3 33 9005 0 6 33 2 ?_;repeat refine jL f3 ?_
 refine SG [(1000,33),(1001,9001),(1002,9002),(1003,9003),(1004,9004),(1005,9005)] f ?_;repeat refine m8 ?_
 rcases X with⟨r,_|⟨k,j⟩⟩
 ·unfold ck RY k9 at a;simp only at a;unfold vF;have F:=n8.eq_1;repeat refine st ?_
  refine iL [(1000,33),(1001,9001),(1002,9002),(1003,9003),(1004,9004),(1005,9005)] a ?_;exact dT
 unfold ck RY k9 at a;simp only at a;unfold vF ck;simp only;have f5:=iO env [109,105,99,114,111,46,83,116,101,112] (j.headD (-1)) (l5 j.tail (cf (if k=2 then b else e)));have F:=n8.eq_1;repeat refine st ?_
 refine iL [(1000,33),(1001,9001),(1002,9002),(1003,9003),(1004,9004),(1005,9005)] a ?_;exact g9 f5
end
section
def b7.seenY{P:Program}{env:b6}{f:FuncId}{cs:List AV}{e:TypeId}{sz:Nat}{es:List (List AV)}(h:b7 P env f cs (.own e sz es)):b7 P env f cs (.seq sz es):=by
 refine⟨h.enter,fun w S t k m p=>(h.calls w S t k m p).mono ?_⟩;rintro x y ⟨v,rfl,l,u,g,i,j,n⟩;obtain⟨d,r,c,s⟩:=KQ.seq n;exact⟨v,rfl,l,d,fun b o a=>r b o (g b o a),fun b o a=>(c b o a).elim (i b o) fun q=> .inr q.1,fun b o a=>(c b o a).elim (j b o) fun q=>q.2,s⟩
def Ad(c:aq)(d now:Int): ∀(l:List Int)(r:ch),vE (bS c d now r l).2
 |[],r=>fun x h=>by cases h
 | i::l,r=>by
   unfold bS;split
   ·exact Ad c d now l _
   exact vC _ _ _ _ _
def Ei(c:aq)(d now:Int): ∀(l:List Nat)(r:ch),vE (dR c d now r l).2
 |[],r=>fun x h=>by cases h
 | i::l,r=>by
   unfold dR;split
   ·exact Ei c d now l _
   exact vC _ _ _ _ _
def rR(c:aq)(d now:Int)(r:ch)(ts:List Nat):vE (ld c d now r ts).2:=by
 unfold ld;simp only;have a:=Ad c d now (zL (bt c (c0 c r.act ts))).reverse { r with mem:=m7 c r.act (zL (bt c (c0 c r.act ts))) r.mem };split
 ·rename_i e f;have b:=Ei c d now ts e;split
  ·exact BK _ _ _ _ _
  exact b
 exact a
def Sb(d now:Int):ch×r5->AV
 |(r,none)=> .agg (fb r d now none)
 |(r,some (k,_))=> .agg [.any, .any, .any, .any, .any,b0 r.outs, .seq 2 (r.Z7.map cR),I d,I now,I (k:Nat),I (-1)]
def SE(S:ch×r5)(r:ch)(e:Nat×List Int):Prop:=S.2=some e/\S.1.outs=r.outs/\S.1.Z7=r.Z7
def Dp(c e f g i a b:AV)(d now k:Int):fX (.agg [c,e,f,g,i,a,b,I d,I now,I k,I (-1)]) (.agg [.any, .any, .any, .any, .any,a,b,I d,I now,I k,I (-1)]):=
 .of (.agg (.cons (.any _) (.cons (.any _) (.cons (.any _) (.cons (.any _) (.cons (.any _) (.cons (.refl _) (.cons (.refl _) (.cons (.refl _) (.cons (.refl _) (.cons (.refl _) (.cons (.refl _) .nil)))))))))))) (fun _ _ _ h=>by cases h) (fun _ _ _ h=>by cases h)
def FW(env:b6)(c:aq)(h:b8 c)(hcv:c.vars.length<=1000)(d now:Int)(hd:aL d=true)(hn:0<=now/\now<=1099511627776)(x:pb)(hr:ek c (bj x))(hl:x.1.length<=100)(hb:rx c x.1=true)(hml:x.2.2.1.length<=1000000)(ts:List Nat)(hts: ∀n∈ts,∃t,c.trans[n]? =some t)(htl:ts.length<=64)(G0:List Nat)(hG0:c0 c x.1 ts=zL G0)
 (hmem:bZ c (m7 c x.1 (zL (bt c (c0 c x.1 ts))) x.2.2.1)=true)(hmem2:(m7 c x.1 (zL (bt c (c0 c x.1 ts))) x.2.2.1).length<=1000000)(hsame:Bs c x.1 (zL (bt c (c0 c x.1 ts))) x.2.2.1=m7 c x.1 (zL (bt c (c0 c x.1 ts))) x.2.2.1)
 (M: ∀r2:ch,ek c r2->r2.act=x.1.filter (fun k=> !(zL (bt c (c0 c x.1 ts))).reverse.contains k)->(ah c d now r2 [] (zL (bt c (zL (toR c (m7 c x.1 (zL (bt c (c0 c x.1 ts))) x.2.2.1) ts))))).1.2=none->rx c (ah c d now r2 [] (zL (bt c (zL (toR c (m7 c x.1 (zL (bt c (c0 c x.1 ts))) x.2.2.1) ts))))).1.1.act=true):
 b7 prog env 80 [.agg (aA c), .agg (k0 x), .seq 1 (ts.map aB),I d,I now] (Sb d now (ld c d now (bj x) ts)):=by
 have hfew:=h.Z6;have T: ∀y∈x.1,0<=y:=fun y hy=>(Gz hb y hy).1;have fL:=fun(n:Nat)(t:sh)(z:c.trans[n]? =some t)=>jf env c h x.1 (by omega) T n t z;have hgl:=uJ h x.1;have hlf:=fun t=>fh h x.1 t;have fS:=(lM env c h.toRight G0 (by have:=hgl ts;rw[hG0,ak]at this;omega)).lend (aj (fun _=>rfl) _);rw[<-hG0]at fS;have hSl:=cQ h.toRight (c0 c x.1 ts);have fT:=((lj env (zL (bt c (c0 c x.1 ts))) (by rw[ak];omega)).lend (aj (fun _=>rfl) _)).seen;rw[b9]at fT;have fR:=((ud env c h x.1 (zL (bt c (c0 c x.1 ts))).reverse (by omega) T (by rw[NZ,ak];omega) x.2.2.1 hml).seenY);rw[H3,hsame]at fR;have fTg:=fun(n:Nat)(t:sh)(z:c.trans[n]? =some t)=>xI env c h (m7 c x.1 (zL (bt c (c0 c x.1 ts))) x.2.2.1) hmem2 n t z hmem;obtain⟨S,P⟩: ∃S,ld c d now (bj x) ts=S:=⟨_,rfl⟩;have hSE:vE S.2:=by rw[<-P];exact rR c d now (bj x) ts
 rw[P]
 replace P:(match bS c d now { bj x with mem:=m7 c x.1 (zL (bt c (c0 c x.1 ts))) x.2.2.1 } (zL (bt c (c0 c x.1 ts))).reverse with
  |(u,none)=>(match dR c d now u ts with
    |(r2,none)=>go c d now r2 (zL (bt c (zL (toR c (m7 c x.1 (zL (bt c (c0 c x.1 ts))) x.2.2.1) ts))))
    |y=>y)
  |y=>y)=S:=P
 generalize hM:m7 c x.1 (zL (bt c (c0 c x.1 ts))) x.2.2.1=g at*;generalize hGG:bt c (c0 c x.1 ts)=G at*;unfold aA at fL fS fR fTg;unfold k0;refine qw func80 call80 ntmps80 results80 ?_;have F:=aA.eq_1;repeat refine st ?_
 refine nC 11 9004 0 5 3 1 ?_;refine nC 11 9005 0 6 33 2 ?_;refine cT [(9004,⟨1,[],3,true⟩),(9005,⟨2,[],33,true⟩)] ?_ ?_
 ·exact qe
 refine aG (D:=Nat) (fun j q=>[(2, .seq 1 (ts.map aB)),(5, .loc 5 (q 5) 0 0),(6, .loc 6 (q 6) 0 0),(10, .loc 10 (q 10) 0 0),(11, .loc 11 (q 11) 0 0),(12, .row 22 (q 22)),(13, .row 23 (q 23)),(14,I j)]) (fun j q=>[(5,⟨5,[aA c],26,false⟩),(6,⟨5,[k0 x],31,false⟩),(10,⟨11,[[ct,ct,ct,ct,B false,ct,ct,I 0,I 0,I 0,I 0]],165,false⟩),(11,⟨11,[fb (bj x) d now none],165,false⟩),(22,⟨1,(c0 c x.1 (ts.take j)).map aa,3,true⟩),(23,⟨1,[],3,true⟩)]) (fun j _ f=>j<=ts.length/\f 10=false/\f 11=false/\f 22=false/\f 23=false) (fun j=>ts.length-j) 0 ?_ ?_ ?_ ?_
 ·refine⟨Lx _,?_⟩;simp only[j0,nw,fH,Ob,P8,go_sem];try simp
 ·simp only[j0,nw,fH,Row.see,AV.see,AV.see.seeL,Ni,Mn,go_sem];try rfl
 ·simp only[j0,nw,fH,Row.see,AV.see,AV.see.seeL,Ni,Mn,aA,k0,fb,bj,go_sem];exact⟨rfl,rfl⟩
 rintro j ws es ⟨hj,m,o,e2,p⟩;by_cases b:j<ts.length
 ·obtain⟨n,H⟩:=gE b;obtain⟨t,z⟩:=hts n (Lh H);have hnl:=(Ld.1 z).1;have C:=h9 b;have Y:=aD b (by omega);have Z:=h9 hnl;have hlft:=hlf t;have q4:(c0 c x.1 (ts.take (j+1))).map aa=(c0 c x.1 (ts.take j)).map aa++(fe c x.1 t).map aa:=by rw[wH H z,Ln]
  have q6:(c0 c x.1 (ts.take j)).length<=32*j:=Ly (hgl _) (by rw[Lw];omega);have f0:=fL n t z;generalize c0 c x.1 (ts.take j)=A at*;generalize fe c x.1 t=Lv at*;have q5:cI (A.length+Lv.length) 8:=aC (by omega) (by omega);unfold an at f0;have F:=dk SR Ti SV SU H z C Y Z q5 m<|fI o e2 p;repeat refine ef f0 ?_
  refine⟨j+1,⟨b,by simp only[go_sem,m,o,e2,p,Ls]⟩,?_,?_,by omega⟩
  ·exact qe
  simp only[q4];exact qe
 obtain rfl:j=ts.length:=by omega
 have C:=nl ts.length;rw[MC,hG0,b9];unfold ff at fR;have hto:=DX h g;have F:=la SR Ti SZ fb.eq_2 bj.eq_1 C m o e2 p;repeat refine st ?_
 refine lL fS ?_;repeat refine st ?_
 refine lL fT ?_;repeat refine ef fR ?_
 refine lp (D:=Nat) (fun j q=>[(2, .seq 1 (ts.map aB)),(5, .loc 5 (q 5) 0 0),(6, .loc 6 (q 6) 0 0),(10, .loc 10 (q 10) 0 0),(11, .loc 11 (q 11) 0 0),(12, .seq 1 ((zL G).reverse.map aa)),(13, .row 23 (q 23)),(15,I j)]) (fun j q=>[(5,⟨5,[aA c],26,false⟩),(6,⟨5,[k0 x],31,false⟩),(10,⟨11,[[ct,ct,ct,ct,B false,ct,ct,I 0,I 0,I 0,I 0]],165,false⟩),(11,⟨11,[fb { bj x with mem:=g } d now none],165,false⟩),(23,⟨1,(toR c g (ts.take j)).map aB,3,true⟩)]) (fun j _ f=>j<=ts.length/\f 10=false/\f 11=false/\f 23=false) (fun j=>ts.length-j) 0 ⟨Lx _,by simp only[go_sem,m,o,p,Ls]⟩ ?_;try clear m o e2 p b C hj
 rintro j us fs ⟨hj,m,o,p⟩;by_cases b:j<ts.length
 ·obtain⟨n,H⟩:=gE b;obtain⟨t,z⟩:=hts n (Lh H);have hnl:=(Ld.1 z).1;have C:=h9 b;have Y:=aD b (by omega);have Z:=h9 hnl;have q4:(toR c g (ts.take (j+1))).map aB=(toR c g (ts.take j)).map aB++(mv c t g).map aB:=by rw[rM H z,Ln]
  have q6:(toR c g (ts.take j)).length<=32*j:=Ly (hto _) (by rw[Lw];omega);have q7:(toR c g (ts.take (j+1))).length<=32*(j+1):=Ly (hto _) (by rw[Lw];omega);rw[rM H z,Ll]at q7;have f0:=fTg n t z;generalize toR c g (ts.take j)=A at*;generalize mv c t g=Tg at*;have q5:cI (A.length+Tg.length) 8:=aC (by omega) (by omega);unfold an ff at f0;have F:=dk SR SZ fb.eq_2 bj.eq_1 SV SU H z C Y Z<|hH q5 m o p;repeat refine ef f0 ?_
  refine⟨j+1,⟨b,by simp only[go_sem,m,o,p,Ls]⟩,?_,?_,by omega⟩
  ·exact qe
  simp only[q4];exact qe
 obtain rfl:j=ts.length:=by omega
 have C:=nl ts.length;rw[MC];have hrev:(zL G).reverse=zL G.reverse:=by unfold zL;rw[List.map_reverse]
 rw[hrev]
 have hGk: ∀k∈G.reverse,k<c.Z9.length:=fun k hk=>by
  rw[<-hGG]at hk;exact kj h.toRight (Of.1 hk)
 have hal:=fun(r:ch) hr hl (l:List jn) hll E=>AQ env c (by omega) hcv d now hd hn r hr hl l hll E;have hok:=fun(r:ch)(hr:ek c r)(l:List jn) E=>jb hd hn (l:=l) hr E;have hgo:=fun(l:List Int)(hl:l.length<=4000)(n:Int)=>((F1 env l hl n).lend (aj (fun _=>rfl) _)).seen;have hRl:G.reverse.length<=32:=by rw[NZ];exact hSl
 have K:=(cr hb).ZZ
 have hin0: ∀y∈x.1,ed c y=true:=fun y hy=>by
  obtain⟨_,_,hz,_⟩:=(cr hb).of hy;exact hz
 have hS2l:=cQ h.toRight (zL (toR c g ts));have hS2k:=fun(k:Nat)(hk:k∈bt c (zL (toR c g ts)))=>kj h.toRight hk;have W:=((lM env c h.toRight (toR c g ts) (by have:=hto ts;omega)).lend (aj (fun _=>rfl) _)).seen;have hen:=fun(r2:ch) hr K hin hl M=>CF env c h hcv d now hd hn r2 hr K hin hl (bt c (zL (toR c g ts))) hS2k (by omega) M;rw[hrev]at P M;have hlk:=ky (bT h) hd hn (l:=zL G.reverse) (r:={ bj x with mem:=g }) { hr with };generalize hTT:bt c (zL (toR c g ts))=T2 at*;generalize G.reverse=R at*;obtain⟨X,hX⟩: ∃X,bS c d now { bj x with mem:=g } (zL R)=X:=⟨_,rfl⟩;rw[hX]at P hlk;have hSX: ∀r e,X=(r,some e)->SE S r e:=fun r e he=>by rw[<-P,he];exact⟨rfl,rfl,rfl⟩
 have hSA: ∀u r e,X=(u,none)->dR c d now u ts=(r,some e)->SE S r e:=fun u r e h1 h2=>by
  rw[<-P,h1];simp only[h2];exact⟨rfl,rfl,rfl⟩
 have hSN: ∀u r,X=(u,none)->dR c d now u ts=(r,none)->go c d now r (zL T2)=S:=fun u r h1 h2=>by
  rw[<-P,h1];simp only[h2]
 try clear P hTT
 unfold aA at hal hen W;rw[b9 R];have F:=ns SR SZ fb.eq_2 bj.eq_1 C m o p;repeat refine st ?_
 refine nX (D:=ch×r5) (fun _ q=>[(2, .seq 1 (ts.map aB)),(5, .loc 5 (q 5) 0 0),(10, .loc 10 (q 10) 0 0),(11, .loc 11 (q 11) 0 0),(13, .row 23 (q 23))]) (fun y q=>[(5,⟨5,[aA c],26,false⟩),(10,⟨11,[[ct,ct,ct,ct,B false,ct,ct,I 0,I 0,I 0,I 0]],165,false⟩),(11,⟨11,[fb y.1 d now y.2],165,false⟩),(23,⟨1,(toR c g ts).map aB,3,true⟩)]) (fun y _ f=>(y.1.act.length<=100/\(match y.2 with
  |none=>X=(y.1,none)/\ek c y.1
  |some e=>SE S y.1 e))/\f 10=false/\f 11=false/\f 23=false) ?_ ?_
 ·refine aG (D:=Nat×ch×r5) (fun y q=>[(2, .seq 1 (ts.map aB)),(5, .loc 5 (q 5) 0 0),(10, .loc 10 (q 10) 0 0),(11, .loc 11 (q 11) 0 0),(12, .seq 1 (R.map aB)),(13, .row 23 (q 23)),(16,I y.1)]) (fun y q=>[(5,⟨5,[aA c],26,false⟩),(10,⟨11,[[ct,ct,ct,ct,B false,ct,ct,I 0,I 0,I 0,I 0]],165,false⟩),(11,⟨11,[fb y.2.1 d now y.2.2],165,false⟩),(23,⟨1,(toR c g ts).map aB,3,true⟩)]) (fun y _ f=>(y.1<=R.length/\y.2.1.act.length<=100/\(match y.2.2 with
   |none=>X=bS c d now y.2.1 ((zL R).drop y.1)/\ek c y.2.1
   |some e=>SE S y.2.1 e))/\f 10=false/\f 11=false/\f 23=false) (fun y=>(R.length-y.1)+(if y.2.2.isSome=true then 0 else 1)) (0,{ bj x with mem:=g },none) ?_ ?_ ?_ ?_
  ·exact⟨⟨Lx _,hl,hX.symm,{ hr with }⟩,by simp only[go_sem,m,o,p,Ls]⟩
  ·exact qe
  ·(simp only[go_sem,F])
   try rfl
  try clear m o p b C hj
  rintro⟨j,u,e⟩ us fs ⟨⟨hj,E,a⟩,m,o,p⟩;simp only at hj E a;rcases e with _|⟨k,O⟩
  ·obtain⟨a,w⟩:=a;by_cases b:j<R.length
   ·obtain⟨i,H⟩:=gE b;have hil:=hGk i (Lh H);obtain⟨s,hs⟩:=gE hil;obtain⟨⟨s1,s2⟩,_⟩:=tT h hs;have ho:vh c i=s.out:=by unfold vh;rw[bL,hs]
    have f0:=hal u w (by omega) s.out (by omega) s2;obtain⟨k1,k2⟩:=hok u w s.out s2;have C:=h9 b;have Y:=aD b (by omega);have Z:=h9 hil;rw[sL (qQ H),ho]at a;have v:(lE c d now u s.out).1.act.length<=100:=by rw[k2.act];exact E
    rcases Q:lE c d now u s.out with⟨r2,_|⟨k,O⟩⟩
    ·rw[Q]at a f0 k1 v;simp only at a k1 v;have f1:=hgo r2.act (by omega) i;unfold fb at f0;simp only at f0;have F:=dk SZ fb.eq_2 SR SS SU S3 S9 H hs C Y<|hH Z m o p;repeat refine ef f0 ?_
     refine lL f1 ?_;repeat refine st ?_
     exact qn (j+1,{ r2 with act:=r2.act.filter fun k=> !(k==(i:Int)) },none) ⟨⟨b,Ly (MF ..) v,a,{ k1 with }⟩,by simp only[go_sem,m,o,p,Ls]⟩
    rw[Q]at a f0 v;simp only at a v;have f1:=hgo r2.act (by omega) i;unfold fb at f0;simp only at f0;have F:=dk SZ fb.eq_2 SR SS SU S3 S9 H hs C Y<|hH Z m o p;repeat refine ef f0 ?_
    refine lL f1 ?_;repeat refine st ?_
    exact qn (j+1,{ r2 with act:=r2.act.filter fun k=> !(k==(i:Int)) },some (k,O)) ⟨⟨b,Ly (MF ..) v,hSX r2 (k,O) a⟩,by simp only[go_sem,m,o,p,Ls]⟩
   obtain rfl:j=R.length:=by omega
   have C:=nl R.length;rw[Mm (by rw[ak];omega)]at a;have F:=lP SZ fb.eq_2 SR C m o p;repeat refine st ?_
   refine⟨(u,none),⟨⟨E,a,w⟩,by simp only[go_sem,m,o,p,Ls]⟩,?_,?_⟩
   ·exact qe
   exact qe
  have U:=vJ hSE a.1;by_cases b:(j:Int)< (R.length:Int)
  ·have F:=ns SZ fb.eq_2 SR b U m o p;repeat refine st ?_
   refine⟨(u,some (k,O)),⟨⟨E,a⟩,by simp only[go_sem,m,o,p,Ls]⟩,?_,?_⟩
   ·exact qe
   exact qe
  have F:=ns SZ fb.eq_2 SR b U m o p;repeat refine st ?_
  refine⟨(u,some (k,O)),⟨⟨E,a⟩,by simp only[go_sem,m,o,p,Ls]⟩,?_,?_⟩
  ·exact qe
  exact qe
 try clear m o p b C hj
 rintro⟨u,e⟩ us fs ⟨⟨E,a⟩,m,o,p⟩;simp only at E a;have hSA:=hSA;have F:=fI m o p;repeat refine st ?_
 refine nX (D:=ch×r5) (fun _ q=>[(5, .loc 5 (q 5) 0 0),(10, .loc 10 (q 10) 0 0),(11, .loc 11 (q 11) 0 0),(13, .row 23 (q 23))]) (fun y q=>[(5,⟨5,[aA c],26,false⟩),(10,⟨11,[[ct,ct,ct,ct,B false,ct,ct,I 0,I 0,I 0,I 0]],165,false⟩),(11,⟨11,[fb y.1 d now y.2],165,false⟩),(23,⟨1,(toR c g ts).map aB,3,true⟩)]) (fun y _ f=>(match y.2 with
  |none=> ∃V,X=(V,none)/\dR c d now V ts=(y.1,none)/\ek c y.1/\y.1.act=V.act
  |some e=>SE S y.1 e)/\f 10=false/\f 11=false/\f 23=false) ?_ ?_
 ·refine aG (D:=Nat×ch×r5) (fun y q=>[(2, .seq 1 (ts.map aB)),(5, .loc 5 (q 5) 0 0),(10, .loc 10 (q 10) 0 0),(11, .loc 11 (q 11) 0 0),(13, .row 23 (q 23)),(17,I y.1)]) (fun y q=>[(5,⟨5,[aA c],26,false⟩),(10,⟨11,[[ct,ct,ct,ct,B false,ct,ct,I 0,I 0,I 0,I 0]],165,false⟩),(11,⟨11,[fb y.2.1 d now y.2.2],165,false⟩),(23,⟨1,(toR c g ts).map aB,3,true⟩)]) (fun y _ f=>(y.1<=ts.length/\y.2.1.act.length<=100/\(match y.2.2 with
   |none=> ∃V,X=(V,none)/\dR c d now V ts=dR c d now y.2.1 (ts.drop y.1)/\ek c y.2.1/\y.2.1.act=V.act
   |some e=>SE S y.2.1 e))/\f 10=false/\f 11=false/\f 23=false) (fun y=>(ts.length-y.1)+(if y.2.2.isSome=true then 0 else 1)) (0,u,e) ?_ ?_ ?_ ?_
  ·refine⟨⟨Lx _,E,?_⟩,by simp only[go_sem,m,o,p,Ls]⟩;rcases e with _|e
   ·exact⟨u,a.1,rfl,a.2,rfl⟩
   exact a
  ·exact qe
  ·exact qe
  try clear m o p E a e u
  rintro⟨j,u,e⟩ us fs ⟨⟨hj,E,a⟩,m,o,p⟩;simp only at hj E a;rcases e with _|⟨k,O⟩
  ·obtain⟨V,J,a,w,L⟩:=a;by_cases b:j<ts.length
   ·obtain⟨n,H⟩:=gE b;obtain⟨t,z⟩:=hts n (Lh H);obtain⟨s1,s2⟩:=Dk h z;have f0:=hal u w (by omega) t.Z1 (by omega) s2;obtain⟨k1,k2⟩:=hok u w t.Z1 s2;have C:=h9 b;have Y:=aD b (by omega);have Z:=h9 (Ld.1 z).1;rw[wx H z]at a;have v:=k2.act;rcases Q:lE c d now u t.Z1 with⟨r2,_|⟨k,O⟩⟩
    ·rw[Q]at a f0 k1 v;simp only at a k1 v;unfold fb at f0;simp only at f0;have F:=dk SZ fb.eq_2 SR SV SU S9 H z C Y Z<|fI m o p;repeat refine ef f0 ?_
     exact qn (j+1,r2,none) ⟨⟨b,by rw[v];exact E,V,J,a,k1,v.trans L⟩,by simp only[go_sem,m,o,p,Ls]⟩
    rw[Q]at a f0 v;simp only at a v;unfold fb at f0;simp only at f0;have F:=dk SZ fb.eq_2 SR SV SU S9 H z C Y Z<|fI m o p;repeat refine ef f0 ?_
    exact qn (j+1,r2,some (k,O)) ⟨⟨b,by rw[v];exact E,hSA _ _ _ J a⟩,by simp only[go_sem,m,o,p,Ls]⟩
   obtain rfl:j=ts.length:=by omega
   have C:=nl ts.length;rw[Mu]at a;have F:=lP SZ fb.eq_2 SR C m o p;repeat refine st ?_
   refine⟨(u,none),⟨⟨V,J,a,w,L⟩,by simp only[go_sem,m,o,p,Ls]⟩,?_,?_⟩
   ·exact qe
   exact qe
  have U:=vJ hSE a.1;by_cases b:(j:Int)< (ts.length:Int)
  ·have F:=ns SZ fb.eq_2 SR b U m o p;repeat refine st ?_
   refine⟨(u,some (k,O)),⟨a,by simp only[go_sem,m,o,p,Ls]⟩,?_,?_⟩
   ·exact qe
   exact qe
  have F:=ns SZ fb.eq_2 SR b U m o p;repeat refine st ?_
  refine⟨(u,some (k,O)),⟨a,by simp only[go_sem,m,o,p,Ls]⟩,?_,?_⟩
  ·exact qe
  exact qe
 try clear m o p E a e u
 rintro⟨u,_|⟨k,O⟩⟩ us fs ⟨a,m,o,p⟩
 ·obtain⟨V,J,a,w,L⟩:=a;have ka:=hlk.2.2.2 (by rw[J]);rw[J]at ka;have P:=hSN _ _ J a;have N:u.act=x.1.filter fun k=> !(zL R).contains k:=L.trans ka;have f9:=hen u w (by rw[N];exact K.sublist My) (fun y hy=>hin0 y (by rw[N]at hy;exact(Lq.1 hy).1)) (by rw[N];exact Ly (MF ..) (by omega)) (M u w N);rw[P]at f9;obtain⟨r2,_|⟨k,O⟩⟩:=S
  ·unfold fb at f9;unfold Sb fb;simp only at f9 |-;have F:=ip SZ fb.eq_2 SR m o p;repeat refine st ?_
   refine lL W ?_;repeat refine ef f9 ?_
   (refine aM ?_;refine⟨_,(by show (ag _ _ _).run _=some _;simp only[go_sem,F];rfl),?_⟩)
   exact .refl _
  unfold fb at f9;unfold Sb;simp only at f9 |-;have F:=ip SZ fb.eq_2 SR m o p;repeat refine st ?_
  refine lL W ?_;repeat refine ef f9 ?_
  (refine aM ?_;refine⟨_,(by show (ag _ _ _).run _=some _;simp only[go_sem,F];rfl),?_⟩)
  exact Dp _ _ _ _ _ _ _ _ _ _
 simp only at a;have f9:=zS env c h d now u T2 k O (vJ hSE a.1);obtain⟨r2,e⟩:=S;obtain⟨a,ho,hra⟩:=a;simp only at a ho hra;subst a;unfold fb aA at f9;simp only at f9;unfold Sb;simp only;rw[ho,hra];have F:=ip SZ fb.eq_2 SR m o p;repeat refine st ?_
 refine lL W ?_;repeat refine ef f9 ?_
 (refine aM ?_;refine⟨_,(by show (ag _ _ _).run _=some _;simp only[go_sem,F];rfl),?_⟩)
 exact Dp _ _ _ _ _ _ _ _ _ _
end
end Go.Proofs.YtknkhdgfhbogdaaGreatDoor
