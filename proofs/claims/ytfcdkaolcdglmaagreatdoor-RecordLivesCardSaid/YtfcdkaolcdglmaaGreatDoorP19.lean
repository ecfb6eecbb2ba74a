/- The law of entering: its small functions; awake; what a nil table tells. -/
import Derived.Test.YtfcdkaolcdglmaaGreatDoorP18
set_option maxRecDepth 100000
set_option maxHeartbeats 16000000
set_option linter.unusedSimpArgs false
set_option linter.defProp false
namespace Go.Proofs.YtfcdkaolcdglmaaGreatDoor
open Go.Proofs.Tryz
section
open Go.RowKit
def wV(l:List Int)(x:Int):gC (l++[x])=gC l++[[I x,I 1]]:=by unfold gC;rw[Oa];rfl
def cx(L K:List Int)(j:Nat):List Int:=(K.take j).filter fun k=> !L.contains k
def EC{L K:List Int}{j:Nat}{x:Int}(h:K[j]? =some x):cx L K (j+1)=if L.contains x=true then cx L K j else cx L K j++[x]:=by
 unfold cx;rw[Ot,h,PH];cases a:L.contains x<;>simp only[QH,a,QA,Pb,On,PW,P8,TZ,P9,TF]
def IU{L K:List Int}{j:Nat}{x:Int} :x∈cx L K j↔x∈K.take j/\x∉L:=by
 unfold cx;rw[OY];simp
def s9{K:List Int}(d:K.Nodup){j:Nat}{x:Int}(h:K[j]? =some x):x∉K.take j:=fun b=>by
 obtain⟨k,f,e⟩:=Ry.1 b;obtain⟨c,a⟩:=OG.1 h;have:=(List.getElem_inj d (h₀:=by omega) (h₁:=c)).1 (e.trans a.symm);omega
def Fb{l:List Int}{k:Int}{i:Nat}(h:l[i]? =some k):(gC l)[i]? =some [I k,I 1]:=by unfold gC;rw[OS,h];rfl
def Be(env:b7)(c:aq)(h:cD c)(hs:h9 c)(l:List Int)(hn:l.Nodup)(hz: ∀x∈l,fe c x=true):cy prog env 189 [aH c, .seq 1 (l.map aa)] (.seq 1 ((rn c l).map aa)):=by
 have hc:=h.toRight;have v:=hc.Z6;have hl32:l.length<=32:=O3 (jE hn hz) v;have f0:=ap env c hs;have w1:IntKind.i64.wrap (0+1)=1:=rfl;have w2: ¬(0:Int)<0:=by omega
 have w3:(0:Int)<1:=by omega
 unfold aH at f0 |-;refine qf func189 call189 ntmps189 results189 ?_;repeat refine sm ?_
 refine xL ?_;have F:=aA.eq_1;repeat refine g8 f0 ?_
 refine aN (D:=Nat) (fun j u=>[(0, .ref 9 [aK c] 0 0),(1, .seq 1 (l.map aa)),(5, .loc 5 (u 5) 0 0),(6, .mp 18 (u 18)),(19, .seq 1 (l.map aa)),(20,I l.length),(21,I j)]) (fun j _=>[(5,⟨5,[aA c],26,false⟩),(18,⟨0,gC (l.take j),261,true⟩)]) (fun j _ _=>j<=l.length) (fun j=>l.length-j) 0 ?_ ?_ ?_ ?_
 ·exact O6 _
 ·(simp only[go_sem,F])
  try rfl
 ·have F:=aA.eq_1
  (simp only[go_sem,F])
  try rfl
 ·rintro j ws esc hj;by_cases a:j<l.length
  ·obtain⟨x,b⟩:=gE a;have R:=mc a;have q2:=aD a (by omega);have M:=mC x (l.take j) 0;rw[lc (s9 hn b)]at M;have ht:gC (l.take (j+1))=gC (l.take j)++[[I x,I 1]]:=by rw[Ot,b];exact wV _ _
   have F:=ld b R q2 M w1;repeat refine st ?_
   refine⟨j+1,a,?_,?_,by omega⟩
   ·exact qe
   have F:=ht;exact qe
  obtain rfl:j=l.length:=by omega
  have R:=nl l.length;rw[Ob];have F:=R;repeat refine st ?_
  refine xM ?_;show gu _ _ _ _ _ _;repeat refine st ?_
  refine aN (D:=List Int×List Int) (fun d u=>[(0, .ref 9 [aK c] 0 0),(1, .seq 1 (d.1.map aa)),(5, .loc 5 (u 5) 0 0),(6, .mp 18 (u 18)),(9, .seq 1 (d.2.map aa))]) (fun d _=>[(5,⟨5,[aA c],26,false⟩),(18,⟨0,gC d.1,261,true⟩)])
   (fun d _ _=>Grown c l d.1 d.2/\d.1.Nodup/\io c (py c d.1+d.2.length) d.1 d.2=rn c l) (fun d=>py c d.1+d.2.length) (l,l) ?_ ?_ ?_ ?_
  ·exact⟨qg hn,hn,rfl⟩
  ·(simp only[go_sem,F])
   try rfl
  ·(simp only[go_sem,F])
   try rfl
  try clear hj a R
  rintro⟨L,T⟩ ws esc ⟨X,H,S⟩;simp only at X H S;have J: ∀x∈L,fe c x=true:=fun x b=>(X.gr x b).in h hz;have hL32:L.length<=32:=O3 (jE H J) v;have hT32:T.length<=32:=O3 (jE X.nd fun x b=>J x (X.todo x b)) v;cases T with
  | nil=>
    have hL:rn c l=L:=by
     rw[<-S];cases py c L+([]:List Int).length<;>rfl
    rw[hL];have R: ¬(0:Int)<0:=by omega
    have F:=R;exact fl
  |cons i r=>
  have hi:=X.todo i (by simp);obtain⟨k,s,rfl,C,hat⟩:=fB (J i hi);have hk:=(OG.1 C).1;have R:(0:Int)< (((k:Int)::r).length:Int):=by simp only[OU];omega
  have q2:((k:Nat):Int)< (c.Z9.length:Int):=by omega
  have q3:(((k:Int)::r).drop 1).take (((k:Int)::r).length-1)=r:=by simp
  have q4:(1:Int)<=(((k:Int)::r).length:Int):=by simp only[OU];omega
  have q5:((k:Int)::r)[0]? =some (k:Int):=rfl;have f1:=bX env c h k;rw[OL (.inr (J _ hi)), <-gL]at f1;unfold aH at f1;have hKd:zL (aw c (k:Int) true)=hU c (k:Int):=rfl;rw[hKd]at f1;have w:=BI C;have P:mG c (k:Int)=s.initial:=by unfold mG;rw[hat]
  have f:=X.step h;have hmiss:=ol (c:=c) (l:=L) (fY c L k) fun x b=>⟨(fM h b).1,(fM h b).2.1⟩
  have hgr':io c (py c L+r.length) (L++jQ c L k) (r++jQ c L k)=rn c l:=by
   rw[<-S,OU,show py c L+(r.length+1)=(py c L+r.length)+1 by omega];rfl
  have q:io c (py c (L++jQ c L k)+(r++jQ c L k).length) (L++jQ c L k) (r++jQ c L k)=rn c l:=by
   rw[<-hgr'];refine wW h f ?_ ?_
   ·exact OO _
   rw[ON];omega
  have V:(L++jQ c L k).Nodup:=by
   rw[QJ];exact⟨H,fY c L k,fun x b y Q e=>(fM h Q).1 (by rw[<-e];exact b)⟩
  have U:py c (L++jQ c L k)+(r++jQ c L k).length<py c L+((k:Int)::r).length:=by
   rw[ON,OU];omega
  generalize z:hU c (k:Int)=G at*;have hKn:G.Nodup:=by rw[<-z];exact sr c k
  have hK32:G.length<=32:=by
   rw[<-z,hU,cQ];exact d7 hc k true
  have fin: ∀x:Int,x∉L->tR prog 3 (I x) (gC L) 0=some none:=fun x b=>by rw[mC,lc b]
  have Z: ∀x:Int,x∈L-> ∃p,tR prog 3 (I x) (gC L) 0=some (some p)/\(gC L)[p]? =some [I x,I 1]:=fun x b=>by
   obtain⟨p,h1,h2⟩:=pr (n:=0) b;exact⟨p,by rw[mC,h1,PR],Fb h2⟩
  generalize hT:(k:Int)::r=T at*;have F:=L7 R q2 q3 q4 q5 C WH WI;repeat refine g8 f1 ?_
  refine MY (D:=List Int) (fun K u=>[(0, .ref 9 [aK c] 0 0),(1, .seq 1 (L.map aa)),(5, .loc 5 (u 5) 0 0),(6, .mp 18 (u 18)),(9, .seq 1 (r.map aa)),(11, .seq 1 (K.map aa))]) (fun _ _=>[(5,⟨5,[aA c],26,false⟩),(18,⟨0,gC L,261,true⟩)]) (fun K _ _=>K=pM c L k) ?_ ?_
  ·refine fA ?_;by_cases hk1:s.kind=1
   ·have Y:(s.kind==1)=true:=by simp[hk1]
    rw[Y]at w;have F:=Y;repeat refine st ?_
    have F:=aA.eq_1;refine lq G.length (by omega) (fun j u=>[(0, .ref 9 [aK c] 0 0),(1, .seq 1 (L.map aa)),(5, .loc 5 (u 5) 0 0),(6, .mp 18 (u 18)),(9, .seq 1 (r.map aa)),(10,I k),(49, .row 41 (u 41)),(50,I G.length),(51,I j)]) (fun _ _=>[(5,⟨5,[aA c],26,false⟩),(18,⟨0,gC L,261,true⟩),(41,⟨1,G.map aa,3,true⟩)]) (fun j _ _=> ∀m (y:Int),m<j->G[m]? =some y->y∉L) (fun m y M=>absurd M (by omega)) ?_ ?_
    ·rintro j us es a E p2 W;obtain⟨x,b⟩:=gE a;by_cases g:x∈L
     ·obtain⟨p,m1,m2⟩:=Z x g
      have hnk:jQ c L k=[]:=by
       unfold jQ pM;rw[OL w,z,OL (P1.2 ⟨x,OM b,OQ.2 g⟩)];rfl
      rw[hnk,P9,P9]at q U f;have F:=pf b E p2 m1 m2 w3;repeat refine st ?_
      refine⟨_,dT.refl _,(L,r),⟨f,H,q⟩,?_,?_,U⟩
      ·exact qe
      have F:=aA.eq_1;exact qe
     have m1:=fin x g;have F:=ld b E p2 m1 w2;repeat refine st ?_
     refine⟨j+1,⟨a,fun m y M Q=> ?_⟩,?_,?_,by omega⟩
     ·rcases Qb.1 M with e|e
      ·exact W m y e Q
      rw[e,b]at Q;cases Q;exact g
     ·exact qe
     have F:=aA.eq_1;exact qe
    rintro us es E W
    have O:(hU c (k:Int)).any (fun k=>L.contains k)=false:=by
     rw[Rp];intro y Q;rw[z]at Q;obtain⟨m,M⟩:=QB.1 Q;have:=W m y (OG.1 M).1 M;simpa using this
    by_cases h0:0<=s.initial
    ·have o:pM c L k=[s.initial]:=by
      unfold pM;rw[OL w,OK (by rw[O];simp),P,OL h0]
     have F:=pf E h0 q2 C WH WI;repeat refine st ?_
     refine⟨_,dT.frozen 73 11 ⟨1,[[I s.initial]],3,true⟩ rfl (PD 0) (by simp only[go_sem]) (by simp only[go_sem]),[s.initial],o.symm,?_,?_⟩
     ·exact qe
     have F:=aA.eq_1;exact qe
    have o:pM c L k=[]:=by
     unfold pM;rw[OL w,OK (by rw[O];simp),P,OK h0]
    have F:=pf E h0 q2 C WH WI;repeat refine st ?_
    refine⟨_,dT.nil 11 1 (by simp only[go_sem]),[],o.symm,?_,?_⟩
    ·exact qe
    have F:=aA.eq_1;exact qe
   have Y:(s.kind==1)=false:=by simpa using hk1
   rw[Y]at w
   have o:pM c L k=G:=by
    unfold pM;rw[OK (by rw[w];simp),z]
   have F:=Y;repeat refine st ?_
   refine⟨_,dT.frozen 41 11 ⟨1,G.map aa,3,true⟩ rfl (PD 0) (by simp only[go_sem]) (by simp only[go_sem]),G,o.symm,?_,?_⟩
   ·exact qe
   have F:=aA.eq_1;exact qe
  intro K us es hK;have N:K.Nodup:=by rw[hK];exact sd c L k
  have hKz: ∀x∈K,fe c x=true:=fun x b=>by
   rw[hK]at b;exact(bP hc (BK h b)).1
  have hK32b:K.length<=32:=O3 (jE N hKz) v;have hadd:cx L K K.length=jQ c L k:=by unfold cx jQ;rw[Ob,hK]
  have hr32:r.length<=32:=by rw[<-hT,OU]at hT32;omega
  repeat (first|refine oO rfl (by simp only[go_sem,aA];exact⟨rfl,rfl⟩) ?_|refine gR ?_|refine gO ?_|refine oZ (ki ?_)|refine oZ ?_|refine oS ?_|refine gT ?_|refine gD mixed ?_|refine oB ?_|refine oK ?_|(refine oX ?_;simp only[bR,bf, ↓reduceIte,Nat.reduceEqDiff,reduceCtorEq])|refine oY (by simp only[go_sem,aA];exact iR) ?_|refine oN (by simp only[go_sem,aA];exact iR) ?_)
  refine aN (D:=Nat) (fun j u=>[(0, .ref 9 [aK c] 0 0),(1, .seq 1 ((L++cx L K j).map aa)),(5, .loc 5 (u 5) 0 0),(6, .mp 18 (u 18)),(9, .seq 1 ((r++cx L K j).map aa)),(74, .seq 1 (K.map aa)),(75,I K.length),(76,I j)]) (fun j _=>[(5,⟨5,[aA c],26,false⟩),(18,⟨0,gC (L++cx L K j),261,true⟩)]) (fun j _ _=>j<=K.length) (fun j=>K.length-j) 0 ?_ ?_ ?_ ?_
  ·exact O6 _
  ·have:cx L K 0=[]:=rfl;rw[this,P9,P9]
   (simp only[go_sem,aA])
   try rfl
  ·have:cx L K 0=[]:=rfl;rw[this,P9]
   (simp only[go_sem,aA])
   try rfl
  rintro j us es hj;by_cases a:j<K.length
  ·obtain⟨x,b⟩:=gE a;have E:=mc a;have p2:=aD a (by omega);have t:=EC (L:=L) b;have hal:(cx L K j).length<=32:=O3 (Ol ..) (by rw[OZ];omega);refine fA ?_;by_cases g:x∈L
   ·rw[OL (OQ.2 g)]at t;obtain⟨p,m1,m2⟩:=pr (n:=0) (show x∈L++cx L K j from PN _ g);have m3:=mC x (L++cx L K j) 0;rw[m1,PR]at m3;have m4:=Fb m2;have F:=ld b E p2 m3 m4;repeat refine st ?_
    refine⟨_,dT.refl _,j+1,a,?_,?_,by omega⟩
    ·have F:=t;exact qe
    have F:=ai t WH;exact qe
   have hxn:x∉L++cx L K j:=fun hh=>by
    rcases Of.1 hh with hh|hh
    ·exact g hh
    exact s9 N b (IU.1 hh).1
   rw[OK (by simpa using g)]at t;have m3:=mC x (L++cx L K j) 0;rw[lc hxn]at m3;have e1:gC (L++cx L K (j+1))=gC (L++cx L K j)++[[I x,I 1]]:=by rw[t, <-O1];exact wV _ _
   have e2:L++cx L K (j+1)=(L++cx L K j)++[x]:=by rw[t,O1]
   have e3:r++cx L K (j+1)=(r++cx L K j)++[x]:=by rw[t,O1]
   have hf1:ek ((L++cx L K j).length+1) 8:=aG (by rw[ON];omega) (by omega);have hf2:ek ((r++cx L K j).length+1) 8:=aG (by rw[ON];omega) (by omega);generalize hA:L++cx L K j=A at*;generalize hB:r++cx L K j=B at*;have F:=vb b E p2 m3 w1 hf1 hf2;repeat refine st ?_
   refine⟨_,(dT.frozen 96 1 ⟨1,(A++[x]).map aa,3,true⟩ rfl (PD 0) (by simp only[go_sem,Oa]) (by simp only[go_sem])).trans (dT.frozen 105 9 ⟨1,(B++[x]).map aa,3,true⟩ rfl (PD 0) (by simp only[go_sem,Oa]) (by simp only[go_sem])),j+1,a,?_,?_,by omega⟩
   ·have F:=ai e2 e3;exact qe
   have F:=ai e1 WH;exact qe
  obtain rfl:j=K.length:=by omega
  have E:=nl K.length;rw[hadd];have F:=E;repeat refine st ?_
  refine⟨(L++jQ c L k,r++jQ c L k),⟨f,V,q⟩,?_,?_,U⟩
  ·exact qe
  have F:=aA.eq_1;exact qe
def q9(c:aq)(a:Int)(mem:List ed):List Int:=match at_ c a with
 | some s=>if ab s=true then(match mem.find? (fun m=>m.1==a) with
   |some m=>m.2
   |none=>[s.initial]) else [a]
 |none=>[]
def xH{c:aq}(h:Right c){i d e m:Int}(g:fe c d=true)(j:fe c e=true)(n:aQ c d=i)(o:aQ c e=i)(f:fe c m=true)(k:m=d\/d∈mu c m)(l:m=e\/e∈mu c m):d=e:=by
 obtain⟨a,_,rfl,_⟩:=fB g;obtain⟨b,_,rfl,_⟩:=fB j;obtain⟨m,_,rfl,_⟩:=fB f;have:=yP h (eG.2 ⟨ak.1 g,n⟩) (eG.2 ⟨ak.1 j,o⟩) (m+1) m (by omega) (ak.1 f) (k.imp (by omega) id) (l.imp (by omega) id);omega
def CH{c:aq}(h:Right c){d:Int} : ∀(n:Nat)(t:Int),t<n->bx c d t=true-> ∃k,(k=t\/(k∈mu c t/\bx c d k=true))/\fe c k=true/\aQ c k=d
 | 0,t,j,a=>by
   cases f:fe c t with
   |true=>have:=aJ.1 f;omega
   |false=>unfold bx at a;rw[cq f]at a;simp at a
 | n+1,t,j,a=>by
   have b:fe c t=true:=by
    cases f:fe c t with
    |true=>rfl
    |false=>unfold bx at a;rw[cq f]at a;simp at a
   rcases (ag h b).1 a with e|e
   ·exact⟨t, .inl rfl,b,e⟩
   have o:=dn h b;obtain⟨k,g,l,m⟩:=CH h n (aQ c t) (by omega) e;refine⟨k, .inr ?_,l,m⟩;rcases g with rfl|⟨g,i⟩
   ·exact⟨(cr h b).2 (.inl rfl),e⟩
   exact⟨(cr h b).2 (.inr g),i⟩
def ah{c:aq}{d x:Int}(h:bx c d x=true):fe c x=true:=by
 cases a:fe c x with
 |true=>rfl
 |false=>unfold bx at h;rw[cq a]at h;simp at h
def ix{c:aq}(h:Right c){a b d:Int}(f:bx c a b=true)(e:bx c b d=true):bx c a d=true:=by
 have g:=aJ.1 (ah e);unfold bx at*;rw[OQ]at*;exact iO h (c.Z9.length) d b a g.2 e f
def K9{c:aq}(h:Right c){d:Int} :bx c d d=false:=by
 cases a:bx c d d with
 |false=>rfl
 | true=>
   unfold bx at a;have:=(kZ h 40 d d (OQ.1 a)).2;omega
def qE{c:aq}(h:Right c){a b:Int} : ∀(n:Nat)(t:Int),t<n->a∈mu c t->b∈mu c t->a=b\/a∈mu c b\/b∈mu c a
 | 0,t,g,d,_=>by
   cases e:fe c t with
   |true=>have:=aJ.1 e;omega
   |false=>rw[cq e]at d;simp at d
 | n+1,t,g,d,hb=>by
   have f:fe c t=true:=by
    cases e:fe c t with
    |true=>rfl
    |false=>rw[cq e]at d;simp at d
   have i:=dn h f;rw[cr h f]at d hb;rcases d with rfl|d
   ·rcases hb with rfl|hb
    ·exact .inl rfl
    exact .inr (.inr hb)
   rcases hb with rfl|hb
   ·exact .inr (.inl d)
   exact qE h n _ (by omega) d hb
def vJ{c:aq}(h:cD c){a e:Int}(k:fe c a=true)(l:fe c e=true):bx c (DA c a e) e=true/\DA c a e∈mu c a/\(DA c a e= -1\/(0<=DA c a e/\bD c (DA c a e)=true)):=by
 have i:=h.toRight;have b: ∀ {x},fe c x=true-> -1∈mu c x:=fun {x} j=>rq i (c.Z9.length) x j (aJ.1 j).2;unfold DA;cases f:(mu c a).find? (Di c e) with
 | none=>
   rw[SN]at f;exact absurd rfl (f _ (b k))
 | some d=>
   have h1:=So f;have g:=Qm f;have m:=(kZ i 40 _ _ g).1;simp only[Pk];unfold Di at h1;rw[PS,OR,OJ]at h1;rcases h1 with h1|h1
   ·have:d= -1:=by omega
    subst this;exact⟨by unfold bx;rw[OQ];exact b l,g, .inl rfl⟩
   refine⟨h1.2,g,?_⟩;rcases Sq d 0 with q|q
   ·exact .inl (by omega)
   exact .inr ⟨q,h1.1⟩
structure Wb(c:aq)(d:Int)(P:List Int):Prop where
 real: ∀k∈P,∃s,at_ c k=some s/\ab s=false
 bel: ∀k∈P,bx c d k=true
 up: ∀k∈P,aQ c k=d\/aQ c k∈P
 one: ∀x,bD c x=true\/x= -1-> ∀k1∈P,∀k2∈P,aQ c k1=x->aQ c k2=x->k1=k2
 has: ∃k∈P,aQ c k=d
def wF{c:aq}{x:Int}(h:ar c x=true): ∃s,at_ c x=some s/\ab s=false:=by
 obtain⟨s,b,a⟩:=gh h;refine⟨s,b,?_⟩;unfold ab;rcases a with e|e<;>simp[e]
def E2{c:aq}(h:cD c){d:Int}{l:List Int}(f: ∀x∈l,bx c d x=true/\ ∃s,at_ c x=some s/\ab s=false)(u:l≠[])(_hd: -1<=d)
 (j: ∀x,bD c x=true\/x= -1-> ∀p∈n7 c l d,∀q∈n7 c l d,aQ c p=x->aQ c q=x->p=q):Wb c d (n7 c l d):=by
 have m:=h.toRight;have g:=(iy (c:=c) (d:=d) (l:=l)).2
 have b: ∀k∈n7 c l d,bx c d k=true:=fun k a=>by
  rcases (g k).1 a with a|⟨_,_,_,_,a⟩
  ·exact(f k a).1
  exact a
 refine⟨fun k a=> ?_,b,fun k a=> ?_,j,?_⟩
 ·rcases (g k).1 a with a|⟨i,n,r,y,_⟩
  ·exact(f k a).2
  exact wF (ru h (c.Z9.length) i k (aJ.1 (ah (f i n).1)).2 r y)
 ·have v:=ah (b k a);rcases (ag m v).1 (b k a) with e|e
  ·exact .inl e
  refine .inr ((g _).2 (.inr ?_));have w:0<=aQ c k:=(aJ.1 (ah e)).1;rcases (g k).1 a with a|⟨i,n,r,y,_⟩
  ·exact⟨k,a,(cr m v).2 (.inl rfl),w,e⟩
  exact⟨i,n,iO m (c.Z9.length) i k _ (aJ.1 (ah (f i n).1)).2 r ((cr m v).2 (.inl rfl)),w,e⟩
 obtain⟨t,o⟩:=List.exists_mem_of_ne_nil l u;obtain⟨k,a,p,q⟩:=CH m (c.Z9.length) t (aJ.1 (ah (f t o).1)).2 (f t o).1;refine⟨k,(g k).2 ?_,q⟩;rcases a with rfl|⟨a,e⟩
 ·exact .inl o
 exact .inr ⟨t,o,a,(aJ.1 p).1,e⟩
def E4{c:aq}(h:cD c){d t:Int}(f:bx c d t=true)(p: -1<=d)(u: ∃s,at_ c t=some s/\ab s=false):Wb c d (n7 c [t] d):=by
 have r:=(iy (c:=c) (d:=d) (l:=[t])).2
 have e: ∀k∈n7 c [t] d,fe c k=true/\(t=k\/k∈mu c t):=fun k g=>by
  rcases (r k).1 g with g|⟨i,q,a,b,_⟩
  ·rw[O2.1 g];exact⟨ah f, .inl rfl⟩
  rw[O2.1 q]at a;exact⟨(iZ h.toRight a b).1, .inr a⟩
 refine E2 h (fun x v=>by rw[O2.1 v];exact⟨f,u⟩) (by simp) p fun x _ j a m b n o=> ?_;exact xH h.toRight (e j a).1 (e m b).1 n o (ah f) (e j a).2 (e m b).2
def AF{act:List Int}{ks:List Nat}(h:cR act ks<=1){a b:Int}(f:a∈zL ks)(g:b∈zL ks)(d:a∈act)(e:b∈act):a=b:=by
 rw[<-qY]at h;have c:a∈(zL ks).filter fun k=>act.contains k:=OY.2 ⟨f,by simpa using d⟩;have i:b∈(zL ks).filter fun k=>act.contains k:=OY.2 ⟨g,by simpa using e⟩;generalize (zL ks).filter (fun k=>act.contains k)=q at*
 match q,h with
 |[],_=>simp at c
 |[x],_=>rw[O2.1 c,O2.1 i]
def Iq{c:aq}(h:cD c){d p:Int}(hp:ar c p=true){l:List Int}(C:zO c p l=true)(hd: -1<=d)(U:d=p\/bx c d p=true):Wb c d (n7 c l d):=by
 have w:=h.toRight;unfold zO at C;rw[OJ,OJ,OP,OP]at C;obtain⟨⟨b1,b2⟩,b3⟩:=C
 have f: ∀x∈l,bx c p x=true/\ ∃s,at_ c x=some s/\ab s=false:=fun x u=>by
  have:=b2 x u;unfold kW at this;rw[OJ,OJ]at this;refine⟨this.1.1,?_⟩;have:=this.1.2;split at this
  ·rename_i s m;exact⟨s,m,by simpa using this⟩
  cases this
 have D: ∀x,bx c p x=true->bx c d x=true:=fun x u=>by
  rcases U with rfl|e
  ·exact u
  exact ix w e u
 have J:=(iy (c:=c) (d:=d) (l:=l)).2
 have G: ∀k∈n7 c l d,fe c k=true:=fun k g=>by
  rcases (J k).1 g with g|⟨_,_,_,_,g⟩
  ·exact ah (f k g).1
  exact ah g
 have Z:fe c p=true:=by
  obtain⟨s,m,_⟩:=gh hp;unfold at_ at m;split at m
  ·rename_i h0;have:=(OG.1 m).1;exact aJ.2 ⟨h0,by omega⟩
  cases m
 obtain⟨t,ht⟩:=List.exists_mem_of_ne_nil l (yB b1);refine E2 h (fun x u=>⟨D x (f x u).1,(f x u).2⟩) (yB b1) hd fun x u R P S Q T A=> ?_
 have O: ∀k∈n7 c l d,bx c p k=true\/p=k\/k∈mu c p:=fun k g=>by
  rcases (J k).1 g with g|⟨i,v,H,N,_⟩
  ·exact .inl (f k g).1
  have V:p∈mu c i:=OQ.1 (f i v).1;rcases qE w (c.Z9.length) i (aJ.1 (ah (f i v).1)).2 V H with e|e|e
  ·exact .inr (.inl e)
  ·exact .inl (OQ.2 e)
  exact .inr (.inr e)
 have low: ∀k,k∈n7 c l d->bx c p k=true->k∈gy c p l:=fun k g o=>by
  unfold gy;rw[Of,uE w fun x u=>ah (f x u).1,iy.2];rcases (J k).1 g with g|⟨i,v,H,N,_⟩
  ·exact .inl (.inl g)
  exact .inl (.inr ⟨i,v,H,N,o⟩)
 have r: ∀k∈n7 c l d,k∈hU c (aQ c k):=fun k g=>by
  obtain⟨j,s,rfl,m,o⟩:=fB (G k g);refine OW.2 ⟨j,ES m (fH m).symm ?_,rfl⟩;rcases (J _).1 g with g|⟨i,v,H,N,_⟩
  ·obtain⟨s',e,A⟩:=(f _ g).2;rw[o]at e;cases e;exact A
  obtain⟨s',e,A⟩:=wF (ru h (c.Z9.length) i _ (aJ.1 (ah (f i v).1)).2 H N);rw[o]at e;cases e;exact A
 have y: ∀n z,n∈n7 c l d->z∈n7 c l d->aQ c n=x->aQ c z=x->bx c p n=true->n=z:=fun n z o C K eb B=>by
  have X:bx c p z=true:=by
   have:=(ag w (G n o)).1 B;rw[K, <-eb]at this;exact(ag w (G z C)).2 this
  have hxd:x∈gy c p l:=by
   rcases (ag w (G n o)).1 B with e|e
   ·unfold gy;rw[<-K,e];simp
   have E:0<=aQ c n:=(aJ.1 (ah e)).1;rw[K]at e E;refine low x ((J x).2 (.inr ?_)) e;have M:x∈mu c n:=(cr w (G n o)).2 (.inl K.symm);rcases (J n).1 o with q|⟨i,v,H,N,_⟩
   ·exact⟨n,q,M,E,D x e⟩
   exact⟨i,v,iO w (c.Z9.length) i n x (aJ.1 (ah (f i v).1)).2 H M,E,D x e⟩
  have I:=b3 x hxd;unfold iG at I;cases m:at_ c x with
  |none=>rw[m]at I;cases I
  | some s=>
    have L:bD c x=true:=u.resolve_right fun e=>by rw[e]at m;simp[at_]at m
    rw[bk m]at L;rw[m]at I;have W:s.kind=1:=by simpa using L
    simp only[W]at I
    have Y:cR (gy c p l) (aw c x true)<=1:=by
     simp at I;omega
    have r1:=r n o;have r2:=r z C;rw[K]at r1;rw[eb]at r2;exact AF Y r1 r2 (low n o B) (low z C X)
 rcases O R P with a|a
 ·exact y R S P Q T A a
 rcases O S Q with b|b
 ·exact(y S R Q P A T b).symm
 exact xH w (G R P) (G S Q) T A Z a b
def uO{c:aq}(h:cD c){d u:Int}(x:fe c u=true){mem:List ed}(z:bu c mem=true)(v:bx c d u=true)(o: -1<=d):Wb c d (n7 c (q9 c u mem) d):=by
 have q:=h.toRight;obtain⟨k,s,rfl,r,g⟩:=fB x;unfold q9;rw[g];simp only;by_cases f:ab s=true
 ·rw[OL f];obtain⟨B,y,C,D,E⟩:=pO h r f
  have i:d=s.parent\/bx c d s.parent=true:=by
   have:=(ag q x).1 v;rw[fH r]at this;exact this.imp Eq.symm id
  have a: ∀t∈hU c s.parent,Wb c d (n7 c [t] d):=fun t n=>by
   obtain⟨t1,t2,_⟩:=bP q n;refine E4 h ((ag q t1).2 (by rw[t2];exact i.imp Eq.symm id)) o ?_;obtain⟨j,p,rfl⟩:=OW.1 n;obtain⟨A,l,_,b,_⟩:=zD p;exact⟨A,by rw[bO];exact l,b⟩
  cases w:mem.find? (fun m=>m.1==(k:Int)) with
  | none=>
    refine a _ ?_;rcases h.cases r with⟨e,_⟩|⟨e,_⟩|⟨e,_⟩|⟨_,_,_,e⟩
    ·omega
    ·omega
    ·omega
    obtain⟨j,p,e⟩:=tB.1 e;exact OW.2 ⟨j,p,e⟩
  | some m=>
    have l:=So w;have b:=(mD z).2 m (Qm w);simp only[P4]at l;unfold mz at b;rw[l,g]at b;simp only at b |-;split at b
    ·rw[OJ,OR]at b;obtain⟨t,n⟩:=Rl.1 b.1;rw[n]at b |-;exact a t (by simpa using b.2)
    rw[OJ,xC h y]at b;exact Iq h y b.2 o i
 rw[OK f];exact E4 h v o ⟨s,g,by simpa using f⟩
def wP{c:aq}{k:Int}{s:pc}(e:at_ c k=some s)(d:ab s=false)(f:fe c k=true):k∈hU c (aQ c k):=by
 obtain⟨j,g,rfl,a,b⟩:=fB f;rw[e]at b;cases b;exact OW.2 ⟨j,ES a (fH a).symm d,rfl⟩
def nB{l:List Int}{ks:List Nat}(c:ks.Nodup){k:Int}(b:k∈zL ks)(h: ∀x∈zL ks,x∈l↔x=k):cR l ks=1:=by
 obtain⟨j,a,rfl⟩:=OW.1 b;unfold cR;rw[filter_one c a fun x d=> ?_]
 ·rfl
 rw[OQ,h _ (OW.2 ⟨x,d,rfl⟩)];omega
def Cy{c:aq}(h:cD c){act:List Int}(Y:Lg c act){d:Int}{P:List Int}(D:Wb c d P)(X:d= -1\/(d∈act/\bD c d=true)){O:List Nat}(hO:O.Pairwise (· < ·))
 (R: ∀x,x∈zL O↔(x∈act/\bx c d x=false)\/Gr c P x):F' c (zL O)=true/\ ∀x,bx c d x=false->(x∈zL O↔x∈act):=by
 have l:=h.toRight
 have W: ∀x,Gr c P x->bx c d x=true/\(aQ c x=d\/Gr c P (aQ c x))/\ ∃s,at_ c x=some s/\ab s=false:=fun x g=>by
  induction g with
  |base f=>exact⟨D.bel _ f,(D.up _ f).imp id .base,D.real _ f⟩
  | ini g hp hn h0 ih=>
    have n:=lR h hp h0;obtain⟨t,p,_⟩:=bP l n;refine⟨(ag l t).2 (.inr (by rw[p];exact ih.1)), .inr (by rw[p];exact g),?_⟩;obtain⟨j,m,e⟩:=OW.1 n;obtain⟨s,E,_,i,_⟩:=zD m;exact⟨s,by rw[<-e,bO];exact E,i⟩
  | par g hp n ih=>
    obtain⟨t,p,_⟩:=bP l n;refine⟨(ag l t).2 (.inr (by rw[p];exact ih.1)), .inr (by rw[p];exact g),?_⟩;obtain⟨j,m,e⟩:=OW.1 n;obtain⟨s,E,_,i,_⟩:=zD m;exact⟨s,by rw[<-e,bO];exact E,i⟩
 have o: ∀x,bx c d x=false->(x∈zL O↔x∈act):=fun x f=>by
  rw[R];refine⟨fun w=>w.elim (fun a=>a.1) fun g=> ?_,fun w=> .inl ⟨w,f⟩⟩;rw[(W x g).1]at f;cases f
 have N: ∀x,bx c d x=true->(x∈zL O↔Gr c P x):=fun x f=>by
  rw[R];refine⟨fun w=>w.elim (fun a=> ?_) id, .inr⟩;rw[f]at a;cases a.2
 have K: ∀x,bD c x=true\/x= -1-> ∀t p,Gr c P t->Gr c P p->aQ c t=x->aQ c p=x->t=p:=fun x f t p U V E i=>by
  have I: ∀k,Gr c P k->aQ c k=x->k∈P\/(k=mG c x/\(∀k∈hU c x,k∉P)/\bD c x=true):=fun k g e=>by
   rcases g.real h with a|⟨Z,L,a3⟩
   ·exact .inl a
   rw[e]at Z L a3;rcases f with f|f
   ·exact .inr ⟨(a3 f).1,(a3 f).2,f⟩
   rw[f]at L;have:=(aJ.1 (ah (W _ L).1)).1;omega
  have kz: ∀k∈P,aQ c k=x->k∈hU c x:=fun k n e=>by
   obtain⟨s,q1,q2⟩:=D.real k n;rw[<-e];exact wP q1 q2 (ah (D.bel k n))
  rcases I t U E with a|⟨Z,L,_⟩
  ·rcases I p V i with b|⟨b1,b2,_⟩
   ·exact D.one x f t a p b E i
   exact absurd a (b2 t (kz t a E))
  rcases I p V i with b|⟨b1,b2,_⟩
  ·exact absurd b (L p (kz p b i))
  rw[Z,b1]
 have v:cR (zL O) (aw c d true)=1:=by
  obtain⟨k,n,e⟩:=D.has;obtain⟨s,q1,q2⟩:=D.real k n;have Q:=wP q1 q2 (ah (D.bel k n));rw[e]at Q;refine nB (bQ c d true) Q fun x f=> ?_;obtain⟨x1,x2,_⟩:=bP l f;rw[N x ((ag l x1).2 (.inl x2))];refine⟨fun g=>K d ?_ x k g (.base n) x2 e,fun e=>by rw[e];exact .base n⟩;rcases X with e|e
  ·exact .inr e
  exact .inl e.2
 have hb: ∀k∈O,k<c.Z9.length:=fun k n=>by
  rcases (R k).1 (OW.2 ⟨k,n,rfl⟩) with a|a
  ·obtain⟨_,_,z,_⟩:=Y.of a.1;exact ak.1 z
  exact ak.1 (ah (W _ a).1)
 refine⟨Mm hO (fun k n=> ?_) ?_,o⟩
 ·have hkO:(k:Int)∈zL O:=OW.2 ⟨k,n,rfl⟩
  have key: ∃s,at_ c (k:Int)=some s/\ab s=false/\(s.parent<0\/s.parent∈zL O)/\(s.kind=1->aw c k true≠[]->cR (zL O) (aw c k true)=1)/\(s.kind=2->cR (zL O) (aw c k true)=(aw c k true).length):=by
   rcases (R k).1 hkO with⟨ka,kn⟩|g
   ·obtain⟨s,A,hz,H,hp,f1,f2⟩:=Y.of ka;have C:aQ c (k:Int)=s.parent:=by unfold aQ;rw[A]
    rw[C]at hp;refine⟨s,A,H,?_,?_⟩
    ·rcases hp with hp|hp
     ·exact .inl hp
     ·refine .inr ((o _ ?_).2 hp);cases w:bx c d s.parent with
      |false=>rfl
      | true=>
        rw[(ag l hz).2 (.inr (by rw[C];exact w))]at kn;cases kn
    by_cases e:d=k
    ·rw[<-e];refine⟨fun _ _=>v,fun i=> ?_⟩;have u:=(X.resolve_left (by omega)).2;rw[e,bk A,i]at u;cases u
    have T:cR (zL O) (aw c k true)=cR act (aw c k true):=by
     unfold cR
     congr 1
     apply QK;intro j m;have G:(j:Int)∈hU c k:=OW.2 ⟨j,m,rfl⟩;obtain⟨S,J,_⟩:=bP l G;rw[PC,OQ,OQ];refine o _ ?_;cases w:bx c d (j:Int) with
     |false=>rfl
     | true=>
       rcases (ag l S).1 w with q|q
       ·rw[J]at q;exact absurd q.symm e
       rw[J,kn]at q;cases q
    rw[T];exact⟨f1,f2⟩
   obtain⟨U,V,s,A,H⟩:=W k g;have hz:=ah U;have C:aQ c (k:Int)=s.parent:=by unfold aQ;rw[A]
   have r: ∀j∈hU c (k:Int),(j∈zL O↔Gr c P j):=fun j m=>by
    obtain⟨S,J,_⟩:=bP l m;exact N j ((ag l S).2 (.inr (by rw[J];exact U)))
   refine⟨s,A,H,?_,fun e hne=> ?_,fun e=> ?_⟩
   ·rw[<-C];rcases V with q|q
    ·rw[q];rcases X with e|e
     ·exact .inl (by omega)
     exact .inr ((o d (K9 l)).2 e.1)
    exact .inr ((R _).2 (.inr q))
   ·have u:bD c (k:Int)=true:=by rw[bk A,e];rfl
    have y:0<=mG c (k:Int)/\mG c (k:Int)∈hU c (k:Int):=by
     rcases lT h A with⟨_,i|i⟩|⟨i,_⟩|⟨i,_⟩|⟨i|i,_⟩
     ·exact absurd i hne
     ·exact i
     all_goals omega
    by_cases hex: ∃j∈hU c (k:Int),j∈P
    ·obtain⟨j,m,B⟩:=hex;refine nB (bQ c k true) m fun x f=> ?_;rw[r x f];exact⟨fun gx=>K k (.inl u) x j gx (.base B) (bP l f).2.1 (bP l m).2.1,fun e=>by rw[e];exact .base B⟩
    have hno: ∀j∈hU c (k:Int),j∉P:=fun j m B=>hex ⟨j,m,B⟩;refine nB (bQ c k true) y.2 fun x f=> ?_;rw[r x f];have gi:Gr c P (mG c (k:Int)):= .ini g u hno y.1;exact⟨fun gx=>K k (.inl u) x _ gx gi (bP l f).2.1 (bP l y.2).2.1,fun e=>by rw[e];exact gi⟩
   rw[jz];intro j m;exact(r j m).2 (.par g (by rw[bk A,e];rfl) m)
  obtain⟨s,A,t,p,k3,k4⟩:=key;have M:vA c (zL O) (k:Int)=yX c (zL O) k s:=by unfold vA;rw[A];rfl
  rw[M];unfold yX;rw[t,OJ,OJ];refine⟨⟨rfl,?_⟩,?_⟩
  ·rw[PS,OR];exact p.imp id fun q=>OQ.2 q
  split
  ·rename_i e;simpa using k3 e.1 e.2
  split
  ·rename_i e;simpa using k4 e
  rfl
 rcases X with e|e
 ·rw[e]at v;exact v
 ·rw[<-Y.top];unfold cR
  congr 1
  apply QK;intro j m;have G:(j:Int)∈hU c (-1):=OW.2 ⟨j,m,rfl⟩;obtain⟨S,J,_⟩:=bP l G;have hd0:=(Y.of e.1);obtain⟨_,_,dz,_⟩:=hd0;rw[PC,OQ,OQ];refine o _ ?_;cases w:bx c d (j:Int) with
  |false=>rfl
  | true=>
    rcases (ag l S).1 w with q|q
    ·rw[J]at q;have:=(aJ.1 dz).1;omega
    rw[J]at q;have:=(aJ.1 (ah q)).1;omega
abbrev i9(l:List ed):AV:= .seq 2 (l.map fi)
def Jb{s:pc} :ab s=false->s.kind≠4/\s.kind≠5:=fun h=>by
 unfold ab at h;simpa using h
def zC(s:pc)(k:Int)(mem:List ed):List Int:=match mem.find? (fun m=>m.1==k) with|some m=>m.2|none=>[s.initial]
def DX{s:pc}{k:Int}{mem:List ed}{m:ed}(h:mem.find? (fun m=>m.1==k)=some m):zC s k mem=m.2:=by unfold zC;rw[h]
def DY{s:pc}{k:Int}{mem:List ed}(h:mem.find? (fun m=>m.1==k)=none):zC s k mem=[s.initial]:=by unfold zC;rw[h]
def H6(env:b7)(c:aq)(z:Right c)(B:h9 c)(k:Nat)(s:pc)(a:c.Z9[k]? =some s)(mem:List ed)(K:mem.length<=1000000)(A: ∀m∈mem,m.2.length<=4096):cy prog env 245 [aH c,I k,i9 mem] (.own 3 1 ((q9 c k mem).map aa)):=by
 have w:=z.Z6;have f0:=ap env c B;have J:=(OG.1 a).1;have v:((k:Nat):Int)< (c.Z9.length:Int):=by omega
 have u:at_ c (k:Int)=some s:=by rw[bO];exact a
 have g:q9 c k mem=if ab s=true then(zC s k mem) else [(k:Int)]:=by unfold q9;rw[u];rfl
 rw[g];unfold aH at f0 |-;cases d:ab s with
 | false=>
   rw[OK (by simp)];obtain⟨C,D⟩:=Jb d;have h:(s.kind==4)=false:=by simpa using C
   have i:(s.kind==5)=false:=by simpa using D
   refine qf func245 call245 ntmps245 results245 ?_;have F:=vb WH WI v a h i jF;exact nb f0
 | true=>
   rw[OL rfl]
   have l:((s.kind==4)=true)\/((s.kind==4)=false/\(s.kind==5)=true):=by
    unfold ab at d;cases f:(s.kind==4) with
    |true=>exact .inl rfl
    |false=>rw[f]at d;exact .inr ⟨rfl,by simpa using d⟩
   have e: ∀h i:Bool,(s.kind==4)=h->(s.kind==5)=i->(h=true\/i=true)->cy prog env 245 [.ref 9 [aK c] 0 0,I k,i9 mem] (.own 3 1 ((zC s k mem).map aa)):=fun h i f t y=>by
    cases h<;>cases i<;>(try simp at y)<;>
    ·refine qf func245 call245 ntmps245 results245 ?_;have F:=vb WH WI v a f t jF;repeat refine g8 f0 ?_
     have F:=aA.eq_1;refine lq mem.length (by omega) (fun j G=>[(1,I k),(7, .loc 7 (G 7) 0 0),(27,i9 mem),(28,I mem.length),(29,I j)]) (fun _ _=>[(7,⟨5,[aA c],26,false⟩)]) (fun j _ _=>mem.find? (fun m=>m.1==(k:Int))=(mem.drop j).find? (fun m=>m.1==(k:Int))) rfl ?_ ?_
     ·rintro j H r n q E b;obtain⟨x,p⟩:=gE n;rw[wh p]at b;have f1:=dU env (x.2.map aa) (by rw[O4];exact A x (OM p));cases o:(x.1==(k:Int)) with
      | true=>
        rw[o]at b;simp only[PW]at b;rw[DX b];have F:=mX WS p q o;exact nb f1
      | false=>
        rw[o]at b;simp only[On,P8]at b;have F:=ld WS p q E o;repeat refine g8 f1 ?_
        refine⟨j+1,⟨n,b⟩,?_,?_,by omega⟩
        ·exact qe
        have F:=aA.eq_1;exact qe
     rintro H r q b;rw[Q3,Tl]at b;rw[DY b];have F:=ld WH WI v q a;exact nb f0
   rcases l with f|⟨f,t⟩
   ·exact e _ _ f rfl (.inl rfl)
   exact e _ _ f t (.inr rfl)
def Bd{c:aq}(h:cD c){l:List Int}(a:l.Nodup)(d: ∀x∈l,fe c x=true):(rn c l).length<=32:=by
 refine O3 (jE (lC c _ _ _ a) fun x b=> ?_) h.toRight.Z6;exact((gJ h a).1 b).in h d
def L8(c:aq)(a b:Int)(mem:List ed):List Nat:=ca c (rn c (n7 c (q9 c b mem) (DA c a b)))
def Ly{c:aq}(h:cD c){b:Int}(i:fe c b=true){mem:List ed}(j:bu c mem=true):(∀x∈q9 c b mem,fe c x=true)/\(q9 c b mem).length<=1000000:=by
 obtain⟨d1,_,d3⟩:=vJ h i i;have o:=uO h i j d1 (by rcases d3 with e|e<;>omega);have k: ∀x∈q9 c b mem,fe c x=true:=fun x g=>ah (o.bel x ((iy.2 x).2 (.inl g)));refine⟨k,?_⟩;unfold q9;split
 ·rename_i s p;split
  ·split
   ·rename_i m l;have a:=(mD j).2 m (Qm l);unfold mz at a;split at a
    ·split at a
     ·rw[OJ,OR]at a;omega
     unfold O' at a;simp only[OJ]at a;have n:=a.2.1.1.1;have f:m.2.Nodup:=mq n
     have d: ∀x∈m.2,fe c x=true:=fun x g=>by
      have:=OP.1 a.2.1.1.2 x g;unfold dp at this;rw[OJ]at this;exact ah this.1
     exact O3 (jE f d) (by have:=h.toRight.Z6;omega)
    cases a
   simp
  simp
 simp
def CY(env:b7)(c:aq)(h:cD c)(j:h9 c)(t:Fr)(f:fe c t.src=true)(g:fe c t.target=true)(mem:List ed)(r:mem.length<=1000000)(u: ∀m∈mem,m.2.length<=4096)(b:bu c mem=true):
 cy prog env 227 [aH c, .agg (cN t),i9 mem] (.own 3 1 ((L8 c t.src t.target mem).map aB)):=by
 have a:=h.toRight;obtain⟨k,s,e,n,_⟩:=fB g;obtain⟨o,w⟩:=Ly h g b;obtain⟨p,B⟩:=iy (c:=c) (d:=DA c t.src t.target) (l:=q9 c t.target mem)
 have q: ∀x∈n7 c (q9 c t.target mem) (DA c t.src t.target),fe c x=true:=fun x v=>by
  rcases (B x).1 v with h|⟨i,_,y,z,_⟩
  ·exact o x h
  exact(iZ a y z).1
 have f0:=bJ env c;have f1:=H6 env c a j k s n mem r u;rw[<-e]at f1;have f2:=nQ env c a j t f;have f3:=Ke env c a (q9 c t.target mem) w o (DA c t.src t.target);have f4:=Be env c h j _ p q;have f5:=fZ env c a (rn c (n7 c (q9 c t.target mem) (DA c t.src t.target))) (by have:=Bd h p q;omega);unfold L8;generalize rn c (n7 c (q9 c t.target mem) (DA c t.src t.target))=G at*;generalize n7 c (q9 c t.target mem) (DA c t.src t.target)=U at*;generalize q9 c t.target mem=A at*;unfold cN at f2;unfold aS at f0 f5;unfold aH at f0 f1 f2 f3 f4 |-;refine qf func227 call227 ntmps227 results227 ?_;have F:=cN.eq_1;exact Wj f0 f1 f2 f3 f4 f5
def dF{a:Type}{l:List a}{n:Nat}{x:a}(h:l[n]? =some x):l.take (n+1)=l.take n++[x]:=by rw[Ot,h];rfl
def bV{a:Type}{l:List a}{n:Nat}{x:a}(h:l[n]? =some x):l.drop n=x::l.drop (n+1):=by
 obtain⟨c,b⟩:=OG.1 h;rw[QM c,b]
def mI(p:Int->Bool):List Int->Option Nat
 |[]=>none
 |d::l=>if p d=true then some 0 else(mI p l).map (· +1)
def mJ:Option Nat->Int
 |some i=>i
 |none=> -1
def Xf:=@mJ.eq_1
def pt{p:Int->Bool} : ∀ {l:List Int}{i:Nat},mI p l=some i->i<l.length/\l.take i=(l.take i).filter (fun d=> !p d)/\ ∃d,l[i]? =some d/\p d=true
 |[],i,h=>by simp[mI]at h
 | d::l,i,h=>by
   unfold mI at h;split at h
   ·rename_i a;cases h;exact⟨by simp,by simp,d,rfl,a⟩
   ·rename_i a;cases b:mI p l with
    |none=>rw[b]at h;cases h
    | some j=>
      rw[b]at h;cases h;obtain⟨g,c,x,e,f⟩:=pt b;refine⟨by simp;omega,?_,x,by simpa using e,f⟩;have a:p d=false:=by simpa using a
      simp only[SC,QH,a,Pb,PW];rw[<-c]
def pu{p:Int->Bool} : ∀ {l:List Int},mI p l=none->l.filter (fun d=> !p d)=l/\ ∀d∈l,p d=false
 |[],h=>by simp
 | d::l,h=>by
   unfold mI at h;split at h
   ·cases h
   ·rename_i a;have a:p d=false:=by simpa using a
    cases c:mI p l with
    |some j=>rw[c]at h;cases h
    | none=>
      obtain⟨e,f⟩:=pu c;refine⟨by simp only[QH,a,Pb,PW,e],fun x b=> ?_⟩;rcases O7.1 b with rfl|b
      ·exact a
      exact f x b
def Hh{p:Int->Bool}{l:List Int}{n:Nat}{d:Int}(a:l[n]? =some d):mI p (l.drop n)=if p d=true then some 0 else(mI p (l.drop (n+1))).map (· +1):=by
 rw[bV a];rfl
def qd(env:b7)(l:List Int)(p:Int->Bool)(g:FuncId)(a:List (List AV))(m: ∀d,cy prog env g [I d, .ref 1 a 0 0] (B (p d)))(o:l.length<=4096):cy prog env 225 [.seq 1 (l.map aa), .clo g [.ref 1 a 0 0]] (I (mJ (mI p l))):=by
 refine qf func225 call225 ntmps225 results225 ?_;repeat refine sm ?_
 refine UC l.length (by omega) (fun n i=>[(0, .seq 1 (l.map aa)),(1, .clo g [.ref 1 a 0 0]),(7,I l.length),(8,I n)]) (fun n i=>[]) (fun n _ c=>mI p l=(mI p (l.drop n)).map (· +n)) (by simp) ?_ ?_
 ·rintro n i c e f j b;obtain⟨d,h⟩:=gE e;have f1:=m d;rw[Hh h]at b;cases k:p d
  ·rw[k]at b f1;simp only[On,P8]at b;have F:=jw h f j;repeat refine st ?_
   refine oC (cB rfl (by simp only[go_sem,F];exact iR)) (f1) (by simp only[go_sem,F];exact iR) (by simp only[go_sem,F];exact⟨rfl,rfl⟩) ?_;repeat refine st ?_
   refine⟨n+1,⟨e,?_⟩,?_,?_,?_⟩
   ·rw[b];cases mI p (l.drop (n+1))
    ·rfl
    simp;omega
   ·exact qe
   ·exact qe
   omega
  rw[k]at b f1;simp only[PW,O0,PR]at b;rw[b];have F:=ld h f j Xf mJ.eq_2;repeat refine st ?_
  refine oC (cB rfl (by simp only[go_sem,F];exact iR)) (f1) (by simp only[go_sem,F];exact iR) (by simp only[go_sem,F];exact⟨rfl,rfl⟩) ?_;exact fl
 rintro i c f b;rw[Pp (by omega)]at b;rw[b];have F:=jw f Xf mJ.eq_2;repeat (first|refine oO rfl (by simp only[go_sem,mI,F];exact⟨rfl,rfl⟩) ?_|refine gR ?_|refine gO ?_|refine oZ (ki ?_)|refine oZ ?_|refine oS ?_|refine gT ?_|refine gD mixed ?_|refine oB ?_|refine oK ?_|(refine oX ?_;simp only[bR,bf, ↓reduceIte,Nat.reduceEqDiff,reduceCtorEq])|refine oY (by simp only[go_sem,mI,F];exact iR) ?_|refine oN (by simp only[go_sem,mI,F];exact iR) ?_)
 (refine aO ?_;show (au _ _ _).run _=some _;simp only[go_sem,mI,F])
def Nh(G act:List Int):List Int:=act.filter fun i=> !G.contains i
def Wx(G act:List Int)(T:List Nat):List Int:=Lib.compact (bi (Nh G act++zL T))
def pV(l:List Int):(bi l).length=l.length:=by unfold bi;rw[List.length_mergeSort]
end
section
open Go.RowKit Go.ChangeShapes
def Tryz.tabArr:prog.underlying 208=some (.array 32 5):=by kernel_rfl
def MU:prog.cellsOf 5=1:=by kernel_rfl
def NB{W:World}{g t:Nat}{cs:Array Value}{fuel:Nat}{p:List MemPlace}(o:prog.globalNamed "math/bits.deBruijn32tab" =some g)(x:(prog.globals[g]?).map (·.type)=some t)(y:W.var? prog "math/bits.deBruijn32tab" =some cs)
 (v:DataW.trod (fun _=>()) prog W 0 (fun _=>true) false fuel t cs.toList=some (Rows.laid_math_bits_deBruijn32tab,p)):sy W:=by
 obtain rfl:4=g:=Pq ((show prog.globalNamed "math/bits.deBruijn32tab" =some 4 by kernel_rfl).symm.trans o);obtain rfl:208=t:=Pq ((show (prog.globals[4]?).map (·.type)=some 208 by kernel_rfl).symm.trans x);obtain⟨c,m,_,r,_,z,l⟩:=DataW.trod_array Tryz.tabArr v;simp only[RU]at r;intro j q;have h:=l j q;rw[MU,RJ]at h;have d:c[j]? =some (c[j]'(by omega)):=OE _;rw[d]at h;obtain⟨n,s,u,_⟩:=QP Tryz.underlying5 h
 have b:cs[j]? =some (.int .u8 n):=by
  have:((cs.toList.drop j).take 1)[0]? =some (.int .u8 n):=by rw[s];rfl
  rw[Om,OL (by omega),PY,QT]at this;simpa using this
 have f:(Rows.laid_math_bits_deBruijn32tab:DataW Unit)= .agg (c.map (·.1)):=r.1
 have a:(c.map (·.1))[j]? =(Lib.deBruijn32tab.map fun(k:Nat)=>DataW.lit (H:=Unit) (.int .u8 (k:Int)))[j]? :=by
  have e:(Lib.deBruijn32tab.map fun(k:Nat)=>DataW.lit (H:=Unit) (.int .u8 (k:Int)))=c.map (·.1):=by
   have:DataW.agg (Lib.deBruijn32tab.map fun(k:Nat)=>DataW.lit (H:=Unit) (.int .u8 (k:Int)))=DataW.agg (c.map (·.1)):=by
    rw[<-f];rfl
   injection this
  rw[e]
 rw[OS,d,OS]at a
 have i:Lib.deBruijn32tab[j]? =some (Lib.deBruijn32tab.getD j 0):=by
  have:j<Lib.deBruijn32tab.length:=by simpa[Lib.deBruijn32tab]using q
  simp[List.getD,OE this]
 rw[i]at a;simp only[O0,OH,u]at a
 have w:n=((Lib.deBruijn32tab.getD j 0:Nat):Int):=by
  have:=a;injection this with this
  injection this
 rw[T5 o y j,b,w]
def KQ{P:Program}{env:b7}{f:FuncId}{cs:List AV}{u:Value}{w:World}{vs:List Value}(h:cy P env f cs (.lit u))(c:zE env (fun b _=>b<w.heap.size) w)(a:VX (fun b _=>b<w.heap.size) w vs cs):
 Calls P f vs.toArray w fun e w'=>e= .returned u/\Below w.heap.size w w':=(KR h c (fun _ _ _=>by simp) a).mono (by
 rintro e w' ⟨v,rfl,d,_,a⟩
 exact⟨by rw[a.lit_inv],d⟩)
end
section
open Go.RowKit Go.ChangeShapes
end
end Go.Proofs.YtfcdkaolcdglmaaGreatDoor
