/- The law of entering: its small functions; awake; what a nil table tells. -/
import Derived.Test.YtfhkmjbjafeckaaGreatDoorQ19
set_option maxRecDepth 100000
set_option maxHeartbeats 16000000
set_option linter.unusedSimpArgs false
set_option linter.defProp false
namespace Go.Proofs.YtfhkmjbjafeckaaGreatDoor
open Go.Proofs.Tryz
section
open Go.RowKit
def xP(l:List Int)(x:Int):gP (l++[x])=gP l++[[I x,I 1]]:=by unfold gP;rw[NC];rfl
def dC(L K:List Int)(j:Nat):List Int:=(K.take j).filter fun k=> !L.contains k
def EZ{L K:List Int}{j:Nat}{x:Int}(h:K[j]? =some x):dC L K (j+1)=if L.contains x=true then dC L K j else dC L K j++[x]:=by
 unfold dC;rw[N4,h,N6];cases a:L.contains x<;>simp only[PC,a,Oh,OW,NW,Nn,OB,SA,OM,Qo]
def IM{L K:List Int}{j:Nat}{x:Int} :x∈dC L K j↔x∈K.take j/\x∉L:=by
 unfold dC;rw[NF];simp
def tB{K:List Int}(d:K.Nodup){j:Nat}{x:Int}(h:K[j]? =some x):x∉K.take j:=fun b=>by
 obtain⟨k,f,e⟩:=Qb.1 b;obtain⟨c,a⟩:=Mt.1 h;have:=(List.getElem_inj d (h₀:=by omega) (h₁:=c)).1 (e.trans a.symm);omega
def Fw{l:List Int}{k:Int}{i:Nat}(h:l[i]? =some k):(gP l)[i]? =some [I k,I 1]:=by unfold gP;rw[NE,h];rfl
def CE(env:cf)(c:aq)(h:ct c)(hs:hP c)(l:List Int)(hn:l.Nodup)(hz: ∀x∈l,fi c x=true):b8 prog env 267 [aG c, .seq 1 (l.map aa)] (.seq 1 ((py c l).map aa)):=by
 have hc:=h.toRight;have v:=hc.Z6;have hl32:l.length<=32:=NN (jK hn hz) v;have f0:=ay env c hs;have w1:IntKind.i64.wrap (0+1)=1:=rfl;have w2: ¬(0:Int)<0:=by omega
 have w3:(0:Int)<1:=by omega
 unfold aG at f0 |-;refine qf func267 call267 ntmps267 results267 ?_;repeat refine nw ?_
 refine yC ?_;have F:=aA.eq_1;repeat refine ff f0 ?_
 refine aH (D:=Nat) (fun j u=>[(0, .ref 9 [cy c] 0 0),(1, .seq 1 (l.map aa)),(5, .loc 5 (u 5) 0 0),(6, .mp 18 (u 18)),(19, .seq 1 (l.map aa)),(20,I l.length),(21,I j)]) (fun j _=>[(5,⟨5,[aA c],26,false⟩),(18,⟨0,gP (l.take j),346,true⟩)]) (fun j _ _=>j<=l.length) (fun j=>l.length-j) 0 ?_ ?_ ?_ ?_
 ·exact NJ _
 ·(simp only[go_sem,F])
  try rfl
 ·have F:=aA.eq_1
  (simp only[go_sem,F])
  try rfl
 ·rintro j ws esc hj;by_cases a:j<l.length
  ·obtain⟨x,b⟩:=gE a;have R:=ip a;have q2:=aD a (by omega);have M:=mQ x (l.take j) 0;rw[lr (tB hn b)]at M;have ht:gP (l.take (j+1))=gP (l.take j)++[[I x,I 1]]:=by rw[N4,b];exact xP _ _
   have F:=ii b R q2 M w1;repeat refine st ?_
   refine⟨j+1,a,?_,?_,by omega⟩
   ·exact qe
   have F:=ht;exact qe
  obtain rfl:j=l.length:=by omega
  have R:=nl l.length;rw[NS];have F:=R;repeat refine st ?_
  refine yD ?_;show fq _ _ _ _ _ _;repeat refine st ?_
  refine aH (D:=List Int×List Int) (fun d u=>[(0, .ref 9 [cy c] 0 0),(1, .seq 1 (d.1.map aa)),(5, .loc 5 (u 5) 0 0),(6, .mp 18 (u 18)),(9, .seq 1 (d.2.map aa))]) (fun d _=>[(5,⟨5,[aA c],26,false⟩),(18,⟨0,gP d.1,346,true⟩)])
   (fun d _ _=>Grown c l d.1 d.2/\d.1.Nodup/\jC c (n7 c d.1+d.2.length) d.1 d.2=py c l) (fun d=>n7 c d.1+d.2.length) (l,l) ?_ ?_ ?_ ?_
  ·exact⟨qx hn,hn,rfl⟩
  ·(simp only[go_sem,F])
   try rfl
  ·(simp only[go_sem,F])
   try rfl
  try clear hj a R
  rintro⟨L,T⟩ ws esc ⟨X,H,S⟩;simp only at X H S;have J: ∀x∈L,fi c x=true:=fun x b=>(X.gr x b).in h hz;have hL32:L.length<=32:=NN (jK H J) v;have hT32:T.length<=32:=NN (jK X.nd fun x b=>J x (X.todo x b)) v;cases T with
  | nil=>
    have hL:py c l=L:=by
     rw[<-S];cases n7 c L+([]:List Int).length<;>rfl
    rw[hL];have R: ¬(0:Int)<0:=by omega
    have F:=R;exact fc
  |cons i r=>
  have hi:=X.todo i (by simp);obtain⟨k,s,rfl,C,hat⟩:=dB (J i hi);have hk:=(Mt.1 C).1;have R:(0:Int)< (((k:Int)::r).length:Int):=by simp only[NQ];omega
  have q2:((k:Nat):Int)< (c.Z9.length:Int):=by omega
  have q3:(((k:Int)::r).drop 1).take (((k:Int)::r).length-1)=r:=by simp
  have q4:(1:Int)<=(((k:Int)::r).length:Int):=by simp only[NQ];omega
  have q5:((k:Int)::r)[0]? =some (k:Int):=rfl;have f1:=bc env c h k;rw[Mw (.inr (J _ hi)), <-bl]at f1;unfold aG at f1;have hKd:zL (av c (k:Int) true)=hH c (k:Int):=rfl;rw[hKd]at f1;have w:=uj C;have P:kW c (k:Int)=s.initial:=by unfold kW;rw[hat]
  have f:=X.step h;have hmiss:=lT (c:=c) (l:=L) (fv c L k) fun x b=>⟨(fM h b).1,(fM h b).2.1⟩
  have hgr':jC c (n7 c L+r.length) (L++jT c L k) (r++jT c L k)=py c l:=by
   rw[<-S,NQ,show n7 c L+(r.length+1)=(n7 c L+r.length)+1 by omega];rfl
  have q:jC c (n7 c (L++jT c L k)+(r++jT c L k).length) (L++jT c L k) (r++jT c L k)=py c l:=by
   rw[<-hgr'];refine xQ h f ?_ ?_
   ·exact ND _
   rw[NA];omega
  have V:(L++jT c L k).Nodup:=by
   rw[O8];exact⟨H,fv c L k,fun x b y Q e=>(fM h Q).1 (by rw[<-e];exact b)⟩
  have U:n7 c (L++jT c L k)+(r++jT c L k).length<n7 c L+((k:Int)::r).length:=by
   rw[NA,NQ];omega
  generalize z:hH c (k:Int)=G at*;have hKn:G.Nodup:=by rw[<-z];exact tW c k
  have hK32:G.length<=32:=by
   rw[<-z,hH,ar];exact bU hc k true
  have fin: ∀x:Int,x∉L->sm prog 3 (I x) (gP L) 0=some none:=fun x b=>by rw[mQ,lr b]
  have Z: ∀x:Int,x∈L-> ∃p,sm prog 3 (I x) (gP L) 0=some (some p)/\(gP L)[p]? =some [I x,I 1]:=fun x b=>by
   obtain⟨p,h1,h2⟩:=qG (n:=0) b;exact⟨p,by rw[mQ,h1,OI],Fw h2⟩
  generalize hT:(k:Int)::r=T at*;have F:=qr R q2 q3 q4 q5 C Us Ut;repeat refine ff f1 ?_
  refine Fv (D:=List Int) (fun K u=>[(0, .ref 9 [cy c] 0 0),(1, .seq 1 (L.map aa)),(5, .loc 5 (u 5) 0 0),(6, .mp 18 (u 18)),(9, .seq 1 (r.map aa)),(11, .seq 1 (K.map aa))]) (fun _ _=>[(5,⟨5,[aA c],26,false⟩),(18,⟨0,gP L,346,true⟩)]) (fun K _ _=>K=pT c L k) ?_ ?_
  ·refine dy ?_;by_cases hk1:s.kind=1
   ·have Y:(s.kind==1)=true:=by simp[hk1]
    rw[Y]at w;have F:=Y;repeat refine st ?_
    have F:=aA.eq_1;refine lq G.length (by omega) (fun j u=>[(0, .ref 9 [cy c] 0 0),(1, .seq 1 (L.map aa)),(5, .loc 5 (u 5) 0 0),(6, .mp 18 (u 18)),(9, .seq 1 (r.map aa)),(10,I k),(49, .row 41 (u 41)),(50,I G.length),(51,I j)]) (fun _ _=>[(5,⟨5,[aA c],26,false⟩),(18,⟨0,gP L,346,true⟩),(41,⟨1,G.map aa,3,true⟩)]) (fun j _ _=> ∀m (y:Int),m<j->G[m]? =some y->y∉L) (fun m y M=>absurd M (by omega)) ?_ ?_
    ·rintro j us es a E p2 W;obtain⟨x,b⟩:=gE a;by_cases g:x∈L
     ·obtain⟨p,m1,m2⟩:=Z x g
      have hnk:jT c L k=[]:=by
       unfold jT pT;rw[Mw w,z,Mw (OG.2 ⟨x,My b,Mz.2 g⟩)];rfl
      rw[hnk,OM,OM]at q U f;have F:=kv b E p2 m1 m2 w3;repeat refine st ?_
      refine⟨_,dg.refl _,(L,r),⟨f,H,q⟩,?_,?_,U⟩
      ·exact qe
      have F:=aA.eq_1;exact qe
     have m1:=fin x g;have F:=ii b E p2 m1 w2;repeat refine st ?_
     refine⟨j+1,⟨a,fun m y M Q=> ?_⟩,?_,?_,by omega⟩
     ·rcases PX.1 M with e|e
      ·exact W m y e Q
      rw[e,b]at Q;cases Q;exact g
     ·exact qe
     have F:=aA.eq_1;exact qe
    rintro us es E W
    have O:(hH c (k:Int)).any (fun k=>L.contains k)=false:=by
     rw[Q0];intro y Q;rw[z]at Q;obtain⟨m,M⟩:=Ox.1 Q;have:=W m y (Mt.1 M).1 M;simpa using this
    by_cases h0:0<=s.initial
    ·have o:pT c L k=[s.initial]:=by
      unfold pT;rw[Mw w,Mv (by rw[O];simp),P,Mw h0]
     have F:=kv E h0 q2 C Us Ut;repeat refine st ?_
     refine⟨_,dg.frozen 73 11 ⟨1,[[I s.initial]],3,true⟩ rfl (Ng 0) (by simp only[go_sem]) (by simp only[go_sem]),[s.initial],o.symm,?_,?_⟩
     ·exact qe
     have F:=aA.eq_1;exact qe
    have o:pT c L k=[]:=by
     unfold pT;rw[Mw w,Mv (by rw[O];simp),P,Mv h0]
    have F:=kv E h0 q2 C Us Ut;repeat refine st ?_
    refine⟨_,dg.nil 11 1 (by simp only[go_sem]),[],o.symm,?_,?_⟩
    ·exact qe
    have F:=aA.eq_1;exact qe
   have Y:(s.kind==1)=false:=by simpa using hk1
   rw[Y]at w
   have o:pT c L k=G:=by
    unfold pT;rw[Mv (by rw[w];simp),z]
   have F:=Y;repeat refine st ?_
   refine⟨_,dg.frozen 41 11 ⟨1,G.map aa,3,true⟩ rfl (Ng 0) (by simp only[go_sem]) (by simp only[go_sem]),G,o.symm,?_,?_⟩
   ·exact qe
   have F:=aA.eq_1;exact qe
  intro K us es hK;have N:K.Nodup:=by rw[hK];exact tE c L k
  have hKz: ∀x∈K,fi c x=true:=fun x b=>by
   rw[hK]at b;exact(bN hc (Bh h b)).1
  have hK32b:K.length<=32:=NN (jK N hKz) v;have hadd:dC L K K.length=jT c L k:=by unfold dC jT;rw[NS,hK]
  have hr32:r.length<=32:=by rw[<-hT,NQ]at hT32;omega
  repeat (first|refine oO rfl (by simp only[go_sem,aA];exact⟨rfl,rfl⟩) ?_|refine gR ?_|refine gO ?_|refine oZ (kj ?_)|refine oZ ?_|refine oS ?_|refine gT ?_|refine gD mixed ?_|refine oB ?_|refine oK ?_|(refine oX ?_;simp only[bD,ba, ↓reduceIte,Nat.reduceEqDiff,reduceCtorEq])|refine oY (by simp only[go_sem,aA];exact iR) ?_|refine oN (by simp only[go_sem,aA];exact iR) ?_)
  refine aH (D:=Nat) (fun j u=>[(0, .ref 9 [cy c] 0 0),(1, .seq 1 ((L++dC L K j).map aa)),(5, .loc 5 (u 5) 0 0),(6, .mp 18 (u 18)),(9, .seq 1 ((r++dC L K j).map aa)),(74, .seq 1 (K.map aa)),(75,I K.length),(76,I j)]) (fun j _=>[(5,⟨5,[aA c],26,false⟩),(18,⟨0,gP (L++dC L K j),346,true⟩)]) (fun j _ _=>j<=K.length) (fun j=>K.length-j) 0 ?_ ?_ ?_ ?_
  ·exact NJ _
  ·have:dC L K 0=[]:=rfl;rw[this,OM,OM]
   (simp only[go_sem,aA])
   try rfl
  ·have:dC L K 0=[]:=rfl;rw[this,OM]
   (simp only[go_sem,aA])
   try rfl
  rintro j us es hj;by_cases a:j<K.length
  ·obtain⟨x,b⟩:=gE a;have E:=ip a;have p2:=aD a (by omega);have t:=EZ (L:=L) b;have hal:(dC L K j).length<=32:=NN (NV ..) (by rw[NK];omega);refine dy ?_;by_cases g:x∈L
   ·rw[Mw (Mz.2 g)]at t;obtain⟨p,m1,m2⟩:=qG (n:=0) (show x∈L++dC L K j from Ns _ g);have m3:=mQ x (L++dC L K j) 0;rw[m1,OI]at m3;have m4:=Fw m2;have F:=ii b E p2 m3 m4;repeat refine st ?_
    refine⟨_,dg.refl _,j+1,a,?_,?_,by omega⟩
    ·have F:=t;exact qe
    have F:=ai t Us;exact qe
   have hxn:x∉L++dC L K j:=fun hh=>by
    rcases N1.1 hh with hh|hh
    ·exact g hh
    exact tB N b (IM.1 hh).1
   rw[Mv (by simpa using g)]at t;have m3:=mQ x (L++dC L K j) 0;rw[lr hxn]at m3;have e1:gP (L++dC L K (j+1))=gP (L++dC L K j)++[[I x,I 1]]:=by rw[t, <-Nj];exact xP _ _
   have e2:L++dC L K (j+1)=(L++dC L K j)++[x]:=by rw[t,Nj]
   have e3:r++dC L K (j+1)=(r++dC L K j)++[x]:=by rw[t,Nj]
   have hf1:dd ((L++dC L K j).length+1) 8:=aC (by rw[NA];omega) (by omega);have hf2:dd ((r++dC L K j).length+1) 8:=aC (by rw[NA];omega) (by omega);generalize hA:L++dC L K j=A at*;generalize hB:r++dC L K j=B at*;have F:=m7 b E p2 m3 w1 hf1 hf2;repeat refine st ?_
   refine⟨_,(dg.frozen 96 1 ⟨1,(A++[x]).map aa,3,true⟩ rfl (Ng 0) (by simp only[go_sem,NC]) (by simp only[go_sem])).trans (dg.frozen 105 9 ⟨1,(B++[x]).map aa,3,true⟩ rfl (Ng 0) (by simp only[go_sem,NC]) (by simp only[go_sem])),j+1,a,?_,?_,by omega⟩
   ·have F:=ai e2 e3;exact qe
   have F:=ai e1 Us;exact qe
  obtain rfl:j=K.length:=by omega
  have E:=nl K.length;rw[hadd];have F:=E;repeat refine st ?_
  refine⟨(L++jT c L k,r++jT c L k),⟨f,V,q⟩,?_,?_,U⟩
  ·exact qe
  have F:=aA.eq_1;exact qe
def k9(c:aq)(a:Int)(mem:List eg):List Int:=match at_ c a with
 | some s=>if aU s=true then(match mem.find? (fun m=>m.1==a) with
   |some m=>m.2
   |none=>[s.initial]) else [a]
 |none=>[]
def xz{c:aq}(h:Right c){i d e m:Int}(g:fi c d=true)(j:fi c e=true)(n:aP c d=i)(o:aP c e=i)(f:fi c m=true)(k:m=d\/d∈kf c m)(l:m=e\/e∈kf c m):d=e:=by
 obtain⟨a,_,rfl,_⟩:=dB g;obtain⟨b,_,rfl,_⟩:=dB j;obtain⟨m,_,rfl,_⟩:=dB f;have:=zH h (eJ.2 ⟨aW.1 g,n⟩) (eJ.2 ⟨aW.1 j,o⟩) (m+1) m (by omega) (aW.1 f) (k.imp (by omega) id) (l.imp (by omega) id);omega
def C7{c:aq}(h:Right c){d:Int} : ∀(n:Nat)(t:Int),t<n->b4 c d t=true-> ∃k,(k=t\/(k∈kf c t/\b4 c d k=true))/\fi c k=true/\aP c k=d
 | 0,t,j,a=>by
   cases f:fi c t with
   |true=>have:=aI.1 f;omega
   |false=>unfold b4 at a;rw[cX f]at a;simp at a
 | n+1,t,j,a=>by
   have b:fi c t=true:=by
    cases f:fi c t with
    |true=>rfl
    |false=>unfold b4 at a;rw[cX f]at a;simp at a
   rcases (aj h b).1 a with e|e
   ·exact⟨t, .inl rfl,b,e⟩
   have o:=dZ h b;obtain⟨k,g,l,m⟩:=C7 h n (aP c t) (by omega) e;refine⟨k, .inr ?_,l,m⟩;rcases g with rfl|⟨g,i⟩
   ·exact⟨(cv h b).2 (.inl rfl),e⟩
   exact⟨(cv h b).2 (.inr g),i⟩
def am{c:aq}{d x:Int}(h:b4 c d x=true):fi c x=true:=by
 cases a:fi c x with
 |true=>rfl
 |false=>unfold b4 at h;rw[cX a]at h;simp at h
def jE{c:aq}(h:Right c){a b d:Int}(f:b4 c a b=true)(e:b4 c b d=true):b4 c a d=true:=by
 have g:=aI.1 (am e);unfold b4 at*;rw[Mz]at*;exact i7 h (c.Z9.length) d b a g.2 e f
def KB{c:aq}(h:Right c){d:Int} :b4 c d d=false:=by
 cases a:b4 c d d with
 |false=>rfl
 | true=>
   unfold b4 at a;have:=(kF h 40 d d (Mz.1 a)).2;omega
def qR{c:aq}(h:Right c){a b:Int} : ∀(n:Nat)(t:Int),t<n->a∈kf c t->b∈kf c t->a=b\/a∈kf c b\/b∈kf c a
 | 0,t,i,d,_=>by
   cases f:fi c t with
   |true=>have:=aI.1 f;omega
   |false=>rw[cX f]at d;simp at d
 | n+1,t,i,d,e=>by
   have g:fi c t=true:=by
    cases f:fi c t with
    |true=>rfl
    |false=>rw[cX f]at d;simp at d
   have j:=dZ h g;rw[cv h g]at d e;rcases d with rfl|d
   ·rcases e with rfl|e
    ·exact .inl rfl
    exact .inr (.inr e)
   rcases e with rfl|e
   ·exact .inr (.inl d)
   exact qR h n _ (by omega) d e
def wA{c:aq}(h:ct c){a e:Int}(k:fi c a=true)(l:fi c e=true):b4 c (n5 c a e) e=true/\n5 c a e∈kf c a/\(n5 c a e= -1\/(0<=n5 c a e/\an c (n5 c a e)=true)):=by
 have i:=h.toRight;have b: ∀ {x},fi c x=true-> -1∈kf c x:=fun {x} j=>sI i (c.Z9.length) x j (aI.1 j).2;unfold n5;cases f:(kf c a).find? (rz c e) with
 | none=>
   rw[Pt]at f;exact absurd rfl (f _ (b k))
 | some d=>
   have h1:=QU f;have g:=Om f;have m:=(kF i 40 _ _ g).1;simp only[OJ];unfold rz at h1;rw[OO,NI,Mx]at h1;rcases h1 with h1|h1
   ·have:d= -1:=by omega
    subst this;exact⟨by unfold b4;rw[Mz];exact b l,g, .inl rfl⟩
   refine⟨h1.2,g,?_⟩;rcases Qu d 0 with q|q
   ·exact .inl (by omega)
   exact .inr ⟨q,h1.1⟩
structure TQ(c:aq)(d:Int)(P:List Int):Prop where
 real: ∀k∈P,∃s,at_ c k=some s/\aU s=false
 Z4: ∀k∈P,b4 c d k=true
 up: ∀k∈P,aP c k=d\/aP c k∈P
 one: ∀x,an c x=true\/x= -1-> ∀k1∈P,∀k2∈P,aP c k1=x->aP c k2=x->k1=k2
 has: ∃k∈P,aP c k=d
def wx{c:aq}{x:Int}(h:az c x=true): ∃s,at_ c x=some s/\aU s=false:=by
 obtain⟨s,b,a⟩:=iD h;refine⟨s,b,?_⟩;unfold aU;rcases a with e|e<;>simp[e]
def Et{c:aq}(h:ct c){d:Int}{l:List Int}(f: ∀x∈l,b4 c d x=true/\ ∃s,at_ c x=some s/\aU s=false)(u:l≠[])(_hd: -1<=d)
 (j: ∀x,an c x=true\/x= -1-> ∀p∈na c l d,∀q∈na c l d,aP c p=x->aP c q=x->p=q):TQ c d (na c l d):=by
 have m:=h.toRight;have g:=(gy (c:=c) (d:=d) (l:=l)).2
 have b: ∀k∈na c l d,b4 c d k=true:=fun k a=>by
  rcases (g k).1 a with a|⟨_,_,_,_,a⟩
  ·exact(f k a).1
  exact a
 refine⟨fun k a=> ?_,b,fun k a=> ?_,j,?_⟩
 ·rcases (g k).1 a with a|⟨i,n,r,y,_⟩
  ·exact(f k a).2
  exact wx (sJ h (c.Z9.length) i k (aI.1 (am (f i n).1)).2 r y)
 ·have v:=am (b k a);rcases (aj m v).1 (b k a) with e|e
  ·exact .inl e
  refine .inr ((g _).2 (.inr ?_));have w:0<=aP c k:=(aI.1 (am e)).1;rcases (g k).1 a with a|⟨i,n,r,y,_⟩
  ·exact⟨k,a,(cv m v).2 (.inl rfl),w,e⟩
  exact⟨i,n,i7 m (c.Z9.length) i k _ (aI.1 (am (f i n).1)).2 r ((cv m v).2 (.inl rfl)),w,e⟩
 obtain⟨t,o⟩:=List.exists_mem_of_ne_nil l u;obtain⟨k,a,p,q⟩:=C7 m (c.Z9.length) t (aI.1 (am (f t o).1)).2 (f t o).1;refine⟨k,(g k).2 ?_,q⟩;rcases a with rfl|⟨a,e⟩
 ·exact .inl o
 exact .inr ⟨t,o,a,(aI.1 p).1,e⟩
def Ev{c:aq}(h:ct c){d t:Int}(f:b4 c d t=true)(p: -1<=d)(u: ∃s,at_ c t=some s/\aU s=false):TQ c d (na c [t] d):=by
 have r:=(gy (c:=c) (d:=d) (l:=[t])).2
 have e: ∀k∈na c [t] d,fi c k=true/\(t=k\/k∈kf c t):=fun k g=>by
  rcases (r k).1 g with g|⟨i,q,a,b,_⟩
  ·rw[NP.1 g];exact⟨am f, .inl rfl⟩
  rw[NP.1 q]at a;exact⟨(gX h.toRight a b).1, .inr a⟩
 refine Et h (fun x v=>by rw[NP.1 v];exact⟨f,u⟩) (by simp) p fun x _ j a m b n o=> ?_;exact xz h.toRight (e j a).1 (e m b).1 n o (am f) (e j a).2 (e m b).2
def Ao{act:List Int}{ks:List Nat}(h:ch act ks<=1){a b:Int}(f:a∈zL ks)(g:b∈zL ks)(d:a∈act)(e:b∈act):a=b:=by
 rw[<-qp]at h;have c:a∈(zL ks).filter fun k=>act.contains k:=NF.2 ⟨f,by simpa using d⟩;have i:b∈(zL ks).filter fun k=>act.contains k:=NF.2 ⟨g,by simpa using e⟩;generalize (zL ks).filter (fun k=>act.contains k)=q at*
 match q,h with
 |[],_=>simp at c
 |[x],_=>rw[NP.1 c,NP.1 i]
def Ig{c:aq}(h:ct c){d p:Int}(hp:az c p=true){l:List Int}(C:AB c p l=true)(hd: -1<=d)(U:d=p\/b4 c d p=true):TQ c d (na c l d):=by
 have w:=h.toRight;unfold AB at C;rw[Mx,Mx,NB,NB]at C;obtain⟨⟨b1,b2⟩,b3⟩:=C
 have f: ∀x∈l,b4 c p x=true/\ ∃s,at_ c x=some s/\aU s=false:=fun x u=>by
  have:=b2 x u;unfold kT at this;rw[Mx,Mx]at this;refine⟨this.1.1,?_⟩;have:=this.1.2;split at this
  ·rename_i s m;exact⟨s,m,by simpa using this⟩
  cases this
 have D: ∀x,b4 c p x=true->b4 c d x=true:=fun x u=>by
  rcases U with rfl|e
  ·exact u
  exact jE w e u
 have J:=(gy (c:=c) (d:=d) (l:=l)).2
 have G: ∀k∈na c l d,fi c k=true:=fun k g=>by
  rcases (J k).1 g with g|⟨_,_,_,_,g⟩
  ·exact am (f k g).1
  exact am g
 have Z:fi c p=true:=by
  obtain⟨s,m,_⟩:=iD hp;unfold at_ at m;split at m
  ·rename_i h0;have:=(Mt.1 m).1;exact aI.2 ⟨h0,by omega⟩
  cases m
 obtain⟨t,ht⟩:=List.exists_mem_of_ne_nil l (yr b1);refine Et h (fun x u=>⟨D x (f x u).1,(f x u).2⟩) (yr b1) hd fun x u R P S Q T A=> ?_
 have O: ∀k∈na c l d,b4 c p k=true\/p=k\/k∈kf c p:=fun k g=>by
  rcases (J k).1 g with g|⟨i,v,H,N,_⟩
  ·exact .inl (f k g).1
  have V:p∈kf c i:=Mz.1 (f i v).1;rcases qR w (c.Z9.length) i (aI.1 (am (f i v).1)).2 V H with e|e|e
  ·exact .inr (.inl e)
  ·exact .inl (Mz.2 e)
  exact .inr (.inr e)
 have low: ∀k,k∈na c l d->b4 c p k=true->k∈iI c p l:=fun k g o=>by
  unfold iI;rw[N1,lS w fun x u=>am (f x u).1,gy.2];rcases (J k).1 g with g|⟨i,v,H,N,_⟩
  ·exact .inl (.inl g)
  exact .inl (.inr ⟨i,v,H,N,o⟩)
 have r: ∀k∈na c l d,k∈hH c (aP c k):=fun k g=>by
  obtain⟨j,s,rfl,m,o⟩:=dB (G k g);refine NG.2 ⟨j,Ei m (eH m).symm ?_,rfl⟩;rcases (J _).1 g with g|⟨i,v,H,N,_⟩
  ·obtain⟨s',e,A⟩:=(f _ g).2;rw[o]at e;cases e;exact A
  obtain⟨s',e,A⟩:=wx (sJ h (c.Z9.length) i _ (aI.1 (am (f i v).1)).2 H N);rw[o]at e;cases e;exact A
 have y: ∀n z,n∈na c l d->z∈na c l d->aP c n=x->aP c z=x->b4 c p n=true->n=z:=fun n z o C K eb B=>by
  have X:b4 c p z=true:=by
   have:=(aj w (G n o)).1 B;rw[K, <-eb]at this;exact(aj w (G z C)).2 this
  have hxd:x∈iI c p l:=by
   rcases (aj w (G n o)).1 B with e|e
   ·unfold iI;rw[<-K,e];simp
   have E:0<=aP c n:=(aI.1 (am e)).1;rw[K]at e E;refine low x ((J x).2 (.inr ?_)) e;have M:x∈kf c n:=(cv w (G n o)).2 (.inl K.symm);rcases (J n).1 o with q|⟨i,v,H,N,_⟩
   ·exact⟨n,q,M,E,D x e⟩
   exact⟨i,v,i7 w (c.Z9.length) i n x (aI.1 (am (f i v).1)).2 H M,E,D x e⟩
  have I:=b3 x hxd;unfold iN at I;cases m:at_ c x with
  |none=>rw[m]at I;cases I
  | some s=>
    have L:an c x=true:=u.resolve_right fun e=>by rw[e]at m;simp[at_]at m
    rw[bw m]at L;rw[m]at I;have W:s.kind=1:=by simpa using L
    simp only[W]at I
    have Y:ch (iI c p l) (av c x true)<=1:=by
     simp at I;omega
    have r1:=r n o;have r2:=r z C;rw[K]at r1;rw[eb]at r2;exact Ao Y r1 r2 (low n o B) (low z C X)
 rcases O R P with a|a
 ·exact y R S P Q T A a
 rcases O S Q with b|b
 ·exact(y S R Q P A T b).symm
 exact xz w (G R P) (G S Q) T A Z a b
def ut{c:aq}(h:ct c){d u:Int}(x:fi c u=true){mem:List eg}(z:bm c mem=true)(v:b4 c d u=true)(o: -1<=d):TQ c d (na c (k9 c u mem) d):=by
 have q:=h.toRight;obtain⟨k,s,rfl,r,g⟩:=dB x;unfold k9;rw[g];simp only;by_cases f:aU s=true
 ·rw[Mw f];obtain⟨B,y,C,D,E⟩:=pZ h r f
  have i:d=s.parent\/b4 c d s.parent=true:=by
   have:=(aj q x).1 v;rw[eH r]at this;exact this.imp Eq.symm id
  have a: ∀t∈hH c s.parent,TQ c d (na c [t] d):=fun t n=>by
   obtain⟨t1,t2,_⟩:=bN q n;refine Ev h ((aj q t1).2 (by rw[t2];exact i.imp Eq.symm id)) o ?_;obtain⟨j,p,rfl⟩:=NG.1 n;obtain⟨A,l,_,b,_⟩:=zr p;exact⟨A,by rw[bK];exact l,b⟩
  cases w:mem.find? (fun m=>m.1==(k:Int)) with
  | none=>
    refine a _ ?_;rcases h.cases r with⟨e,_⟩|⟨e,_⟩|⟨e,_⟩|⟨_,_,_,e⟩
    ·omega
    ·omega
    ·omega
    obtain⟨j,p,e⟩:=pW.1 e;exact NG.2 ⟨j,p,e⟩
  | some m=>
    have l:=QU w;have b:=(pU z).2 m (Om w);simp only[OQ]at l;unfold pV at b;rw[l,g]at b;simp only at b |-;split at b
    ·rw[Mx,NI]at b;obtain⟨t,n⟩:=QR.1 b.1;rw[n]at b |-;exact a t (by simpa using b.2)
    rw[Mx,xu h y]at b;exact Ig h y b.2 o i
 rw[Mv f];exact Ev h v o ⟨s,g,by simpa using f⟩
def xK{c:aq}{k:Int}{s:n4}(e:at_ c k=some s)(d:aU s=false)(f:fi c k=true):k∈hH c (aP c k):=by
 obtain⟨j,g,rfl,a,b⟩:=dB f;rw[e]at b;cases b;exact NG.2 ⟨j,Ei a (eH a).symm d,rfl⟩
def nS{l:List Int}{ks:List Nat}(c:ks.Nodup){k:Int}(b:k∈zL ks)(h: ∀x∈zL ks,x∈l↔x=k):ch l ks=1:=by
 obtain⟨j,a,rfl⟩:=NG.1 b;unfold ch;rw[filter_one c a fun x d=> ?_]
 ·rfl
 rw[Mz,h _ (NG.2 ⟨x,d,rfl⟩)];omega
def Db{c:aq}(h:ct c){act:List Int}(Y:Lg c act){d:Int}{P:List Int}(D:TQ c d P)(X:d= -1\/(d∈act/\an c d=true)){O:List Nat}(hO:O.Pairwise (· < ·))
 (R: ∀x,x∈zL O↔(x∈act/\b4 c d x=false)\/Gr c P x):tU c (zL O)=true/\ ∀x,b4 c d x=false->(x∈zL O↔x∈act):=by
 have l:=h.toRight
 have W: ∀x,Gr c P x->b4 c d x=true/\(aP c x=d\/Gr c P (aP c x))/\ ∃s,at_ c x=some s/\aU s=false:=fun x g=>by
  induction g with
  |base f=>exact⟨D.Z4 _ f,(D.up _ f).imp id .base,D.real _ f⟩
  | ini g hp hn h0 ih=>
    have n:=ij h hp h0;obtain⟨t,p,_⟩:=bN l n;refine⟨(aj l t).2 (.inr (by rw[p];exact ih.1)), .inr (by rw[p];exact g),?_⟩;obtain⟨j,m,e⟩:=NG.1 n;obtain⟨s,E,_,i,_⟩:=zr m;exact⟨s,by rw[<-e,bK];exact E,i⟩
  | par g hp n ih=>
    obtain⟨t,p,_⟩:=bN l n;refine⟨(aj l t).2 (.inr (by rw[p];exact ih.1)), .inr (by rw[p];exact g),?_⟩;obtain⟨j,m,e⟩:=NG.1 n;obtain⟨s,E,_,i,_⟩:=zr m;exact⟨s,by rw[<-e,bK];exact E,i⟩
 have o: ∀x,b4 c d x=false->(x∈zL O↔x∈act):=fun x f=>by
  rw[R];refine⟨fun w=>w.elim (fun a=>a.1) fun g=> ?_,fun w=> .inl ⟨w,f⟩⟩;rw[(W x g).1]at f;cases f
 have N: ∀x,b4 c d x=true->(x∈zL O↔Gr c P x):=fun x f=>by
  rw[R];refine⟨fun w=>w.elim (fun a=> ?_) id, .inr⟩;rw[f]at a;cases a.2
 have K: ∀x,an c x=true\/x= -1-> ∀t p,Gr c P t->Gr c P p->aP c t=x->aP c p=x->t=p:=fun x f t p U V E i=>by
  have I: ∀k,Gr c P k->aP c k=x->k∈P\/(k=kW c x/\(∀k∈hH c x,k∉P)/\an c x=true):=fun k g e=>by
   rcases g.real h with a|⟨Z,L,a3⟩
   ·exact .inl a
   rw[e]at Z L a3;rcases f with f|f
   ·exact .inr ⟨(a3 f).1,(a3 f).2,f⟩
   rw[f]at L;have:=(aI.1 (am (W _ L).1)).1;omega
  have kz: ∀k∈P,aP c k=x->k∈hH c x:=fun k n e=>by
   obtain⟨s,q1,q2⟩:=D.real k n;rw[<-e];exact xK q1 q2 (am (D.Z4 k n))
  rcases I t U E with a|⟨Z,L,_⟩
  ·rcases I p V i with b|⟨b1,b2,_⟩
   ·exact D.one x f t a p b E i
   exact absurd a (b2 t (kz t a E))
  rcases I p V i with b|⟨b1,b2,_⟩
  ·exact absurd b (L p (kz p b i))
  rw[Z,b1]
 have v:ch (zL O) (av c d true)=1:=by
  obtain⟨k,n,e⟩:=D.has;obtain⟨s,q1,q2⟩:=D.real k n;have Q:=xK q1 q2 (am (D.Z4 k n));rw[e]at Q;refine nS (bV c d true) Q fun x f=> ?_;obtain⟨x1,x2,_⟩:=bN l f;rw[N x ((aj l x1).2 (.inl x2))];refine⟨fun g=>K d ?_ x k g (.base n) x2 e,fun e=>by rw[e];exact .base n⟩;rcases X with e|e
  ·exact .inr e
  exact .inl e.2
 have hb: ∀k∈O,k<c.Z9.length:=fun k n=>by
  rcases (R k).1 (NG.2 ⟨k,n,rfl⟩) with a|a
  ·obtain⟨_,_,z,_⟩:=Y.of a.1;exact aW.1 z
  exact aW.1 (am (W _ a).1)
 refine⟨Ln hO (fun k n=> ?_) ?_,o⟩
 ·have hkO:(k:Int)∈zL O:=NG.2 ⟨k,n,rfl⟩
  have key: ∃s,at_ c (k:Int)=some s/\aU s=false/\(s.parent<0\/s.parent∈zL O)/\(s.kind=1->av c k true≠[]->ch (zL O) (av c k true)=1)/\(s.kind=2->ch (zL O) (av c k true)=(av c k true).length):=by
   rcases (R k).1 hkO with⟨ka,kn⟩|g
   ·obtain⟨s,A,hz,H,hp,f1,f2⟩:=Y.of ka;have C:aP c (k:Int)=s.parent:=by unfold aP;rw[A]
    rw[C]at hp;refine⟨s,A,H,?_,?_⟩
    ·rcases hp with hp|hp
     ·exact .inl hp
     ·refine .inr ((o _ ?_).2 hp);cases w:b4 c d s.parent with
      |false=>rfl
      | true=>
        rw[(aj l hz).2 (.inr (by rw[C];exact w))]at kn;cases kn
    by_cases e:d=k
    ·rw[<-e];refine⟨fun _ _=>v,fun i=> ?_⟩;have u:=(X.resolve_left (by omega)).2;rw[e,bw A,i]at u;cases u
    have T:ch (zL O) (av c k true)=ch act (av c k true):=by
     unfold ch
     congr 1
     apply O9;intro j m;have G:(j:Int)∈hH c k:=NG.2 ⟨j,m,rfl⟩;obtain⟨S,J,_⟩:=bN l G;rw[N8,Mz,Mz];refine o _ ?_;cases w:b4 c d (j:Int) with
     |false=>rfl
     | true=>
       rcases (aj l S).1 w with q|q
       ·rw[J]at q;exact absurd q.symm e
       rw[J,kn]at q;cases q
    rw[T];exact⟨f1,f2⟩
   obtain⟨U,V,s,A,H⟩:=W k g;have hz:=am U;have C:aP c (k:Int)=s.parent:=by unfold aP;rw[A]
   have r: ∀j∈hH c (k:Int),(j∈zL O↔Gr c P j):=fun j m=>by
    obtain⟨S,J,_⟩:=bN l m;exact N j ((aj l S).2 (.inr (by rw[J];exact U)))
   refine⟨s,A,H,?_,fun e hne=> ?_,fun e=> ?_⟩
   ·rw[<-C];rcases V with q|q
    ·rw[q];rcases X with e|e
     ·exact .inl (by omega)
     exact .inr ((o d (KB l)).2 e.1)
    exact .inr ((R _).2 (.inr q))
   ·have u:an c (k:Int)=true:=by rw[bw A,e];rfl
    have y:0<=kW c (k:Int)/\kW c (k:Int)∈hH c (k:Int):=by
     rcases lZ h A with⟨_,i|i⟩|⟨i,_⟩|⟨i,_⟩|⟨i|i,_⟩
     ·exact absurd i hne
     ·exact i
     all_goals omega
    by_cases hex: ∃j∈hH c (k:Int),j∈P
    ·obtain⟨j,m,B⟩:=hex;refine nS (bV c k true) m fun x f=> ?_;rw[r x f];exact⟨fun gx=>K k (.inl u) x j gx (.base B) (bN l f).2.1 (bN l m).2.1,fun e=>by rw[e];exact .base B⟩
    have hno: ∀j∈hH c (k:Int),j∉P:=fun j m B=>hex ⟨j,m,B⟩;refine nS (bV c k true) y.2 fun x f=> ?_;rw[r x f];have gi:Gr c P (kW c (k:Int)):= .ini g u hno y.1;exact⟨fun gx=>K k (.inl u) x _ gx gi (bN l f).2.1 (bN l y.2).2.1,fun e=>by rw[e];exact gi⟩
   rw[jz];intro j m;exact(r j m).2 (.par g (by rw[bw A,e];rfl) m)
  obtain⟨s,A,t,p,k3,k4⟩:=key;have M:vn c (zL O) (k:Int)=zO c (zL O) k s:=by unfold vn;rw[A];rfl
  rw[M];unfold zO;rw[t,Mx,Mx];refine⟨⟨rfl,?_⟩,?_⟩
  ·rw[OO,NI];exact p.imp id fun q=>Mz.2 q
  split
  ·rename_i e;simpa using k3 e.1 e.2
  split
  ·rename_i e;simpa using k4 e
  rfl
 rcases X with e|e
 ·rw[e]at v;exact v
 ·rw[<-Y.top];unfold ch
  congr 1
  apply O9;intro j m;have G:(j:Int)∈hH c (-1):=NG.2 ⟨j,m,rfl⟩;obtain⟨S,J,_⟩:=bN l G;have hd0:=(Y.of e.1);obtain⟨_,_,dz,_⟩:=hd0;rw[N8,Mz,Mz];refine o _ ?_;cases w:b4 c d (j:Int) with
  |false=>rfl
  | true=>
    rcases (aj l S).1 w with q|q
    ·rw[J]at q;have:=(aI.1 dz).1;omega
    rw[J]at q;have:=(aI.1 (am q)).1;omega
abbrev go(l:List eg):AV:= .seq 2 (l.map fj)
def JY{s:n4} :aU s=false->s.kind≠4/\s.kind≠5:=fun h=>by
 unfold aU at h;simpa using h
def zq(s:n4)(k:Int)(mem:List eg):List Int:=match mem.find? (fun m=>m.1==k) with|some m=>m.2|none=>[s.initial]
def Dm{s:n4}{k:Int}{mem:List eg}{m:eg}(h:mem.find? (fun m=>m.1==k)=some m):zq s k mem=m.2:=by unfold zq;rw[h]
def Dn{s:n4}{k:Int}{mem:List eg}(h:mem.find? (fun m=>m.1==k)=none):zq s k mem=[s.initial]:=by unfold zq;rw[h]
def H1(env:cf)(c:aq)(z:Right c)(B:hP c)(k:Nat)(s:n4)(a:c.Z9[k]? =some s)(mem:List eg)(K:mem.length<=1000000)(A: ∀m∈mem,m.2.length<=4096):b8 prog env 300 [aG c,I k,go mem] (.own 3 1 ((k9 c k mem).map aa)):=by
 have w:=z.Z6;have f0:=ay env c B;have J:=(Mt.1 a).1;have v:((k:Nat):Int)< (c.Z9.length:Int):=by omega
 have u:at_ c (k:Int)=some s:=by rw[bK];exact a
 have g:k9 c k mem=if aU s=true then(zq s k mem) else [(k:Int)]:=by unfold k9;rw[u];rfl
 rw[g];unfold aG at f0 |-;cases d:aU s with
 | false=>
   rw[Mv (by simp)];obtain⟨C,D⟩:=JY d;have h:(s.kind==4)=false:=by simpa using C
   have i:(s.kind==5)=false:=by simpa using D
   refine qf func300 call300 ntmps300 results300 ?_;have F:=m7 Us Ut v a h i jM;exact kb f0
 | true=>
   rw[Mw rfl]
   have l:((s.kind==4)=true)\/((s.kind==4)=false/\(s.kind==5)=true):=by
    unfold aU at d;cases f:(s.kind==4) with
    |true=>exact .inl rfl
    |false=>rw[f]at d;exact .inr ⟨rfl,by simpa using d⟩
   have e: ∀h i:Bool,(s.kind==4)=h->(s.kind==5)=i->(h=true\/i=true)->b8 prog env 300 [.ref 9 [cy c] 0 0,I k,go mem] (.own 3 1 ((zq s k mem).map aa)):=fun h i f t y=>by
    cases h<;>cases i<;>(try simp at y)<;>
    ·refine qf func300 call300 ntmps300 results300 ?_;have F:=m7 Us Ut v a f t jM;repeat refine ff f0 ?_
     have F:=aA.eq_1;refine lq mem.length (by omega) (fun j G=>[(1,I k),(7, .loc 7 (G 7) 0 0),(27,go mem),(28,I mem.length),(29,I j)]) (fun _ _=>[(7,⟨5,[aA c],26,false⟩)]) (fun j _ _=>mem.find? (fun m=>m.1==(k:Int))=(mem.drop j).find? (fun m=>m.1==(k:Int))) rfl ?_ ?_
     ·rintro j H r n q E b;obtain⟨x,p⟩:=gE n;rw[iG p]at b;have f1:=dV env (x.2.map aa) (by rw[NT];exact A x (My p));cases o:(x.1==(k:Int)) with
      | true=>
        rw[o]at b;simp only[Nn]at b;rw[Dm b];have F:=i0 UF p q o;exact kb f1
      | false=>
        rw[o]at b;simp only[NW,OB]at b;have F:=ii UF p q E o;repeat refine ff f1 ?_
        refine⟨j+1,⟨n,b⟩,?_,?_,by omega⟩
        ·exact qe
        have F:=aA.eq_1;exact qe
     rintro H r q b;rw[OE,QK]at b;rw[Dn b];have F:=ii Us Ut v q a;exact kb f0
   rcases l with f|⟨f,t⟩
   ·exact e _ _ f rfl (.inl rfl)
   exact e _ _ f t (.inr rfl)
def CC{c:aq}(h:ct c){l:List Int}(a:l.Nodup)(d: ∀x∈l,fi c x=true):(py c l).length<=32:=by
 refine NN (jK (lD c _ _ _ a) fun x b=> ?_) h.toRight.Z6;exact((eh h a).1 b).in h d
def I2(c:aq)(a b:Int)(mem:List eg):List Nat:=b7 c (py c (na c (k9 c b mem) (n5 c a b)))
def FV{c:aq}(h:ct c){b:Int}(i:fi c b=true){mem:List eg}(j:bm c mem=true):(∀x∈k9 c b mem,fi c x=true)/\(k9 c b mem).length<=1000000:=by
 obtain⟨d1,_,d3⟩:=wA h i i;have o:=ut h i j d1 (by rcases d3 with e|e<;>omega);have k: ∀x∈k9 c b mem,fi c x=true:=fun x g=>am (o.Z4 x ((gy.2 x).2 (.inl g)));refine⟨k,?_⟩;unfold k9;split
 ·rename_i s p;split
  ·split
   ·rename_i m l;have a:=(pU j).2 m (Om l);unfold pV at a;split at a
    ·split at a
     ·rw[Mx,NI]at a;omega
     unfold Fm at a;simp only[Mx]at a;have n:=a.2.1.1.1;have f:m.2.Nodup:=nK n
     have d: ∀x∈m.2,fi c x=true:=fun x g=>by
      have:=NB.1 a.2.1.1.2 x g;unfold eC at this;rw[Mx]at this;exact am this.1
     exact NN (jK f d) (by have:=h.toRight.Z6;omega)
    cases a
   simp
  simp
 simp
def Cl(env:cf)(c:aq)(h:ct c)(j:hP c)(t:tS)(f:fi c t.src=true)(g:fi c t.target=true)(mem:List eg)(r:mem.length<=1000000)(u: ∀m∈mem,m.2.length<=4096)(b:bm c mem=true):
 b8 prog env 275 [aG c, .agg (ax t),go mem] (.own 3 1 ((I2 c t.src t.target mem).map aB)):=by
 have a:=h.toRight;obtain⟨k,s,e,n,_⟩:=dB g;obtain⟨o,w⟩:=FV h g b;obtain⟨p,B⟩:=gy (c:=c) (d:=n5 c t.src t.target) (l:=k9 c t.target mem)
 have q: ∀x∈na c (k9 c t.target mem) (n5 c t.src t.target),fi c x=true:=fun x v=>by
  rcases (B x).1 v with h|⟨i,_,y,z,_⟩
  ·exact o x h
  exact(gX a y z).1
 have f0:=bP env c;have f1:=H1 env c a j k s n mem r u;rw[<-e]at f1;have f2:=ng env c a j t f;have f3:=KC env c a (k9 c t.target mem) w o (n5 c t.src t.target);have f4:=CE env c h j _ p q;have f5:=gB env c a (py c (na c (k9 c t.target mem) (n5 c t.src t.target))) (by have:=CC h p q;omega);unfold I2;generalize py c (na c (k9 c t.target mem) (n5 c t.src t.target))=G at*;generalize na c (k9 c t.target mem) (n5 c t.src t.target)=U at*;generalize k9 c t.target mem=A at*;unfold ax at f2;unfold aQ at f0 f5;unfold aG at f0 f1 f2 f3 f4 |-;refine qf func275 call275 ntmps275 results275 ?_;have F:=ax.eq_1;exact TL f0 f1 f2 f3 f4 f5
def bO{a:Type}{l:List a}{n:Nat}{x:a}(h:l[n]? =some x):l.take (n+1)=l.take n++[x]:=by rw[N4,h];rfl
def aZ{a:Type}{l:List a}{n:Nat}{x:a}(h:l[n]? =some x):l.drop n=x::l.drop (n+1):=by
 obtain⟨c,b⟩:=Mt.1 h;rw[Ol c,b]
def mW(p:Int->Bool):List Int->Option Nat
 |[]=>none
 |d::l=>if p d=true then some 0 else(mW p l).map (· +1)
def mY:Option Nat->Int
 |some i=>i
 |none=> -1
def UT:=@mY.eq_1
def qH{p:Int->Bool} : ∀ {l:List Int}{i:Nat},mW p l=some i->i<l.length/\l.take i=(l.take i).filter (fun d=> !p d)/\ ∃d,l[i]? =some d/\p d=true
 |[],i,h=>by simp[mW]at h
 | d::l,i,h=>by
   unfold mW at h;split at h
   ·rename_i a;cases h;exact⟨by simp,by simp,d,rfl,a⟩
   ·rename_i a;cases b:mW p l with
    |none=>rw[b]at h;cases h
    | some j=>
      rw[b]at h;cases h;obtain⟨g,c,x,e,f⟩:=qH b;refine⟨by simp;omega,?_,x,by simpa using e,f⟩;have a:p d=false:=by simpa using a
      simp only[List.take_succ_cons,PC,a,OW,Nn];rw[<-c]
def qI{p:Int->Bool} : ∀ {l:List Int},mW p l=none->l.filter (fun d=> !p d)=l/\ ∀d∈l,p d=false
 |[],h=>by simp
 | d::l,h=>by
   unfold mW at h;split at h
   ·cases h
   ·rename_i a;have a:p d=false:=by simpa using a
    cases c:mW p l with
    |some j=>rw[c]at h;cases h
    | none=>
      obtain⟨e,f⟩:=qI c;refine⟨by simp only[PC,a,OW,Nn,e],fun x b=> ?_⟩;rcases NX.1 b with rfl|b
      ·exact a
      exact f x b
def Hi{p:Int->Bool}{l:List Int}{n:Nat}{d:Int}(a:l[n]? =some d):mW p (l.drop n)=if p d=true then some 0 else(mW p (l.drop (n+1))).map (· +1):=by
 rw[aZ a];rfl
def qv(env:cf)(l:List Int)(p:Int->Bool)(g:FuncId)(a:List (List AV))(m: ∀d,b8 prog env g [I d, .ref 1 a 0 0] (B (p d)))(o:l.length<=4096):b8 prog env 273 [.seq 1 (l.map aa), .clo g [.ref 1 a 0 0]] (I (mY (mW p l))):=by
 refine qf func273 call273 ntmps273 results273 ?_;repeat refine nw ?_
 refine Q' l.length (by omega) (fun n i=>[(0, .seq 1 (l.map aa)),(1, .clo g [.ref 1 a 0 0]),(7,I l.length),(8,I n)]) (fun n i=>[]) (fun n _ c=>mW p l=(mW p (l.drop n)).map (· +n)) (by simp) ?_ ?_
 ·rintro n i c e f j b;obtain⟨d,h⟩:=gE e;have f1:=m d;rw[Hi h]at b;cases k:p d
  ·rw[k]at b f1;simp only[NW,OB]at b;have F:=gs h f j;repeat refine st ?_
   refine oC (cK rfl (by simp only[go_sem,F];exact iR)) (f1) (by simp only[go_sem,F];exact iR) (by simp only[go_sem,F];exact⟨rfl,rfl⟩) ?_;repeat refine st ?_
   refine⟨n+1,⟨e,?_⟩,?_,?_,?_⟩
   ·rw[b];cases mW p (l.drop (n+1))
    ·rfl
    simp;omega
   ·exact qe
   ·exact qe
   omega
  rw[k]at b f1;simp only[Nn,NU,OI]at b;rw[b];have F:=ii h f j UT mY.eq_2;repeat refine st ?_
  refine oC (cK rfl (by simp only[go_sem,F];exact iR)) (f1) (by simp only[go_sem,F];exact iR) (by simp only[go_sem,F];exact⟨rfl,rfl⟩) ?_;exact fc
 rintro i c f b;rw[OH (by omega)]at b;rw[b];have F:=gs f UT mY.eq_2;repeat (first|refine oO rfl (by simp only[go_sem,mW,F];exact⟨rfl,rfl⟩) ?_|refine gR ?_|refine gO ?_|refine oZ (kj ?_)|refine oZ ?_|refine oS ?_|refine gT ?_|refine gD mixed ?_|refine oB ?_|refine oK ?_|(refine oX ?_;simp only[bD,ba, ↓reduceIte,Nat.reduceEqDiff,reduceCtorEq])|refine oY (by simp only[go_sem,mW,F];exact iR) ?_|refine oN (by simp only[go_sem,mW,F];exact iR) ?_)
 (refine aM ?_;show (ag _ _ _).run _=some _;simp only[go_sem,mW,F])
def M8(G act:List Int):List Int:=act.filter fun i=> !G.contains i
def Ui(G act:List Int)(T:List Nat):List Int:=Lib.compact (bQ (M8 G act++zL T))
def l9(l:List Int):(bQ l).length=l.length:=by unfold bQ;rw[List.length_mergeSort]
end
section
open Go.RowKit Go.ChangeShapes
def Tryz.tabArr:prog.underlying 279=some (.array 32 5):=by kernel_rfl
def LX:prog.cellsOf 5=1:=by kernel_rfl
def KD{W:World}{g t:Nat}{cs:Array Value}{fuel:Nat}{p:List MemPlace}(o:prog.globalNamed "math/bits.deBruijn32tab" =some g)(x:(prog.globals[g]?).map (·.type)=some t)(y:W.var? prog "math/bits.deBruijn32tab" =some cs)
 (v:DataW.trod (fun _=>()) prog W 0 (fun _=>true) false fuel t cs.toList=some (Rows.laid_math_bits_deBruijn32tab,p)):r5 W:=by
 obtain rfl:10=g:=OV ((show prog.globalNamed "math/bits.deBruijn32tab" =some 10 by kernel_rfl).symm.trans o);obtain rfl:279=t:=OV ((show (prog.globals[10]?).map (·.type)=some 279 by kernel_rfl).symm.trans x);obtain⟨c,m,_,r,_,z,l⟩:=DataW.trod_array Tryz.tabArr v;simp only[QG]at r;intro j q;have h:=l j q;rw[LX,Q7]at h;have d:c[j]? =some (c[j]'(by omega)):=Ms _;rw[d]at h;obtain⟨n,s,u,_⟩:=Ou Tryz.underlying5 h
 have b:cs[j]? =some (.int .u8 n):=by
  have:((cs.toList.drop j).take 1)[0]? =some (.int .u8 n):=by rw[s];rfl
  rw[Na,Mw (by omega),OS,PP]at this;simpa using this
 have f:(Rows.laid_math_bits_deBruijn32tab:DataW Unit)= .agg (c.map (·.1)):=r.1
 have a:(c.map (·.1))[j]? =(Lib.deBruijn32tab.map fun(k:Nat)=>DataW.lit (H:=Unit) (.int .u8 (k:Int)))[j]? :=by
  have e:(Lib.deBruijn32tab.map fun(k:Nat)=>DataW.lit (H:=Unit) (.int .u8 (k:Int)))=c.map (·.1):=by
   have:DataW.agg (Lib.deBruijn32tab.map fun(k:Nat)=>DataW.lit (H:=Unit) (.int .u8 (k:Int)))=DataW.agg (c.map (·.1)):=by
    rw[<-f];rfl
   injection this
  rw[e]
 rw[NE,d,NE]at a
 have i:Lib.deBruijn32tab[j]? =some (Lib.deBruijn32tab.getD j 0):=by
  have:j<Lib.deBruijn32tab.length:=by simpa[Lib.deBruijn32tab]using q
  simp[List.getD,Ms this]
 rw[i]at a;simp only[NU,Mu,u]at a
 have w:n=((Lib.deBruijn32tab.getD j 0:Nat):Int):=by
  have:=a;injection this with this
  injection this
 rw[R6 o y j,b,w]
def C2{P:Program}{env:cf}{f:FuncId}{cs:List AV}{u:Value}{w:World}{vs:List Value}(h:b8 P env f cs (.lit u))(d:um env (fun b _=>b<w.heap.size) w)(a:T1 (fun b _=>b<w.heap.size) w vs cs):
 Calls P f vs.toArray w fun e c=>e= .returned u/\Below w.heap.size w c:=(Jm h d (fun _ _ _=>by simp) a).mono (by
 rintro e c ⟨v,rfl,g,_,a⟩
 exact⟨by rw[a.lit_inv],g⟩)
end
section
open Go.RowKit Go.ChangeShapes
def H3{W:World}(h:laidMetH prog [("math/bits.deBruijn32tab",Rows.laid_math_bits_deBruijn32tab),("scrinium/api.ErrForm",Rows.laid_scrinium_api_ErrForm),("scrinium/api.ErrRange",Rows.laid_scrinium_api_ErrRange),("scrinium/api.ErrFull",Rows.laid_scrinium_api_ErrFull),("scrinium/api.ErrNone",Rows.laid_scrinium_api_ErrNone),("scrinium/api.ErrCorrupt",Rows.laid_scrinium_api_ErrCorrupt),("scrinium/api.ErrFuel",Rows.laid_scrinium_api_ErrFuel),("scrinium/api.ErrState",Rows.laid_scrinium_api_ErrState),("scrinium/api.ErrLong",Rows.laid_scrinium_api_ErrLong),("scrinium/api.ErrTwice",Rows.laid_scrinium_api_ErrTwice)] W):(∃k,ql W k)/\r5 W:=by
 rw[Px _ _ _ (by kernel_rfl)]at h;obtain⟨r,n,f,c⟩:=h;obtain⟨p,t0,l,f0,q,o,e,g,i,d,a,rfl⟩:=n;refine⟨mG ?_,KD e g i d⟩;rw[Px _ _ _ (by kernel_rfl)];exact⟨o,a,(O8.1 f).2.1,fun b j m=>c b j (Ov _ m)⟩
def cF:Td:=⟨fun w=>r5 w,fun _ _ h a=>r5.below h a⟩
def JU(a:Nat->Addr):gb (bh a cF) (a 1) (a 8):=⟨rfl,rfl⟩
def HX(a:Nat->Addr): ∀W,(bh a cF).inv W->r5 W:=fun _ h=>h.2
end
section
open Go.RowKit
def tj{c:aq}(h:lv c=true):(n9 c).1=0:=by
 unfold lv at h;rw[Mx,OQ]at h;exact h.2
end
end Go.Proofs.YtfhkmjbjafeckaaGreatDoor
