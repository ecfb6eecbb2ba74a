/- The law of entering: its small functions; awake; what a nil table tells. -/
import Derived.Test.YtfhkmjbjafeckaaGreatDoorP19
set_option maxRecDepth 100000
set_option maxHeartbeats 16000000
set_option linter.unusedSimpArgs false
set_option linter.defProp false
namespace Go.Proofs.YtfhkmjbjafeckaaGreatDoor
open Go.Proofs.Tryz
section
open Go.RowKit
def xJ(l:List Int)(x:Int):gQ (l++[x])=gQ l++[[I x,I 1]]:=by unfold gQ;rw[NA];rfl
def dB(L K:List Int)(j:Nat):List Int:=(K.take j).filter fun k=> !L.contains k
def EW{L K:List Int}{j:Nat}{x:Int}(h:K[j]? =some x):dB L K (j+1)=if L.contains x=true then dB L K j else dB L K j++[x]:=by
 unfold dB;rw[N1,h,N5];cases a:L.contains x<;>simp only[Oz,a,Oi,OT,NU,Nt,OA,SA,OP,Qo]
def IL{L K:List Int}{j:Nat}{x:Int} :x∈dB L K j↔x∈K.take j/\x∉L:=by
 unfold dB;rw[ND];simp
def sj{K:List Int}(d:K.Nodup){j:Nat}{x:Int}(h:K[j]? =some x):x∉K.take j:=fun b=>by
 obtain⟨k,f,e⟩:=Qc.1 b;obtain⟨c,a⟩:=Mr.1 h;have:=(List.getElem_inj d (h₀:=by omega) (h₁:=c)).1 (e.trans a.symm);omega
def Ft{l:List Int}{k:Int}{i:Nat}(h:l[i]? =some k):(gQ l)[i]? =some [I k,I 1]:=by unfold gQ;rw[NB,h];rfl
def Bt(env:b8)(c:aq)(h:ch c)(hs:g7 c)(l:List Int)(hn:l.Nodup)(hz: ∀x∈l,fb c x=true):b7 prog env 267 [aG c, .seq 1 (l.map aa)] (.seq 1 ((px c l).map aa)):=by
 have hc:=h.toRight;have v:=hc.Z6;have hl32:l.length<=32:=NK (iI hn hz) v;have f0:=ay env c hs;have w1:IntKind.i64.wrap (0+1)=1:=rfl;have w2: ¬(0:Int)<0:=by omega
 have w3:(0:Int)<1:=by omega
 unfold aG at f0 |-;refine qf func267 call267 ntmps267 results267 ?_;repeat refine m9 ?_
 refine xr ?_;have F:=aA.eq_1;repeat refine fc f0 ?_
 refine aH (D:=Nat) (fun j u=>[(0, .ref 9 [ct c] 0 0),(1, .seq 1 (l.map aa)),(5, .loc 5 (u 5) 0 0),(6, .mp 18 (u 18)),(19, .seq 1 (l.map aa)),(20,I l.length),(21,I j)]) (fun j _=>[(5,⟨5,[aA c],26,false⟩),(18,⟨0,gQ (l.take j),346,true⟩)]) (fun j _ _=>j<=l.length) (fun j=>l.length-j) 0 ?_ ?_ ?_ ?_
 ·exact NG _
 ·(simp only[go_sem,F])
  try rfl
 ·have F:=aA.eq_1
  (simp only[go_sem,F])
  try rfl
 ·rintro j ws esc hj;by_cases a:j<l.length
  ·obtain⟨x,b⟩:=gE a;have R:=it a;have q2:=aD a (by omega);have M:=mM x (l.take j) 0;rw[ll (sj hn b)]at M;have ht:gQ (l.take (j+1))=gQ (l.take j)++[[I x,I 1]]:=by rw[N1,b];exact xJ _ _
   have F:=g9 b R q2 M w1;repeat refine st ?_
   refine⟨j+1,a,?_,?_,by omega⟩
   ·exact qe
   have F:=ht;exact qe
  obtain rfl:j=l.length:=by omega
  have R:=nl l.length;rw[NR];have F:=R;repeat refine st ?_
  refine xt ?_;show fp _ _ _ _ _ _;repeat refine st ?_
  refine aH (D:=List Int×List Int) (fun d u=>[(0, .ref 9 [ct c] 0 0),(1, .seq 1 (d.1.map aa)),(5, .loc 5 (u 5) 0 0),(6, .mp 18 (u 18)),(9, .seq 1 (d.2.map aa))]) (fun d _=>[(5,⟨5,[aA c],26,false⟩),(18,⟨0,gQ d.1,346,true⟩)])
   (fun d _ _=>Grown c l d.1 d.2/\d.1.Nodup/\jE c (nv c d.1+d.2.length) d.1 d.2=px c l) (fun d=>nv c d.1+d.2.length) (l,l) ?_ ?_ ?_ ?_
  ·exact⟨qx hn,hn,rfl⟩
  ·(simp only[go_sem,F])
   try rfl
  ·(simp only[go_sem,F])
   try rfl
  try clear hj a R
  rintro⟨L,T⟩ ws esc ⟨X,H,S⟩;simp only at X H S;have J: ∀x∈L,fb c x=true:=fun x b=>(X.gr x b).in h hz;have hL32:L.length<=32:=NK (iI H J) v;have hT32:T.length<=32:=NK (iI X.nd fun x b=>J x (X.todo x b)) v;cases T with
  | nil=>
    have hL:px c l=L:=by
     rw[<-S];cases nv c L+([]:List Int).length<;>rfl
    rw[hL];have R: ¬(0:Int)<0:=by omega
    have F:=R;exact ek
  |cons i r=>
  have hi:=X.todo i (by simp);obtain⟨k,s,rfl,C,hat⟩:=cS (J i hi);have hk:=(Mr.1 C).1;have R:(0:Int)< (((k:Int)::r).length:Int):=by simp only[NN];omega
  have q2:((k:Nat):Int)< (c.Z9.length:Int):=by omega
  have q3:(((k:Int)::r).drop 1).take (((k:Int)::r).length-1)=r:=by simp
  have q4:(1:Int)<=(((k:Int)::r).length:Int):=by simp only[NN];omega
  have q5:((k:Int)::r)[0]? =some (k:Int):=rfl;have f1:=bf env c h k;rw[Mw (.inr (J _ hi)), <-bd]at f1;unfold aG at f1;have hKd:zL (av c (k:Int) true)=g6 c (k:Int):=rfl;rw[hKd]at f1;have w:=ub C;have P:kT c (k:Int)=s.initial:=by unfold kT;rw[hat]
  have f:=X.step h;have hmiss:=lN (c:=c) (l:=L) (fv c L k) fun x b=>⟨(fN h b).1,(fN h b).2.1⟩
  have hgr':jE c (nv c L+r.length) (L++jW c L k) (r++jW c L k)=px c l:=by
   rw[<-S,NN,show nv c L+(r.length+1)=(nv c L+r.length)+1 by omega];rfl
  have q:jE c (nv c (L++jW c L k)+(r++jW c L k).length) (L++jW c L k) (r++jW c L k)=px c l:=by
   rw[<-hgr'];refine xK h f ?_ ?_
   ·exact NC _
   rw[My];omega
  have V:(L++jW c L k).Nodup:=by
   rw[Ov];exact⟨H,fv c L k,fun x b y Q e=>(fN h Q).1 (by rw[<-e];exact b)⟩
  have U:nv c (L++jW c L k)+(r++jW c L k).length<nv c L+((k:Int)::r).length:=by
   rw[My,NN];omega
  generalize z:g6 c (k:Int)=G at*;have hKn:G.Nodup:=by rw[<-z];exact tJ c k
  have hK32:G.length<=32:=by
   rw[<-z,g6,am];exact bE hc k true
  have fin: ∀x:Int,x∉L->sv prog 3 (I x) (gQ L) 0=some none:=fun x b=>by rw[mM,ll b]
  have Z: ∀x:Int,x∈L-> ∃p,sv prog 3 (I x) (gQ L) 0=some (some p)/\(gQ L)[p]? =some [I x,I 1]:=fun x b=>by
   obtain⟨p,h1,h2⟩:=qC (n:=0) b;exact⟨p,by rw[mM,h1,OM],Ft h2⟩
  generalize hT:(k:Int)::r=T at*;have F:=n4 R q2 q3 q4 q5 C Uv Uw;repeat refine fc f1 ?_
  refine Fs (D:=List Int) (fun K u=>[(0, .ref 9 [ct c] 0 0),(1, .seq 1 (L.map aa)),(5, .loc 5 (u 5) 0 0),(6, .mp 18 (u 18)),(9, .seq 1 (r.map aa)),(11, .seq 1 (K.map aa))]) (fun _ _=>[(5,⟨5,[aA c],26,false⟩),(18,⟨0,gQ L,346,true⟩)]) (fun K _ _=>K=pN c L k) ?_ ?_
  ·refine eA ?_;by_cases hk1:s.kind=1
   ·have Y:(s.kind==1)=true:=by simp[hk1]
    rw[Y]at w;have F:=Y;repeat refine st ?_
    have F:=aA.eq_1;refine lq G.length (by omega) (fun j u=>[(0, .ref 9 [ct c] 0 0),(1, .seq 1 (L.map aa)),(5, .loc 5 (u 5) 0 0),(6, .mp 18 (u 18)),(9, .seq 1 (r.map aa)),(10,I k),(49, .row 41 (u 41)),(50,I G.length),(51,I j)]) (fun _ _=>[(5,⟨5,[aA c],26,false⟩),(18,⟨0,gQ L,346,true⟩),(41,⟨1,G.map aa,3,true⟩)]) (fun j _ _=> ∀m (y:Int),m<j->G[m]? =some y->y∉L) (fun m y M=>absurd M (by omega)) ?_ ?_
    ·rintro j us es a E p2 W;obtain⟨x,b⟩:=gE a;by_cases g:x∈L
     ·obtain⟨p,m1,m2⟩:=Z x g
      have hnk:jW c L k=[]:=by
       unfold jW pN;rw[Mw w,z,Mw (OE.2 ⟨x,Mv b,Mx.2 g⟩)];rfl
      rw[hnk,OP,OP]at q U f;have F:=i' b E p2 m1 m2 w3;repeat refine st ?_
      refine⟨_,dd.refl _,(L,r),⟨f,H,q⟩,?_,?_,U⟩
      ·exact qe
      have F:=aA.eq_1;exact qe
     have m1:=fin x g;have F:=g9 b E p2 m1 w2;repeat refine st ?_
     refine⟨j+1,⟨a,fun m y M Q=> ?_⟩,?_,?_,by omega⟩
     ·rcases OW.1 M with e|e
      ·exact W m y e Q
      rw[e,b]at Q;cases Q;exact g
     ·exact qe
     have F:=aA.eq_1;exact qe
    rintro us es E W
    have O:(g6 c (k:Int)).any (fun k=>L.contains k)=false:=by
     rw[Q1];intro y Q;rw[z]at Q;obtain⟨m,M⟩:=O6.1 Q;have:=W m y (Mr.1 M).1 M;simpa using this
    by_cases h0:0<=s.initial
    ·have o:pN c L k=[s.initial]:=by
      unfold pN;rw[Mw w,Mt (by rw[O];simp),P,Mw h0]
     have F:=i' E h0 q2 C Uv Uw;repeat refine st ?_
     refine⟨_,dd.frozen 73 11 ⟨1,[[I s.initial]],3,true⟩ rfl (Nf 0) (by simp only[go_sem]) (by simp only[go_sem]),[s.initial],o.symm,?_,?_⟩
     ·exact qe
     have F:=aA.eq_1;exact qe
    have o:pN c L k=[]:=by
     unfold pN;rw[Mw w,Mt (by rw[O];simp),P,Mt h0]
    have F:=i' E h0 q2 C Uv Uw;repeat refine st ?_
    refine⟨_,dd.nil 11 1 (by simp only[go_sem]),[],o.symm,?_,?_⟩
    ·exact qe
    have F:=aA.eq_1;exact qe
   have Y:(s.kind==1)=false:=by simpa using hk1
   rw[Y]at w
   have o:pN c L k=G:=by
    unfold pN;rw[Mt (by rw[w];simp),z]
   have F:=Y;repeat refine st ?_
   refine⟨_,dd.frozen 41 11 ⟨1,G.map aa,3,true⟩ rfl (Nf 0) (by simp only[go_sem]) (by simp only[go_sem]),G,o.symm,?_,?_⟩
   ·exact qe
   have F:=aA.eq_1;exact qe
  intro K us es hK;have N:K.Nodup:=by rw[hK];exact sn c L k
  have hKz: ∀x∈K,fb c x=true:=fun x b=>by
   rw[hK]at b;exact(bP hc (Bb h b)).1
  have hK32b:K.length<=32:=NK (iI N hKz) v;have hadd:dB L K K.length=jW c L k:=by unfold dB jW;rw[NR,hK]
  have hr32:r.length<=32:=by rw[<-hT,NN]at hT32;omega
  repeat (first|refine oO rfl (by simp only[go_sem,aA];exact⟨rfl,rfl⟩) ?_|refine gR ?_|refine gO ?_|refine oZ (ke ?_)|refine oZ ?_|refine oS ?_|refine gT ?_|refine gD mixed ?_|refine oB ?_|refine oK ?_|(refine oX ?_;simp only[bD,be, ↓reduceIte,Nat.reduceEqDiff,reduceCtorEq])|refine oY (by simp only[go_sem,aA];exact iR) ?_|refine oN (by simp only[go_sem,aA];exact iR) ?_)
  refine aH (D:=Nat) (fun j u=>[(0, .ref 9 [ct c] 0 0),(1, .seq 1 ((L++dB L K j).map aa)),(5, .loc 5 (u 5) 0 0),(6, .mp 18 (u 18)),(9, .seq 1 ((r++dB L K j).map aa)),(74, .seq 1 (K.map aa)),(75,I K.length),(76,I j)]) (fun j _=>[(5,⟨5,[aA c],26,false⟩),(18,⟨0,gQ (L++dB L K j),346,true⟩)]) (fun j _ _=>j<=K.length) (fun j=>K.length-j) 0 ?_ ?_ ?_ ?_
  ·exact NG _
  ·have:dB L K 0=[]:=rfl;rw[this,OP,OP]
   (simp only[go_sem,aA])
   try rfl
  ·have:dB L K 0=[]:=rfl;rw[this,OP]
   (simp only[go_sem,aA])
   try rfl
  rintro j us es hj;by_cases a:j<K.length
  ·obtain⟨x,b⟩:=gE a;have E:=it a;have p2:=aD a (by omega);have t:=EW (L:=L) b;have hal:(dB L K j).length<=32:=NK (NS ..) (by rw[NJ];omega);refine eA ?_;by_cases g:x∈L
   ·rw[Mw (Mx.2 g)]at t;obtain⟨p,m1,m2⟩:=qC (n:=0) (show x∈L++dB L K j from Ns _ g);have m3:=mM x (L++dB L K j) 0;rw[m1,OM]at m3;have m4:=Ft m2;have F:=g9 b E p2 m3 m4;repeat refine st ?_
    refine⟨_,dd.refl _,j+1,a,?_,?_,by omega⟩
    ·have F:=t;exact qe
    have F:=ai t Uv;exact qe
   have hxn:x∉L++dB L K j:=fun hh=>by
    rcases NY.1 hh with hh|hh
    ·exact g hh
    exact sj N b (IL.1 hh).1
   rw[Mt (by simpa using g)]at t;have m3:=mM x (L++dB L K j) 0;rw[ll hxn]at m3;have e1:gQ (L++dB L K (j+1))=gQ (L++dB L K j)++[[I x,I 1]]:=by rw[t, <-Nl];exact xJ _ _
   have e2:L++dB L K (j+1)=(L++dB L K j)++[x]:=by rw[t,Nl]
   have e3:r++dB L K (j+1)=(r++dB L K j)++[x]:=by rw[t,Nl]
   have hf1:cU ((L++dB L K j).length+1) 8:=aC (by rw[My];omega) (by omega);have hf2:cU ((r++dB L K j).length+1) 8:=aC (by rw[My];omega) (by omega);generalize hA:L++dB L K j=A at*;generalize hB:r++dB L K j=B at*;have F:=mc b E p2 m3 w1 hf1 hf2;repeat refine st ?_
   refine⟨_,(dd.frozen 96 1 ⟨1,(A++[x]).map aa,3,true⟩ rfl (Nf 0) (by simp only[go_sem,NA]) (by simp only[go_sem])).trans (dd.frozen 105 9 ⟨1,(B++[x]).map aa,3,true⟩ rfl (Nf 0) (by simp only[go_sem,NA]) (by simp only[go_sem])),j+1,a,?_,?_,by omega⟩
   ·have F:=ai e2 e3;exact qe
   have F:=ai e1 Uv;exact qe
  obtain rfl:j=K.length:=by omega
  have E:=nl K.length;rw[hadd];have F:=E;repeat refine st ?_
  refine⟨(L++jW c L k,r++jW c L k),⟨f,V,q⟩,?_,?_,U⟩
  ·exact qe
  have F:=aA.eq_1;exact qe
def kv(c:aq)(a:Int)(mem:List ds):List Int:=match at_ c a with
 | some s=>if aU s=true then(match mem.find? (fun m=>m.1==a) with
   |some m=>m.2
   |none=>[s.initial]) else [a]
 |none=>[]
def xo{c:aq}(h:Right c){i d e m:Int}(g:fb c d=true)(j:fb c e=true)(n:aP c d=i)(o:aP c e=i)(f:fb c m=true)(k:m=d\/d∈j0 c m)(l:m=e\/e∈j0 c m):d=e:=by
 obtain⟨a,_,rfl,_⟩:=cS g;obtain⟨b,_,rfl,_⟩:=cS j;obtain⟨m,_,rfl,_⟩:=cS f;have:=yw h (eJ.2 ⟨aV.1 g,n⟩) (eJ.2 ⟨aV.1 j,o⟩) (m+1) m (by omega) (aV.1 f) (k.imp (by omega) id) (l.imp (by omega) id);omega
def C1{c:aq}(h:Right c){d:Int} : ∀(n:Nat)(t:Int),t<n->a7 c d t=true-> ∃k,(k=t\/(k∈j0 c t/\a7 c d k=true))/\fb c k=true/\aP c k=d
 | 0,t,j,a=>by
   cases f:fb c t with
   |true=>have:=aI.1 f;omega
   |false=>unfold a7 at a;rw[cc f]at a;simp at a
 | n+1,t,j,a=>by
   have b:fb c t=true:=by
    cases f:fb c t with
    |true=>rfl
    |false=>unfold a7 at a;rw[cc f]at a;simp at a
   rcases (ah h b).1 a with e|e
   ·exact⟨t, .inl rfl,b,e⟩
   have o:=d4 h b;obtain⟨k,g,l,m⟩:=C1 h n (aP c t) (by omega) e;refine⟨k, .inr ?_,l,m⟩;rcases g with rfl|⟨g,i⟩
   ·exact⟨(cv h b).2 (.inl rfl),e⟩
   exact⟨(cv h b).2 (.inr g),i⟩
def aZ{c:aq}{d x:Int}(h:a7 c d x=true):fb c x=true:=by
 cases a:fb c x with
 |true=>rfl
 |false=>unfold a7 at h;rw[cc a]at h;simp at h
def jG{c:aq}(h:Right c){a b d:Int}(f:a7 c a b=true)(e:a7 c b d=true):a7 c a d=true:=by
 have g:=aI.1 (aZ e);unfold a7 at*;rw[Mx]at*;exact i8 h (c.Z9.length) d b a g.2 e f
def Ju{c:aq}(h:Right c){d:Int} :a7 c d d=false:=by
 cases a:a7 c d d with
 |false=>rfl
 | true=>
   unfold a7 at a;have:=(kC h 40 d d (Mx.1 a)).2;omega
def qO{c:aq}(h:Right c){a b:Int} : ∀(n:Nat)(t:Int),t<n->a∈j0 c t->b∈j0 c t->a=b\/a∈j0 c b\/b∈j0 c a
 | 0,t,i,d,_=>by
   cases f:fb c t with
   |true=>have:=aI.1 f;omega
   |false=>rw[cc f]at d;simp at d
 | n+1,t,i,d,e=>by
   have g:fb c t=true:=by
    cases f:fb c t with
    |true=>rfl
    |false=>rw[cc f]at d;simp at d
   have j:=d4 h g;rw[cv h g]at d e;rcases d with rfl|d
   ·rcases e with rfl|e
    ·exact .inl rfl
    exact .inr (.inr e)
   rcases e with rfl|e
   ·exact .inr (.inl d)
   exact qO h n _ (by omega) d e
def vv{c:aq}(h:ch c){a e:Int}(k:fb c a=true)(l:fb c e=true):a7 c (ns c a e) e=true/\ns c a e∈j0 c a/\(ns c a e= -1\/(0<=ns c a e/\an c (ns c a e)=true)):=by
 have i:=h.toRight;have b: ∀ {x},fb c x=true-> -1∈j0 c x:=fun {x} j=>sD i (c.Z9.length) x j (aI.1 j).2;unfold ns;cases f:(j0 c a).find? (rp c e) with
 | none=>
   rw[Pv]at f;exact absurd rfl (f _ (b k))
 | some d=>
   have h1:=QU f;have g:=On f;have m:=(kC i 40 _ _ g).1;simp only[OH];unfold rp at h1;rw[OQ,NF,Mu]at h1;rcases h1 with h1|h1
   ·have:d= -1:=by omega
    subst this;exact⟨by unfold a7;rw[Mx];exact b l,g, .inl rfl⟩
   refine⟨h1.2,g,?_⟩;rcases Qw d 0 with q|q
   ·exact .inl (by omega)
   exact .inr ⟨q,h1.1⟩
structure TX(c:aq)(d:Int)(P:List Int):Prop where
 real: ∀k∈P,∃s,at_ c k=some s/\aU s=false
 Z3: ∀k∈P,a7 c d k=true
 up: ∀k∈P,aP c k=d\/aP c k∈P
 one: ∀x,an c x=true\/x= -1-> ∀k1∈P,∀k2∈P,aP c k1=x->aP c k2=x->k1=k2
 has: ∃k∈P,aP c k=d
def wm{c:aq}{x:Int}(h:az c x=true): ∃s,at_ c x=some s/\aU s=false:=by
 obtain⟨s,b,a⟩:=iE h;refine⟨s,b,?_⟩;unfold aU;rcases a with e|e<;>simp[e]
def En{c:aq}(h:ch c){d:Int}{l:List Int}(f: ∀x∈l,a7 c d x=true/\ ∃s,at_ c x=some s/\aU s=false)(u:l≠[])(_hd: -1<=d)
 (j: ∀x,an c x=true\/x= -1-> ∀p∈m7 c l d,∀q∈m7 c l d,aP c p=x->aP c q=x->p=q):TX c d (m7 c l d):=by
 have m:=h.toRight;have g:=(gz (c:=c) (d:=d) (l:=l)).2
 have b: ∀k∈m7 c l d,a7 c d k=true:=fun k a=>by
  rcases (g k).1 a with a|⟨_,_,_,_,a⟩
  ·exact(f k a).1
  exact a
 refine⟨fun k a=> ?_,b,fun k a=> ?_,j,?_⟩
 ·rcases (g k).1 a with a|⟨i,n,r,y,_⟩
  ·exact(f k a).2
  exact wm (sE h (c.Z9.length) i k (aI.1 (aZ (f i n).1)).2 r y)
 ·have v:=aZ (b k a);rcases (ah m v).1 (b k a) with e|e
  ·exact .inl e
  refine .inr ((g _).2 (.inr ?_));have w:0<=aP c k:=(aI.1 (aZ e)).1;rcases (g k).1 a with a|⟨i,n,r,y,_⟩
  ·exact⟨k,a,(cv m v).2 (.inl rfl),w,e⟩
  exact⟨i,n,i8 m (c.Z9.length) i k _ (aI.1 (aZ (f i n).1)).2 r ((cv m v).2 (.inl rfl)),w,e⟩
 obtain⟨t,o⟩:=List.exists_mem_of_ne_nil l u;obtain⟨k,a,p,q⟩:=C1 m (c.Z9.length) t (aI.1 (aZ (f t o).1)).2 (f t o).1;refine⟨k,(g k).2 ?_,q⟩;rcases a with rfl|⟨a,e⟩
 ·exact .inl o
 exact .inr ⟨t,o,a,(aI.1 p).1,e⟩
def Ep{c:aq}(h:ch c){d t:Int}(f:a7 c d t=true)(p: -1<=d)(u: ∃s,at_ c t=some s/\aU s=false):TX c d (m7 c [t] d):=by
 have r:=(gz (c:=c) (d:=d) (l:=[t])).2
 have e: ∀k∈m7 c [t] d,fb c k=true/\(t=k\/k∈j0 c t):=fun k g=>by
  rcases (r k).1 g with g|⟨i,q,a,b,_⟩
  ·rw[NO.1 g];exact⟨aZ f, .inl rfl⟩
  rw[NO.1 q]at a;exact⟨(gY h.toRight a b).1, .inr a⟩
 refine En h (fun x v=>by rw[NO.1 v];exact⟨f,u⟩) (by simp) p fun x _ j a m b n o=> ?_;exact xo h.toRight (e j a).1 (e m b).1 n o (aZ f) (e j a).2 (e m b).2
def Ad{act:List Int}{ks:List Nat}(h:b6 act ks<=1){a b:Int}(f:a∈zL ks)(g:b∈zL ks)(d:a∈act)(e:b∈act):a=b:=by
 rw[<-qo]at h;have c:a∈(zL ks).filter fun k=>act.contains k:=ND.2 ⟨f,by simpa using d⟩;have i:b∈(zL ks).filter fun k=>act.contains k:=ND.2 ⟨g,by simpa using e⟩;generalize (zL ks).filter (fun k=>act.contains k)=q at*
 match q,h with
 |[],_=>simp at c
 |[x],_=>rw[NO.1 c,NO.1 i]
def I9{c:aq}(h:ch c){d p:Int}(hp:az c p=true){l:List Int}(C:tx c p l=true)(hd: -1<=d)(U:d=p\/a7 c d p=true):TX c d (m7 c l d):=by
 have w:=h.toRight;unfold tx at C;rw[Mu,Mu,Mz,Mz]at C;obtain⟨⟨b1,b2⟩,b3⟩:=C
 have f: ∀x∈l,a7 c p x=true/\ ∃s,at_ c x=some s/\aU s=false:=fun x u=>by
  have:=b2 x u;unfold dD at this;rw[Mu,Mu]at this;refine⟨this.1.1,?_⟩;have:=this.1.2;split at this
  ·rename_i s m;exact⟨s,m,by simpa using this⟩
  cases this
 have D: ∀x,a7 c p x=true->a7 c d x=true:=fun x u=>by
  rcases U with rfl|e
  ·exact u
  exact jG w e u
 have J:=(gz (c:=c) (d:=d) (l:=l)).2
 have G: ∀k∈m7 c l d,fb c k=true:=fun k g=>by
  rcases (J k).1 g with g|⟨_,_,_,_,g⟩
  ·exact aZ (f k g).1
  exact aZ g
 have Z:fb c p=true:=by
  obtain⟨s,m,_⟩:=iE hp;unfold at_ at m;split at m
  ·rename_i h0;have:=(Mr.1 m).1;exact aI.2 ⟨h0,by omega⟩
  cases m
 obtain⟨t,ht⟩:=List.exists_mem_of_ne_nil l (yj b1);refine En h (fun x u=>⟨D x (f x u).1,(f x u).2⟩) (yj b1) hd fun x u R P S Q T A=> ?_
 have O: ∀k∈m7 c l d,a7 c p k=true\/p=k\/k∈j0 c p:=fun k g=>by
  rcases (J k).1 g with g|⟨i,v,H,N,_⟩
  ·exact .inl (f k g).1
  have V:p∈j0 c i:=Mx.1 (f i v).1;rcases qO w (c.Z9.length) i (aI.1 (aZ (f i v).1)).2 V H with e|e|e
  ·exact .inr (.inl e)
  ·exact .inl (Mx.2 e)
  exact .inr (.inr e)
 have low: ∀k,k∈m7 c l d->a7 c p k=true->k∈mv c p l:=fun k g o=>by
  unfold mv;rw[NY,lM w fun x u=>aZ (f x u).1,gz.2];rcases (J k).1 g with g|⟨i,v,H,N,_⟩
  ·exact .inl (.inl g)
  exact .inl (.inr ⟨i,v,H,N,o⟩)
 have r: ∀k∈m7 c l d,k∈g6 c (aP c k):=fun k g=>by
  obtain⟨j,s,rfl,m,o⟩:=cS (G k g);refine NE.2 ⟨j,Ed m (eH m).symm ?_,rfl⟩;rcases (J _).1 g with g|⟨i,v,H,N,_⟩
  ·obtain⟨s',e,A⟩:=(f _ g).2;rw[o]at e;cases e;exact A
  obtain⟨s',e,A⟩:=wm (sE h (c.Z9.length) i _ (aI.1 (aZ (f i v).1)).2 H N);rw[o]at e;cases e;exact A
 have y: ∀n z,n∈m7 c l d->z∈m7 c l d->aP c n=x->aP c z=x->a7 c p n=true->n=z:=fun n z o C K eb B=>by
  have X:a7 c p z=true:=by
   have:=(ah w (G n o)).1 B;rw[K, <-eb]at this;exact(ah w (G z C)).2 this
  have hxd:x∈mv c p l:=by
   rcases (ah w (G n o)).1 B with e|e
   ·unfold mv;rw[<-K,e];simp
   have E:0<=aP c n:=(aI.1 (aZ e)).1;rw[K]at e E;refine low x ((J x).2 (.inr ?_)) e;have M:x∈j0 c n:=(cv w (G n o)).2 (.inl K.symm);rcases (J n).1 o with q|⟨i,v,H,N,_⟩
   ·exact⟨n,q,M,E,D x e⟩
   exact⟨i,v,i8 w (c.Z9.length) i n x (aI.1 (aZ (f i v).1)).2 H M,E,D x e⟩
  have I:=b3 x hxd;unfold dE at I;cases m:at_ c x with
  |none=>rw[m]at I;cases I
  | some s=>
    have L:an c x=true:=u.resolve_right fun e=>by rw[e]at m;simp[at_]at m
    rw[cA m]at L;rw[m]at I;have W:s.kind=1:=by simpa using L
    simp only[W]at I
    have Y:b6 (mv c p l) (av c x true)<=1:=by
     simp at I;omega
    have r1:=r n o;have r2:=r z C;rw[K]at r1;rw[eb]at r2;exact Ad Y r1 r2 (low n o B) (low z C X)
 rcases O R P with a|a
 ·exact y R S P Q T A a
 rcases O S Q with b|b
 ·exact(y S R Q P A T b).symm
 exact xo w (G R P) (G S Q) T A Z a b
def ug{c:aq}(h:ch c){d u:Int}(x:fb c u=true){mem:List ds}(z:bc c mem=true)(v:a7 c d u=true)(o: -1<=d):TX c d (m7 c (kv c u mem) d):=by
 have q:=h.toRight;obtain⟨k,s,rfl,r,g⟩:=cS x;unfold kv;rw[g];simp only;by_cases f:aU s=true
 ·rw[Mw f];obtain⟨B,y,C,D,E⟩:=pR h r f
  have i:d=s.parent\/a7 c d s.parent=true:=by
   have:=(ah q x).1 v;rw[eH r]at this;exact this.imp Eq.symm id
  have a: ∀t∈g6 c s.parent,TX c d (m7 c [t] d):=fun t n=>by
   obtain⟨t1,t2,_⟩:=bP q n;refine Ep h ((ah q t1).2 (by rw[t2];exact i.imp Eq.symm id)) o ?_;obtain⟨j,p,rfl⟩:=NE.1 n;obtain⟨A,l,_,b,_⟩:=zh p;exact⟨A,by rw[bN];exact l,b⟩
  cases w:mem.find? (fun m=>m.1==(k:Int)) with
  | none=>
    refine a _ ?_;rcases h.cases r with⟨e,_⟩|⟨e,_⟩|⟨e,_⟩|⟨_,_,_,e⟩
    ·omega
    ·omega
    ·omega
    obtain⟨j,p,e⟩:=pP.1 e;exact NE.2 ⟨j,p,e⟩
  | some m=>
    have l:=QU w;have b:=(pO z).2 m (On w);simp only[Nz]at l;unfold lQ at b;rw[l,g]at b;simp only at b |-;split at b
    ·rw[Mu,NF]at b;obtain⟨t,n⟩:=Ps.1 b.1;rw[n]at b |-;exact a t (by simpa using b.2)
    rw[Mu,qJ h y]at b;exact I9 h y b.2 o i
 rw[Mt f];exact Ep h v o ⟨s,g,by simpa using f⟩
def xE{c:aq}{k:Int}{s:nr}(e:at_ c k=some s)(d:aU s=false)(f:fb c k=true):k∈g6 c (aP c k):=by
 obtain⟨j,g,rfl,a,b⟩:=cS f;rw[e]at b;cases b;exact NE.2 ⟨j,Ed a (eH a).symm d,rfl⟩
def nK{l:List Int}{ks:List Nat}(c:ks.Nodup){k:Int}(b:k∈zL ks)(h: ∀x∈zL ks,x∈l↔x=k):b6 l ks=1:=by
 obtain⟨j,a,rfl⟩:=NE.1 b;unfold b6;rw[filter_one c a fun x d=> ?_]
 ·rfl
 rw[Mx,h _ (NE.2 ⟨x,d,rfl⟩)];omega
def D8{c:aq}(h:ch c){act:List Int}(Y:Lg c act){d:Int}{P:List Int}(D:TX c d P)(X:d= -1\/(d∈act/\an c d=true)){O:List Nat}(hO:O.Pairwise (· < ·))
 (R: ∀x,x∈zL O↔(x∈act/\a7 c d x=false)\/Gr c P x):tI c (zL O)=true/\ ∀x,a7 c d x=false->(x∈zL O↔x∈act):=by
 have l:=h.toRight
 have W: ∀x,Gr c P x->a7 c d x=true/\(aP c x=d\/Gr c P (aP c x))/\ ∃s,at_ c x=some s/\aU s=false:=fun x g=>by
  induction g with
  |base f=>exact⟨D.Z3 _ f,(D.up _ f).imp id .base,D.real _ f⟩
  | ini g hp hn h0 ih=>
    have n:=il h hp h0;obtain⟨t,p,_⟩:=bP l n;refine⟨(ah l t).2 (.inr (by rw[p];exact ih.1)), .inr (by rw[p];exact g),?_⟩;obtain⟨j,m,e⟩:=NE.1 n;obtain⟨s,E,_,i,_⟩:=zh m;exact⟨s,by rw[<-e,bN];exact E,i⟩
  | par g hp n ih=>
    obtain⟨t,p,_⟩:=bP l n;refine⟨(ah l t).2 (.inr (by rw[p];exact ih.1)), .inr (by rw[p];exact g),?_⟩;obtain⟨j,m,e⟩:=NE.1 n;obtain⟨s,E,_,i,_⟩:=zh m;exact⟨s,by rw[<-e,bN];exact E,i⟩
 have o: ∀x,a7 c d x=false->(x∈zL O↔x∈act):=fun x f=>by
  rw[R];refine⟨fun w=>w.elim (fun a=>a.1) fun g=> ?_,fun w=> .inl ⟨w,f⟩⟩;rw[(W x g).1]at f;cases f
 have N: ∀x,a7 c d x=true->(x∈zL O↔Gr c P x):=fun x f=>by
  rw[R];refine⟨fun w=>w.elim (fun a=> ?_) id, .inr⟩;rw[f]at a;cases a.2
 have K: ∀x,an c x=true\/x= -1-> ∀t p,Gr c P t->Gr c P p->aP c t=x->aP c p=x->t=p:=fun x f t p U V E i=>by
  have I: ∀k,Gr c P k->aP c k=x->k∈P\/(k=kT c x/\(∀k∈g6 c x,k∉P)/\an c x=true):=fun k g e=>by
   rcases g.real h with a|⟨Z,L,a3⟩
   ·exact .inl a
   rw[e]at Z L a3;rcases f with f|f
   ·exact .inr ⟨(a3 f).1,(a3 f).2,f⟩
   rw[f]at L;have:=(aI.1 (aZ (W _ L).1)).1;omega
  have kz: ∀k∈P,aP c k=x->k∈g6 c x:=fun k n e=>by
   obtain⟨s,q1,q2⟩:=D.real k n;rw[<-e];exact xE q1 q2 (aZ (D.Z3 k n))
  rcases I t U E with a|⟨Z,L,_⟩
  ·rcases I p V i with b|⟨b1,b2,_⟩
   ·exact D.one x f t a p b E i
   exact absurd a (b2 t (kz t a E))
  rcases I p V i with b|⟨b1,b2,_⟩
  ·exact absurd b (L p (kz p b i))
  rw[Z,b1]
 have v:b6 (zL O) (av c d true)=1:=by
  obtain⟨k,n,e⟩:=D.has;obtain⟨s,q1,q2⟩:=D.real k n;have Q:=xE q1 q2 (aZ (D.Z3 k n));rw[e]at Q;refine nK (bW c d true) Q fun x f=> ?_;obtain⟨x1,x2,_⟩:=bP l f;rw[N x ((ah l x1).2 (.inl x2))];refine⟨fun g=>K d ?_ x k g (.base n) x2 e,fun e=>by rw[e];exact .base n⟩;rcases X with e|e
  ·exact .inr e
  exact .inl e.2
 have hb: ∀k∈O,k<c.Z9.length:=fun k n=>by
  rcases (R k).1 (NE.2 ⟨k,n,rfl⟩) with a|a
  ·obtain⟨_,_,z,_⟩:=Y.of a.1;exact aV.1 z
  exact aV.1 (aZ (W _ a).1)
 refine⟨Le hO (fun k n=> ?_) ?_,o⟩
 ·have hkO:(k:Int)∈zL O:=NE.2 ⟨k,n,rfl⟩
  have key: ∃s,at_ c (k:Int)=some s/\aU s=false/\(s.parent<0\/s.parent∈zL O)/\(s.kind=1->av c k true≠[]->b6 (zL O) (av c k true)=1)/\(s.kind=2->b6 (zL O) (av c k true)=(av c k true).length):=by
   rcases (R k).1 hkO with⟨ka,kn⟩|g
   ·obtain⟨s,A,hz,H,hp,f1,f2⟩:=Y.of ka;have C:aP c (k:Int)=s.parent:=by unfold aP;rw[A]
    rw[C]at hp;refine⟨s,A,H,?_,?_⟩
    ·rcases hp with hp|hp
     ·exact .inl hp
     ·refine .inr ((o _ ?_).2 hp);cases w:a7 c d s.parent with
      |false=>rfl
      | true=>
        rw[(ah l hz).2 (.inr (by rw[C];exact w))]at kn;cases kn
    by_cases e:d=k
    ·rw[<-e];refine⟨fun _ _=>v,fun i=> ?_⟩;have u:=(X.resolve_left (by omega)).2;rw[e,cA A,i]at u;cases u
    have T:b6 (zL O) (av c k true)=b6 act (av c k true):=by
     unfold b6
     congr 1
     apply Ob;intro j m;have G:(j:Int)∈g6 c k:=NE.2 ⟨j,m,rfl⟩;obtain⟨S,J,_⟩:=bP l G;rw[N4,Mx,Mx];refine o _ ?_;cases w:a7 c d (j:Int) with
     |false=>rfl
     | true=>
       rcases (ah l S).1 w with q|q
       ·rw[J]at q;exact absurd q.symm e
       rw[J,kn]at q;cases q
    rw[T];exact⟨f1,f2⟩
   obtain⟨U,V,s,A,H⟩:=W k g;have hz:=aZ U;have C:aP c (k:Int)=s.parent:=by unfold aP;rw[A]
   have r: ∀j∈g6 c (k:Int),(j∈zL O↔Gr c P j):=fun j m=>by
    obtain⟨S,J,_⟩:=bP l m;exact N j ((ah l S).2 (.inr (by rw[J];exact U)))
   refine⟨s,A,H,?_,fun e hne=> ?_,fun e=> ?_⟩
   ·rw[<-C];rcases V with q|q
    ·rw[q];rcases X with e|e
     ·exact .inl (by omega)
     exact .inr ((o d (Ju l)).2 e.1)
    exact .inr ((R _).2 (.inr q))
   ·have u:an c (k:Int)=true:=by rw[cA A,e];rfl
    have y:0<=kT c (k:Int)/\kT c (k:Int)∈g6 c (k:Int):=by
     rcases lV h A with⟨_,i|i⟩|⟨i,_⟩|⟨i,_⟩|⟨i|i,_⟩
     ·exact absurd i hne
     ·exact i
     all_goals omega
    by_cases hex: ∃j∈g6 c (k:Int),j∈P
    ·obtain⟨j,m,B⟩:=hex;refine nK (bW c k true) m fun x f=> ?_;rw[r x f];exact⟨fun gx=>K k (.inl u) x j gx (.base B) (bP l f).2.1 (bP l m).2.1,fun e=>by rw[e];exact .base B⟩
    have hno: ∀j∈g6 c (k:Int),j∉P:=fun j m B=>hex ⟨j,m,B⟩;refine nK (bW c k true) y.2 fun x f=> ?_;rw[r x f];have gi:Gr c P (kT c (k:Int)):= .ini g u hno y.1;exact⟨fun gx=>K k (.inl u) x _ gx gi (bP l f).2.1 (bP l y.2).2.1,fun e=>by rw[e];exact gi⟩
   rw[jx];intro j m;exact(r j m).2 (.par g (by rw[cA A,e];rfl) m)
  obtain⟨s,A,t,p,k3,k4⟩:=key;have M:vk c (zL O) (k:Int)=rj c (zL O) k s:=by unfold vk;rw[A];rfl
  rw[M];unfold rj;rw[t,Mu,Mu];refine⟨⟨rfl,?_⟩,?_⟩
  ·rw[OQ,NF];exact p.imp id fun q=>Mx.2 q
  split
  ·rename_i e;simpa using k3 e.1 e.2
  split
  ·rename_i e;simpa using k4 e
  rfl
 rcases X with e|e
 ·rw[e]at v;exact v
 ·rw[<-Y.top];unfold b6
  congr 1
  apply Ob;intro j m;have G:(j:Int)∈g6 c (-1):=NE.2 ⟨j,m,rfl⟩;obtain⟨S,J,_⟩:=bP l G;have hd0:=(Y.of e.1);obtain⟨_,_,dz,_⟩:=hd0;rw[N4,Mx,Mx];refine o _ ?_;cases w:a7 c d (j:Int) with
  |false=>rfl
  | true=>
    rcases (ah l S).1 w with q|q
    ·rw[J]at q;have:=(aI.1 dz).1;omega
    rw[J]at q;have:=(aI.1 (aZ q)).1;omega
abbrev fk(l:List ds):AV:= .seq 2 (l.map fe)
def JQ{s:nr} :aU s=false->s.kind≠4/\s.kind≠5:=fun h=>by
 unfold aU at h;simpa using h
def zg(s:nr)(k:Int)(mem:List ds):List Int:=match mem.find? (fun m=>m.1==k) with|some m=>m.2|none=>[s.initial]
def Dk{s:nr}{k:Int}{mem:List ds}{m:ds}(h:mem.find? (fun m=>m.1==k)=some m):zg s k mem=m.2:=by unfold zg;rw[h]
def Dl{s:nr}{k:Int}{mem:List ds}(h:mem.find? (fun m=>m.1==k)=none):zg s k mem=[s.initial]:=by unfold zg;rw[h]
def HX(env:b8)(c:aq)(z:Right c)(B:g7 c)(k:Nat)(s:nr)(a:c.Z9[k]? =some s)(mem:List ds)(K:mem.length<=1000000)(A: ∀m∈mem,m.2.length<=4096):b7 prog env 300 [aG c,I k,fk mem] (.own 3 1 ((kv c k mem).map aa)):=by
 have w:=z.Z6;have f0:=ay env c B;have J:=(Mr.1 a).1;have v:((k:Nat):Int)< (c.Z9.length:Int):=by omega
 have u:at_ c (k:Int)=some s:=by rw[bN];exact a
 have g:kv c k mem=if aU s=true then(zg s k mem) else [(k:Int)]:=by unfold kv;rw[u];rfl
 rw[g];unfold aG at f0 |-;cases d:aU s with
 | false=>
   rw[Mt (by simp)];obtain⟨C,D⟩:=JQ d;have h:(s.kind==4)=false:=by simpa using C
   have i:(s.kind==5)=false:=by simpa using D
   refine qf func300 call300 ntmps300 results300 ?_;have F:=mc Uv Uw v a h i jO;exact hH f0
 | true=>
   rw[Mw rfl]
   have l:((s.kind==4)=true)\/((s.kind==4)=false/\(s.kind==5)=true):=by
    unfold aU at d;cases f:(s.kind==4) with
    |true=>exact .inl rfl
    |false=>rw[f]at d;exact .inr ⟨rfl,by simpa using d⟩
   have e: ∀h i:Bool,(s.kind==4)=h->(s.kind==5)=i->(h=true\/i=true)->b7 prog env 300 [.ref 9 [ct c] 0 0,I k,fk mem] (.own 3 1 ((zg s k mem).map aa)):=fun h i f t y=>by
    cases h<;>cases i<;>(try simp at y)<;>
    ·refine qf func300 call300 ntmps300 results300 ?_;have F:=mc Uv Uw v a f t jO;repeat refine fc f0 ?_
     have F:=aA.eq_1;refine lq mem.length (by omega) (fun j G=>[(1,I k),(7, .loc 7 (G 7) 0 0),(27,fk mem),(28,I mem.length),(29,I j)]) (fun _ _=>[(7,⟨5,[aA c],26,false⟩)]) (fun j _ _=>mem.find? (fun m=>m.1==(k:Int))=(mem.drop j).find? (fun m=>m.1==(k:Int))) rfl ?_ ?_
     ·rintro j H r n q E b;obtain⟨x,p⟩:=gE n;rw[iH p]at b;have f1:=dW env (x.2.map aa) (by rw[NQ];exact A x (Mv p));cases o:(x.1==(k:Int)) with
      | true=>
        rw[o]at b;simp only[Nt]at b;rw[Dk b];have F:=hU UH p q o;exact hH f1
      | false=>
        rw[o]at b;simp only[NU,OA]at b;have F:=g9 UH p q E o;repeat refine fc f1 ?_
        refine⟨j+1,⟨n,b⟩,?_,?_,by omega⟩
        ·exact qe
        have F:=aA.eq_1;exact qe
     rintro H r q b;rw[ON,QK]at b;rw[Dl b];have F:=g9 Uv Uw v q a;exact hH f0
   rcases l with f|⟨f,t⟩
   ·exact e _ _ f rfl (.inl rfl)
   exact e _ _ f t (.inr rfl)
def Bs{c:aq}(h:ch c){l:List Int}(a:l.Nodup)(d: ∀x∈l,fb c x=true):(px c l).length<=32:=by
 refine NK (iI (kx c _ _ _ a) fun x b=> ?_) h.toRight.Z6;exact((ej h a).1 b).in h d
def IZ(c:aq)(a b:Int)(mem:List ds):List Nat:=bt c (px c (m7 c (kv c b mem) (ns c a b)))
def FP{c:aq}(h:ch c){b:Int}(i:fb c b=true){mem:List ds}(j:bc c mem=true):(∀x∈kv c b mem,fb c x=true)/\(kv c b mem).length<=1000000:=by
 obtain⟨d1,_,d3⟩:=vv h i i;have o:=ug h i j d1 (by rcases d3 with e|e<;>omega);have k: ∀x∈kv c b mem,fb c x=true:=fun x g=>aZ (o.Z3 x ((gz.2 x).2 (.inl g)));refine⟨k,?_⟩;unfold kv;split
 ·rename_i s p;split
  ·split
   ·rename_i m l;have a:=(pO j).2 m (On l);unfold lQ at a;split at a
    ·split at a
     ·rw[Mu,NF]at a;omega
     unfold D' at a;simp only[Mu]at a;have n:=a.2.1.1.1;have f:m.2.Nodup:=kJ n
     have d: ∀x∈m.2,fb c x=true:=fun x g=>by
      have:=Mz.1 a.2.1.1.2 x g;unfold eD at this;rw[Mu]at this;exact aZ this.1
     exact NK (iI f d) (by have:=h.toRight.Z6;omega)
    cases a
   simp
  simp
 simp
def Cg(env:b8)(c:aq)(h:ch c)(j:g7 c)(t:tR)(f:fb c t.src=true)(g:fb c t.target=true)(mem:List ds)(r:mem.length<=1000000)(u: ∀m∈mem,m.2.length<=4096)(b:bc c mem=true):
 b7 prog env 275 [aG c, .agg (ax t),fk mem] (.own 3 1 ((IZ c t.src t.target mem).map aB)):=by
 have a:=h.toRight;obtain⟨k,s,e,n,_⟩:=cS g;obtain⟨o,w⟩:=FP h g b;obtain⟨p,B⟩:=gz (c:=c) (d:=ns c t.src t.target) (l:=kv c t.target mem)
 have q: ∀x∈m7 c (kv c t.target mem) (ns c t.src t.target),fb c x=true:=fun x v=>by
  rcases (B x).1 v with h|⟨i,_,y,z,_⟩
  ·exact o x h
  exact(gY a y z).1
 have f0:=bQ env c;have f1:=HX env c a j k s n mem r u;rw[<-e]at f1;have f2:=nU env c a j t f;have f3:=Jv env c a (kv c t.target mem) w o (ns c t.src t.target);have f4:=Bt env c h j _ p q;have f5:=gB env c a (px c (m7 c (kv c t.target mem) (ns c t.src t.target))) (by have:=Bs h p q;omega);unfold IZ;generalize px c (m7 c (kv c t.target mem) (ns c t.src t.target))=G at*;generalize m7 c (kv c t.target mem) (ns c t.src t.target)=U at*;generalize kv c t.target mem=A at*;unfold ax at f2;unfold aQ at f0 f5;unfold aG at f0 f1 f2 f3 f4 |-;refine qf func275 call275 ntmps275 results275 ?_;have F:=ax.eq_1;exact TC f0 f1 f2 f3 f4 f5
def bV{a:Type}{l:List a}{n:Nat}{x:a}(h:l[n]? =some x):l.take (n+1)=l.take n++[x]:=by rw[N1,h];rfl
def au{a:Type}{l:List a}{n:Nat}{x:a}(h:l[n]? =some x):l.drop n=x::l.drop (n+1):=by
 obtain⟨c,b⟩:=Mr.1 h;rw[Om c,b]
def mR(p:Int->Bool):List Int->Option Nat
 |[]=>none
 |d::l=>if p d=true then some 0 else(mR p l).map (· +1)
def mS:Option Nat->Int
 |some i=>i
 |none=> -1
def UX:=@mS.eq_1
def qD{p:Int->Bool} : ∀ {l:List Int}{i:Nat},mR p l=some i->i<l.length/\l.take i=(l.take i).filter (fun d=> !p d)/\ ∃d,l[i]? =some d/\p d=true
 |[],i,h=>by simp[mR]at h
 | d::l,i,h=>by
   unfold mR at h;split at h
   ·rename_i a;cases h;exact⟨by simp,by simp,d,rfl,a⟩
   ·rename_i a;cases b:mR p l with
    |none=>rw[b]at h;cases h
    | some j=>
      rw[b]at h;cases h;obtain⟨g,c,x,e,f⟩:=qD b;refine⟨by simp;omega,?_,x,by simpa using e,f⟩;have a:p d=false:=by simpa using a
      simp only[List.take_succ_cons,Oz,a,OT,Nt];rw[<-c]
def qE{p:Int->Bool} : ∀ {l:List Int},mR p l=none->l.filter (fun d=> !p d)=l/\ ∀d∈l,p d=false
 |[],h=>by simp
 | d::l,h=>by
   unfold mR at h;split at h
   ·cases h
   ·rename_i a;have a:p d=false:=by simpa using a
    cases c:mR p l with
    |some j=>rw[c]at h;cases h
    | none=>
      obtain⟨e,f⟩:=qE c;refine⟨by simp only[Oz,a,OT,Nt,e],fun x b=> ?_⟩;rcases NV.1 b with rfl|b
      ·exact a
      exact f x b
def Hc{p:Int->Bool}{l:List Int}{n:Nat}{d:Int}(a:l[n]? =some d):mR p (l.drop n)=if p d=true then some 0 else(mR p (l.drop (n+1))).map (· +1):=by
 rw[au a];rfl
def qv(env:b8)(l:List Int)(p:Int->Bool)(g:FuncId)(a:List (List AV))(m: ∀d,b7 prog env g [I d, .ref 1 a 0 0] (B (p d)))(o:l.length<=4096):b7 prog env 273 [.seq 1 (l.map aa), .clo g [.ref 1 a 0 0]] (I (mS (mR p l))):=by
 refine qf func273 call273 ntmps273 results273 ?_;repeat refine m9 ?_
 refine RK l.length (by omega) (fun n i=>[(0, .seq 1 (l.map aa)),(1, .clo g [.ref 1 a 0 0]),(7,I l.length),(8,I n)]) (fun n i=>[]) (fun n _ c=>mR p l=(mR p (l.drop n)).map (· +n)) (by simp) ?_ ?_
 ·rintro n i c e f j b;obtain⟨d,h⟩:=gE e;have f1:=m d;rw[Hc h]at b;cases k:p d
  ·rw[k]at b f1;simp only[NU,OA]at b;have F:=gb h f j;repeat refine st ?_
   refine oC (cM rfl (by simp only[go_sem,F];exact iR)) (f1) (by simp only[go_sem,F];exact iR) (by simp only[go_sem,F];exact⟨rfl,rfl⟩) ?_;repeat refine st ?_
   refine⟨n+1,⟨e,?_⟩,?_,?_,?_⟩
   ·rw[b];cases mR p (l.drop (n+1))
    ·rfl
    simp;omega
   ·exact qe
   ·exact qe
   omega
  rw[k]at b f1;simp only[Nt,NT,OM]at b;rw[b];have F:=g9 h f j UX mS.eq_2;repeat refine st ?_
  refine oC (cM rfl (by simp only[go_sem,F];exact iR)) (f1) (by simp only[go_sem,F];exact iR) (by simp only[go_sem,F];exact⟨rfl,rfl⟩) ?_;exact ek
 rintro i c f b;rw[OG (by omega)]at b;rw[b];have F:=gb f UX mS.eq_2;repeat (first|refine oO rfl (by simp only[go_sem,mR,F];exact⟨rfl,rfl⟩) ?_|refine gR ?_|refine gO ?_|refine oZ (ke ?_)|refine oZ ?_|refine oS ?_|refine gT ?_|refine gD mixed ?_|refine oB ?_|refine oK ?_|(refine oX ?_;simp only[bD,be, ↓reduceIte,Nat.reduceEqDiff,reduceCtorEq])|refine oY (by simp only[go_sem,mR,F];exact iR) ?_|refine oN (by simp only[go_sem,mR,F];exact iR) ?_)
 (refine aM ?_;show (aj _ _ _).run _=some _;simp only[go_sem,mR,F])
def M4(G act:List Int):List Int:=act.filter fun i=> !G.contains i
def Um(G act:List Int)(T:List Nat):List Int:=Lib.compact (bR (M4 G act++zL T))
def l6(l:List Int):(bR l).length=l.length:=by unfold bR;rw[List.length_mergeSort]
end
section
open Go.RowKit Go.ChangeShapes
def Tryz.tabArr:prog.underlying 279=some (.array 32 5):=by kernel_rfl
def LN:prog.cellsOf 5=1:=by kernel_rfl
def Lr{W:World}{g t:Nat}{cs:Array Value}{fuel:Nat}{p:List MemPlace}(o:prog.globalNamed "math/bits.deBruijn32tab" =some g)(x:(prog.globals[g]?).map (·.type)=some t)(y:W.var? prog "math/bits.deBruijn32tab" =some cs)
 (v:DataW.trod (fun _=>()) prog W 0 (fun _=>true) false fuel t cs.toList=some (Rows.laid_math_bits_deBruijn32tab,p)):wg W:=by
 obtain rfl:10=g:=OV ((show prog.globalNamed "math/bits.deBruijn32tab" =some 10 by kernel_rfl).symm.trans o);obtain rfl:279=t:=OV ((show (prog.globals[10]?).map (·.type)=some 279 by kernel_rfl).symm.trans x);obtain⟨c,m,_,r,_,z,l⟩:=DataW.trod_array Tryz.tabArr v;simp only[QG]at r;intro j q;have h:=l j q;rw[LN,Q7]at h;have d:c[j]? =some (c[j]'(by omega)):=Mq _;rw[d]at h;obtain⟨n,s,u,_⟩:=O4 Tryz.underlying5 h
 have b:cs[j]? =some (.int .u8 n):=by
  have:((cs.toList.drop j).take 1)[0]? =some (.int .u8 n):=by rw[s];rfl
  rw[N8,Mw (by omega),OL,PY]at this;simpa using this
 have f:(Rows.laid_math_bits_deBruijn32tab:DataW Unit)= .agg (c.map (·.1)):=r.1
 have a:(c.map (·.1))[j]? =(Lib.deBruijn32tab.map fun(k:Nat)=>DataW.lit (H:=Unit) (.int .u8 (k:Int)))[j]? :=by
  have e:(Lib.deBruijn32tab.map fun(k:Nat)=>DataW.lit (H:=Unit) (.int .u8 (k:Int)))=c.map (·.1):=by
   have:DataW.agg (Lib.deBruijn32tab.map fun(k:Nat)=>DataW.lit (H:=Unit) (.int .u8 (k:Int)))=DataW.agg (c.map (·.1)):=by
    rw[<-f];rfl
   injection this
  rw[e]
 rw[NB,d,NB]at a
 have i:Lib.deBruijn32tab[j]? =some (Lib.deBruijn32tab.getD j 0):=by
  have:j<Lib.deBruijn32tab.length:=by simpa[Lib.deBruijn32tab]using q
  simp[List.getD,Mq this]
 rw[i]at a;simp only[NT,Ms,u]at a
 have w:n=((Lib.deBruijn32tab.getD j 0:Nat):Int):=by
  have:=a;injection this with this
  injection this
 rw[R8 o y j,b,w]
def CW{P:Program}{env:b8}{f:FuncId}{cs:List AV}{u:Value}{w:World}{vs:List Value}(h:b7 P env f cs (.lit u))(d:tS env (fun b _=>b<w.heap.size) w)(a:T5 (fun b _=>b<w.heap.size) w vs cs):
 Calls P f vs.toArray w fun e c=>e= .returned u/\Below w.heap.size w c:=(Je h d (fun _ _ _=>by simp) a).mono (by
 rintro e c ⟨v,rfl,g,_,a⟩
 exact⟨by rw[a.lit_inv],g⟩)
end
section
open Go.RowKit Go.ChangeShapes
end
section
open Go.RowKit
def tX{c:aq}(h:k7 c=true):(n5 c).1=0:=by
 unfold k7 at h;rw[Mu,Nz]at h;exact h.2
end
end Go.Proofs.YtfhkmjbjafeckaaGreatDoor
