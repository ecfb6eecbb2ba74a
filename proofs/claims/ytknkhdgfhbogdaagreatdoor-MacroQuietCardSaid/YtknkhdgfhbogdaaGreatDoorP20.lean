/- The law of entering: its small functions; awake; what a nil table tells. -/
import Derived.Test.YtknkhdgfhbogdaaGreatDoorP19
set_option maxRecDepth 100000
set_option maxHeartbeats 16000000
set_option linter.unusedSimpArgs false
set_option linter.defProp false
namespace Go.Proofs.YtknkhdgfhbogdaaGreatDoor
open Go.Proofs.Tryz
section
open Go.RowKit
def wD(l:List Int)(x:Int):gH (l++[x])=gH l++[[I x,I 1]]:=by unfold gH;rw[Ln];rfl
def cw(L K:List Int)(j:Nat):List Int:=(K.take j).filter fun k=> !L.contains k
def DK{L K:List Int}{j:Nat}{x:Int}(h:K[j]? =some x):cw L K (j+1)=if L.contains x=true then cw L K j else cw L K j++[x]:=by
 unfold cw;rw[MM,h,MR];cases a:L.contains x<;>simp only[Na,a,N7,NI,MH,Mb,Mi,QW,Mw,PZ]
def Gu{L K:List Int}{j:Nat}{x:Int} :x∈cw L K j↔x∈K.take j/\x∉L:=by
 unfold cw;rw[Lq];simp
def rq{K:List Int}(d:K.Nodup){j:Nat}{x:Int}(h:K[j]? =some x):x∉K.take j:=fun b=>by
 obtain⟨k,f,e⟩:=PN.1 b;obtain⟨c,a⟩:=Ld.1 h;have:=(List.getElem_inj d (h₀:=by omega) (h₁:=c)).1 (e.trans a.symm);omega
def Ee{l:List Int}{k:Int}{i:Nat}(h:l[i]? =some k):(gH l)[i]? =some [I k,I 1]:=by unfold gH;rw[Lo,h];rfl
def Al(env:b6)(c:aq)(h:b8 c)(hs:g6 c)(l:List Int)(hn:l.Nodup)(hz: ∀x∈l,ed c x=true):b7 prog env 230 [aH c, .seq 1 (l.map aa)] (.seq 1 ((oj c l).map aa)):=by
 have hc:=h.toRight;have v:=hc.Z6;have hl32:l.length<=32:=Ly (gz hn hz) v;have f0:=au env c hs;have w1:IntKind.i64.wrap (0+1)=1:=rfl;have w2: ¬(0:Int)<0:=by omega
 have w3:(0:Int)<1:=by omega
 unfold aH at f0 |-;refine qf func230 call230 ntmps230 results230 ?_;repeat refine m8 ?_
 refine wo ?_;have F:=aA.eq_1;repeat refine ef f0 ?_
 refine aG (D:=Nat) (fun j u=>[(0, .ref 9 [ca c] 0 0),(1, .seq 1 (l.map aa)),(5, .loc 5 (u 5) 0 0),(6, .mp 18 (u 18)),(19, .seq 1 (l.map aa)),(20,I l.length),(21,I j)]) (fun j _=>[(5,⟨5,[aA c],26,false⟩),(18,⟨0,gH (l.take j),290,true⟩)]) (fun j _ _=>j<=l.length) (fun j=>l.length-j) 0 ?_ ?_ ?_ ?_
 ·exact Lx _
 ·(simp only[go_sem,F])
  try rfl
 ·have F:=aA.eq_1
  (simp only[go_sem,F])
  try rfl
 ·rintro j ws esc hj;by_cases a:j<l.length
  ·obtain⟨x,b⟩:=gE a;have R:=h9 a;have q2:=aD a (by omega);have M:=lr x (l.take j) 0;rw[lS (rq hn b)]at M;have ht:gH (l.take (j+1))=gH (l.take j)++[[I x,I 1]]:=by rw[MM,b];exact wD _ _
   have F:=g7 b R q2 M w1;repeat refine st ?_
   refine⟨j+1,a,?_,?_,by omega⟩
   ·exact qe
   have F:=ht;exact qe
  obtain rfl:j=l.length:=by omega
  have R:=nl l.length;rw[MC];have F:=R;repeat refine st ?_
  refine wq ?_;show fk _ _ _ _ _ _;repeat refine st ?_
  refine aG (D:=List Int×List Int) (fun d u=>[(0, .ref 9 [ca c] 0 0),(1, .seq 1 (d.1.map aa)),(5, .loc 5 (u 5) 0 0),(6, .mp 18 (u 18)),(9, .seq 1 (d.2.map aa))]) (fun d _=>[(5,⟨5,[aA c],26,false⟩),(18,⟨0,gH d.1,290,true⟩)])
   (fun d _ _=>Grown c l d.1 d.2/\d.1.Nodup/\iq c (nr c d.1+d.2.length) d.1 d.2=oj c l) (fun d=>nr c d.1+d.2.length) (l,l) ?_ ?_ ?_ ?_
  ·exact⟨qG hn,hn,rfl⟩
  ·(simp only[go_sem,F])
   try rfl
  ·(simp only[go_sem,F])
   try rfl
  try clear hj a R
  rintro⟨L,T⟩ ws esc ⟨X,H,S⟩;simp only at X H S;have J: ∀x∈L,ed c x=true:=fun x b=>(X.gr x b).in h hz;have hL32:L.length<=32:=Ly (gz H J) v;have hT32:T.length<=32:=Ly (gz X.nd fun x b=>J x (X.todo x b)) v;cases T with
  | nil=>
    have hL:oj c l=L:=by
     rw[<-S];cases nr c L+([]:List Int).length<;>rfl
    rw[hL];have R: ¬(0:Int)<0:=by omega
    have F:=R;exact dT
  |cons i r=>
  have hi:=X.todo i (by simp);obtain⟨k,s,rfl,C,hat⟩:=cO (J i hi);have hk:=(Ld.1 C).1;have R:(0:Int)< (((k:Int)::r).length:Int):=by simp only[MB];omega
  have q2:((k:Nat):Int)< (c.Z9.length:Int):=by omega
  have q3:(((k:Int)::r).drop 1).take (((k:Int)::r).length-1)=r:=by simp
  have q4:(1:Int)<=(((k:Int)::r).length:Int):=by simp only[MB];omega
  have q5:((k:Int)::r)[0]? =some (k:Int):=rfl;have f1:=bc env c h k;rw[Lj (.inr (J _ hi)), <-b9]at f1;unfold aH at f1;have hKd:zL (av c (k:Int) true)=gv c (k:Int):=rfl;rw[hKd]at f1;have w:=tq C;have P:kG c (k:Int)=s.initial:=by unfold kG;rw[hat]
  have f:=X.step h;have hmiss:=ku (c:=c) (l:=L) (fV c L k) fun x b=>⟨(eo h b).1,(eo h b).2.1⟩
  have hgr':iq c (nr c L+r.length) (L++jJ c L k) (r++jJ c L k)=oj c l:=by
   rw[<-S,MB,show nr c L+(r.length+1)=(nr c L+r.length)+1 by omega];rfl
  have q:iq c (nr c (L++jJ c L k)+(r++jJ c L k).length) (L++jJ c L k) (r++jJ c L k)=oj c l:=by
   rw[<-hgr'];refine wE h f ?_ ?_
   ·exact Lr _
   rw[Ll];omega
  have V:(L++jJ c L k).Nodup:=by
   rw[Nc];exact⟨H,fV c L k,fun x b y Q e=>(eo h Q).1 (by rw[<-e];exact b)⟩
  have U:nr c (L++jJ c L k)+(r++jJ c L k).length<nr c L+((k:Int)::r).length:=by
   rw[Ll,MB];omega
  generalize z:gv c (k:Int)=G at*;have hKn:G.Nodup:=by rw[<-z];exact sM c k
  have hK32:G.length<=32:=by
   rw[<-z,gv,ak];exact bC hc k true
  have fin: ∀x:Int,x∉L->qr prog 3 (I x) (gH L) 0=some none:=fun x b=>by rw[lr,lS b]
  have Z: ∀x:Int,x∈L-> ∃p,qr prog 3 (I x) (gH L) 0=some (some p)/\(gH L)[p]? =some [I x,I 1]:=fun x b=>by
   obtain⟨p,h1,h2⟩:=pM (n:=0) b;exact⟨p,by rw[lr,h1,Mt],Ee h2⟩
  generalize hT:(k:Int)::r=T at*;have F:=ns R q2 q3 q4 q5 C SR SS;repeat refine ef f1 ?_
  refine Ed (D:=List Int) (fun K u=>[(0, .ref 9 [ca c] 0 0),(1, .seq 1 (L.map aa)),(5, .loc 5 (u 5) 0 0),(6, .mp 18 (u 18)),(9, .seq 1 (r.map aa)),(11, .seq 1 (K.map aa))]) (fun _ _=>[(5,⟨5,[aA c],26,false⟩),(18,⟨0,gH L,290,true⟩)]) (fun K _ _=>K=od c L k) ?_ ?_
  ·refine dq ?_;by_cases hk1:s.kind=1
   ·have Y:(s.kind==1)=true:=by simp[hk1]
    rw[Y]at w;have F:=Y;repeat refine st ?_
    have F:=aA.eq_1;refine lq G.length (by omega) (fun j u=>[(0, .ref 9 [ca c] 0 0),(1, .seq 1 (L.map aa)),(5, .loc 5 (u 5) 0 0),(6, .mp 18 (u 18)),(9, .seq 1 (r.map aa)),(10,I k),(49, .row 41 (u 41)),(50,I G.length),(51,I j)]) (fun _ _=>[(5,⟨5,[aA c],26,false⟩),(18,⟨0,gH L,290,true⟩),(41,⟨1,G.map aa,3,true⟩)]) (fun j _ _=> ∀m (y:Int),m<j->G[m]? =some y->y∉L) (fun m y M=>absurd M (by omega)) ?_ ?_
    ·rintro j us es a E p2 W;obtain⟨x,b⟩:=gE a;by_cases g:x∈L
     ·obtain⟨p,m1,m2⟩:=Z x g
      have hnk:jJ c L k=[]:=by
       unfold jJ od;rw[Lj w,z,Lj (Ml.2 ⟨x,Lh b,Lk.2 g⟩)];rfl
      rw[hnk,Mw,Mw]at q U f;have F:=ip b E p2 m1 m2 w3;repeat refine st ?_
      refine⟨_,cU.refl _,(L,r),⟨f,H,q⟩,?_,?_,U⟩
      ·exact qe
      have F:=aA.eq_1;exact qe
     have m1:=fin x g;have F:=g7 b E p2 m1 w2;repeat refine st ?_
     refine⟨j+1,⟨a,fun m y M Q=> ?_⟩,?_,?_,by omega⟩
     ·rcases NB.1 M with e|e
      ·exact W m y e Q
      rw[e,b]at Q;cases Q;exact g
     ·exact qe
     have F:=aA.eq_1;exact qe
    rintro us es E W
    have O:(gv c (k:Int)).any (fun k=>L.contains k)=false:=by
     rw[Oy];intro y Q;rw[z]at Q;obtain⟨m,M⟩:=NL.1 Q;have:=W m y (Ld.1 M).1 M;simpa using this
    by_cases h0:0<=s.initial
    ·have o:od c L k=[s.initial]:=by
      unfold od;rw[Lj w,Lf (by rw[O];simp),P,Lj h0]
     have F:=ip E h0 q2 C SR SS;repeat refine st ?_
     refine⟨_,cU.frozen 73 11 ⟨1,[[I s.initial]],3,true⟩ rfl (MZ 0) (by simp only[go_sem]) (by simp only[go_sem]),[s.initial],o.symm,?_,?_⟩
     ·exact qe
     have F:=aA.eq_1;exact qe
    have o:od c L k=[]:=by
     unfold od;rw[Lj w,Lf (by rw[O];simp),P,Lf h0]
    have F:=ip E h0 q2 C SR SS;repeat refine st ?_
    refine⟨_,cU.nil 11 1 (by simp only[go_sem]),[],o.symm,?_,?_⟩
    ·exact qe
    have F:=aA.eq_1;exact qe
   have Y:(s.kind==1)=false:=by simpa using hk1
   rw[Y]at w
   have o:od c L k=G:=by
    unfold od;rw[Lf (by rw[w];simp),z]
   have F:=Y;repeat refine st ?_
   refine⟨_,cU.frozen 41 11 ⟨1,G.map aa,3,true⟩ rfl (MZ 0) (by simp only[go_sem]) (by simp only[go_sem]),G,o.symm,?_,?_⟩
   ·exact qe
   have F:=aA.eq_1;exact qe
  intro K us es hK;have N:K.Nodup:=by rw[hK];exact ry c L k
  have hKz: ∀x∈K,ed c x=true:=fun x b=>by
   rw[hK]at b;exact(bO hc (A5 h b)).1
  have hK32b:K.length<=32:=Ly (gz N hKz) v;have hadd:cw L K K.length=jJ c L k:=by unfold cw jJ;rw[MC,hK]
  have hr32:r.length<=32:=by rw[<-hT,MB]at hT32;omega
  repeat (first|refine oO rfl (by simp only[go_sem,aA];exact⟨rfl,rfl⟩) ?_|refine gR ?_|refine gO ?_|refine oZ (kP ?_)|refine oZ ?_|refine oS ?_|refine gT ?_|refine gD mixed ?_|refine oB ?_|refine oK ?_|(refine oX ?_;simp only[bB,ba, ↓reduceIte,Nat.reduceEqDiff,reduceCtorEq])|refine oY (by simp only[go_sem,aA];exact iR) ?_|refine oN (by simp only[go_sem,aA];exact iR) ?_)
  refine aG (D:=Nat) (fun j u=>[(0, .ref 9 [ca c] 0 0),(1, .seq 1 ((L++cw L K j).map aa)),(5, .loc 5 (u 5) 0 0),(6, .mp 18 (u 18)),(9, .seq 1 ((r++cw L K j).map aa)),(74, .seq 1 (K.map aa)),(75,I K.length),(76,I j)]) (fun j _=>[(5,⟨5,[aA c],26,false⟩),(18,⟨0,gH (L++cw L K j),290,true⟩)]) (fun j _ _=>j<=K.length) (fun j=>K.length-j) 0 ?_ ?_ ?_ ?_
  ·exact Lx _
  ·have:cw L K 0=[]:=rfl;rw[this,Mw,Mw]
   (simp only[go_sem,aA])
   try rfl
  ·have:cw L K 0=[]:=rfl;rw[this,Mw]
   (simp only[go_sem,aA])
   try rfl
  rintro j us es hj;by_cases a:j<K.length
  ·obtain⟨x,b⟩:=gE a;have E:=h9 a;have p2:=aD a (by omega);have t:=DK (L:=L) b;have hal:(cw L K j).length<=32:=Ly (MF ..) (by rw[Lw];omega);refine dq ?_;by_cases g:x∈L
   ·rw[Lj (Lk.2 g)]at t;obtain⟨p,m1,m2⟩:=pM (n:=0) (show x∈L++cw L K j from Ma _ g);have m3:=lr x (L++cw L K j) 0;rw[m1,Mt]at m3;have m4:=Ee m2;have F:=g7 b E p2 m3 m4;repeat refine st ?_
    refine⟨_,cU.refl _,j+1,a,?_,?_,by omega⟩
    ·have F:=t;exact qe
    have F:=ai t SR;exact qe
   have hxn:x∉L++cw L K j:=fun hh=>by
    rcases ML.1 hh with hh|hh
    ·exact g hh
    exact rq N b (Gu.1 hh).1
   rw[Lf (by simpa using g)]at t;have m3:=lr x (L++cw L K j) 0;rw[lS hxn]at m3;have e1:gH (L++cw L K (j+1))=gH (L++cw L K j)++[[I x,I 1]]:=by rw[t, <-M4];exact wD _ _
   have e2:L++cw L K (j+1)=(L++cw L K j)++[x]:=by rw[t,M4]
   have e3:r++cw L K (j+1)=(r++cw L K j)++[x]:=by rw[t,M4]
   have hf1:cI ((L++cw L K j).length+1) 8:=aC (by rw[Ll];omega) (by omega);have hf2:cI ((r++cw L K j).length+1) 8:=aC (by rw[Ll];omega) (by omega);generalize hA:L++cw L K j=A at*;generalize hB:r++cw L K j=B at*;have F:=lP b E p2 m3 w1 hf1 hf2;repeat refine st ?_
   refine⟨_,(cU.frozen 96 1 ⟨1,(A++[x]).map aa,3,true⟩ rfl (MZ 0) (by simp only[go_sem,Ln]) (by simp only[go_sem])).trans (cU.frozen 105 9 ⟨1,(B++[x]).map aa,3,true⟩ rfl (MZ 0) (by simp only[go_sem,Ln]) (by simp only[go_sem])),j+1,a,?_,?_,by omega⟩
   ·have F:=ai e2 e3;exact qe
   have F:=ai e1 SR;exact qe
  obtain rfl:j=K.length:=by omega
  have E:=nl K.length;rw[hadd];have F:=E;repeat refine st ?_
  refine⟨(L++jJ c L k,r++jJ c L k),⟨f,V,q⟩,?_,?_,U⟩
  ·exact qe
  have F:=aA.eq_1;exact qe
def j'(c:aq)(a:Int)(mem:List dg):List Int:=match at_ c a with
 | some s=>if aU s=true then(match mem.find? (fun m=>m.1==a) with
   |some m=>m.2
   |none=>[s.initial]) else [a]
 |none=>[]
def wl{c:aq}(h:Right c){i d e m:Int}(g:ed c d=true)(j:ed c e=true)(n:aP c d=i)(o:aP c e=i)(f:ed c m=true)(k:m=d\/d∈i' c m)(l:m=e\/e∈i' c m):d=e:=by
 obtain⟨a,_,rfl,_⟩:=cO g;obtain⟨b,_,rfl,_⟩:=cO j;obtain⟨m,_,rfl,_⟩:=cO f;have:=xu h (eC.2 ⟨aV.1 g,n⟩) (eC.2 ⟨aV.1 j,o⟩) (m+1) m (by omega) (aV.1 f) (k.imp (by omega) id) (l.imp (by omega) id);omega
def BO{c:aq}(h:Right c){d:Int} : ∀(n:Nat)(t:Int),t<n->aE c d t=true-> ∃k,(k=t\/(k∈i' c t/\aE c d k=true))/\ed c k=true/\aP c k=d
 | 0,t,j,a=>by
   cases f:ed c t with
   |true=>have:=aI.1 f;omega
   |false=>unfold aE at a;rw[cW f]at a;simp at a
 | n+1,t,j,a=>by
   have b:ed c t=true:=by
    cases f:ed c t with
    |true=>rfl
    |false=>unfold aE at a;rw[cW f]at a;simp at a
   rcases (ae h b).1 a with e|e
   ·exact⟨t, .inl rfl,b,e⟩
   have o:=dV h b;obtain⟨k,g,l,m⟩:=BO h n (aP c t) (by omega) e;refine⟨k, .inr ?_,l,m⟩;rcases g with rfl|⟨g,i⟩
   ·exact⟨(cn h b).2 (.inl rfl),e⟩
   exact⟨(cn h b).2 (.inr g),i⟩
def aZ{c:aq}{d x:Int}(h:aE c d x=true):ed c x=true:=by
 cases a:ed c x with
 |true=>rfl
 |false=>unfold aE at h;rw[cW a]at h;simp at h
def iw{c:aq}(h:Right c){a b d:Int}(f:aE c a b=true)(e:aE c b d=true):aE c a d=true:=by
 have g:=aI.1 (aZ e);unfold aE at*;rw[Lk]at*;exact iP h (c.Z9.length) d b a g.2 e f
def Ik{c:aq}(h:Right c){d:Int} :aE c d d=false:=by
 cases a:aE c d d with
 |false=>rfl
 | true=>
   unfold aE at a;have:=(jp h 40 d d (Lk.1 a)).2;omega
def pY{c:aq}(h:Right c){a b:Int} : ∀(n:Nat)(t:Int),t<n->a∈i' c t->b∈i' c t->a=b\/a∈i' c b\/b∈i' c a
 | 0,t,i,d,_=>by
   cases f:ed c t with
   |true=>have:=aI.1 f;omega
   |false=>rw[cW f]at d;simp at d
 | n+1,t,i,d,e=>by
   have g:ed c t=true:=by
    cases f:ed c t with
    |true=>rfl
    |false=>rw[cW f]at d;simp at d
   have j:=dV h g;rw[cn h g]at d e;rcases d with rfl|d
   ·rcases e with rfl|e
    ·exact .inl rfl
    exact .inr (.inr e)
   rcases e with rfl|e
   ·exact .inr (.inl d)
   exact pY h n _ (by omega) d e
def uy{c:aq}(h:b8 c){a e:Int}(k:ed c a=true)(l:ed c e=true):aE c (nb c a e) e=true/\nb c a e∈i' c a/\(nb c a e= -1\/(0<=nb c a e/\al c (nb c a e)=true)):=by
 have i:=h.toRight;have b: ∀ {x},ed c x=true-> -1∈i' c x:=fun {x} j=>rJ i (c.Z9.length) x j (aI.1 j).2;unfold nb;cases f:(i' c a).find? (rA c e) with
 | none=>
   rw[O1]at f;exact absurd rfl (f _ (b k))
 | some d=>
   have h1:=Oq f;have g:=N2 f;have m:=(jp i 40 _ _ g).1;simp only[Mn];unfold rA at h1;rw[Mx,Lt,Li]at h1;rcases h1 with h1|h1
   ·have:d= -1:=by omega
    subst this;exact⟨by unfold aE;rw[Lk];exact b l,g, .inl rfl⟩
   refine⟨h1.2,g,?_⟩;rcases P6 d 0 with q|q
   ·exact .inl (by omega)
   exact .inr ⟨q,h1.1⟩
structure Sd(c:aq)(d:Int)(P:List Int):Prop where
 real: ∀k∈P,∃s,at_ c k=some s/\aU s=false
 Z3: ∀k∈P,aE c d k=true
 up: ∀k∈P,aP c k=d\/aP c k∈P
 one: ∀x,al c x=true\/x= -1-> ∀k1∈P,∀k2∈P,aP c k1=x->aP c k2=x->k1=k2
 has: ∃k∈P,aP c k=d
def vi{c:aq}{x:Int}(h:ax c x=true): ∃s,at_ c x=some s/\aU s=false:=by
 obtain⟨s,b,a⟩:=gn h;refine⟨s,b,?_⟩;unfold aU;rcases a with e|e<;>simp[e]
def Dg{c:aq}(h:b8 c){d:Int}{l:List Int}(f: ∀x∈l,aE c d x=true/\ ∃s,at_ c x=some s/\aU s=false)(u:l≠[])(_hd: -1<=d)
 (j: ∀x,al c x=true\/x= -1-> ∀p∈mw c l d,∀q∈mw c l d,aP c p=x->aP c q=x->p=q):Sd c d (mw c l d):=by
 have m:=h.toRight;have g:=(gf (c:=c) (d:=d) (l:=l)).2
 have b: ∀k∈mw c l d,aE c d k=true:=fun k a=>by
  rcases (g k).1 a with a|⟨_,_,_,_,a⟩
  ·exact(f k a).1
  exact a
 refine⟨fun k a=> ?_,b,fun k a=> ?_,j,?_⟩
 ·rcases (g k).1 a with a|⟨i,n,r,y,_⟩
  ·exact(f k a).2
  exact vi (rK h (c.Z9.length) i k (aI.1 (aZ (f i n).1)).2 r y)
 ·have v:=aZ (b k a);rcases (ae m v).1 (b k a) with e|e
  ·exact .inl e
  refine .inr ((g _).2 (.inr ?_));have w:0<=aP c k:=(aI.1 (aZ e)).1;rcases (g k).1 a with a|⟨i,n,r,y,_⟩
  ·exact⟨k,a,(cn m v).2 (.inl rfl),w,e⟩
  exact⟨i,n,iP m (c.Z9.length) i k _ (aI.1 (aZ (f i n).1)).2 r ((cn m v).2 (.inl rfl)),w,e⟩
 obtain⟨t,o⟩:=List.exists_mem_of_ne_nil l u;obtain⟨k,a,p,q⟩:=BO m (c.Z9.length) t (aI.1 (aZ (f t o).1)).2 (f t o).1;refine⟨k,(g k).2 ?_,q⟩;rcases a with rfl|⟨a,e⟩
 ·exact .inl o
 exact .inr ⟨t,o,a,(aI.1 p).1,e⟩
def Di{c:aq}(h:b8 c){d t:Int}(f:aE c d t=true)(p: -1<=d)(u: ∃s,at_ c t=some s/\aU s=false):Sd c d (mw c [t] d):=by
 have r:=(gf (c:=c) (d:=d) (l:=[t])).2
 have e: ∀k∈mw c [t] d,ed c k=true/\(t=k\/k∈i' c t):=fun k g=>by
  rcases (r k).1 g with g|⟨i,q,a,b,_⟩
  ·rw[MA.1 g];exact⟨aZ f, .inl rfl⟩
  rw[MA.1 q]at a;exact⟨(gP h.toRight a b).1, .inr a⟩
 refine Dg h (fun x v=>by rw[MA.1 v];exact⟨f,u⟩) (by simp) p fun x _ j a m b n o=> ?_;exact wl h.toRight (e j a).1 (e m b).1 n o (aZ f) (e j a).2 (e m b).2
def zY{act:List Int}{ks:List Nat}(h:bx act ks<=1){a b:Int}(f:a∈zL ks)(g:b∈zL ks)(d:a∈act)(e:b∈act):a=b:=by
 rw[<-qB]at h;have c:a∈(zL ks).filter fun k=>act.contains k:=Lq.2 ⟨f,by simpa using d⟩;have i:b∈(zL ks).filter fun k=>act.contains k:=Lq.2 ⟨g,by simpa using e⟩;generalize (zL ks).filter (fun k=>act.contains k)=q at*
 match q,h with
 |[],_=>simp at c
 |[x],_=>rw[MA.1 c,MA.1 i]
def HR{c:aq}(h:b8 c){d p:Int}(hp:ax c p=true){l:List Int}(C:so c p l=true)(hd: -1<=d)(U:d=p\/aE c d p=true):Sd c d (mw c l d):=by
 have w:=h.toRight;unfold so at C;rw[Li,Li,Lm,Lm]at C;obtain⟨⟨b1,b2⟩,b3⟩:=C
 have f: ∀x∈l,aE c p x=true/\ ∃s,at_ c x=some s/\aU s=false:=fun x u=>by
  have:=b2 x u;unfold cz at this;rw[Li,Li]at this;refine⟨this.1.1,?_⟩;have:=this.1.2;split at this
  ·rename_i s m;exact⟨s,m,by simpa using this⟩
  cases this
 have D: ∀x,aE c p x=true->aE c d x=true:=fun x u=>by
  rcases U with rfl|e
  ·exact u
  exact iw w e u
 have J:=(gf (c:=c) (d:=d) (l:=l)).2
 have G: ∀k∈mw c l d,ed c k=true:=fun k g=>by
  rcases (J k).1 g with g|⟨_,_,_,_,g⟩
  ·exact aZ (f k g).1
  exact aZ g
 have Z:ed c p=true:=by
  obtain⟨s,m,_⟩:=gn hp;unfold at_ at m;split at m
  ·rename_i h0;have:=(Ld.1 m).1;exact aI.2 ⟨h0,by omega⟩
  cases m
 obtain⟨t,ht⟩:=List.exists_mem_of_ne_nil l (xh b1);refine Dg h (fun x u=>⟨D x (f x u).1,(f x u).2⟩) (xh b1) hd fun x u R P S Q T A=> ?_
 have O: ∀k∈mw c l d,aE c p k=true\/p=k\/k∈i' c p:=fun k g=>by
  rcases (J k).1 g with g|⟨i,v,H,N,_⟩
  ·exact .inl (f k g).1
  have V:p∈i' c i:=Lk.1 (f i v).1;rcases pY w (c.Z9.length) i (aI.1 (aZ (f i v).1)).2 V H with e|e|e
  ·exact .inr (.inl e)
  ·exact .inl (Lk.2 e)
  exact .inr (.inr e)
 have low: ∀k,k∈mw c l d->aE c p k=true->k∈md c p l:=fun k g o=>by
  unfold md;rw[ML,kq w fun x u=>aZ (f x u).1,gf.2];rcases (J k).1 g with g|⟨i,v,H,N,_⟩
  ·exact .inl (.inl g)
  exact .inl (.inr ⟨i,v,H,N,o⟩)
 have r: ∀k∈mw c l d,k∈gv c (aP c k):=fun k g=>by
  obtain⟨j,s,rfl,m,o⟩:=cO (G k g);refine Lp.2 ⟨j,D6 m (eA m).symm ?_,rfl⟩;rcases (J _).1 g with g|⟨i,v,H,N,_⟩
  ·obtain⟨s',e,A⟩:=(f _ g).2;rw[o]at e;cases e;exact A
  obtain⟨s',e,A⟩:=vi (rK h (c.Z9.length) i _ (aI.1 (aZ (f i v).1)).2 H N);rw[o]at e;cases e;exact A
 have y: ∀n z,n∈mw c l d->z∈mw c l d->aP c n=x->aP c z=x->aE c p n=true->n=z:=fun n z o C K eb B=>by
  have X:aE c p z=true:=by
   have:=(ae w (G n o)).1 B;rw[K, <-eb]at this;exact(ae w (G z C)).2 this
  have hxd:x∈md c p l:=by
   rcases (ae w (G n o)).1 B with e|e
   ·unfold md;rw[<-K,e];simp
   have E:0<=aP c n:=(aI.1 (aZ e)).1;rw[K]at e E;refine low x ((J x).2 (.inr ?_)) e;have M:x∈i' c n:=(cn w (G n o)).2 (.inl K.symm);rcases (J n).1 o with q|⟨i,v,H,N,_⟩
   ·exact⟨n,q,M,E,D x e⟩
   exact⟨i,v,iP w (c.Z9.length) i n x (aI.1 (aZ (f i v).1)).2 H M,E,D x e⟩
  have I:=b3 x hxd;unfold dA at I;cases m:at_ c x with
  |none=>rw[m]at I;cases I
  | some s=>
    have L:al c x=true:=u.resolve_right fun e=>by rw[e]at m;simp[at_]at m
    rw[br m]at L;rw[m]at I;have W:s.kind=1:=by simpa using L
    simp only[W]at I
    have Y:bx (md c p l) (av c x true)<=1:=by
     simp at I;omega
    have r1:=r n o;have r2:=r z C;rw[K]at r1;rw[eb]at r2;exact zY Y r1 r2 (low n o B) (low z C X)
 rcases O R P with a|a
 ·exact y R S P Q T A a
 rcases O S Q with b|b
 ·exact(y S R Q P A T b).symm
 exact wl w (G R P) (G S Q) T A Z a b
def tx{c:aq}(h:b8 c){d u:Int}(x:ed c u=true){mem:List dg}(z:bZ c mem=true)(v:aE c d u=true)(o: -1<=d):Sd c d (mw c (j' c u mem) d):=by
 have q:=h.toRight;obtain⟨k,s,rfl,r,g⟩:=cO x;unfold j';rw[g];simp only;by_cases f:aU s=true
 ·rw[Lj f];obtain⟨B,y,C,D,E⟩:=ol h r f
  have i:d=s.parent\/aE c d s.parent=true:=by
   have:=(ae q x).1 v;rw[eA r]at this;exact this.imp Eq.symm id
  have a: ∀t∈gv c s.parent,Sd c d (mw c [t] d):=fun t n=>by
   obtain⟨t1,t2,_⟩:=bO q n;refine Di h ((ae q t1).2 (by rw[t2];exact i.imp Eq.symm id)) o ?_;obtain⟨j,p,rfl⟩:=Lp.1 n;obtain⟨A,l,_,b,_⟩:=y8 p;exact⟨A,by rw[bL];exact l,b⟩
  cases w:mem.find? (fun m=>m.1==(k:Int)) with
  | none=>
    refine a _ ?_;rcases h.cases r with⟨e,_⟩|⟨e,_⟩|⟨e,_⟩|⟨_,_,_,e⟩
    ·omega
    ·omega
    ·omega
    obtain⟨j,p,e⟩:=og.1 e;exact Lp.2 ⟨j,p,e⟩
  | some m=>
    have l:=Oq w;have b:=(oe z).2 m (N2 w);simp only[Mh]at l;unfold kx at b;rw[l,g]at b;simp only at b |-;split at b
    ·rw[Li,Lt]at b;obtain⟨t,n⟩:=OY.1 b.1;rw[n]at b |-;exact a t (by simpa using b.2)
    rw[Li,pT h y]at b;exact HR h y b.2 o i
 rw[Lf f];exact Di h v o ⟨s,g,by simpa using f⟩
def vw{c:aq}{k:Int}{s:na}(e:at_ c k=some s)(d:aU s=false)(f:ed c k=true):k∈gv c (aP c k):=by
 obtain⟨j,g,rfl,a,b⟩:=cO f;rw[e]at b;cases b;exact Lp.2 ⟨j,D6 a (eA a).symm d,rfl⟩
def me{l:List Int}{ks:List Nat}(c:ks.Nodup){k:Int}(b:k∈zL ks)(h: ∀x∈zL ks,x∈l↔x=k):bx l ks=1:=by
 obtain⟨j,a,rfl⟩:=Lp.1 b;unfold bx;rw[filter_one c a fun x d=> ?_]
 ·rfl
 rw[Lk,h _ (Lp.2 ⟨x,d,rfl⟩)];omega
def CS{c:aq}(h:b8 c){act:List Int}(Y:Lg c act){d:Int}{P:List Int}(D:Sd c d P)(X:d= -1\/(d∈act/\al c d=true)){O:List Nat}(hO:O.Pairwise (· < ·))
 (R: ∀x,x∈zL O↔(x∈act/\aE c d x=false)\/Gr c P x):rx c (zL O)=true/\ ∀x,aE c d x=false->(x∈zL O↔x∈act):=by
 have l:=h.toRight
 have W: ∀x,Gr c P x->aE c d x=true/\(aP c x=d\/Gr c P (aP c x))/\ ∃s,at_ c x=some s/\aU s=false:=fun x g=>by
  induction g with
  |base f=>exact⟨D.Z3 _ f,(D.up _ f).imp id .base,D.real _ f⟩
  | ini g hp hn h0 ih=>
    have n:=iX h hp h0;obtain⟨t,p,_⟩:=bO l n;refine⟨(ae l t).2 (.inr (by rw[p];exact ih.1)), .inr (by rw[p];exact g),?_⟩;obtain⟨j,m,e⟩:=Lp.1 n;obtain⟨s,E,_,i,_⟩:=y8 m;exact⟨s,by rw[<-e,bL];exact E,i⟩
  | par g hp n ih=>
    obtain⟨t,p,_⟩:=bO l n;refine⟨(ae l t).2 (.inr (by rw[p];exact ih.1)), .inr (by rw[p];exact g),?_⟩;obtain⟨j,m,e⟩:=Lp.1 n;obtain⟨s,E,_,i,_⟩:=y8 m;exact⟨s,by rw[<-e,bL];exact E,i⟩
 have o: ∀x,aE c d x=false->(x∈zL O↔x∈act):=fun x f=>by
  rw[R];refine⟨fun w=>w.elim (fun a=>a.1) fun g=> ?_,fun w=> .inl ⟨w,f⟩⟩;rw[(W x g).1]at f;cases f
 have N: ∀x,aE c d x=true->(x∈zL O↔Gr c P x):=fun x f=>by
  rw[R];refine⟨fun w=>w.elim (fun a=> ?_) id, .inr⟩;rw[f]at a;cases a.2
 have K: ∀x,al c x=true\/x= -1-> ∀t p,Gr c P t->Gr c P p->aP c t=x->aP c p=x->t=p:=fun x f t p U V E i=>by
  have I: ∀k,Gr c P k->aP c k=x->k∈P\/(k=kG c x/\(∀k∈gv c x,k∉P)/\al c x=true):=fun k g e=>by
   rcases g.real h with a|⟨Z,L,a3⟩
   ·exact .inl a
   rw[e]at Z L a3;rcases f with f|f
   ·exact .inr ⟨(a3 f).1,(a3 f).2,f⟩
   rw[f]at L;have:=(aI.1 (aZ (W _ L).1)).1;omega
  have kz: ∀k∈P,aP c k=x->k∈gv c x:=fun k n e=>by
   obtain⟨s,q1,q2⟩:=D.real k n;rw[<-e];exact vw q1 q2 (aZ (D.Z3 k n))
  rcases I t U E with a|⟨Z,L,_⟩
  ·rcases I p V i with b|⟨b1,b2,_⟩
   ·exact D.one x f t a p b E i
   exact absurd a (b2 t (kz t a E))
  rcases I p V i with b|⟨b1,b2,_⟩
  ·exact absurd b (L p (kz p b i))
  rw[Z,b1]
 have v:bx (zL O) (av c d true)=1:=by
  obtain⟨k,n,e⟩:=D.has;obtain⟨s,q1,q2⟩:=D.real k n;have Q:=vw q1 q2 (aZ (D.Z3 k n));rw[e]at Q;refine me (bU c d true) Q fun x f=> ?_;obtain⟨x1,x2,_⟩:=bO l f;rw[N x ((ae l x1).2 (.inl x2))];refine⟨fun g=>K d ?_ x k g (.base n) x2 e,fun e=>by rw[e];exact .base n⟩;rcases X with e|e
  ·exact .inr e
  exact .inl e.2
 have hb: ∀k∈O,k<c.Z9.length:=fun k n=>by
  rcases (R k).1 (Lp.2 ⟨k,n,rfl⟩) with a|a
  ·obtain⟨_,_,z,_⟩:=Y.of a.1;exact aV.1 z
  exact aV.1 (aZ (W _ a).1)
 refine⟨KX hO (fun k n=> ?_) ?_,o⟩
 ·have hkO:(k:Int)∈zL O:=Lp.2 ⟨k,n,rfl⟩
  have key: ∃s,at_ c (k:Int)=some s/\aU s=false/\(s.parent<0\/s.parent∈zL O)/\(s.kind=1->av c k true≠[]->bx (zL O) (av c k true)=1)/\(s.kind=2->bx (zL O) (av c k true)=(av c k true).length):=by
   rcases (R k).1 hkO with⟨ka,kn⟩|g
   ·obtain⟨s,A,hz,H,hp,f1,f2⟩:=Y.of ka;have C:aP c (k:Int)=s.parent:=by unfold aP;rw[A]
    rw[C]at hp;refine⟨s,A,H,?_,?_⟩
    ·rcases hp with hp|hp
     ·exact .inl hp
     ·refine .inr ((o _ ?_).2 hp);cases w:aE c d s.parent with
      |false=>rfl
      | true=>
        rw[(ae l hz).2 (.inr (by rw[C];exact w))]at kn;cases kn
    by_cases e:d=k
    ·rw[<-e];refine⟨fun _ _=>v,fun i=> ?_⟩;have u:=(X.resolve_left (by omega)).2;rw[e,br A,i]at u;cases u
    have T:bx (zL O) (av c k true)=bx act (av c k true):=by
     unfold bx
     congr 1
     apply NR;intro j m;have G:(j:Int)∈gv c k:=Lp.2 ⟨j,m,rfl⟩;obtain⟨S,J,_⟩:=bO l G;rw[MP,Lk,Lk];refine o _ ?_;cases w:aE c d (j:Int) with
     |false=>rfl
     | true=>
       rcases (ae l S).1 w with q|q
       ·rw[J]at q;exact absurd q.symm e
       rw[J,kn]at q;cases q
    rw[T];exact⟨f1,f2⟩
   obtain⟨U,V,s,A,H⟩:=W k g;have hz:=aZ U;have C:aP c (k:Int)=s.parent:=by unfold aP;rw[A]
   have r: ∀j∈gv c (k:Int),(j∈zL O↔Gr c P j):=fun j m=>by
    obtain⟨S,J,_⟩:=bO l m;exact N j ((ae l S).2 (.inr (by rw[J];exact U)))
   refine⟨s,A,H,?_,fun e hne=> ?_,fun e=> ?_⟩
   ·rw[<-C];rcases V with q|q
    ·rw[q];rcases X with e|e
     ·exact .inl (by omega)
     exact .inr ((o d (Ik l)).2 e.1)
    exact .inr ((R _).2 (.inr q))
   ·have u:al c (k:Int)=true:=by rw[br A,e];rfl
    have y:0<=kG c (k:Int)/\kG c (k:Int)∈gv c (k:Int):=by
     rcases lC h A with⟨_,i|i⟩|⟨i,_⟩|⟨i,_⟩|⟨i|i,_⟩
     ·exact absurd i hne
     ·exact i
     all_goals omega
    by_cases hex: ∃j∈gv c (k:Int),j∈P
    ·obtain⟨j,m,B⟩:=hex;refine me (bU c k true) m fun x f=> ?_;rw[r x f];exact⟨fun gx=>K k (.inl u) x j gx (.base B) (bO l f).2.1 (bO l m).2.1,fun e=>by rw[e];exact .base B⟩
    have hno: ∀j∈gv c (k:Int),j∉P:=fun j m B=>hex ⟨j,m,B⟩;refine me (bU c k true) y.2 fun x f=> ?_;rw[r x f];have gi:Gr c P (kG c (k:Int)):= .ini g u hno y.1;exact⟨fun gx=>K k (.inl u) x _ gx gi (bO l f).2.1 (bO l y.2).2.1,fun e=>by rw[e];exact gi⟩
   rw[jj];intro j m;exact(r j m).2 (.par g (by rw[br A,e];rfl) m)
  obtain⟨s,A,t,p,k3,k4⟩:=key;have M:uk c (zL O) (k:Int)=qx c (zL O) k s:=by unfold uk;rw[A];rfl
  rw[M];unfold qx;rw[t,Li,Li];refine⟨⟨rfl,?_⟩,?_⟩
  ·rw[Mx,Lt];exact p.imp id fun q=>Lk.2 q
  split
  ·rename_i e;simpa using k3 e.1 e.2
  split
  ·rename_i e;simpa using k4 e
  rfl
 rcases X with e|e
 ·rw[e]at v;exact v
 ·rw[<-Y.top];unfold bx
  congr 1
  apply NR;intro j m;have G:(j:Int)∈gv c (-1):=Lp.2 ⟨j,m,rfl⟩;obtain⟨S,J,_⟩:=bO l G;have hd0:=(Y.of e.1);obtain⟨_,_,dz,_⟩:=hd0;rw[MP,Lk,Lk];refine o _ ?_;cases w:aE c d (j:Int) with
  |false=>rfl
  | true=>
    rcases (ae l S).1 w with q|q
    ·rw[J]at q;have:=(aI.1 dz).1;omega
    rw[J]at q;have:=(aI.1 (aZ q)).1;omega
abbrev ff(l:List dg):AV:= .seq 2 (l.map eg)
def Hw{s:na} :aU s=false->s.kind≠4/\s.kind≠5:=fun h=>by
 unfold aU at h;simpa using h
def y7(s:na)(k:Int)(mem:List dg):List Int:=match mem.find? (fun m=>m.1==k) with|some m=>m.2|none=>[s.initial]
def C6{s:na}{k:Int}{mem:List dg}{m:dg}(h:mem.find? (fun m=>m.1==k)=some m):y7 s k mem=m.2:=by unfold y7;rw[h]
def C7{s:na}{k:Int}{mem:List dg}(h:mem.find? (fun m=>m.1==k)=none):y7 s k mem=[s.initial]:=by unfold y7;rw[h]
def Fz(env:b6)(c:aq)(z:Right c)(B:g6 c)(k:Nat)(s:na)(a:c.Z9[k]? =some s)(mem:List dg)(K:mem.length<=1000000)(A: ∀m∈mem,m.2.length<=4096):b7 prog env 265 [aH c,I k,ff mem] (.own 3 1 ((j' c k mem).map aa)):=by
 have w:=z.Z6;have f0:=au env c B;have J:=(Ld.1 a).1;have v:((k:Nat):Int)< (c.Z9.length:Int):=by omega
 have u:at_ c (k:Int)=some s:=by rw[bL];exact a
 have g:j' c k mem=if aU s=true then(y7 s k mem) else [(k:Int)]:=by unfold j';rw[u];rfl
 rw[g];unfold aH at f0 |-;cases d:aU s with
 | false=>
   rw[Lf (by simp)];obtain⟨C,D⟩:=Hw d;have h:(s.kind==4)=false:=by simpa using C
   have i:(s.kind==5)=false:=by simpa using D
   refine qf func265 call265 ntmps265 results265 ?_;have F:=lP SR SS v a h i jC;exact g9 f0
 | true=>
   rw[Lj rfl]
   have l:((s.kind==4)=true)\/((s.kind==4)=false/\(s.kind==5)=true):=by
    unfold aU at d;cases f:(s.kind==4) with
    |true=>exact .inl rfl
    |false=>rw[f]at d;exact .inr ⟨rfl,by simpa using d⟩
   have e: ∀h i:Bool,(s.kind==4)=h->(s.kind==5)=i->(h=true\/i=true)->b7 prog env 265 [.ref 9 [ca c] 0 0,I k,ff mem] (.own 3 1 ((y7 s k mem).map aa)):=fun h i f t y=>by
    cases h<;>cases i<;>(try simp at y)<;>
    ·refine qf func265 call265 ntmps265 results265 ?_;have F:=lP SR SS v a f t jC;repeat refine ef f0 ?_
     have F:=aA.eq_1;refine lq mem.length (by omega) (fun j G=>[(1,I k),(7, .loc 7 (G 7) 0 0),(27,ff mem),(28,I mem.length),(29,I j)]) (fun _ _=>[(7,⟨5,[aA c],26,false⟩)]) (fun j _ _=>mem.find? (fun m=>m.1==(k:Int))=(mem.drop j).find? (fun m=>m.1==(k:Int))) rfl ?_ ?_
     ·rintro j H r n q E b;obtain⟨x,p⟩:=gE n;rw[gy p]at b;have f1:=dQ env (x.2.map aa) (by rw[ME];exact A x (Lh p));cases o:(x.1==(k:Int)) with
      | true=>
        rw[o]at b;simp only[Mb]at b;rw[C6 b];have F:=hH S6 p q o;exact g9 f1
      | false=>
        rw[o]at b;simp only[MH,Mi]at b;have F:=g7 S6 p q E o;repeat refine ef f1 ?_
        refine⟨j+1,⟨n,b⟩,?_,?_,by omega⟩
        ·exact qe
        have F:=aA.eq_1;exact qe
     rintro H r q b;rw[Mu,Oe]at b;rw[C7 b];have F:=g7 SR SS v q a;exact g9 f0
   rcases l with f|⟨f,t⟩
   ·exact e _ _ f rfl (.inl rfl)
   exact e _ _ f t (.inr rfl)
def Ak{c:aq}(h:b8 c){l:List Int}(a:l.Nodup)(d: ∀x∈l,ed c x=true):(oj c l).length<=32:=by
 refine Ly (gz (kZ c _ _ _ a) fun x b=> ?_) h.toRight.Z6;exact((eV h a).1 b).in h d
def HG(c:aq)(a b:Int)(mem:List dg):List Nat:=bt c (oj c (mw c (j' c b mem) (nb c a b)))
def EF{c:aq}(h:b8 c){b:Int}(i:ed c b=true){mem:List dg}(j:bZ c mem=true):(∀x∈j' c b mem,ed c x=true)/\(j' c b mem).length<=1000000:=by
 obtain⟨d1,_,d3⟩:=uy h i i;have o:=tx h i j d1 (by rcases d3 with e|e<;>omega);have k: ∀x∈j' c b mem,ed c x=true:=fun x g=>aZ (o.Z3 x ((gf.2 x).2 (.inl g)));refine⟨k,?_⟩;unfold j';split
 ·rename_i s p;split
  ·split
   ·rename_i m l;have a:=(oe j).2 m (N2 l);unfold kx at a;split at a
    ·split at a
     ·rw[Li,Lt]at a;omega
     unfold BY at a;simp only[Li]at a;have n:=a.2.1.1.1;have f:m.2.Nodup:=jv n
     have d: ∀x∈m.2,ed c x=true:=fun x g=>by
      have:=Lm.1 a.2.1.1.2 x g;unfold dv at this;rw[Li]at this;exact aZ this.1
     exact Ly (gz f d) (by have:=h.toRight.Z6;omega)
    cases a
   simp
  simp
 simp
def B5(env:b6)(c:aq)(h:b8 c)(j:g6 c)(t:sh)(f:ed c t.src=true)(g:ed c t.target=true)(mem:List dg)(r:mem.length<=1000000)(u: ∀m∈mem,m.2.length<=4096)(b:bZ c mem=true):
 b7 prog env 239 [aH c, .agg (an t),ff mem] (.own 3 1 ((HG c t.src t.target mem).map aB)):=by
 have a:=h.toRight;obtain⟨k,s,e,n,_⟩:=cO g;obtain⟨o,w⟩:=EF h g b;obtain⟨p,B⟩:=gf (c:=c) (d:=nb c t.src t.target) (l:=j' c t.target mem)
 have q: ∀x∈mw c (j' c t.target mem) (nb c t.src t.target),ed c x=true:=fun x v=>by
  rcases (B x).1 v with h|⟨i,_,y,z,_⟩
  ·exact o x h
  exact(gP a y z).1
 have f0:=bP env c;have f1:=Fz env c a j k s n mem r u;rw[<-e]at f1;have f2:=mq env c a j t f;have f3:=Il env c a (j' c t.target mem) w o (nb c t.src t.target);have f4:=Al env c h j _ p q;have f5:=fY env c a (oj c (mw c (j' c t.target mem) (nb c t.src t.target))) (by have:=Ak h p q;omega);unfold HG;generalize oj c (mw c (j' c t.target mem) (nb c t.src t.target))=G at*;generalize mw c (j' c t.target mem) (nb c t.src t.target)=U at*;generalize j' c t.target mem=A at*;unfold an at f2;unfold aQ at f0 f5;unfold aH at f0 f1 f2 f3 f4 |-;refine qf func239 call239 ntmps239 results239 ?_;have F:=an.eq_1;exact Sn f0 f1 f2 f3 f4 f5
def bE{a:Type}{l:List a}{n:Nat}{x:a}(h:l[n]? =some x):l.take (n+1)=l.take n++[x]:=by rw[MM,h];rfl
def ar{a:Type}{l:List a}{n:Nat}{x:a}(h:l[n]? =some x):l.drop n=x::l.drop (n+1):=by
 obtain⟨c,b⟩:=Ld.1 h;rw[N1 c,b]
def ly(p:Int->Bool):List Int->Option Nat
 |[]=>none
 |d::l=>if p d=true then some 0 else(ly p l).map (· +1)
def lz:Option Nat->Int
 |some i=>i
 |none=> -1
def Tp:=@lz.eq_1
def pN{p:Int->Bool} : ∀ {l:List Int}{i:Nat},ly p l=some i->i<l.length/\l.take i=(l.take i).filter (fun d=> !p d)/\ ∃d,l[i]? =some d/\p d=true
 |[],i,h=>by simp[ly]at h
 | d::l,i,h=>by
   unfold ly at h;split at h
   ·rename_i a;cases h;exact⟨by simp,by simp,d,rfl,a⟩
   ·rename_i a;cases b:ly p l with
    |none=>rw[b]at h;cases h
    | some j=>
      rw[b]at h;cases h;obtain⟨g,c,x,e,f⟩:=pN b;refine⟨by simp;omega,?_,x,by simpa using e,f⟩;have a:p d=false:=by simpa using a
      simp only[List.take_succ_cons,Na,a,NI,Mb];rw[<-c]
def pO{p:Int->Bool} : ∀ {l:List Int},ly p l=none->l.filter (fun d=> !p d)=l/\ ∀d∈l,p d=false
 |[],h=>by simp
 | d::l,h=>by
   unfold ly at h;split at h
   ·cases h
   ·rename_i a;have a:p d=false:=by simpa using a
    cases c:ly p l with
    |some j=>rw[c]at h;cases h
    | none=>
      obtain⟨e,f⟩:=pO c;refine⟨by simp only[Na,a,NI,Mb,e],fun x b=> ?_⟩;rcases MI.1 b with rfl|b
      ·exact a
      exact f x b
def GP{p:Int->Bool}{l:List Int}{n:Nat}{d:Int}(a:l[n]? =some d):ly p (l.drop n)=if p d=true then some 0 else(ly p (l.drop (n+1))).map (· +1):=by
 rw[ar a];rfl
def qF(env:b6)(l:List Int)(p:Int->Bool)(g:FuncId)(a:List (List AV))(m: ∀d,b7 prog env g [I d, .ref 1 a 0 0] (B (p d)))(o:l.length<=4096):b7 prog env 237 [.seq 1 (l.map aa), .clo g [.ref 1 a 0 0]] (I (lz (ly p l))):=by
 refine qf func237 call237 ntmps237 results237 ?_;repeat refine m8 ?_
 refine PA l.length (by omega) (fun n i=>[(0, .seq 1 (l.map aa)),(1, .clo g [.ref 1 a 0 0]),(7,I l.length),(8,I n)]) (fun n i=>[]) (fun n _ c=>ly p l=(ly p (l.drop n)).map (· +n)) (by simp) ?_ ?_
 ·rintro n i c e f j b;obtain⟨d,h⟩:=gE e;have f1:=m d;rw[GP h]at b;cases k:p d
  ·rw[k]at b f1;simp only[MH,Mi]at b;have F:=fI h f j;repeat refine st ?_
   refine oC (cH rfl (by simp only[go_sem,F];exact iR)) (f1) (by simp only[go_sem,F];exact iR) (by simp only[go_sem,F];exact⟨rfl,rfl⟩) ?_;repeat refine st ?_
   refine⟨n+1,⟨e,?_⟩,?_,?_,?_⟩
   ·rw[b];cases ly p (l.drop (n+1))
    ·rfl
    simp;omega
   ·exact qe
   ·exact qe
   omega
  rw[k]at b f1;simp only[Mb,MG,Mt]at b;rw[b];have F:=g7 h f j Tp lz.eq_2;repeat refine st ?_
  refine oC (cH rfl (by simp only[go_sem,F];exact iR)) (f1) (by simp only[go_sem,F];exact iR) (by simp only[go_sem,F];exact⟨rfl,rfl⟩) ?_;exact dT
 rintro i c f b;rw[Mm (by omega)]at b;rw[b];have F:=fI f Tp lz.eq_2;repeat (first|refine oO rfl (by simp only[go_sem,ly,F];exact⟨rfl,rfl⟩) ?_|refine gR ?_|refine gO ?_|refine oZ (kP ?_)|refine oZ ?_|refine oS ?_|refine gT ?_|refine gD mixed ?_|refine oB ?_|refine oK ?_|(refine oX ?_;simp only[bB,ba, ↓reduceIte,Nat.reduceEqDiff,reduceCtorEq])|refine oY (by simp only[go_sem,ly,F];exact iR) ?_|refine oN (by simp only[go_sem,ly,F];exact iR) ?_)
 (refine aM ?_;show (ag _ _ _).run _=some _;simp only[go_sem,ly,F])
def LN(G act:List Int):List Int:=act.filter fun i=> !G.contains i
def SH(G act:List Int)(T:List Nat):List Int:=Lib.compact (bQ (LN G act++zL T))
def lH(l:List Int):(bQ l).length=l.length:=by unfold bQ;rw[List.length_mergeSort]
end
section
open Go.RowKit Go.ChangeShapes
def Tryz.tabArr:prog.underlying 218=some (.array 32 5):=by kernel_rfl
def KD:prog.cellsOf 5=1:=by kernel_rfl
def Ka{W:World}{g t:Nat}{cs:Array Value}{fuel:Nat}{p:List MemPlace}(o:prog.globalNamed "math/bits.deBruijn32tab" =some g)(x:(prog.globals[g]?).map (·.type)=some t)(y:W.var? prog "math/bits.deBruijn32tab" =some cs)
 (v:DataW.trod (fun _=>()) prog W 0 (fun _=>true) false fuel t cs.toList=some (Rows.laid_math_bits_deBruijn32tab,p)):wg W:=by
 obtain rfl:4=g:=NQ ((show prog.globalNamed "math/bits.deBruijn32tab" =some 4 by kernel_rfl).symm.trans o);obtain rfl:218=t:=NQ ((show (prog.globals[4]?).map (·.type)=some 218 by kernel_rfl).symm.trans x);obtain⟨c,m,_,r,_,z,l⟩:=DataW.trod_array Tryz.tabArr v;simp only[Oa]at r;intro j q;have h:=l j q;rw[KD,PG]at h;have d:c[j]? =some (c[j]'(by omega)):=Lc _;rw[d]at h;obtain⟨n,s,u,_⟩:=NK Tryz.underlying5 h
 have b:cs[j]? =some (.int .u8 n):=by
  have:((cs.toList.drop j).take 1)[0]? =some (.int .u8 n):=by rw[s];rfl
  rw[MV,Lj (by omega),Ms,OA]at this;simpa using this
 have f:(Rows.laid_math_bits_deBruijn32tab:DataW Unit)= .agg (c.map (·.1)):=r.1
 have a:(c.map (·.1))[j]? =(Lib.deBruijn32tab.map fun(k:Nat)=>DataW.lit (H:=Unit) (.int .u8 (k:Int)))[j]? :=by
  have e:(Lib.deBruijn32tab.map fun(k:Nat)=>DataW.lit (H:=Unit) (.int .u8 (k:Int)))=c.map (·.1):=by
   have:DataW.agg (Lib.deBruijn32tab.map fun(k:Nat)=>DataW.lit (H:=Unit) (.int .u8 (k:Int)))=DataW.agg (c.map (·.1)):=by
    rw[<-f];rfl
   injection this
  rw[e]
 rw[Lo,d,Lo]at a
 have i:Lib.deBruijn32tab[j]? =some (Lib.deBruijn32tab.getD j 0):=by
  have:j<Lib.deBruijn32tab.length:=by simpa[Lib.deBruijn32tab]using q
  simp[List.getD,Lc this]
 rw[i]at a;simp only[MG,Le,u]at a
 have w:n=((Lib.deBruijn32tab.getD j 0:Nat):Int):=by
  have:=a;injection this with this
  injection this
 rw[QY o y j,b,w]
def I1{P:Program}{env:b6}{f:FuncId}{cs:List AV}{u:Value}{w:World}{vs:List Value}(h:b7 P env f cs (.lit u))(d:tI env (fun b _=>b<w.heap.size) w)(a:Sl (fun b _=>b<w.heap.size) w vs cs):
 Calls P f vs.toArray w fun e c=>e= .returned u/\Below w.heap.size w c:=(I2 h d (fun _ _ _=>by simp) a).mono (by
 rintro e c ⟨v,rfl,g,_,a⟩
 exact⟨by rw[a.lit_inv],g⟩)
end
section
open Go.RowKit Go.ChangeShapes
end
section
open Go.RowKit
def EQ{c:aq}(h:lU c=true):(nv c).1=0:=by
 unfold lU at h;rw[Li,Mh]at h;exact h.2
end
end Go.Proofs.YtknkhdgfhbogdaaGreatDoor
