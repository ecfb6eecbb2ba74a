/- The law of entering: its small functions; awake; what a nil table tells. -/
import Derived.Test.YtbjldjekgepopaaGreatDoorT18
set_option maxRecDepth 100000
set_option maxHeartbeats 16000000
set_option linter.unusedSimpArgs false
namespace Go.Proofs.YtbjldjekgepopaaGreatDoor
open Go.Proofs.Tryz
section
open Go.RowKit
theorem vA (l:List Int) (x:Int):fQ (l++[x])=fQ l++[[I x,I 1]]:=by unfold fQ;rw[Ki];rfl
def cX (L K:List Int) (j:Nat):List Int:=(K.take j).filter fun k=> !L.contains k
theorem CS {L K:List Int} {j:Nat} {x:Int} (h:K[j]? =some x):cX L K (j+1)=if L.contains x=true then cX L K j else cX L K j++[x]:=by
 unfold cX;rw[Kv,h,LL];cases hb:L.contains x<;>simp only[MO,hb,MR,Li,LA,L4,Lf,Oz,Lm,Nx]
theorem Fi {L K:List Int} {j:Nat} {x:Int} :x∈cX L K j↔x∈K.take j/\x∉L:=by
 unfold cX;rw[Kb];simp
theorem rG {K:List Int} (hn:K.Nodup) {j:Nat} {x:Int} (h:K[j]? =some x):x∉K.take j:=fun hh=>by
 obtain⟨k,hk,e⟩:=Nj.1 hh;obtain⟨hj,e2⟩:=KW.1 h;have:=(List.getElem_inj hn (h₀:=by omega) (h₁:=hj)).1 (e.trans e2.symm);omega
theorem Dm {l:List Int} {k:Int} {i:Nat} (h:l[i]? =some k):(fQ l)[i]? =some [I k,I 1]:=by unfold fQ;rw[K5,h];rfl
theorem zm (env:Env) (c:ChD) (h:Full c) (hs:Small c) (l:List Int) (hn:l.Nodup) (hz: ∀x∈l,inZ c x=true):Con prog env 274 [aC c, .seq 1 (l.map intAV)] (.seq 1 ((growL c l).map intAV)):=by
 have hc:=h.toRight;have hlen:=hc.few;have hl32:l.length<=32:=Kh (gN hn hz) hlen;have f0:=ak env c hs;have w1:IntKind.i64.wrap (0+1)=1:=rfl;have w2: ¬(0:Int)<0:=by omega
 have w3:(0:Int)<1:=by omega
 unfold aC at f0 |-;refine qf func274 call274 ntmps274 results274 ?_;repeat refine st0 ?_
 refine vj ?_;have F:=aA.eq_1;repeat refine tz1 f0 ?_
 refine aK (D:=Nat) (fun j vs=>[(0, .ref 9 [tabCells c] 0 0),(1, .seq 1 (l.map intAV)),(5, .loc 5 (vs 5) 0 0),(6, .mp 18 (vs 18)),(19, .seq 1 (l.map intAV)),(20,I l.length),(21,I j)]) (fun j _=>[(5,⟨5,[aA c],26,false⟩),(18,⟨0,fQ (l.take j),369,true⟩)]) (fun j _ _=>j<=l.length) (fun j=>l.length-j) 0 ?_ ?_ ?_ ?_
 ·exact Ke _
 ·(simp only[go_sem,F])
  try rfl
 ·have F:=aA.eq_1
  (simp only[go_sem,F])
  try rfl
 ·rintro j ws esc hj;by_cases hlt:j<l.length
  ·obtain⟨x,hx⟩:=gE hlt;have q1:=nlt hlt;have q2:=aD hlt (by omega);have hm:=lB x (l.take j) 0;rw[ke (rG hn hx)]at hm;have ht:fQ (l.take (j+1))=fQ (l.take j)++[[I x,I 1]]:=by rw[Kv,hx];exact vA _ _
   have F:=ai5 hx q1 q2 hm w1;repeat refine st ?_
   refine⟨j+1,hlt,?_,?_,by omega⟩
   ·exact qe
   ·have F:=ht;exact qe
  obtain rfl:j=l.length:=by omega
  have q1:=nl l.length;rw[Kp];have F:=q1;repeat refine st ?_
  refine vk ?_;show awp _ _ _ _ _ _;repeat refine st ?_
  refine aK (D:=List Int×List Int) (fun d vs=>[(0, .ref 9 [tabCells c] 0 0),(1, .seq 1 (d.1.map intAV)),(5, .loc 5 (vs 5) 0 0),(6, .mp 18 (vs 18)),(9, .seq 1 (d.2.map intAV))]) (fun d _=>[(5,⟨5,[aA c],26,false⟩),(18,⟨0,fQ d.1,369,true⟩)])
   (fun d _ _=>Grown c l d.1 d.2/\d.1.Nodup/\iP c (missL c d.1+d.2.length) d.1 d.2=growL c l) (fun d=>missL c d.1+d.2.length) (l,l) ?_ ?_ ?_ ?_
  ·exact⟨pR hn,hn,rfl⟩
  ·(simp only[go_sem,F])
   try rfl
  ·(simp only[go_sem,F])
   try rfl
  try clear hj hlt q1
  rintro⟨L,T⟩ ws esc ⟨hg,hLn,hgr⟩;simp only at hg hLn hgr;have hLz: ∀x∈L,inZ c x=true:=fun x hx=>(hg.gr x hx).in h hz;have hL32:L.length<=32:=Kh (gN hLn hLz) hlen;have hT32:T.length<=32:=Kh (gN hg.nd fun x hx=>hLz x (hg.todo x hx)) hlen;cases T with
  | nil=>
    have hL:growL c l=L:=by
     rw[<-hgr];cases missL c L+([]:List Int).length<;>rfl
    rw[hL];have q1: ¬(0:Int)<0:=by omega
    have F:=q1;repeat refine st ?_
    exact aR
  |cons i r=>
  have hi:=hg.todo i (by simp);obtain⟨k,s,rfl,hsk,hat⟩:=dD (hLz i hi);have hk:=(KW.1 hsk).1;have q1:(0:Int)< (((k:Int)::r).length:Int):=by simp only[Kj];omega
  have q2:((k:Nat):Int)< (c.states.length:Int):=by omega
  have q3:(((k:Int)::r).drop 1).take (((k:Int)::r).length-1)=r:=by simp
  have q4:(1:Int)<=(((k:Int)::r).length:Int):=by simp only[Kj];omega
  have q5:((k:Int)::r)[0]? =some (k:Int):=rfl;have f1:=bN env c h k;rw[K0 (.inr (hLz _ hi)), <-eB]at f1;unfold aC at f1;have hKd:zL (kidsL c (k:Int) true)=kidZ c (k:Int):=rfl;rw[hKd]at f1;have hpl:=zP hsk;have hini:lF c (k:Int)=s.initial:=by unfold lF;rw[hat]
  have hstep:=hg.step h;have hmiss:=nJ (c:=c) (l:=L) (ej c L k) fun x hx=>⟨(eT h hx).1,(eT h hx).2.1⟩
  have hgr':iP c (missL c L+r.length) (L++im c L k) (r++im c L k)=growL c l:=by
   rw[<-hgr,Kj,show missL c L+(r.length+1)=(missL c L+r.length)+1 by omega];rfl
  have hmore:iP c (missL c (L++im c L k)+(r++im c L k).length) (L++im c L k) (r++im c L k)=growL c l:=by
   rw[<-hgr'];refine vB h hstep ?_ ?_
   ·exact K8 _
   ·rw[K4];omega
  have hnext:(L++im c L k).Nodup:=by
   rw[ML];exact⟨hLn,ej c L k,fun x hx y hy e=>(eT h hy).1 (by rw[<-e];exact hx)⟩
  have hmu:missL c (L++im c L k)+(r++im c L k).length<missL c L+((k:Int)::r).length:=by
   rw[K4,Kj];omega
  generalize hKK:kidZ c (k:Int)=KK at*;have hKn:KK.Nodup:=by rw[<-hKK];exact rX c k
  have hK32:KK.length<=32:=by
   rw[<-hKK,kidZ,bg];exact bV hc k true
  have fin: ∀x:Int,x∉L->mfind prog 3 (I x) (fQ L) 0=some none:=fun x hx=>by rw[lB,ke hx]
  have fyes: ∀x:Int,x∈L-> ∃p,mfind prog 3 (I x) (fQ L) 0=some (some p)/\(fQ L)[p]? =some [I x,I 1]:=fun x hx=>by
   obtain⟨p,h1,h2⟩:=oa (n:=0) hx;exact⟨p,by rw[lB,h1,Lc],Dm h2⟩
  generalize hT:(k:Int)::r=T at*;have F:=ai8 q1 q2 q3 q4 q5 hsk aA.eq_1 aL.eq_1;repeat refine tz1 f1 ?_
  refine Iy (D:=List Int) (fun K vs=>[(0, .ref 9 [tabCells c] 0 0),(1, .seq 1 (L.map intAV)),(5, .loc 5 (vs 5) 0 0),(6, .mp 18 (vs 18)),(9, .seq 1 (r.map intAV)),(11, .seq 1 (K.map intAV))]) (fun _ _=>[(5,⟨5,[aA c],26,false⟩),(18,⟨0,fQ L,369,true⟩)]) (fun K _ _=>K=np c L k) ?_ ?_
  ·refine eO ?_;by_cases hk1:s.kind=1
   ·have b1:(s.kind==1)=true:=by simp[hk1]
    rw[b1]at hpl;have F:=b1;repeat refine st ?_
    have F:=aA.eq_1;refine lq KK.length (by omega) (fun j vs=>[(0, .ref 9 [tabCells c] 0 0),(1, .seq 1 (L.map intAV)),(5, .loc 5 (vs 5) 0 0),(6, .mp 18 (vs 18)),(9, .seq 1 (r.map intAV)),(10,I k),(49, .row 41 (vs 41)),(50,I KK.length),(51,I j)]) (fun _ _=>[(5,⟨5,[aA c],26,false⟩),(18,⟨0,fQ L,369,true⟩),(41,⟨1,KK.map intAV,3,true⟩)]) (fun j _ _=> ∀m (y:Int),m<j->KK[m]? =some y->y∉L) (fun m y hm=>absurd hm (by omega)) ?_ ?_
    ·rintro j us es hlt p1 p2 hno;obtain⟨x,hx⟩:=gE hlt;by_cases hxL:x∈L
     ·obtain⟨p,m1,m2⟩:=fyes x hxL
      have hnk:im c L k=[]:=by
       unfold im np;rw[K0 hpl,hKK,K0 (L8.2 ⟨x,K1 hx,K3.2 hxL⟩)];rfl
      rw[hnk,Lm,Lm]at hmore hmu hstep;have F:=ai6 hx p1 p2 m1 m2 w3;repeat refine st ?_
      refine⟨_,Turned.refl _,(L,r),⟨hstep,hLn,hmore⟩,?_,?_,hmu⟩
      ·exact qe
      ·have F:=aA.eq_1;exact qe
     ·have m1:=fin x hxL;have F:=ai5 hx p1 p2 m1 w2;repeat refine st ?_
      refine⟨j+1,⟨hlt,fun m y hm hy=> ?_⟩,?_,?_,by omega⟩
      ·rcases Lh.1 hm with e|e
       ·exact hno m y e hy
       ·rw[e,hx]at hy;cases hy;exact hxL
      ·exact qe
      ·have F:=aA.eq_1;exact qe
    ·rintro us es p1 hno
     have hany:(kidZ c (k:Int)).any (fun k=>L.contains k)=false:=by
      rw[NA];intro y hy;rw[hKK]at hy;obtain⟨m,hm⟩:=Lw.1 hy;have:=hno m y (KW.1 hm).1 hm;simpa using this
     by_cases h0:0<=s.initial
     ·have hnew:np c L k=[s.initial]:=by
       unfold np;rw[K0 hpl,KZ (by rw[hany];simp),hini,K0 h0]
      have F:=ai6 p1 h0 q2 hsk aA.eq_1 aL.eq_1;repeat refine st ?_
      refine⟨_,Turned.frozen 73 11 ⟨1,[[I s.initial]],3,true⟩ rfl (LG 0) (by simp only[go_sem]) (by simp only[go_sem]),[s.initial],hnew.symm,?_,?_⟩
      ·exact qe
      ·have F:=aA.eq_1;exact qe
     ·have hnew:np c L k=[]:=by
       unfold np;rw[K0 hpl,KZ (by rw[hany];simp),hini,KZ h0]
      have F:=ai6 p1 h0 q2 hsk aA.eq_1 aL.eq_1;repeat refine st ?_
      refine⟨_,Turned.nil 11 1 (by simp only[go_sem]),[],hnew.symm,?_,?_⟩
      ·exact qe
      ·have F:=aA.eq_1;exact qe
   ·have b1:(s.kind==1)=false:=by simpa using hk1
    rw[b1]at hpl
    have hnew:np c L k=KK:=by
     unfold np;rw[KZ (by rw[hpl];simp),hKK]
    have F:=b1;repeat refine st ?_
    refine⟨_,Turned.frozen 41 11 ⟨1,KK.map intAV,3,true⟩ rfl (LG 0) (by simp only[go_sem]) (by simp only[go_sem]),KK,hnew.symm,?_,?_⟩
    ·exact qe
    ·have F:=aA.eq_1;exact qe
  ·intro K us es hK;have hKn2:K.Nodup:=by rw[hK];exact rK c L k
   have hKz: ∀x∈K,inZ c x=true:=fun x hx=>by
    rw[hK]at hx;exact(bK hc (zR h hx)).1
   have hK32b:K.length<=32:=Kh (gN hKn2 hKz) hlen;have hadd:cX L K K.length=im c L k:=by unfold cX im;rw[Kp,hK]
   have hr32:r.length<=32:=by rw[<-hT,Kj]at hT32;omega
   repeat (first|refine oO rfl (by simp only[go_sem,aA];exact⟨rfl,rfl⟩) ?_|refine gR ?_|refine gO ?_|refine oZ (jm ?_)|refine oZ ?_|refine oS ?_|refine gT ?_|refine gD mixed ?_|refine oB ?_|refine oK ?_|(refine oX ?_;simp only[bJ,ba, ↓reduceIte,Nat.reduceEqDiff,reduceCtorEq])|refine oY (by simp only[go_sem,aA];exact iR) ?_|refine oN (by simp only[go_sem,aA];exact iR) ?_)
   refine aK (D:=Nat) (fun j vs=>[(0, .ref 9 [tabCells c] 0 0),(1, .seq 1 ((L++cX L K j).map intAV)),(5, .loc 5 (vs 5) 0 0),(6, .mp 18 (vs 18)),(9, .seq 1 ((r++cX L K j).map intAV)),(74, .seq 1 (K.map intAV)),(75,I K.length),(76,I j)]) (fun j _=>[(5,⟨5,[aA c],26,false⟩),(18,⟨0,fQ (L++cX L K j),369,true⟩)]) (fun j _ _=>j<=K.length) (fun j=>K.length-j) 0 ?_ ?_ ?_ ?_
   ·exact Ke _
   ·have:cX L K 0=[]:=rfl;rw[this,Lm,Lm]
    (simp only[go_sem,aA])
    try rfl
   ·have:cX L K 0=[]:=rfl;rw[this,Lm]
    (simp only[go_sem,aA])
    try rfl
   rintro j us es hj;by_cases hlt:j<K.length
   ·obtain⟨x,hx⟩:=gE hlt;have p1:=nlt hlt;have p2:=aD hlt (by omega);have hnx:=CS (L:=L) hx;have hal:(cX L K j).length<=32:=Kh (Kw ..) (by rw[Kf];omega);refine eO ?_;by_cases hxL:x∈L
    ·rw[K0 (K3.2 hxL)]at hnx;obtain⟨p,m1,m2⟩:=oa (n:=0) (show x∈L++cX L K j from LR _ hxL);have m3:=lB x (L++cX L K j) 0;rw[m1,Lc]at m3;have m4:=Dm m2;have F:=ai5 hx p1 p2 m3 m4;repeat refine st ?_
     refine⟨_,Turned.refl _,j+1,hlt,?_,?_,by omega⟩
     ·have F:=hnx;exact qe
     ·have F:=ai hnx aA.eq_1;exact qe
    ·have hxn:x∉L++cX L K j:=fun hh=>by
      rcases Kt.1 hh with hh|hh
      ·exact hxL hh
      ·exact rG hKn2 hx (Fi.1 hh).1
     rw[KZ (by simpa using hxL)]at hnx;have m3:=lB x (L++cX L K j) 0;rw[ke hxn]at m3;have e1:fQ (L++cX L K (j+1))=fQ (L++cX L K j)++[[I x,I 1]]:=by rw[hnx, <-LV];exact vA _ _
     have e2:L++cX L K (j+1)=(L++cX L K j)++[x]:=by rw[hnx,LV]
     have e3:r++cX L K (j+1)=(r++cX L K j)++[x]:=by rw[hnx,LV]
     have hf1:Fits ((L++cX L K j).length+1) 8:=aG (by rw[K4];omega) (by omega);have hf2:Fits ((r++cX L K j).length+1) 8:=aG (by rw[K4];omega) (by omega);generalize hA:L++cX L K j=A at*;generalize hB:r++cX L K j=B at*;have F:=ai7 hx p1 p2 m3 w1 hf1 hf2;repeat refine st ?_
     refine⟨_,(Turned.frozen 96 1 ⟨1,(A++[x]).map intAV,3,true⟩ rfl (LG 0) (by simp only[go_sem,Ki]) (by simp only[go_sem])).trans (Turned.frozen 105 9 ⟨1,(B++[x]).map intAV,3,true⟩ rfl (LG 0) (by simp only[go_sem,Ki]) (by simp only[go_sem])),j+1,hlt,?_,?_,by omega⟩
     ·have F:=ai e2 e3;exact qe
     ·have F:=ai e1 aA.eq_1;exact qe
   ·obtain rfl:j=K.length:=by omega
    have p1:=nl K.length;rw[hadd];have F:=p1;repeat refine st ?_
    refine⟨(L++im c L k,r++im c L k),⟨hstep,hnext,hmore⟩,?_,?_,hmu⟩
    ·exact qe
    ·have F:=aA.eq_1;exact qe
end
section
open Go.RowKit
def leadL (c:ChD) (tg:Int) (mem:List MemD):List Int:=match at_ c tg with
 | some s=>if aS s=true then(match mem.find? (fun m=>m.1==tg) with
   |some m=>m.2
   |none=>[s.initial]) else [tg]
 |none=>[]
theorem vg {c:ChD} (h:Right c) {i k1 k2 m:Int} (z1:inZ c k1=true) (z2:inZ c k2=true) (p1:aO c k1=i) (p2:aO c k2=i) (hm:inZ c m=true) (c1:m=k1\/k1∈upL c m) (c2:m=k2\/k2∈upL c m):k1=k2:=by
 obtain⟨a,_,rfl,_⟩:=dD z1;obtain⟨b,_,rfl,_⟩:=dD z2;obtain⟨m,_,rfl,_⟩:=dD hm;have:=wu h (dm.2 ⟨aW.1 z1,p1⟩) (dm.2 ⟨aW.1 z2,p2⟩) (m+1) m (by omega) (aW.1 hm) (c1.imp (by omega) id) (c2.imp (by omega) id);omega
theorem AQ {c:ChD} (h:Right c) {d:Int} : ∀(n:Nat) (t:Int),t<n->aboveB c d t=true-> ∃k,(k=t\/(k∈upL c t/\aboveB c d k=true))/\inZ c k=true/\aO c k=d
 | 0,t,hn,ha=>by
   cases hh:inZ c t with
   |true=>have:=aI.1 hh;omega
   |false=>unfold aboveB at ha;rw[cE hh]at ha;simp at ha
 | n+1,t,hn,ha=>by
   have hz:inZ c t=true:=by
    cases hh:inZ c t with
    |true=>rfl
    |false=>unfold aboveB at ha;rw[cE hh]at ha;simp at ha
   rcases (aX h hz).1 ha with e|e
   ·exact⟨t, .inl rfl,hz,e⟩
   ·have hp:=dH h hz;obtain⟨k,hk,k1,k2⟩:=AQ h n (aO c t) (by omega) e;refine⟨k, .inr ?_,k1,k2⟩;rcases hk with rfl|⟨hk,hd⟩
    ·exact⟨(cQ h hz).2 (.inl rfl),e⟩
    ·exact⟨(cQ h hz).2 (.inr hk),hd⟩
theorem aU {c:ChD} {d x:Int} (h:aboveB c d x=true):inZ c x=true:=by
 cases hh:inZ c x with
 |true=>rfl
 |false=>unfold aboveB at h;rw[cE hh]at h;simp at h
theorem iU {c:ChD} (h:Right c) {a b d:Int} (h1:aboveB c a b=true) (h2:aboveB c b d=true):aboveB c a d=true:=by
 have hz:=aI.1 (aU h2);unfold aboveB at*;rw[K3]at*;exact gh h (c.states.length) d b a hz.2 h2 h1
theorem H2 {c:ChD} (h:Right c) {d:Int} :aboveB c d d=false:=by
 cases hh:aboveB c d d with
 |false=>rfl
 | true=>
   unfold aboveB at hh;have:=(jg h 40 d d (K3.1 hh)).2;omega
theorem oq {c:ChD} (h:Right c) {a b:Int} : ∀(n:Nat) (t:Int),t<n->a∈upL c t->b∈upL c t->a=b\/a∈upL c b\/b∈upL c a
 | 0,t,hn,ha,_=>by
   cases hh:inZ c t with
   |true=>have:=aI.1 hh;omega
   |false=>rw[cE hh]at ha;simp at ha
 | n+1,t,hn,ha,hb=>by
   have hz:inZ c t=true:=by
    cases hh:inZ c t with
    |true=>rfl
    |false=>rw[cE hh]at ha;simp at ha
   have hp:=dH h hz;rw[cQ h hz]at ha hb;rcases ha with rfl|ha
   ·rcases hb with rfl|hb
    ·exact .inl rfl
    ·exact .inr (.inr hb)
   ·rcases hb with rfl|hb
    ·exact .inr (.inl ha)
    ·exact oq h n _ (by omega) ha hb
theorem uB {c:ChD} (h:Full c) {src tg:Int} (hs:inZ c src=true) (ht:inZ c tg=true):aboveB c (domE c src tg) tg=true/\domE c src tg∈upL c src/\(domE c src tg= -1\/(0<=domE c src tg/\av c (domE c src tg)=true)):=by
 have hr:=h.toRight;have root: ∀ {x},inZ c x=true-> -1∈upL c x:=fun {x} hx=>qY hr (c.states.length) x hx (aI.1 hx).2;unfold domE;cases hf:(upL c src).find? (Bu c tg) with
 | none=>
   rw[Nv]at hf;exact absurd rfl (hf _ (root hs))
 | some d=>
   have h1:=O3 hf;have h2:=Mp hf;have h3:=(jg hr 40 _ _ h2).1;simp only[Ls];unfold Bu at h1;rw[Lb,K6,KY]at h1;rcases h1 with h1|h1
   ·have:d= -1:=by omega
    subst this;exact⟨by unfold aboveB;rw[K3];exact root ht,h2, .inl rfl⟩
   ·refine⟨h1.2,h2,?_⟩;rcases O4 d 0 with q|q
    ·exact .inl (by omega)
    ·exact .inr ⟨q,h1.1⟩
structure Uni (c:ChD) (d:Int) (P:List Int):Prop where
 real: ∀k∈P,∃s,at_ c k=some s/\aS s=false
 bel: ∀k∈P,aboveB c d k=true
 up: ∀k∈P,aO c k=d\/aO c k∈P
 one: ∀x,av c x=true\/x= -1-> ∀k1∈P,∀k2∈P,aO c k1=x->aO c k2=x->k1=k2
 has: ∃k∈P,aO c k=d
theorem ud {c:ChD} {x:Int} (h:al c x=true): ∃s,at_ c x=some s/\aS s=false:=by
 obtain⟨s,hs,hk⟩:=gK h;refine⟨s,hs,?_⟩;unfold aS;rcases hk with e|e<;>simp[e]
theorem Ck {c:ChD} (h:Full c) {d:Int} {l:List Int} (hl: ∀x∈l,aboveB c d x=true/\ ∃s,at_ c x=some s/\aS s=false) (hne:l≠[]) (_hd: -1<=d)
 (hone: ∀x,av c x=true\/x= -1-> ∀k1∈upsL c l d,∀k2∈upsL c l d,aO c k1=x->aO c k2=x->k1=k2):Uni c d (upsL c l d):=by
 have hr:=h.toRight;have hm:=(iV (c:=c) (d:=d) (l:=l)).2
 have hbel: ∀k∈upsL c l d,aboveB c d k=true:=fun k hk=>by
  rcases (hm k).1 hk with hk|⟨_,_,_,_,hk⟩
  ·exact(hl k hk).1
  ·exact hk
 refine⟨fun k hk=> ?_,hbel,fun k hk=> ?_,hone,?_⟩
 ·rcases (hm k).1 hk with hk|⟨i,hi,h1,h2,_⟩
  ·exact(hl k hk).2
  ·exact ud (qZ h (c.states.length) i k (aI.1 (aU (hl i hi).1)).2 h1 h2)
 ·have hz:=aU (hbel k hk);rcases (aX hr hz).1 (hbel k hk) with e|e
  ·exact .inl e
  ·refine .inr ((hm _).2 (.inr ?_));have h0:0<=aO c k:=(aI.1 (aU e)).1;rcases (hm k).1 hk with hk|⟨i,hi,h1,h2,_⟩
   ·exact⟨k,hk,(cQ hr hz).2 (.inl rfl),h0,e⟩
   ·exact⟨i,hi,gh hr (c.states.length) i k _ (aI.1 (aU (hl i hi).1)).2 h1 ((cQ hr hz).2 (.inl rfl)),h0,e⟩
 ·obtain⟨t,ht⟩:=List.exists_mem_of_ne_nil l hne;obtain⟨k,hk,k1,k2⟩:=AQ hr (c.states.length) t (aI.1 (aU (hl t ht).1)).2 (hl t ht).1;refine⟨k,(hm k).2 ?_,k2⟩;rcases hk with rfl|⟨hk,e⟩
  ·exact .inl ht
  ·exact .inr ⟨t,ht,hk,(aI.1 k1).1,e⟩
theorem Cm {c:ChD} (h:Full c) {d t:Int} (ha:aboveB c d t=true) (hd: -1<=d) (hr: ∃s,at_ c t=some s/\aS s=false):Uni c d (upsL c [t] d):=by
 have hm:=(iV (c:=c) (d:=d) (l:=[t])).2
 have hc: ∀k∈upsL c [t] d,inZ c k=true/\(t=k\/k∈upL c t):=fun k hk=>by
  rcases (hm k).1 hk with hk|⟨i,hi,h1,h2,_⟩
  ·rw[Km.1 hk];exact⟨aU ha, .inl rfl⟩
  ·rw[Km.1 hi]at h1;exact⟨(iD h.toRight h1 h2).1, .inr h1⟩
 refine Ck h (fun x hx=>by rw[Km.1 hx];exact⟨ha,hr⟩) (by simp) hd fun x _ k1 h1 k2 h2 e1 e2=> ?_;exact vg h.toRight (hc k1 h1).1 (hc k2 h2).1 e1 e2 (aU ha) (hc k1 h1).2 (hc k2 h2).2
theorem yY {act:List Int} {ks:List Nat} (h:manyI act ks<=1) {a b:Int} (ha:a∈zL ks) (hb:b∈zL ks) (h1:a∈act) (h2:b∈act):a=b:=by
 rw[<-pL]at h;have m1:a∈(zL ks).filter fun k=>act.contains k:=Kb.2 ⟨ha,by simpa using h1⟩;have m2:b∈(zL ks).filter fun k=>act.contains k:=Kb.2 ⟨hb,by simpa using h2⟩;generalize (zL ks).filter (fun k=>act.contains k)=q at*
 match q,h with
 |[],_=>simp at m1
 |[x],_=>rw[Km.1 m1,Km.1 m2]
theorem GA {c:ChD} (h:Full c) {d p:Int} (hp:al c p=true) {l:List Int} (hb:rz c p l=true) (hd: -1<=d) (hdp:d=p\/aboveB c d p=true):Uni c d (upsL c l d):=by
 have hr:=h.toRight;unfold rz at hb;rw[KY,KY,K2,K2]at hb;obtain⟨⟨b1,b2⟩,b3⟩:=hb
 have hlp: ∀x∈l,aboveB c p x=true/\ ∃s,at_ c x=some s/\aS s=false:=fun x hx=>by
  have:=b2 x hx;unfold cY at this;rw[KY,KY]at this;refine⟨this.1.1,?_⟩;have:=this.1.2;split at this
  ·rename_i s hs;exact⟨s,hs,by simpa using this⟩
  ·cases this
 have hdx: ∀x,aboveB c p x=true->aboveB c d x=true:=fun x hx=>by
  rcases hdp with rfl|e
  ·exact hx
  ·exact iU hr e hx
 have hm:=(iV (c:=c) (d:=d) (l:=l)).2
 have hz: ∀k∈upsL c l d,inZ c k=true:=fun k hk=>by
  rcases (hm k).1 hk with hk|⟨_,_,_,_,hk⟩
  ·exact aU (hlp k hk).1
  ·exact aU hk
 have hpz:inZ c p=true:=by
  obtain⟨s,hs,_⟩:=gK hp;unfold at_ at hs;split at hs
  ·rename_i h0;have:=(KW.1 hs).1;exact aI.2 ⟨h0,by omega⟩
  ·cases hs
 obtain⟨t,ht⟩:=List.exists_mem_of_ne_nil l (wY b1);refine Ck h (fun x hx=>⟨hdx x (hlp x hx).1,(hlp x hx).2⟩) (wY b1) hd fun x hx k1 h1 k2 h2 e1 e2=> ?_
 have tri: ∀k∈upsL c l d,aboveB c p k=true\/p=k\/k∈upL c p:=fun k hk=>by
  rcases (hm k).1 hk with hk|⟨i,hi,q1,q2,_⟩
  ·exact .inl (hlp k hk).1
  ·have hip:p∈upL c i:=K3.1 (hlp i hi).1;rcases oq hr (c.states.length) i (aI.1 (aU (hlp i hi).1)).2 hip q1 with e|e|e
   ·exact .inr (.inl e)
   ·exact .inl (K3.2 e)
   ·exact .inr (.inr e)
 have low: ∀k,k∈upsL c l d->aboveB c p k=true->k∈deepRA c p l:=fun k hk ha=>by
  unfold deepRA;rw[Kt,sZ hr fun x hx=>aU (hlp x hx).1,iV.2];rcases (hm k).1 hk with hk|⟨i,hi,q1,q2,_⟩
  ·exact .inl (.inl hk)
  ·exact .inl (.inr ⟨i,hi,q1,q2,ha⟩)
 have hreal: ∀k∈upsL c l d,k∈kidZ c (aO c k):=fun k hk=>by
  obtain⟨j,s,rfl,hs,ha⟩:=dD (hz k hk);refine K9.2 ⟨j,C7 hs (dh hs).symm ?_,rfl⟩;rcases (hm _).1 hk with hk|⟨i,hi,q1,q2,_⟩
  ·obtain⟨s',e,e2⟩:=(hlp _ hk).2;rw[ha]at e;cases e;exact e2
  ·obtain⟨s',e,e2⟩:=ud (qZ h (c.states.length) i _ (aI.1 (aU (hlp i hi).1)).2 q1 q2);rw[ha]at e;cases e;exact e2
 have both: ∀ka kb,ka∈upsL c l d->kb∈upsL c l d->aO c ka=x->aO c kb=x->aboveB c p ka=true->ka=kb:=fun ka kb ha hb ea eb hap=>by
  have hkb:aboveB c p kb=true:=by
   have:=(aX hr (hz ka ha)).1 hap;rw[ea, <-eb]at this;exact(aX hr (hz kb hb)).2 this
  have hxd:x∈deepRA c p l:=by
   rcases (aX hr (hz ka ha)).1 hap with e|e
   ·unfold deepRA;rw[<-ea,e];simp
   ·have hx0:0<=aO c ka:=(aI.1 (aU e)).1;rw[ea]at e hx0;refine low x ((hm x).2 (.inr ?_)) e;have hup:x∈upL c ka:=(cQ hr (hz ka ha)).2 (.inl ea.symm);rcases (hm ka).1 ha with q|⟨i,hi,q1,q2,_⟩
    ·exact⟨ka,q,hup,hx0,hdx x e⟩
    ·exact⟨i,hi,gh hr (c.states.length) i ka x (aI.1 (aU (hlp i hi).1)).2 q1 hup,hx0,hdx x e⟩
  have hc:=b3 x hxd;unfold cZ at hc;cases hs:at_ c x with
  |none=>rw[hs]at hc;cases hc
  | some s=>
    have hpl:av c x=true:=hx.resolve_right fun e=>by rw[e]at hs;simp[at_]at hs
    rw[bc hs]at hpl;rw[hs]at hc;have hk1:s.kind=1:=by simpa using hpl
    simp only[hk1]at hc
    have hle:manyI (deepRA c p l) (kidsL c x true)<=1:=by
     simp at hc;omega
    have r1:=hreal ka ha;have r2:=hreal kb hb;rw[ea]at r1;rw[eb]at r2;exact yY hle r1 r2 (low ka ha hap) (low kb hb hkb)
 rcases tri k1 h1 with a|a
 ·exact both k1 k2 h1 h2 e1 e2 a
 ·rcases tri k2 h2 with b|b
  ·exact(both k2 k1 h2 h1 e2 e1 b).symm
  ·exact vg hr (hz k1 h1) (hz k2 h2) e1 e2 hpz a b
theorem sj {c:ChD} (h:Full c) {d tg:Int} (hz:inZ c tg=true) {mem:List MemD} (hm:bY c mem=true) (ha:aboveB c d tg=true) (hd: -1<=d):Uni c d (upsL c (leadL c tg mem) d):=by
 have hr:=h.toRight;obtain⟨k,s,rfl,hs,hat⟩:=dD hz;unfold leadL;rw[hat];simp only;by_cases hmy:aS s=true
 ·rw[K0 hmy];obtain⟨q1,q2,q3,q4,q5⟩:=nz h hs hmy
  have hdp:d=s.parent\/aboveB c d s.parent=true:=by
   have:=(aX hr hz).1 ha;rw[dh hs]at this;exact this.imp Eq.symm id
  have kidcase: ∀t∈kidZ c s.parent,Uni c d (upsL c [t] d):=fun t ht=>by
   obtain⟨t1,t2,_⟩:=bK hr ht;refine Cm h ((aX hr t1).2 (by rw[t2];exact hdp.imp Eq.symm id)) hd ?_;obtain⟨j,hj,rfl⟩:=K9.1 ht;obtain⟨s',e1,_,e2,_⟩:=xg hj;exact⟨s',by rw[bH];exact e1,e2⟩
  cases hf:mem.find? (fun m=>m.1==(k:Int)) with
  | none=>
    refine kidcase _ ?_;rcases h.cases hs with⟨e,_⟩|⟨e,_⟩|⟨e,_⟩|⟨_,_,_,e⟩
    ·omega
    ·omega
    ·omega
    ·obtain⟨j,hj,e⟩:=r7.1 e;exact K9.2 ⟨j,hj,e⟩
  | some m=>
    have e1:=O3 hf;have e2:=(nq hm).2 m (Mp hf);simp only[LW]at e1;unfold kP at e2;rw[e1,hat]at e2;simp only at e2 |-;split at e2
    ·rw[KY,K6]at e2;obtain⟨t,ht⟩:=NY.1 e2.1;rw[ht]at e2 |-;exact kidcase t (by simpa using e2.2)
    ·rw[KY,og h q2]at e2;exact GA h q2 e2.2 hd hdp
 ·rw[KZ hmy];exact Cm h ha hd ⟨s,hat,by simpa using hmy⟩
theorem uv {c:ChD} {k:Int} {s:StD} (hs:at_ c k=some s) (hm:aS s=false) (hz:inZ c k=true):k∈kidZ c (aO c k):=by
 obtain⟨j,s',rfl,hs',ha⟩:=dD hz;rw[hs]at ha;cases ha;exact K9.2 ⟨j,C7 hs' (dh hs').symm hm,rfl⟩
theorem lr {l:List Int} {ks:List Nat} (hn:ks.Nodup) {k:Int} (hk:k∈zL ks) (h: ∀x∈zL ks,x∈l↔x=k):manyI l ks=1:=by
 obtain⟨j,hj,rfl⟩:=K9.1 hk;unfold manyI;rw[filter_one hn hj fun x hx=> ?_]
 ·rfl
 ·rw[K3,h _ (K9.2 ⟨x,hx,rfl⟩)];omega
theorem BU {c:ChD} (h:Full c) {act:List Int} (hg:Lg c act) {d:Int} {P:List Int} (hu:Uni c d P) (hd:d= -1\/(d∈act/\av c d=true)) {O:List Nat} (hO:O.Pairwise (· < ·))
 (hm: ∀x,x∈zL O↔(x∈act/\aboveB c d x=false)\/Gr c P x):lgB c (zL O)=true/\ ∀x,aboveB c d x=false->(x∈zL O↔x∈act):=by
 have hr:=h.toRight
 have gb: ∀x,Gr c P x->aboveB c d x=true/\(aO c x=d\/Gr c P (aO c x))/\ ∃s,at_ c x=some s/\aS s=false:=fun x g=>by
  induction g with
  |base hx=>exact⟨hu.bel _ hx,(hu.up _ hx).imp id .base,hu.real _ hx⟩
  | ini g hp hn h0 ih=>
    have hk:=kQ h hp h0;obtain⟨k1,k2,_⟩:=bK hr hk;refine⟨(aX hr k1).2 (.inr (by rw[k2];exact ih.1)), .inr (by rw[k2];exact g),?_⟩;obtain⟨j,hj,e⟩:=K9.1 hk;obtain⟨s,e1,_,e2,_⟩:=xg hj;exact⟨s,by rw[<-e,bH];exact e1,e2⟩
  | par g hp hk ih=>
    obtain⟨k1,k2,_⟩:=bK hr hk;refine⟨(aX hr k1).2 (.inr (by rw[k2];exact ih.1)), .inr (by rw[k2];exact g),?_⟩;obtain⟨j,hj,e⟩:=K9.1 hk;obtain⟨s,e1,_,e2,_⟩:=xg hj;exact⟨s,by rw[<-e,bH];exact e1,e2⟩
 have hout: ∀x,aboveB c d x=false->(x∈zL O↔x∈act):=fun x hx=>by
  rw[hm];refine⟨fun hh=>hh.elim (fun a=>a.1) fun g=> ?_,fun hh=> .inl ⟨hh,hx⟩⟩;rw[(gb x g).1]at hx;cases hx
 have hin: ∀x,aboveB c d x=true->(x∈zL O↔Gr c P x):=fun x hx=>by
  rw[hm];refine⟨fun hh=>hh.elim (fun a=> ?_) id, .inr⟩;rw[hx]at a;cases a.2
 have two: ∀x,av c x=true\/x= -1-> ∀k1 k2,Gr c P k1->Gr c P k2->aO c k1=x->aO c k2=x->k1=k2:=fun x hx k1 k2 g1 g2 e1 e2=>by
  have inP: ∀k,Gr c P k->aO c k=x->k∈P\/(k=lF c x/\(∀k∈kidZ c x,k∉P)/\av c x=true):=fun k g e=>by
   rcases g.real h with a|⟨a1,a2,a3⟩
   ·exact .inl a
   ·rw[e]at a1 a2 a3;rcases hx with hx|hx
    ·exact .inr ⟨(a3 hx).1,(a3 hx).2,hx⟩
    ·rw[hx]at a2;have:=(aI.1 (aU (gb _ a2).1)).1;omega
  have kz: ∀k∈P,aO c k=x->k∈kidZ c x:=fun k hk e=>by
   obtain⟨s,q1,q2⟩:=hu.real k hk;rw[<-e];exact uv q1 q2 (aU (hu.bel k hk))
  rcases inP k1 g1 e1 with a|⟨a1,a2,_⟩
  ·rcases inP k2 g2 e2 with b|⟨b1,b2,_⟩
   ·exact hu.one x hx k1 a k2 b e1 e2
   ·exact absurd a (b2 k1 (kz k1 a e1))
  ·rcases inP k2 g2 e2 with b|⟨b1,b2,_⟩
   ·exact absurd b (a2 k2 (kz k2 b e2))
   ·rw[a1,b1]
 have dkid:manyI (zL O) (kidsL c d true)=1:=by
  obtain⟨k,hk,e⟩:=hu.has;obtain⟨s,q1,q2⟩:=hu.real k hk;have hkz:=uv q1 q2 (aU (hu.bel k hk));rw[e]at hkz;refine lr (bI c d true) hkz fun x hx=> ?_;obtain⟨x1,x2,_⟩:=bK hr hx;rw[hin x ((aX hr x1).2 (.inl x2))];refine⟨fun g=>two d ?_ x k g (.base hk) x2 e,fun e=>by rw[e];exact .base hk⟩;rcases hd with e|e
  ·exact .inr e
  ·exact .inl e.2
 have hb: ∀k∈O,k<c.states.length:=fun k hk=>by
  rcases (hm k).1 (K9.2 ⟨k,hk,rfl⟩) with a|a
  ·obtain⟨_,_,z,_⟩:=hg.of a.1;exact aW.1 z
  ·exact aW.1 (aU (gb _ a).1)
 refine⟨JK hO (fun k hk=> ?_) ?_,hout⟩
 ·have hkO:(k:Int)∈zL O:=K9.2 ⟨k,hk,rfl⟩
  have key: ∃s,at_ c (k:Int)=some s/\aS s=false/\(s.parent<0\/s.parent∈zL O)/\(s.kind=1->kidsL c k true≠[]->manyI (zL O) (kidsL c k true)=1)/\(s.kind=2->manyI (zL O) (kidsL c k true)=(kidsL c k true).length):=by
   rcases (hm k).1 hkO with⟨ka,kn⟩|g
   ·obtain⟨s,hs,hz,hmy,hp,f1,f2⟩:=hg.of ka;have hps:aO c (k:Int)=s.parent:=by unfold aO;rw[hs]
    rw[hps]at hp;refine⟨s,hs,hmy,?_,?_⟩
    ·rcases hp with hp|hp
     ·exact .inl hp
     ·refine .inr ((hout _ ?_).2 hp);cases hh:aboveB c d s.parent with
      |false=>rfl
      | true=>
        rw[(aX hr hz).2 (.inr (by rw[hps];exact hh))]at kn;cases kn
    ·by_cases e:d=k
     ·rw[<-e];refine⟨fun _ _=>dkid,fun e2=> ?_⟩;have hpl:=(hd.resolve_left (by omega)).2;rw[e,bc hs,e2]at hpl;cases hpl
     ·have same:manyI (zL O) (kidsL c k true)=manyI act (kidsL c k true):=by
       unfold manyI
       congr 1
       apply MZ;intro j hj;have hjz:(j:Int)∈kidZ c k:=K9.2 ⟨j,hj,rfl⟩;obtain⟨j1,j2,_⟩:=bK hr hjz;rw[LD,K3,K3];refine hout _ ?_;cases hh:aboveB c d (j:Int) with
       |false=>rfl
       | true=>
         rcases (aX hr j1).1 hh with q|q
         ·rw[j2]at q;exact absurd q.symm e
         ·rw[j2,kn]at q;cases q
      rw[same];exact⟨f1,f2⟩
   ·obtain⟨g1,g2,s,hs,hmy⟩:=gb k g;have hz:=aU g1;have hps:aO c (k:Int)=s.parent:=by unfold aO;rw[hs]
    have below: ∀j∈kidZ c (k:Int),(j∈zL O↔Gr c P j):=fun j hj=>by
     obtain⟨j1,j2,_⟩:=bK hr hj;exact hin j ((aX hr j1).2 (.inr (by rw[j2];exact g1)))
    refine⟨s,hs,hmy,?_,fun e hne=> ?_,fun e=> ?_⟩
    ·rw[<-hps];rcases g2 with q|q
     ·rw[q];rcases hd with e|e
      ·exact .inl (by omega)
      ·exact .inr ((hout d (H2 hr)).2 e.1)
     ·exact .inr ((hm _).2 (.inr q))
    ·have hpl:av c (k:Int)=true:=by rw[bc hs,e];rfl
     have hini:0<=lF c (k:Int)/\lF c (k:Int)∈kidZ c (k:Int):=by
      rcases kS h hs with⟨_,e2|e2⟩|⟨e2,_⟩|⟨e2,_⟩|⟨e2|e2,_⟩
      ·exact absurd e2 hne
      ·exact e2
      all_goals omega
     by_cases hex: ∃j∈kidZ c (k:Int),j∈P
     ·obtain⟨j,hj,hjP⟩:=hex;refine lr (bI c k true) hj fun x hx=> ?_;rw[below x hx];exact⟨fun gx=>two k (.inl hpl) x j gx (.base hjP) (bK hr hx).2.1 (bK hr hj).2.1,fun e=>by rw[e];exact .base hjP⟩
     ·have hno: ∀j∈kidZ c (k:Int),j∉P:=fun j hj hjP=>hex ⟨j,hj,hjP⟩;refine lr (bI c k true) hini.2 fun x hx=> ?_;rw[below x hx];have gi:Gr c P (lF c (k:Int)):= .ini g hpl hno hini.1;exact⟨fun gx=>two k (.inl hpl) x _ gx gi (bK hr hx).2.1 (bK hr hini.2).2.1,fun e=>by rw[e];exact gi⟩
    ·rw[jS];intro j hj;exact(below j hj).2 (.par g (by rw[bc hs,e];rfl) hj)
  obtain⟨s,hs,k1,k2,k3,k4⟩:=key;have hfit:tm c (zL O) (k:Int)=qM c (zL O) k s:=by unfold tm;rw[hs];rfl
  rw[hfit];unfold qM;rw[k1,KY,KY];refine⟨⟨rfl,?_⟩,?_⟩
  ·rw[Lb,K6];exact k2.imp id fun q=>K3.2 q
  ·split
   ·rename_i e;simpa using k3 e.1 e.2
   ·split
    ·rename_i e;simpa using k4 e
    ·rfl
 ·rcases hd with e|e
  ·rw[e]at dkid;exact dkid
  ·rw[<-hg.top];unfold manyI
   congr 1
   apply MZ;intro j hj;have hjz:(j:Int)∈kidZ c (-1):=K9.2 ⟨j,hj,rfl⟩;obtain⟨j1,j2,_⟩:=bK hr hjz;have hd0:=(hg.of e.1);obtain⟨_,_,dz,_⟩:=hd0;rw[LD,K3,K3];refine hout _ ?_;cases hh:aboveB c d (j:Int) with
   |false=>rfl
   | true=>
     rcases (aX hr j1).1 hh with q|q
     ·rw[j2]at q;have:=(aI.1 dz).1;omega
     ·rw[j2]at q;have:=(aI.1 (aU q)).1;omega
end
section
open Go.RowKit
abbrev memsAV (l:List MemD):AV:= .seq 2 (l.map mmAV)
theorem Gf {s:StD} :aS s=false->s.kind≠4/\s.kind≠5:=fun h=>by
 unfold aS at h;simpa using h
def xf (s:StD) (k:Int) (mem:List MemD):List Int:=match mem.find? (fun m=>m.1==k) with|some m=>m.2|none=>[s.initial]
theorem Ba {s:StD} {k:Int} {mem:List MemD} {m:MemD} (h:mem.find? (fun m=>m.1==k)=some m):xf s k mem=m.2:=by unfold xf;rw[h]
theorem Bb {s:StD} {k:Int} {mem:List MemD} (h:mem.find? (fun m=>m.1==k)=none):xf s k mem=[s.initial]:=by unfold xf;rw[h]
theorem Ex (env:Env) (c:ChD) (hc:Right c) (hs:Small c) (k:Nat) (s:StD) (hsk:c.states[k]? =some s) (mem:List MemD) (hl:mem.length<=1000000) (hm: ∀m∈mem,m.2.length<=4096):Con prog env 329 [aC c,I k,memsAV mem] (.own 3 1 ((leadL c k mem).map intAV)):=by
 have hlen:=hc.few;have f0:=ak env c hs;have hk:=(KW.1 hsk).1;have q0:((k:Nat):Int)< (c.states.length:Int):=by omega
 have hat:at_ c (k:Int)=some s:=by rw[bH];exact hsk
 have hlead:leadL c k mem=if aS s=true then(xf s k mem) else [(k:Int)]:=by unfold leadL;rw[hat];rfl
 rw[hlead];unfold aC at f0 |-;cases hmy:aS s with
 | false=>
   rw[KZ (by simp)];obtain⟨n4,n5⟩:=Gf hmy;have b4:(s.kind==4)=false:=by simpa using n4
   have b5:(s.kind==5)=false:=by simpa using n5
   refine qf func329 call329 ntmps329 results329 ?_;have F:=ai7 aA.eq_1 aL.eq_1 q0 hsk b4 b5 i7;repeat refine tz1 f0 ?_
   exact aR
 | true=>
   rw[K0 rfl]
   have hk45:((s.kind==4)=true)\/((s.kind==4)=false/\(s.kind==5)=true):=by
    unfold aS at hmy;cases h4:(s.kind==4) with
    |true=>exact .inl rfl
    |false=>rw[h4]at hmy;exact .inr ⟨rfl,by simpa using hmy⟩
   have main: ∀b4 b5:Bool,(s.kind==4)=b4->(s.kind==5)=b5->(b4=true\/b5=true)->Con prog env 329 [.ref 9 [tabCells c] 0 0,I k,memsAV mem] (.own 3 1 ((xf s k mem).map intAV)):=fun b4 b5 h4 h5 hb=>by
    cases b4<;>cases b5<;>(try simp at hb)<;>
    ·refine qf func329 call329 ntmps329 results329 ?_;have F:=ai7 aA.eq_1 aL.eq_1 q0 hsk h4 h5 i7;repeat refine tz1 f0 ?_
     have F:=aA.eq_1;refine lq mem.length (by omega) (fun j vs=>[(1,I k),(7, .loc 7 (vs 7) 0 0),(27,memsAV mem),(28,I mem.length),(29,I j)]) (fun _ _=>[(7,⟨5,[aA c],26,false⟩)]) (fun j _ _=>mem.find? (fun m=>m.1==(k:Int))=(mem.drop j).find? (fun m=>m.1==(k:Int))) rfl ?_ ?_
     ·rintro j ws esc hlt q1 q2 hf;obtain⟨x,hx⟩:=gE hlt;rw[vJ hx]at hf;have f1:=dC env (x.2.map intAV) (by rw[Kl];exact hm x (K1 hx));cases he:(x.1==(k:Int)) with
      | true=>
        rw[he]at hf;simp only[L4]at hf;rw[Ba hf];have F:=ai4 mmAV.eq_1 hx q1 he;repeat refine tz1 f1 ?_
        exact aR
      | false=>
        rw[he]at hf;simp only[LA,Lf]at hf;have F:=ai5 mmAV.eq_1 hx q1 q2 he;repeat refine tz1 f1 ?_
        refine⟨j+1,⟨hlt,hf⟩,?_,?_,by omega⟩
        ·exact qe
        ·have F:=aA.eq_1;exact qe
     ·rintro ws esc q1 hf;rw[MP,PL]at hf;rw[Bb hf];have F:=ai5 aA.eq_1 aL.eq_1 q0 q1 hsk;repeat refine tz1 f0 ?_
      exact aR
   rcases hk45 with h4|⟨h4,h5⟩
   ·exact main _ _ h4 rfl (.inl rfl)
   ·exact main _ _ h4 h5 (.inr rfl)
theorem zl {c:ChD} (h:Full c) {l:List Int} (hn:l.Nodup) (hz: ∀x∈l,inZ c x=true):(growL c l).length<=32:=by
 refine Kh (gN (kA c _ _ _ hn) fun x hx=> ?_) h.toRight.few;exact((fX h hn).1 hx).in h hz
def IH (c:ChD) (src tg:Int) (mem:List MemD):List Nat:=sortL c (growL c (upsL c (leadL c tg mem) (domE c src tg)))
theorem I8 {c:ChD} (h:Full c) {tg:Int} (hz:inZ c tg=true) {mem:List MemD} (hm:bY c mem=true):(∀x∈leadL c tg mem,inZ c x=true)/\(leadL c tg mem).length<=1000000:=by
 obtain⟨d1,_,d3⟩:=uB h hz hz;have hu:=sj h hz hm d1 (by rcases d3 with e|e<;>omega);have h1: ∀x∈leadL c tg mem,inZ c x=true:=fun x hx=>aU (hu.bel x ((iV.2 x).2 (.inl hx)));refine⟨h1,?_⟩;unfold leadL;split
 ·rename_i s hs;split
  ·split
   ·rename_i m hf;have e2:=(nq hm).2 m (Mp hf);unfold kP at e2;split at e2
    ·split at e2
     ·rw[KY,K6]at e2;omega
     ·unfold deepB at e2;simp only[KY]at e2;have hr:=e2.2.1.1.1;have hnd:m.2.Nodup:=j5 hr
      have hin: ∀x∈m.2,inZ c x=true:=fun x hx=>by
       have:=K2.1 e2.2.1.1.2 x hx;unfold d9 at this;rw[KY]at this;exact aU this.1
      exact Kh (gN hnd hin) (by have:=h.toRight.few;omega)
    ·cases e2
   ·simp
  ·simp
 ·simp
theorem Ad (env:Env) (c:ChD) (h:Full c) (hs:Small c) (t:TrD) (hsrc:inZ c t.src=true) (htg:inZ c t.target=true) (mem:List MemD) (hl:mem.length<=1000000) (hm: ∀m∈mem,m.2.length<=4096) (hmem:bY c mem=true):
 Con prog env 303 [aC c, .agg (bi t),memsAV mem] (.own 3 1 ((IH c t.src t.target mem).map aB)):=by
 have hc:=h.toRight;obtain⟨k,s,e,hsk,_⟩:=dD htg;obtain⟨l1,l2⟩:=I8 h htg hmem;obtain⟨u1,u2⟩:=iV (c:=c) (d:=domE c t.src t.target) (l:=leadL c t.target mem)
 have u3: ∀x∈upsL c (leadL c t.target mem) (domE c t.src t.target),inZ c x=true:=fun x hx=>by
  rcases (u2 x).1 hx with h|⟨i,_,q1,q2,_⟩
  ·exact l1 x h
  ·exact(iD hc q1 q2).1
 have f0:=bD env c;have f1:=Ex env c hc hs k s hsk mem hl hm;rw[<-e]at f1;have f2:=mC env c hc hs t hsrc;have f3:=H4 env c hc (leadL c t.target mem) l2 l1 (domE c t.src t.target);have f4:=zm env c h hs _ u1 u3;have f5:=eu env c hc (growL c (upsL c (leadL c t.target mem) (domE c t.src t.target))) (by have:=zl h u1 u3;omega);unfold IH;generalize growL c (upsL c (leadL c t.target mem) (domE c t.src t.target))=G at*;generalize upsL c (leadL c t.target mem) (domE c t.src t.target)=U at*;generalize leadL c t.target mem=A at*;unfold bi at f2;unfold aP at f0 f5;unfold aC at f0 f1 f2 f3 f4 |-;refine qf func303 call303 ntmps303 results303 ?_;have F:=bi.eq_1;repeat refine tz6 f0 f1 f2 f3 f4 f5 ?_
 exact aR
end
section
open Go.RowKit
theorem cg {α:Type} {l:List α} {n:Nat} {x:α} (h:l[n]? =some x):l.take (n+1)=l.take n++[x]:=by rw[Kv,h];rfl
theorem bE {α:Type} {l:List α} {n:Nat} {x:α} (h:l[n]? =some x):l.drop n=x::l.drop (n+1):=by
 obtain⟨hn,he⟩:=KW.1 h;rw[M6 hn,he]
def lI (p:Int->Bool):List Int->Option Nat
 |[]=>none
 |d::l=>if p d=true then some 0 else(lI p l).map (· +1)
def lJ:Option Nat->Int
 |some i=>i
 |none=> -1
theorem ob {p:Int->Bool} : ∀ {l:List Int} {i:Nat},lI p l=some i->i<l.length/\l.take i=(l.take i).filter (fun d=> !p d)/\ ∃d,l[i]? =some d/\p d=true
 |[],i,h=>by simp[lI]at h
 | d::l,i,h=>by
   unfold lI at h;split at h
   ·rename_i hp;cases h;exact⟨by simp,by simp,d,rfl,hp⟩
   ·rename_i hp;cases hi:lI p l with
    |none=>rw[hi]at h;cases h
    | some j=>
      rw[hi]at h;cases h;obtain⟨h1,h2,x,h3,h4⟩:=ob hi;refine⟨by simp;omega,?_,x,by simpa using h3,h4⟩;have hp:p d=false:=by simpa using hp
      simp only[List.take_succ_cons,MO,hp,Li,L4];rw[<-h2]
theorem oc {p:Int->Bool} : ∀ {l:List Int},lI p l=none->l.filter (fun d=> !p d)=l/\ ∀d∈l,p d=false
 |[],h=>by simp
 | d::l,h=>by
   unfold lI at h;split at h
   ·cases h
   ·rename_i hp;have hp:p d=false:=by simpa using hp
    cases hi:lI p l with
    |some j=>rw[hi]at h;cases h
    | none=>
      obtain⟨h1,h2⟩:=oc hi;refine⟨by simp only[MO,hp,Li,L4,h1],fun x hx=> ?_⟩;rcases Kk.1 hx with rfl|hx
      ·exact hp
      ·exact h2 x hx
theorem FI {p:Int->Bool} {l:List Int} {n:Nat} {d:Int} (hd:l[n]? =some d):lI p (l.drop n)=if p d=true then some 0 else(lI p (l.drop (n+1))).map (· +1):=by
 rw[bE hd];rfl
theorem pQ (env:Env) (l:List Int) (p:Int->Bool) (g:FuncId) (caps:List (List AV)) (hp: ∀d,Con prog env g [I d, .ref 1 caps 0 0] (B (p d))) (hl:l.length<=4096):Con prog env 282 [.seq 1 (l.map intAV), .clo g [.ref 1 caps 0 0]] (I (lJ (lI p l))):=by
 refine qf func282 call282 ntmps282 results282 ?_;repeat refine st0 ?_
 refine lq0 l.length (by omega) (fun n vs=>[(0, .seq 1 (l.map intAV)),(1, .clo g [.ref 1 caps 0 0]),(7,I l.length),(8,I n)]) (fun n vs=>[]) (fun n _ esc=>lI p l=(lI p (l.drop n)).map (· +n)) (by simp) ?_ ?_
 ·rintro n vs esc hlt g1 g2 hi;obtain⟨d,hd⟩:=gE hlt;have f1:=hp d;rw[FI hd]at hi;cases h1:p d
  ·rw[h1]at hi f1;simp only[LA,Lf]at hi;have F:=ai3 hd g1 g2;repeat refine st ?_
   refine oC (bo rfl (by simp only[go_sem,F];exact iR)) (f1) (by simp only[go_sem,F];exact iR) (by simp only[go_sem,F];exact⟨rfl,rfl⟩) ?_;repeat refine st ?_
   refine⟨n+1,⟨hlt,?_⟩,?_,?_,?_⟩
   ·rw[hi];cases lI p (l.drop (n+1))
    ·rfl
    ·simp;omega
   ·exact qe
   ·exact qe
   ·omega
  ·rw[h1]at hi f1;simp only[L4,Kg,Lc]at hi;rw[hi];have F:=ai5 hd g1 g2 lJ.eq_1 lJ.eq_2;repeat refine st ?_
   refine oC (bo rfl (by simp only[go_sem,F];exact iR)) (f1) (by simp only[go_sem,F];exact iR) (by simp only[go_sem,F];exact⟨rfl,rfl⟩) ?_;repeat refine st ?_
   exact aR
 ·rintro vs esc g1 hi;rw[Ly (by omega)]at hi;rw[hi];have F:=ai3 g1 lJ.eq_1 lJ.eq_2;repeat (first|refine oO rfl (by simp only[go_sem,lI,F];exact⟨rfl,rfl⟩) ?_|refine gR ?_|refine gO ?_|refine oZ (jm ?_)|refine oZ ?_|refine oS ?_|refine gT ?_|refine gD mixed ?_|refine oB ?_|refine oK ?_|(refine oX ?_;simp only[bJ,ba, ↓reduceIte,Nat.reduceEqDiff,reduceCtorEq])|refine oY (by simp only[go_sem,lI,F];exact iR) ?_|refine oN (by simp only[go_sem,lI,F];exact iR) ?_)
  (refine aN ?_;show (an _ _ _).run _=some _;simp only[go_sem,lI,F])
end
section
open Go.RowKit
end
section
open Go.RowKit
def KA (G act:List Int):List Int:=act.filter fun i=> !G.contains i
def moved (G act:List Int) (T:List Nat):List Int:=Lib.compact (bS (KA G act++zL T))
theorem oJ (l:List Int):(bS l).length=l.length:=by unfold bS;rw[List.length_mergeSort]
end
section
open Go.RowKit Go.ChangeShapes
theorem Tryz.tabArr:prog.underlying 331=some (.array 32 5):=by kernel_rfl
theorem It:prog.cellsOf 5=1:=by kernel_rfl
theorem J1 {W:World} {g t:Nat} {cs:Array Value} {fuel:Nat} {p:List MemPlace} (hg:prog.globalNamed "math/bits.deBruijn32tab" =some g) (ht:(prog.globals[g]?).map (·.type)=some t) (hv:W.var? prog "math/bits.deBruijn32tab" =some cs)
 (hd:DataW.trod (fun _=>()) prog W 0 (fun _=>true) false fuel t cs.toList=some (Rows.laid_math_bits_deBruijn32tab,p)):TabAt W:=by
 obtain rfl:10=g:=Lo ((show prog.globalNamed "math/bits.deBruijn32tab" =some 10 by kernel_rfl).symm.trans hg);obtain rfl:331=t:=Lo ((show (prog.globals[10]?).map (·.type)=some 331 by kernel_rfl).symm.trans ht);obtain⟨xs,m,_,hx,_,hxl,hgx⟩:=DataW.trod_array Tryz.tabArr hd;simp only[NP]at hx;intro j hj;have h1:=hgx j hj;rw[It,Nc]at h1;have hjx:xs[j]? =some (xs[j]'(by omega)):=KV _;rw[hjx]at h1;obtain⟨nn,e1,e2,_⟩:=Lr Tryz.underlying5 h1
 have hcell:cs[j]? =some (.int .u8 nn):=by
  have:((cs.toList.drop j).take 1)[0]? =some (.int .u8 nn):=by rw[e1];rfl
  rw[Kz,K0 (by omega),La,Md]at this;simpa using this
 have hval:(Rows.laid_math_bits_deBruijn32tab:DataW Unit)= .agg (xs.map (·.1)):=hx.1
 have hlist:(xs.map (·.1))[j]? =(Lib.deBruijn32tab.map fun(k:Nat)=>DataW.lit (H:=Unit) (.int .u8 (k:Int)))[j]? :=by
  have e:(Lib.deBruijn32tab.map fun(k:Nat)=>DataW.lit (H:=Unit) (.int .u8 (k:Int)))=xs.map (·.1):=by
   have:DataW.agg (Lib.deBruijn32tab.map fun(k:Nat)=>DataW.lit (H:=Unit) (.int .u8 (k:Int)))=DataW.agg (xs.map (·.1)):=by
    rw[<-hval];rfl
   injection this
  rw[e]
 rw[K5,hjx,K5]at hlist
 have hdb:Lib.deBruijn32tab[j]? =some (Lib.deBruijn32tab.getD j 0):=by
  have:j<Lib.deBruijn32tab.length:=by simpa[Lib.deBruijn32tab]using hj
  simp[List.getD,KV this]
 rw[hdb]at hlist;simp only[Kg,KX,e2]at hlist
 have hn:nn=((Lib.deBruijn32tab.getD j 0:Nat):Int):=by
  have:=hlist;injection this with this
  injection this
 rw[PD hg hv j,hcell,hn]
theorem AM {P:Program} {env:Env} {f:FuncId} {cs:List AV} {u:Value} {w:World} {vs:List Value} (h:Con P env f cs (.lit u)) (hE:EnvOk env (fun b _=>b<w.heap.size) w) (hv:RAs (fun b _=>b<w.heap.size) w vs cs):
 Calls P f vs.toArray w fun e w'=>e= .returned u/\Below w.heap.size w w':=(HK h hE (fun _ _ _=>by simp) hv).mono (by
 rintro e w' ⟨v,rfl,hb,_,hv⟩
 exact⟨by rw[hv.lit_inv],hb⟩)
end
section
open Go.RowKit Go.ChangeShapes
theorem ut {W:World} (h:laidMetH prog [("math/bits.deBruijn32tab",Rows.laid_math_bits_deBruijn32tab),("scrinium/api.ErrForm",Rows.laid_scrinium_api_ErrForm),("scrinium/api.ErrRange",Rows.laid_scrinium_api_ErrRange),("scrinium/api.ErrFull",Rows.laid_scrinium_api_ErrFull),("scrinium/api.ErrNone",Rows.laid_scrinium_api_ErrNone),("scrinium/api.ErrCorrupt",Rows.laid_scrinium_api_ErrCorrupt),("scrinium/api.ErrFuel",Rows.laid_scrinium_api_ErrFuel),("scrinium/api.ErrState",Rows.laid_scrinium_api_ErrState),("scrinium/api.ErrLong",Rows.laid_scrinium_api_ErrLong),("scrinium/api.ErrTwice",Rows.laid_scrinium_api_ErrTwice)] W):(∃ad,Sents W ad)/\TabAt W:=by
 rw[Ni _ _ _ (by kernel_rfl)]at h;obtain⟨ps,hv,hnd,hrows⟩:=h;obtain⟨g0,t0,cs0,f0,p0,q0,hg0,ht0,hv0,hd0,hrest,rfl⟩:=hv;refine⟨tX ?_,J1 hg0 ht0 hv0 hd0⟩;rw[Ni _ _ _ (by kernel_rfl)];exact⟨q0,hrest,(ML.1 hnd).2.1,fun b off hh=>hrows b off (MW _ hh)⟩
def ab:More:=⟨fun w=>TabAt w,fun _ _ h hb=>TabAt.below h hb⟩
theorem z7 (ad:Nat->Addr):ChEnv (aY ad ab) (ad 1) (ad 8):=⟨rfl,rfl⟩
theorem uo (ad:Nat->Addr): ∀W,(aY ad ab).inv W->TabAt W:=fun _ h=>h.2
end
section
open Go.RowKit
theorem DY {c:ChD} (h:jl c=true):(chk c).1=0:=by
 unfold jl at h;rw[KY,LW]at h;exact h.2
end

end Go.Proofs.YtbjldjekgepopaaGreatDoor