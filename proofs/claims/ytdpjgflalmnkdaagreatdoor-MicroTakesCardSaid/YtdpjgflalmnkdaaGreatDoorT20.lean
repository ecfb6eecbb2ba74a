/- The law of entering: its small functions; awake; what a nil table tells. -/
import Derived.Test.YtdpjgflalmnkdaaGreatDoorT19
set_option maxRecDepth 100000
set_option maxHeartbeats 16000000
set_option linter.unusedSimpArgs false
namespace Go.Proofs.YtdpjgflalmnkdaaGreatDoor
open Go.Proofs.Tryz
section
open Go.RowKit
theorem vK (l:List Int) (x:Int):fv (l++[x])=fv l++[[I x,I 1]]:=by unfold fv;rw[Ka];rfl
def cg (L K:List Int) (j:Nat):List Int:=(K.take j).filter fun k=> !L.contains k
theorem CM {L K:List Int} {j:Nat} {x:Int} (h:K[j]? =some x):cg L K (j+1)=if L.contains x=true then cg L K j else cg L K j++[x]:=by
 unfold cg;rw[Ky,h,LE];cases hb:L.contains x<;>simp only[MZ,hb,M1,Lx,Ku,L1,Ld,PF,Lo,OJ]
theorem Fx {L K:List Int} {j:Nat} {x:Int} :x∈cg L K j↔x∈K.take j/\x∉L:=by
 unfold cg;rw[Ke];simp
theorem rH {K:List Int} (hn:K.Nodup) {j:Nat} {x:Int} (h:K[j]? =some x):x∉K.take j:=fun hh=>by
 obtain⟨k,hk,e⟩:=Nv.1 hh;obtain⟨hj,e2⟩:=K0.1 h;have:=(List.getElem_inj hn (h₀:=by omega) (h₁:=hj)).1 (e.trans e2.symm);omega
theorem Dk {l:List Int} {k:Int} {i:Nat} (h:l[i]? =some k):(fv l)[i]? =some [I k,I 1]:=by unfold fv;rw[K9,h];rfl
theorem zm (env:Env) (c:ChD) (h:Full c) (hs:Small c) (l:List Int) (hn:l.Nodup) (hz: ∀x∈l,inZ c x=true):Con prog env 187 [aJ c, .seq 1 (l.map intAV)] (.seq 1 ((growL c l).map intAV)):=by
 have hc:=h.toRight;have hlen:=hc.few;have hl32:l.length<=32:=Km (gf hn hz) hlen;have f0:=ao env c hs;have w1:IntKind.i64.wrap (0+1)=1:=rfl;have w2: ¬(0:Int)<0:=by omega
 have w3:(0:Int)<1:=by omega
 unfold aJ at f0 |-;refine qf func187 call187 ntmps187 results187 ?_;repeat refine st0 ?_
 refine Fl ?_;have F:=aA.eq_1;repeat refine tz1 f0 ?_
 refine aI (D:=Nat) (fun j vs=>[(0, .ref 9 [tabCells c] 0 0),(1, .seq 1 (l.map intAV)),(5, .loc 5 (vs 5) 0 0),(6, .mp 18 (vs 18)),(19, .seq 1 (l.map intAV)),(20,I l.length),(21,I j)]) (fun j _=>[(5,⟨5,[aA c],26,false⟩),(18,⟨0,fv (l.take j),265,true⟩)]) (fun j _ _=>j<=l.length) (fun j=>l.length-j) 0 ?_ ?_ ?_ ?_
 ·exact Kj _
 ·(simp only[go_sem,F])
  try rfl
 ·have F:=aA.eq_1
  (simp only[go_sem,F])
  try rfl
 ·rintro j ws esc hj;by_cases hlt:j<l.length
  ·obtain⟨x,hx⟩:=gE hlt;have q1:=nlt hlt;have q2:=aD hlt (by omega);have hm:=lV x (l.take j) 0;rw[lA (rH hn hx)]at hm;have ht:fv (l.take (j+1))=fv (l.take j)++[[I x,I 1]]:=by rw[Ky,hx];exact vK _ _
   have F:=ai5 hx q1 q2 hm w1;repeat refine st ?_
   refine⟨j+1,hlt,?_,?_,by omega⟩
   ·exact qe
   ·have F:=ht;exact qe
  obtain rfl:j=l.length:=by omega
  have q1:=nl l.length;rw[Kt];have F:=q1;repeat refine st ?_
  refine Fp ?_;show awp _ _ _ _ _ _;repeat refine st ?_
  refine aI (D:=List Int×List Int) (fun d vs=>[(0, .ref 9 [tabCells c] 0 0),(1, .seq 1 (d.1.map intAV)),(5, .loc 5 (vs 5) 0 0),(6, .mp 18 (vs 18)),(9, .seq 1 (d.2.map intAV))]) (fun d _=>[(5,⟨5,[aA c],26,false⟩),(18,⟨0,fv d.1,265,true⟩)])
   (fun d _ _=>Grown c l d.1 d.2/\d.1.Nodup/\i6 c (missL c d.1+d.2.length) d.1 d.2=growL c l) (fun d=>missL c d.1+d.2.length) (l,l) ?_ ?_ ?_ ?_
  ·exact⟨pW hn,hn,rfl⟩
  ·(simp only[go_sem,F])
   try rfl
  ·(simp only[go_sem,F])
   try rfl
  try clear hj hlt q1
  rintro⟨L,T⟩ ws esc ⟨hg,hLn,hgr⟩;simp only at hg hLn hgr;have hLz: ∀x∈L,inZ c x=true:=fun x hx=>(hg.gr x hx).in h hz;have hL32:L.length<=32:=Km (gf hLn hLz) hlen;have hT32:T.length<=32:=Km (gf hg.nd fun x hx=>hLz x (hg.todo x hx)) hlen;cases T with
  | nil=>
    have hL:growL c l=L:=by
     rw[<-hgr];cases missL c L+([]:List Int).length<;>rfl
    rw[hL];have q1: ¬(0:Int)<0:=by omega
    have F:=q1;repeat refine st ?_
    exact aR
  |cons i r=>
  have hi:=hg.todo i (by simp);obtain⟨k,s,rfl,hsk,hat⟩:=cF (hLz i hi);have hk:=(K0.1 hsk).1;have q1:(0:Int)< (((k:Int)::r).length:Int):=by simp only[Ks];omega
  have q2:((k:Nat):Int)< (c.states.length:Int):=by omega
  have q3:(((k:Int)::r).drop 1).take (((k:Int)::r).length-1)=r:=by simp
  have q4:(1:Int)<=(((k:Int)::r).length:Int):=by simp only[Ks];omega
  have q5:((k:Int)::r)[0]? =some (k:Int):=rfl;have f1:=bV env c h k;rw[K5 (.inr (hLz _ hi)), <-bc]at f1;unfold aJ at f1;have hKd:zL (kidsL c (k:Int) true)=kidZ c (k:Int):=rfl;rw[hKd]at f1;have hpl:=sk hsk;have hini:jr c (k:Int)=s.initial:=by unfold jr;rw[hat]
  have hstep:=hg.step h;have hmiss:=kZ (c:=c) (l:=L) (fO c L k) fun x hx=>⟨(eh h hx).1,(eh h hx).2.1⟩
  have hgr':i6 c (missL c L+r.length) (L++iy c L k) (r++iy c L k)=growL c l:=by
   rw[<-hgr,Ks,show missL c L+(r.length+1)=(missL c L+r.length)+1 by omega];rfl
  have hmore:i6 c (missL c (L++iy c L k)+(r++iy c L k).length) (L++iy c L k) (r++iy c L k)=growL c l:=by
   rw[<-hgr'];refine vL h hstep ?_ ?_
   ·exact Kc _
   ·rw[K8];omega
  have hnext:(L++iy c L k).Nodup:=by
   rw[MW];exact⟨hLn,fO c L k,fun x hx y hy e=>(eh h hy).1 (by rw[<-e];exact hx)⟩
  have hmu:missL c (L++iy c L k)+(r++iy c L k).length<missL c L+((k:Int)::r).length:=by
   rw[K8,Ks];omega
  generalize hKK:kidZ c (k:Int)=KK at*;have hKn:KK.Nodup:=by rw[<-hKK];exact rV c k
  have hK32:KK.length<=32:=by
   rw[<-hKK,kidZ,an];exact bD hc k true
  have fin: ∀x:Int,x∉L->mfind prog 3 (I x) (fv L) 0=some none:=fun x hx=>by rw[lV,lA hx]
  have fyes: ∀x:Int,x∈L-> ∃p,mfind prog 3 (I x) (fv L) 0=some (some p)/\(fv L)[p]? =some [I x,I 1]:=fun x hx=>by
   obtain⟨p,h1,h2⟩:=ou (n:=0) hx;exact⟨p,by rw[lV,h1,Li],Dk h2⟩
  generalize hT:(k:Int)::r=T at*;have F:=ai8 q1 q2 q3 q4 q5 hsk aA.eq_1 aK.eq_1;repeat refine tz1 f1 ?_
  refine Dj (D:=List Int) (fun K vs=>[(0, .ref 9 [tabCells c] 0 0),(1, .seq 1 (L.map intAV)),(5, .loc 5 (vs 5) 0 0),(6, .mp 18 (vs 18)),(9, .seq 1 (r.map intAV)),(11, .seq 1 (K.map intAV))]) (fun _ _=>[(5,⟨5,[aA c],26,false⟩),(18,⟨0,fv L,265,true⟩)]) (fun K _ _=>K=oP c L k) ?_ ?_
  ·refine dh ?_;by_cases hk1:s.kind=1
   ·have b1:(s.kind==1)=true:=by simp[hk1]
    rw[b1]at hpl;have F:=b1;repeat refine st ?_
    have F:=aA.eq_1;refine lq KK.length (by omega) (fun j vs=>[(0, .ref 9 [tabCells c] 0 0),(1, .seq 1 (L.map intAV)),(5, .loc 5 (vs 5) 0 0),(6, .mp 18 (vs 18)),(9, .seq 1 (r.map intAV)),(10,I k),(49, .row 41 (vs 41)),(50,I KK.length),(51,I j)]) (fun _ _=>[(5,⟨5,[aA c],26,false⟩),(18,⟨0,fv L,265,true⟩),(41,⟨1,KK.map intAV,3,true⟩)]) (fun j _ _=> ∀m (y:Int),m<j->KK[m]? =some y->y∉L) (fun m y hm=>absurd hm (by omega)) ?_ ?_
    ·rintro j us es hlt p1 p2 hno;obtain⟨x,hx⟩:=gE hlt;by_cases hxL:x∈L
     ·obtain⟨p,m1,m2⟩:=fyes x hxL
      have hnk:iy c L k=[]:=by
       unfold iy oP;rw[K5 hpl,hKK,K5 (Lj.2 ⟨x,K4 hx,K6.2 hxL⟩)];rfl
      rw[hnk,Lo,Lo]at hmore hmu hstep;have F:=ai6 hx p1 p2 m1 m2 w3;repeat refine st ?_
      refine⟨_,Turned.refl _,(L,r),⟨hstep,hLn,hmore⟩,?_,?_,hmu⟩
      ·exact qe
      ·have F:=aA.eq_1;exact qe
     ·have m1:=fin x hxL;have F:=ai5 hx p1 p2 m1 w2;repeat refine st ?_
      refine⟨j+1,⟨hlt,fun m y hm hy=> ?_⟩,?_,?_,by omega⟩
      ·rcases Lq.1 hm with e|e
       ·exact hno m y e hy
       ·rw[e,hx]at hy;cases hy;exact hxL
      ·exact qe
      ·have F:=aA.eq_1;exact qe
    ·rintro us es p1 hno
     have hany:(kidZ c (k:Int)).any (fun k=>L.contains k)=false:=by
      rw[Nh];intro y hy;rw[hKK]at hy;obtain⟨m,hm⟩:=MA.1 hy;have:=hno m y (K0.1 hm).1 hm;simpa using this
     by_cases h0:0<=s.initial
     ·have hnew:oP c L k=[s.initial]:=by
       unfold oP;rw[K5 hpl,K2 (by rw[hany];simp),hini,K5 h0]
      have F:=ai6 p1 h0 q2 hsk aA.eq_1 aK.eq_1;repeat refine st ?_
      refine⟨_,Turned.frozen 73 11 ⟨1,[[I s.initial]],3,true⟩ rfl (LL 0) (by simp only[go_sem]) (by simp only[go_sem]),[s.initial],hnew.symm,?_,?_⟩
      ·exact qe
      ·have F:=aA.eq_1;exact qe
     ·have hnew:oP c L k=[]:=by
       unfold oP;rw[K5 hpl,K2 (by rw[hany];simp),hini,K2 h0]
      have F:=ai6 p1 h0 q2 hsk aA.eq_1 aK.eq_1;repeat refine st ?_
      refine⟨_,Turned.nil 11 1 (by simp only[go_sem]),[],hnew.symm,?_,?_⟩
      ·exact qe
      ·have F:=aA.eq_1;exact qe
   ·have b1:(s.kind==1)=false:=by simpa using hk1
    rw[b1]at hpl
    have hnew:oP c L k=KK:=by
     unfold oP;rw[K2 (by rw[hpl];simp),hKK]
    have F:=b1;repeat refine st ?_
    refine⟨_,Turned.frozen 41 11 ⟨1,KK.map intAV,3,true⟩ rfl (LL 0) (by simp only[go_sem]) (by simp only[go_sem]),KK,hnew.symm,?_,?_⟩
    ·exact qe
    ·have F:=aA.eq_1;exact qe
  ·intro K us es hK;have hKn2:K.Nodup:=by rw[hK];exact rK c L k
   have hKz: ∀x∈K,inZ c x=true:=fun x hx=>by
    rw[hK]at hx;exact(bK hc (zX h hx)).1
   have hK32b:K.length<=32:=Km (gf hKn2 hKz) hlen;have hadd:cg L K K.length=iy c L k:=by unfold cg iy;rw[Kt,hK]
   have hr32:r.length<=32:=by rw[<-hT,Ks]at hT32;omega
   repeat (first|refine oO rfl (by simp only[go_sem,aA];exact⟨rfl,rfl⟩) ?_|refine gR ?_|refine gO ?_|refine oZ (sC ?_)|refine oZ ?_|refine oS ?_|refine gT ?_|refine gD mixed ?_|refine oB ?_|refine oK ?_|(refine oX ?_;simp only[bT,eQ, ↓reduceIte,Nat.reduceEqDiff,reduceCtorEq])|refine oY (by simp only[go_sem,aA];exact iR) ?_|refine oN (by simp only[go_sem,aA];exact iR) ?_)
   refine aI (D:=Nat) (fun j vs=>[(0, .ref 9 [tabCells c] 0 0),(1, .seq 1 ((L++cg L K j).map intAV)),(5, .loc 5 (vs 5) 0 0),(6, .mp 18 (vs 18)),(9, .seq 1 ((r++cg L K j).map intAV)),(74, .seq 1 (K.map intAV)),(75,I K.length),(76,I j)]) (fun j _=>[(5,⟨5,[aA c],26,false⟩),(18,⟨0,fv (L++cg L K j),265,true⟩)]) (fun j _ _=>j<=K.length) (fun j=>K.length-j) 0 ?_ ?_ ?_ ?_
   ·exact Kj _
   ·have:cg L K 0=[]:=rfl;rw[this,Lo,Lo]
    (simp only[go_sem,aA])
    try rfl
   ·have:cg L K 0=[]:=rfl;rw[this,Lo]
    (simp only[go_sem,aA])
    try rfl
   rintro j us es hj;by_cases hlt:j<K.length
   ·obtain⟨x,hx⟩:=gE hlt;have p1:=nlt hlt;have p2:=aD hlt (by omega);have hnx:=CM (L:=L) hx;have hal:(cg L K j).length<=32:=Km (Kq ..) (by rw[Kg];omega);refine dh ?_;by_cases hxL:x∈L
    ·rw[K5 (K6.2 hxL)]at hnx;obtain⟨p,m1,m2⟩:=ou (n:=0) (show x∈L++cg L K j from LW _ hxL);have m3:=lV x (L++cg L K j) 0;rw[m1,Li]at m3;have m4:=Dk m2;have F:=ai5 hx p1 p2 m3 m4;repeat refine st ?_
     refine⟨_,Turned.refl _,j+1,hlt,?_,?_,by omega⟩
     ·have F:=hnx;exact qe
     ·have F:=ai hnx aA.eq_1;exact qe
    ·have hxn:x∉L++cg L K j:=fun hh=>by
      rcases Kx.1 hh with hh|hh
      ·exact hxL hh
      ·exact rH hKn2 hx (Fx.1 hh).1
     rw[K2 (by simpa using hxL)]at hnx;have m3:=lV x (L++cg L K j) 0;rw[lA hxn]at m3;have e1:fv (L++cg L K (j+1))=fv (L++cg L K j)++[[I x,I 1]]:=by rw[hnx, <-LM];exact vK _ _
     have e2:L++cg L K (j+1)=(L++cg L K j)++[x]:=by rw[hnx,LM]
     have e3:r++cg L K (j+1)=(r++cg L K j)++[x]:=by rw[hnx,LM]
     have hf1:Fits ((L++cg L K j).length+1) 8:=aC (by rw[K8];omega) (by omega);have hf2:Fits ((r++cg L K j).length+1) 8:=aC (by rw[K8];omega) (by omega);generalize hA:L++cg L K j=A at*;generalize hB:r++cg L K j=B at*;have F:=ai7 hx p1 p2 m3 w1 hf1 hf2;repeat refine st ?_
     refine⟨_,(Turned.frozen 96 1 ⟨1,(A++[x]).map intAV,3,true⟩ rfl (LL 0) (by simp only[go_sem,Ka]) (by simp only[go_sem])).trans (Turned.frozen 105 9 ⟨1,(B++[x]).map intAV,3,true⟩ rfl (LL 0) (by simp only[go_sem,Ka]) (by simp only[go_sem])),j+1,hlt,?_,?_,by omega⟩
     ·have F:=ai e2 e3;exact qe
     ·have F:=ai e1 aA.eq_1;exact qe
   ·obtain rfl:j=K.length:=by omega
    have p1:=nl K.length;rw[hadd];have F:=p1;repeat refine st ?_
    refine⟨(L++iy c L k,r++iy c L k),⟨hstep,hnext,hmore⟩,?_,?_,hmu⟩
    ·exact qe
    ·have F:=aA.eq_1;exact qe
end
section
open Go.RowKit
def leadL (c:ChD) (tg:Int) (mem:List MemD):List Int:=match at_ c tg with
 | some s=>if aT s=true then(match mem.find? (fun m=>m.1==tg) with
   |some m=>m.2
   |none=>[s.initial]) else [tg]
 |none=>[]
theorem vp {c:ChD} (h:Right c) {i k1 k2 m:Int} (z1:inZ c k1=true) (z2:inZ c k2=true) (p1:aO c k1=i) (p2:aO c k2=i) (hm:inZ c m=true) (c1:m=k1\/k1∈upL c m) (c2:m=k2\/k2∈upL c m):k1=k2:=by
 obtain⟨a,_,rfl,_⟩:=cF z1;obtain⟨b,_,rfl,_⟩:=cF z2;obtain⟨m,_,rfl,_⟩:=cF hm;have:=wz h (dy.2 ⟨aV.1 z1,p1⟩) (dy.2 ⟨aV.1 z2,p2⟩) (m+1) m (by omega) (aV.1 hm) (c1.imp (by omega) id) (c2.imp (by omega) id);omega
theorem AL {c:ChD} (h:Right c) {d:Int} : ∀(n:Nat) (t:Int),t<n->aboveB c d t=true-> ∃k,(k=t\/(k∈upL c t/\aboveB c d k=true))/\inZ c k=true/\aO c k=d
 | 0,t,hn,ha=>by
   cases hh:inZ c t with
   |true=>have:=aH.1 hh;omega
   |false=>unfold aboveB at ha;rw[cK hh]at ha;simp at ha
 | n+1,t,hn,ha=>by
   have hz:inZ c t=true:=by
    cases hh:inZ c t with
    |true=>rfl
    |false=>unfold aboveB at ha;rw[cK hh]at ha;simp at ha
   rcases (aZ h hz).1 ha with e|e
   ·exact⟨t, .inl rfl,hz,e⟩
   ·have hp:=dM h hz;obtain⟨k,hk,k1,k2⟩:=AL h n (aO c t) (by omega) e;refine⟨k, .inr ?_,k1,k2⟩;rcases hk with rfl|⟨hk,hd⟩
    ·exact⟨(cZ h hz).2 (.inl rfl),e⟩
    ·exact⟨(cZ h hz).2 (.inr hk),hd⟩
theorem aY {c:ChD} {d x:Int} (h:aboveB c d x=true):inZ c x=true:=by
 cases hh:inZ c x with
 |true=>rfl
 |false=>unfold aboveB at h;rw[cK hh]at h;simp at h
theorem ia {c:ChD} (h:Right c) {a b d:Int} (h1:aboveB c a b=true) (h2:aboveB c b d=true):aboveB c a d=true:=by
 have hz:=aH.1 (aY h2);unfold aboveB at*;rw[K6]at*;exact iE h (c.states.length) d b a hz.2 h2 h1
theorem Hk {c:ChD} (h:Right c) {d:Int} :aboveB c d d=false:=by
 cases hh:aboveB c d d with
 |false=>rfl
 | true=>
   unfold aboveB at hh;have:=(jb h 40 d d (K6.1 hh)).2;omega
theorem pE {c:ChD} (h:Right c) {a b:Int} : ∀(n:Nat) (t:Int),t<n->a∈upL c t->b∈upL c t->a=b\/a∈upL c b\/b∈upL c a
 | 0,t,hn,ha,_=>by
   cases hh:inZ c t with
   |true=>have:=aH.1 hh;omega
   |false=>rw[cK hh]at ha;simp at ha
 | n+1,t,hn,ha,hb=>by
   have hz:inZ c t=true:=by
    cases hh:inZ c t with
    |true=>rfl
    |false=>rw[cK hh]at ha;simp at ha
   have hp:=dM h hz;rw[cZ h hz]at ha hb;rcases ha with rfl|ha
   ·rcases hb with rfl|hb
    ·exact .inl rfl
    ·exact .inr (.inr hb)
   ·rcases hb with rfl|hb
    ·exact .inr (.inl ha)
    ·exact pE h n _ (by omega) ha hb
theorem uM {c:ChD} (h:Full c) {src tg:Int} (hs:inZ c src=true) (ht:inZ c tg=true):aboveB c (domE c src tg) tg=true/\domE c src tg∈upL c src/\(domE c src tg= -1\/(0<=domE c src tg/\ah c (domE c src tg)=true)):=by
 have hr:=h.toRight;have root: ∀ {x},inZ c x=true-> -1∈upL c x:=fun {x} hx=>qb hr (c.states.length) x hx (aH.1 hx).2;unfold domE;cases hf:(upL c src).find? (qR c tg) with
 | none=>
   rw[NM]at hf;exact absurd rfl (hf _ (root hs))
 | some d=>
   have h1:=N8 hf;have h2:=MQ hf;have h3:=(jb hr 40 _ _ h2).1;simp only[Lb];unfold qR at h1;rw[Ll,Kh,K3]at h1;rcases h1 with h1|h1
   ·have:d= -1:=by omega
    subst this;exact⟨by unfold aboveB;rw[K6];exact root ht,h2, .inl rfl⟩
   ·refine⟨h1.2,h2,?_⟩;rcases OR d 0 with q|q
    ·exact .inl (by omega)
    ·exact .inr ⟨q,h1.1⟩
structure Uni (c:ChD) (d:Int) (P:List Int):Prop where
 real: ∀k∈P,∃s,at_ c k=some s/\aT s=false
 bel: ∀k∈P,aboveB c d k=true
 up: ∀k∈P,aO c k=d\/aO c k∈P
 one: ∀x,ah c x=true\/x= -1-> ∀k1∈P,∀k2∈P,aO c k1=x->aO c k2=x->k1=k2
 has: ∃k∈P,aO c k=d
theorem uv {c:ChD} {x:Int} (h:ap c x=true): ∃s,at_ c x=some s/\aT s=false:=by
 obtain⟨s,hs,hk⟩:=gZ h;refine⟨s,hs,?_⟩;unfold aT;rcases hk with e|e<;>simp[e]
theorem Ca {c:ChD} (h:Full c) {d:Int} {l:List Int} (hl: ∀x∈l,aboveB c d x=true/\ ∃s,at_ c x=some s/\aT s=false) (hne:l≠[]) (_hd: -1<=d)
 (hone: ∀x,ah c x=true\/x= -1-> ∀k1∈upsL c l d,∀k2∈upsL c l d,aO c k1=x->aO c k2=x->k1=k2):Uni c d (upsL c l d):=by
 have hr:=h.toRight;have hm:=(gV (c:=c) (d:=d) (l:=l)).2
 have hbel: ∀k∈upsL c l d,aboveB c d k=true:=fun k hk=>by
  rcases (hm k).1 hk with hk|⟨_,_,_,_,hk⟩
  ·exact(hl k hk).1
  ·exact hk
 refine⟨fun k hk=> ?_,hbel,fun k hk=> ?_,hone,?_⟩
 ·rcases (hm k).1 hk with hk|⟨i,hi,h1,h2,_⟩
  ·exact(hl k hk).2
  ·exact uv (qc h (c.states.length) i k (aH.1 (aY (hl i hi).1)).2 h1 h2)
 ·have hz:=aY (hbel k hk);rcases (aZ hr hz).1 (hbel k hk) with e|e
  ·exact .inl e
  ·refine .inr ((hm _).2 (.inr ?_));have h0:0<=aO c k:=(aH.1 (aY e)).1;rcases (hm k).1 hk with hk|⟨i,hi,h1,h2,_⟩
   ·exact⟨k,hk,(cZ hr hz).2 (.inl rfl),h0,e⟩
   ·exact⟨i,hi,iE hr (c.states.length) i k _ (aH.1 (aY (hl i hi).1)).2 h1 ((cZ hr hz).2 (.inl rfl)),h0,e⟩
 ·obtain⟨t,ht⟩:=List.exists_mem_of_ne_nil l hne;obtain⟨k,hk,k1,k2⟩:=AL hr (c.states.length) t (aH.1 (aY (hl t ht).1)).2 (hl t ht).1;refine⟨k,(hm k).2 ?_,k2⟩;rcases hk with rfl|⟨hk,e⟩
  ·exact .inl ht
  ·exact .inr ⟨t,ht,hk,(aH.1 k1).1,e⟩
theorem Cc {c:ChD} (h:Full c) {d t:Int} (ha:aboveB c d t=true) (hd: -1<=d) (hr: ∃s,at_ c t=some s/\aT s=false):Uni c d (upsL c [t] d):=by
 have hm:=(gV (c:=c) (d:=d) (l:=[t])).2
 have hc: ∀k∈upsL c [t] d,inZ c k=true/\(t=k\/k∈upL c t):=fun k hk=>by
  rcases (hm k).1 hk with hk|⟨i,hi,h1,h2,_⟩
  ·rw[Kl.1 hk];exact⟨aY ha, .inl rfl⟩
  ·rw[Kl.1 hi]at h1;exact⟨(gG h.toRight h1 h2).1, .inr h1⟩
 refine Ca h (fun x hx=>by rw[Kl.1 hx];exact⟨ha,hr⟩) (by simp) hd fun x _ k1 h1 k2 h2 e1 e2=> ?_;exact vp h.toRight (hc k1 h1).1 (hc k2 h2).1 e1 e2 (aY ha) (hc k1 h1).2 (hc k2 h2).2
theorem ya {act:List Int} {ks:List Nat} (h:manyI act ks<=1) {a b:Int} (ha:a∈zL ks) (hb:b∈zL ks) (h1:a∈act) (h2:b∈act):a=b:=by
 rw[<-pS]at h;have m1:a∈(zL ks).filter fun k=>act.contains k:=Ke.2 ⟨ha,by simpa using h1⟩;have m2:b∈(zL ks).filter fun k=>act.contains k:=Ke.2 ⟨hb,by simpa using h2⟩;generalize (zL ks).filter (fun k=>act.contains k)=q at*
 match q,h with
 |[],_=>simp at m1
 |[x],_=>rw[Kl.1 m1,Kl.1 m2]
theorem GM {c:ChD} (h:Full c) {d p:Int} (hp:ap c p=true) {l:List Int} (hb:sB c p l=true) (hd: -1<=d) (hdp:d=p\/aboveB c d p=true):Uni c d (upsL c l d):=by
 have hr:=h.toRight;unfold sB at hb;rw[K3,K3,K7,K7]at hb;obtain⟨⟨b1,b2⟩,b3⟩:=hb
 have hlp: ∀x∈l,aboveB c p x=true/\ ∃s,at_ c x=some s/\aT s=false:=fun x hx=>by
  have:=b2 x hx;unfold cj at this;rw[K3,K3]at this;refine⟨this.1.1,?_⟩;have:=this.1.2;split at this
  ·rename_i s hs;exact⟨s,hs,by simpa using this⟩
  ·cases this
 have hdx: ∀x,aboveB c p x=true->aboveB c d x=true:=fun x hx=>by
  rcases hdp with rfl|e
  ·exact hx
  ·exact ia hr e hx
 have hm:=(gV (c:=c) (d:=d) (l:=l)).2
 have hz: ∀k∈upsL c l d,inZ c k=true:=fun k hk=>by
  rcases (hm k).1 hk with hk|⟨_,_,_,_,hk⟩
  ·exact aY (hlp k hk).1
  ·exact aY hk
 have hpz:inZ c p=true:=by
  obtain⟨s,hs,_⟩:=gZ hp;unfold at_ at hs;split at hs
  ·rename_i h0;have:=(K0.1 hs).1;exact aH.2 ⟨h0,by omega⟩
  ·cases hs
 obtain⟨t,ht⟩:=List.exists_mem_of_ne_nil l (wo b1);refine Ca h (fun x hx=>⟨hdx x (hlp x hx).1,(hlp x hx).2⟩) (wo b1) hd fun x hx k1 h1 k2 h2 e1 e2=> ?_
 have tri: ∀k∈upsL c l d,aboveB c p k=true\/p=k\/k∈upL c p:=fun k hk=>by
  rcases (hm k).1 hk with hk|⟨i,hi,q1,q2,_⟩
  ·exact .inl (hlp k hk).1
  ·have hip:p∈upL c i:=K6.1 (hlp i hi).1;rcases pE hr (c.states.length) i (aH.1 (aY (hlp i hi).1)).2 hip q1 with e|e|e
   ·exact .inr (.inl e)
   ·exact .inl (K6.2 e)
   ·exact .inr (.inr e)
 have low: ∀k,k∈upsL c l d->aboveB c p k=true->k∈deepRA c p l:=fun k hk ha=>by
  unfold deepRA;rw[Kx,kY hr fun x hx=>aY (hlp x hx).1,gV.2];rcases (hm k).1 hk with hk|⟨i,hi,q1,q2,_⟩
  ·exact .inl (.inl hk)
  ·exact .inl (.inr ⟨i,hi,q1,q2,ha⟩)
 have hreal: ∀k∈upsL c l d,k∈kidZ c (aO c k):=fun k hk=>by
  obtain⟨j,s,rfl,hs,ha⟩:=cF (hz k hk);refine Kb.2 ⟨j,C0 hs (dw hs).symm ?_,rfl⟩;rcases (hm _).1 hk with hk|⟨i,hi,q1,q2,_⟩
  ·obtain⟨s',e,e2⟩:=(hlp _ hk).2;rw[ha]at e;cases e;exact e2
  ·obtain⟨s',e,e2⟩:=uv (qc h (c.states.length) i _ (aH.1 (aY (hlp i hi).1)).2 q1 q2);rw[ha]at e;cases e;exact e2
 have both: ∀ka kb,ka∈upsL c l d->kb∈upsL c l d->aO c ka=x->aO c kb=x->aboveB c p ka=true->ka=kb:=fun ka kb ha hb ea eb hap=>by
  have hkb:aboveB c p kb=true:=by
   have:=(aZ hr (hz ka ha)).1 hap;rw[ea, <-eb]at this;exact(aZ hr (hz kb hb)).2 this
  have hxd:x∈deepRA c p l:=by
   rcases (aZ hr (hz ka ha)).1 hap with e|e
   ·unfold deepRA;rw[<-ea,e];simp
   ·have hx0:0<=aO c ka:=(aH.1 (aY e)).1;rw[ea]at e hx0;refine low x ((hm x).2 (.inr ?_)) e;have hup:x∈upL c ka:=(cZ hr (hz ka ha)).2 (.inl ea.symm);rcases (hm ka).1 ha with q|⟨i,hi,q1,q2,_⟩
    ·exact⟨ka,q,hup,hx0,hdx x e⟩
    ·exact⟨i,hi,iE hr (c.states.length) i ka x (aH.1 (aY (hlp i hi).1)).2 q1 hup,hx0,hdx x e⟩
  have hc:=b3 x hxd;unfold ck at hc;cases hs:at_ c x with
  |none=>rw[hs]at hc;cases hc
  | some s=>
    have hpl:ah c x=true:=hx.resolve_right fun e=>by rw[e]at hs;simp[at_]at hs
    rw[bk hs]at hpl;rw[hs]at hc;have hk1:s.kind=1:=by simpa using hpl
    simp only[hk1]at hc
    have hle:manyI (deepRA c p l) (kidsL c x true)<=1:=by
     simp at hc;omega
    have r1:=hreal ka ha;have r2:=hreal kb hb;rw[ea]at r1;rw[eb]at r2;exact ya hle r1 r2 (low ka ha hap) (low kb hb hkb)
 rcases tri k1 h1 with a|a
 ·exact both k1 k2 h1 h2 e1 e2 a
 ·rcases tri k2 h2 with b|b
  ·exact(both k2 k1 h2 h1 e2 e1 b).symm
  ·exact vp hr (hz k1 h1) (hz k2 h2) e1 e2 hpz a b
theorem sr {c:ChD} (h:Full c) {d tg:Int} (hz:inZ c tg=true) {mem:List MemD} (hm:bU c mem=true) (ha:aboveB c d tg=true) (hd: -1<=d):Uni c d (upsL c (leadL c tg mem) d):=by
 have hr:=h.toRight;obtain⟨k,s,rfl,hs,hat⟩:=cF hz;unfold leadL;rw[hat];simp only;by_cases hmy:aT s=true
 ·rw[K5 hmy];obtain⟨q1,q2,q3,q4,q5⟩:=oU h hs hmy
  have hdp:d=s.parent\/aboveB c d s.parent=true:=by
   have:=(aZ hr hz).1 ha;rw[dw hs]at this;exact this.imp Eq.symm id
  have kidcase: ∀t∈kidZ c s.parent,Uni c d (upsL c [t] d):=fun t ht=>by
   obtain⟨t1,t2,_⟩:=bK hr ht;refine Cc h ((aZ hr t1).2 (by rw[t2];exact hdp.imp Eq.symm id)) hd ?_;obtain⟨j,hj,rfl⟩:=Kb.1 ht;obtain⟨s',e1,_,e2,_⟩:=xe hj;exact⟨s',by rw[bI];exact e1,e2⟩
  cases hf:mem.find? (fun m=>m.1==(k:Int)) with
  | none=>
    refine kidcase _ ?_;rcases h.cases hs with⟨e,_⟩|⟨e,_⟩|⟨e,_⟩|⟨_,_,_,e⟩
    ·omega
    ·omega
    ·omega
    ·obtain⟨j,hj,e⟩:=oR.1 e;exact Kb.2 ⟨j,hj,e⟩
  | some m=>
    have e1:=N8 hf;have e2:=(oQ hm).2 m (MQ hf);simp only[L5]at e1;unfold k8 at e2;rw[e1,hat]at e2;simp only at e2 |-;split at e2
    ·rw[K3,Kh]at e2;obtain⟨t,ht⟩:=NJ.1 e2.1;rw[ht]at e2 |-;exact kidcase t (by simpa using e2.2)
    ·rw[K3,oz h q2]at e2;exact GM h q2 e2.2 hd hdp
 ·rw[K2 hmy];exact Cc h ha hd ⟨s,hat,by simpa using hmy⟩
theorem vF {c:ChD} {k:Int} {s:StD} (hs:at_ c k=some s) (hm:aT s=false) (hz:inZ c k=true):k∈kidZ c (aO c k):=by
 obtain⟨j,s',rfl,hs',ha⟩:=cF hz;rw[hs]at ha;cases ha;exact Kb.2 ⟨j,C0 hs' (dw hs').symm hm,rfl⟩
theorem mI {l:List Int} {ks:List Nat} (hn:ks.Nodup) {k:Int} (hk:k∈zL ks) (h: ∀x∈zL ks,x∈l↔x=k):manyI l ks=1:=by
 obtain⟨j,hj,rfl⟩:=Kb.1 hk;unfold manyI;rw[filter_one hn hj fun x hx=> ?_]
 ·rfl
 ·rw[K6,h _ (Kb.2 ⟨x,hx,rfl⟩)];omega
theorem BO {c:ChD} (h:Full c) {act:List Int} (hg:Lg c act) {d:Int} {P:List Int} (hu:Uni c d P) (hd:d= -1\/(d∈act/\ah c d=true)) {O:List Nat} (hO:O.Pairwise (· < ·))
 (hm: ∀x,x∈zL O↔(x∈act/\aboveB c d x=false)\/Gr c P x):lgB c (zL O)=true/\ ∀x,aboveB c d x=false->(x∈zL O↔x∈act):=by
 have hr:=h.toRight
 have gb: ∀x,Gr c P x->aboveB c d x=true/\(aO c x=d\/Gr c P (aO c x))/\ ∃s,at_ c x=some s/\aT s=false:=fun x g=>by
  induction g with
  |base hx=>exact⟨hu.bel _ hx,(hu.up _ hx).imp id .base,hu.real _ hx⟩
  | ini g hp hn h0 ih=>
    have hk:=iK h hp h0;obtain⟨k1,k2,_⟩:=bK hr hk;refine⟨(aZ hr k1).2 (.inr (by rw[k2];exact ih.1)), .inr (by rw[k2];exact g),?_⟩;obtain⟨j,hj,e⟩:=Kb.1 hk;obtain⟨s,e1,_,e2,_⟩:=xe hj;exact⟨s,by rw[<-e,bI];exact e1,e2⟩
  | par g hp hk ih=>
    obtain⟨k1,k2,_⟩:=bK hr hk;refine⟨(aZ hr k1).2 (.inr (by rw[k2];exact ih.1)), .inr (by rw[k2];exact g),?_⟩;obtain⟨j,hj,e⟩:=Kb.1 hk;obtain⟨s,e1,_,e2,_⟩:=xe hj;exact⟨s,by rw[<-e,bI];exact e1,e2⟩
 have hout: ∀x,aboveB c d x=false->(x∈zL O↔x∈act):=fun x hx=>by
  rw[hm];refine⟨fun hh=>hh.elim (fun a=>a.1) fun g=> ?_,fun hh=> .inl ⟨hh,hx⟩⟩;rw[(gb x g).1]at hx;cases hx
 have hin: ∀x,aboveB c d x=true->(x∈zL O↔Gr c P x):=fun x hx=>by
  rw[hm];refine⟨fun hh=>hh.elim (fun a=> ?_) id, .inr⟩;rw[hx]at a;cases a.2
 have two: ∀x,ah c x=true\/x= -1-> ∀k1 k2,Gr c P k1->Gr c P k2->aO c k1=x->aO c k2=x->k1=k2:=fun x hx k1 k2 g1 g2 e1 e2=>by
  have inP: ∀k,Gr c P k->aO c k=x->k∈P\/(k=jr c x/\(∀k∈kidZ c x,k∉P)/\ah c x=true):=fun k g e=>by
   rcases g.real h with a|⟨a1,a2,a3⟩
   ·exact .inl a
   ·rw[e]at a1 a2 a3;rcases hx with hx|hx
    ·exact .inr ⟨(a3 hx).1,(a3 hx).2,hx⟩
    ·rw[hx]at a2;have:=(aH.1 (aY (gb _ a2).1)).1;omega
  have kz: ∀k∈P,aO c k=x->k∈kidZ c x:=fun k hk e=>by
   obtain⟨s,q1,q2⟩:=hu.real k hk;rw[<-e];exact vF q1 q2 (aY (hu.bel k hk))
  rcases inP k1 g1 e1 with a|⟨a1,a2,_⟩
  ·rcases inP k2 g2 e2 with b|⟨b1,b2,_⟩
   ·exact hu.one x hx k1 a k2 b e1 e2
   ·exact absurd a (b2 k1 (kz k1 a e1))
  ·rcases inP k2 g2 e2 with b|⟨b1,b2,_⟩
   ·exact absurd b (a2 k2 (kz k2 b e2))
   ·rw[a1,b1]
 have dkid:manyI (zL O) (kidsL c d true)=1:=by
  obtain⟨k,hk,e⟩:=hu.has;obtain⟨s,q1,q2⟩:=hu.real k hk;have hkz:=vF q1 q2 (aY (hu.bel k hk));rw[e]at hkz;refine mI (bO c d true) hkz fun x hx=> ?_;obtain⟨x1,x2,_⟩:=bK hr hx;rw[hin x ((aZ hr x1).2 (.inl x2))];refine⟨fun g=>two d ?_ x k g (.base hk) x2 e,fun e=>by rw[e];exact .base hk⟩;rcases hd with e|e
  ·exact .inr e
  ·exact .inl e.2
 have hb: ∀k∈O,k<c.states.length:=fun k hk=>by
  rcases (hm k).1 (Kb.2 ⟨k,hk,rfl⟩) with a|a
  ·obtain⟨_,_,z,_⟩:=hg.of a.1;exact aV.1 z
  ·exact aV.1 (aY (gb _ a).1)
 refine⟨JZ hO (fun k hk=> ?_) ?_,hout⟩
 ·have hkO:(k:Int)∈zL O:=Kb.2 ⟨k,hk,rfl⟩
  have key: ∃s,at_ c (k:Int)=some s/\aT s=false/\(s.parent<0\/s.parent∈zL O)/\(s.kind=1->kidsL c k true≠[]->manyI (zL O) (kidsL c k true)=1)/\(s.kind=2->manyI (zL O) (kidsL c k true)=(kidsL c k true).length):=by
   rcases (hm k).1 hkO with⟨ka,kn⟩|g
   ·obtain⟨s,hs,hz,hmy,hp,f1,f2⟩:=hg.of ka;have hps:aO c (k:Int)=s.parent:=by unfold aO;rw[hs]
    rw[hps]at hp;refine⟨s,hs,hmy,?_,?_⟩
    ·rcases hp with hp|hp
     ·exact .inl hp
     ·refine .inr ((hout _ ?_).2 hp);cases hh:aboveB c d s.parent with
      |false=>rfl
      | true=>
        rw[(aZ hr hz).2 (.inr (by rw[hps];exact hh))]at kn;cases kn
    ·by_cases e:d=k
     ·rw[<-e];refine⟨fun _ _=>dkid,fun e2=> ?_⟩;have hpl:=(hd.resolve_left (by omega)).2;rw[e,bk hs,e2]at hpl;cases hpl
     ·have same:manyI (zL O) (kidsL c k true)=manyI act (kidsL c k true):=by
       unfold manyI
       congr 1
       apply MG;intro j hj;have hjz:(j:Int)∈kidZ c k:=Kb.2 ⟨j,hj,rfl⟩;obtain⟨j1,j2,_⟩:=bK hr hjz;rw[LC,K6,K6];refine hout _ ?_;cases hh:aboveB c d (j:Int) with
       |false=>rfl
       | true=>
         rcases (aZ hr j1).1 hh with q|q
         ·rw[j2]at q;exact absurd q.symm e
         ·rw[j2,kn]at q;cases q
      rw[same];exact⟨f1,f2⟩
   ·obtain⟨g1,g2,s,hs,hmy⟩:=gb k g;have hz:=aY g1;have hps:aO c (k:Int)=s.parent:=by unfold aO;rw[hs]
    have below: ∀j∈kidZ c (k:Int),(j∈zL O↔Gr c P j):=fun j hj=>by
     obtain⟨j1,j2,_⟩:=bK hr hj;exact hin j ((aZ hr j1).2 (.inr (by rw[j2];exact g1)))
    refine⟨s,hs,hmy,?_,fun e hne=> ?_,fun e=> ?_⟩
    ·rw[<-hps];rcases g2 with q|q
     ·rw[q];rcases hd with e|e
      ·exact .inl (by omega)
      ·exact .inr ((hout d (Hk hr)).2 e.1)
     ·exact .inr ((hm _).2 (.inr q))
    ·have hpl:ah c (k:Int)=true:=by rw[bk hs,e];rfl
     have hini:0<=jr c (k:Int)/\jr c (k:Int)∈kidZ c (k:Int):=by
      rcases ki h hs with⟨_,e2|e2⟩|⟨e2,_⟩|⟨e2,_⟩|⟨e2|e2,_⟩
      ·exact absurd e2 hne
      ·exact e2
      all_goals omega
     by_cases hex: ∃j∈kidZ c (k:Int),j∈P
     ·obtain⟨j,hj,hjP⟩:=hex;refine mI (bO c k true) hj fun x hx=> ?_;rw[below x hx];exact⟨fun gx=>two k (.inl hpl) x j gx (.base hjP) (bK hr hx).2.1 (bK hr hj).2.1,fun e=>by rw[e];exact .base hjP⟩
     ·have hno: ∀j∈kidZ c (k:Int),j∉P:=fun j hj hjP=>hex ⟨j,hj,hjP⟩;refine mI (bO c k true) hini.2 fun x hx=> ?_;rw[below x hx];have gi:Gr c P (jr c (k:Int)):= .ini g hpl hno hini.1;exact⟨fun gx=>two k (.inl hpl) x _ gx gi (bK hr hx).2.1 (bK hr hini.2).2.1,fun e=>by rw[e];exact gi⟩
    ·rw[j6];intro j hj;exact(below j hj).2 (.par g (by rw[bk hs,e];rfl) hj)
  obtain⟨s,hs,k1,k2,k3,k4⟩:=key;have hfit:uB c (zL O) (k:Int)=qO c (zL O) k s:=by unfold uB;rw[hs];rfl
  rw[hfit];unfold qO;rw[k1,K3,K3];refine⟨⟨rfl,?_⟩,?_⟩
  ·rw[Ll,Kh];exact k2.imp id fun q=>K6.2 q
  ·split
   ·rename_i e;simpa using k3 e.1 e.2
   ·split
    ·rename_i e;simpa using k4 e
    ·rfl
 ·rcases hd with e|e
  ·rw[e]at dkid;exact dkid
  ·rw[<-hg.top];unfold manyI
   congr 1
   apply MG;intro j hj;have hjz:(j:Int)∈kidZ c (-1):=Kb.2 ⟨j,hj,rfl⟩;obtain⟨j1,j2,_⟩:=bK hr hjz;have hd0:=(hg.of e.1);obtain⟨_,_,dz,_⟩:=hd0;rw[LC,K6,K6];refine hout _ ?_;cases hh:aboveB c d (j:Int) with
   |false=>rfl
   | true=>
     rcases (aZ hr j1).1 hh with q|q
     ·rw[j2]at q;have:=(aH.1 dz).1;omega
     ·rw[j2]at q;have:=(aH.1 (aY q)).1;omega
end
section
open Go.RowKit
abbrev memsAV (l:List MemD):AV:= .seq 2 (l.map mmAV)
theorem Gp {s:StD} :aT s=false->s.kind≠4/\s.kind≠5:=fun h=>by
 unfold aT at h;simpa using h
def xd (s:StD) (k:Int) (mem:List MemD):List Int:=match mem.find? (fun m=>m.1==k) with|some m=>m.2|none=>[s.initial]
theorem B5 {s:StD} {k:Int} {mem:List MemD} {m:MemD} (h:mem.find? (fun m=>m.1==k)=some m):xd s k mem=m.2:=by unfold xd;rw[h]
theorem B6 {s:StD} {k:Int} {mem:List MemD} (h:mem.find? (fun m=>m.1==k)=none):xd s k mem=[s.initial]:=by unfold xd;rw[h]
theorem Ey (env:Env) (c:ChD) (hc:Right c) (hs:Small c) (k:Nat) (s:StD) (hsk:c.states[k]? =some s) (mem:List MemD) (hl:mem.length<=1000000) (hm: ∀m∈mem,m.2.length<=4096):Con prog env 189 [aJ c,I k,memsAV mem] (.own 3 1 ((leadL c k mem).map intAV)):=by
 have hlen:=hc.few;have f0:=ao env c hs;have hk:=(K0.1 hsk).1;have q0:((k:Nat):Int)< (c.states.length:Int):=by omega
 have hat:at_ c (k:Int)=some s:=by rw[bI];exact hsk
 have hlead:leadL c k mem=if aT s=true then(xd s k mem) else [(k:Int)]:=by unfold leadL;rw[hat];rfl
 rw[hlead];unfold aJ at f0 |-;cases hmy:aT s with
 | false=>
   rw[K2 (by simp)];obtain⟨n4,n5⟩:=Gp hmy;have b4:(s.kind==4)=false:=by simpa using n4
   have b5:(s.kind==5)=false:=by simpa using n5
   refine qf func189 call189 ntmps189 results189 ?_;have F:=ai7 aA.eq_1 aK.eq_1 q0 hsk b4 b5 im;repeat refine tz1 f0 ?_
   exact aR
 | true=>
   rw[K5 rfl]
   have hk45:((s.kind==4)=true)\/((s.kind==4)=false/\(s.kind==5)=true):=by
    unfold aT at hmy;cases h4:(s.kind==4) with
    |true=>exact .inl rfl
    |false=>rw[h4]at hmy;exact .inr ⟨rfl,by simpa using hmy⟩
   have main: ∀b4 b5:Bool,(s.kind==4)=b4->(s.kind==5)=b5->(b4=true\/b5=true)->Con prog env 189 [.ref 9 [tabCells c] 0 0,I k,memsAV mem] (.own 3 1 ((xd s k mem).map intAV)):=fun b4 b5 h4 h5 hb=>by
    cases b4<;>cases b5<;>(try simp at hb)<;>
    ·refine qf func189 call189 ntmps189 results189 ?_;have F:=ai7 aA.eq_1 aK.eq_1 q0 hsk h4 h5 im;repeat refine tz1 f0 ?_
     have F:=aA.eq_1;refine lq mem.length (by omega) (fun j vs=>[(1,I k),(7, .loc 7 (vs 7) 0 0),(27,memsAV mem),(28,I mem.length),(29,I j)]) (fun _ _=>[(7,⟨5,[aA c],26,false⟩)]) (fun j _ _=>mem.find? (fun m=>m.1==(k:Int))=(mem.drop j).find? (fun m=>m.1==(k:Int))) rfl ?_ ?_
     ·rintro j ws esc hlt q1 q2 hf;obtain⟨x,hx⟩:=gE hlt;rw[ge hx]at hf;have f1:=dJ env (x.2.map intAV) (by rw[Ko];exact hm x (K4 hx));cases he:(x.1==(k:Int)) with
      | true=>
        rw[he]at hf;simp only[L1]at hf;rw[B5 hf];have F:=ai4 mmAV.eq_1 hx q1 he;repeat refine tz1 f1 ?_
        exact aR
      | false=>
        rw[he]at hf;simp only[Ku,Ld]at hf;have F:=ai5 mmAV.eq_1 hx q1 q2 he;repeat refine tz1 f1 ?_
        refine⟨j+1,⟨hlt,hf⟩,?_,?_,by omega⟩
        ·exact qe
        ·have F:=aA.eq_1;exact qe
     ·rintro ws esc q1 hf;rw[Ls,NZ]at hf;rw[B6 hf];have F:=ai5 aA.eq_1 aK.eq_1 q0 q1 hsk;repeat refine tz1 f0 ?_
      exact aR
   rcases hk45 with h4|⟨h4,h5⟩
   ·exact main _ _ h4 rfl (.inl rfl)
   ·exact main _ _ h4 h5 (.inr rfl)
theorem zl {c:ChD} (h:Full c) {l:List Int} (hn:l.Nodup) (hz: ∀x∈l,inZ c x=true):(growL c l).length<=32:=by
 refine Km (gf (kM c _ _ _ hn) fun x hx=> ?_) h.toRight.few;exact((eS h hn).1 hx).in h hz
def GF (c:ChD) (src tg:Int) (mem:List MemD):List Nat:=sortL c (growL c (upsL c (leadL c tg mem) (domE c src tg)))
theorem DD {c:ChD} (h:Full c) {tg:Int} (hz:inZ c tg=true) {mem:List MemD} (hm:bU c mem=true):(∀x∈leadL c tg mem,inZ c x=true)/\(leadL c tg mem).length<=1000000:=by
 obtain⟨d1,_,d3⟩:=uM h hz hz;have hu:=sr h hz hm d1 (by rcases d3 with e|e<;>omega);have h1: ∀x∈leadL c tg mem,inZ c x=true:=fun x hx=>aY (hu.bel x ((gV.2 x).2 (.inl hx)));refine⟨h1,?_⟩;unfold leadL;split
 ·rename_i s hs;split
  ·split
   ·rename_i m hf;have e2:=(oQ hm).2 m (MQ hf);unfold k8 at e2;split at e2
    ·split at e2
     ·rw[K3,Kh]at e2;omega
     ·unfold deepB at e2;simp only[K3]at e2;have hr:=e2.2.1.1.1;have hnd:m.2.Nodup:=jg hr
      have hin: ∀x∈m.2,inZ c x=true:=fun x hx=>by
       have:=K7.1 e2.2.1.1.2 x hx;unfold dq at this;rw[K3]at this;exact aY this.1
      exact Km (gf hnd hin) (by have:=h.toRight.few;omega)
    ·cases e2
   ·simp
  ·simp
 ·simp
theorem A4 (env:Env) (c:ChD) (h:Full c) (hs:Small c) (t:TrD) (hsrc:inZ c t.src=true) (htg:inZ c t.target=true) (mem:List MemD) (hl:mem.length<=1000000) (hm: ∀m∈mem,m.2.length<=4096) (hmem:bU c mem=true):
 Con prog env 139 [aJ c, .agg (az t),memsAV mem] (.own 3 1 ((GF c t.src t.target mem).map aB)):=by
 have hc:=h.toRight;obtain⟨k,s,e,hsk,_⟩:=cF htg;obtain⟨l1,l2⟩:=DD h htg hmem;obtain⟨u1,u2⟩:=gV (c:=c) (d:=domE c t.src t.target) (l:=leadL c t.target mem)
 have u3: ∀x∈upsL c (leadL c t.target mem) (domE c t.src t.target),inZ c x=true:=fun x hx=>by
  rcases (u2 x).1 hx with h|⟨i,_,q1,q2,_⟩
  ·exact l1 x h
  ·exact(gG hc q1 q2).1
 have f0:=bL env c;have f1:=Ey env c hc hs k s hsk mem hl hm;rw[<-e]at f1;have f2:=mR env c hc hs t hsrc;have f3:=Hl env c hc (leadL c t.target mem) l2 l1 (domE c t.src t.target);have f4:=zm env c h hs _ u1 u3;have f5:=fP env c hc (growL c (upsL c (leadL c t.target mem) (domE c t.src t.target))) (by have:=zl h u1 u3;omega);unfold GF;generalize growL c (upsL c (leadL c t.target mem) (domE c t.src t.target))=G at*;generalize upsL c (leadL c t.target mem) (domE c t.src t.target)=U at*;generalize leadL c t.target mem=A at*;unfold az at f2;unfold aP at f0 f5;unfold aJ at f0 f1 f2 f3 f4 |-;refine qf func139 call139 ntmps139 results139 ?_;have F:=az.eq_1;repeat refine tz6 f0 f1 f2 f3 f4 f5 ?_
 exact aR
end
section
open Go.RowKit
theorem bQ {α:Type} {l:List α} {n:Nat} {x:α} (h:l[n]? =some x):l.take (n+1)=l.take n++[x]:=by rw[Ky,h];rfl
theorem bB {α:Type} {l:List α} {n:Nat} {x:α} (h:l[n]? =some x):l.drop n=x::l.drop (n+1):=by
 obtain⟨hn,he⟩:=K0.1 h;rw[MP hn,he]
def l6 (p:Int->Bool):List Int->Option Nat
 |[]=>none
 |d::l=>if p d=true then some 0 else(l6 p l).map (· +1)
def l7:Option Nat->Int
 |some i=>i
 |none=> -1
theorem ov {p:Int->Bool} : ∀ {l:List Int} {i:Nat},l6 p l=some i->i<l.length/\l.take i=(l.take i).filter (fun d=> !p d)/\ ∃d,l[i]? =some d/\p d=true
 |[],i,h=>by simp[l6]at h
 | d::l,i,h=>by
   unfold l6 at h;split at h
   ·rename_i hp;cases h;exact⟨by simp,by simp,d,rfl,hp⟩
   ·rename_i hp;cases hi:l6 p l with
    |none=>rw[hi]at h;cases h
    | some j=>
      rw[hi]at h;cases h;obtain⟨h1,h2,x,h3,h4⟩:=ov hi;refine⟨by simp;omega,?_,x,by simpa using h3,h4⟩;have hp:p d=false:=by simpa using hp
      simp only[List.take_succ_cons,MZ,hp,Lx,L1];rw[<-h2]
theorem ow {p:Int->Bool} : ∀ {l:List Int},l6 p l=none->l.filter (fun d=> !p d)=l/\ ∀d∈l,p d=false
 |[],h=>by simp
 | d::l,h=>by
   unfold l6 at h;split at h
   ·cases h
   ·rename_i hp;have hp:p d=false:=by simpa using hp
    cases hi:l6 p l with
    |some j=>rw[hi]at h;cases h
    | none=>
      obtain⟨h1,h2⟩:=ow hi;refine⟨by simp only[MZ,hp,Lx,L1,h1],fun x hx=> ?_⟩;rcases Kr.1 hx with rfl|hx
      ·exact hp
      ·exact h2 x hx
theorem FQ {p:Int->Bool} {l:List Int} {n:Nat} {d:Int} (hd:l[n]? =some d):l6 p (l.drop n)=if p d=true then some 0 else(l6 p (l.drop (n+1))).map (· +1):=by
 rw[bB hd];rfl
theorem pV (env:Env) (l:List Int) (p:Int->Bool) (g:FuncId) (caps:List (List AV)) (hp: ∀d,Con prog env g [I d, .ref 1 caps 0 0] (B (p d))) (hl:l.length<=4096):Con prog env 181 [.seq 1 (l.map intAV), .clo g [.ref 1 caps 0 0]] (I (l7 (l6 p l))):=by
 refine qf func181 call181 ntmps181 results181 ?_;repeat refine st0 ?_
 refine lq0 l.length (by omega) (fun n vs=>[(0, .seq 1 (l.map intAV)),(1, .clo g [.ref 1 caps 0 0]),(7,I l.length),(8,I n)]) (fun n vs=>[]) (fun n _ esc=>l6 p l=(l6 p (l.drop n)).map (· +n)) (by simp) ?_ ?_
 ·rintro n vs esc hlt g1 g2 hi;obtain⟨d,hd⟩:=gE hlt;have f1:=hp d;rw[FQ hd]at hi;cases h1:p d
  ·rw[h1]at hi f1;simp only[Ku,Ld]at hi;have F:=ai3 hd g1 g2;repeat refine st ?_
   refine oC (bw rfl (by simp only[go_sem,F];exact iR)) (f1) (by simp only[go_sem,F];exact iR) (by simp only[go_sem,F];exact⟨rfl,rfl⟩) ?_;repeat refine st ?_
   refine⟨n+1,⟨hlt,?_⟩,?_,?_,?_⟩
   ·rw[hi];cases l6 p (l.drop (n+1))
    ·rfl
    ·simp;omega
   ·exact qe
   ·exact qe
   ·omega
  ·rw[h1]at hi f1;simp only[L1,Kp,Li]at hi;rw[hi];have F:=ai5 hd g1 g2 l7.eq_1 l7.eq_2;repeat refine st ?_
   refine oC (bw rfl (by simp only[go_sem,F];exact iR)) (f1) (by simp only[go_sem,F];exact iR) (by simp only[go_sem,F];exact⟨rfl,rfl⟩) ?_;repeat refine st ?_
   exact aR
 ·rintro vs esc g1 hi;rw[La (by omega)]at hi;rw[hi];have F:=ai3 g1 l7.eq_1 l7.eq_2;repeat (first|refine oO rfl (by simp only[go_sem,l6,F];exact⟨rfl,rfl⟩) ?_|refine gR ?_|refine gO ?_|refine oZ (sC ?_)|refine oZ ?_|refine oS ?_|refine gT ?_|refine gD mixed ?_|refine oB ?_|refine oK ?_|(refine oX ?_;simp only[bT,eQ, ↓reduceIte,Nat.reduceEqDiff,reduceCtorEq])|refine oY (by simp only[go_sem,l6,F];exact iR) ?_|refine oN (by simp only[go_sem,l6,F];exact iR) ?_)
  (refine aM ?_;show (ae _ _ _).run _=some _;simp only[go_sem,l6,F])
end
section
open Go.RowKit
end
section
open Go.RowKit
def KF (G act:List Int):List Int:=act.filter fun i=> !G.contains i
def moved (G act:List Int) (T:List Nat):List Int:=Lib.compact (bN (KF G act++zL T))
theorem ko (l:List Int):(bN l).length=l.length:=by unfold bN;rw[List.length_mergeSort]
end
section
open Go.RowKit Go.ChangeShapes
theorem Tryz.tabArr:prog.underlying 247=some (.array 32 5):=by kernel_rfl
theorem JI:prog.cellsOf 5=1:=by kernel_rfl
theorem J9 {W:World} {g t:Nat} {cs:Array Value} {fuel:Nat} {p:List MemPlace} (hg:prog.globalNamed "math/bits.deBruijn32tab" =some g) (ht:(prog.globals[g]?).map (·.type)=some t) (hv:W.var? prog "math/bits.deBruijn32tab" =some cs)
 (hd:DataW.trod (fun _=>()) prog W 0 (fun _=>true) false fuel t cs.toList=some (Rows.laid_math_bits_deBruijn32tab,p)):TabAt W:=by
 obtain rfl:9=g:=MF ((show prog.globalNamed "math/bits.deBruijn32tab" =some 9 by kernel_rfl).symm.trans hg);obtain rfl:247=t:=MF ((show (prog.globals[9]?).map (·.type)=some 247 by kernel_rfl).symm.trans ht);obtain⟨xs,m,_,hx,_,hxl,hgx⟩:=DataW.trod_array Tryz.tabArr hd;simp only[NW]at hx;intro j hj;have h1:=hgx j hj;rw[JI,Nn]at h1;have hjx:xs[j]? =some (xs[j]'(by omega)):=KZ _;rw[hjx]at h1;obtain⟨nn,e1,e2,_⟩:=MC Tryz.underlying5 h1
 have hcell:cs[j]? =some (.int .u8 nn):=by
  have:((cs.toList.drop j).take 1)[0]? =some (.int .u8 nn):=by rw[e1];rfl
  rw[LG,K5 (by omega),Lh,Mk]at this;simpa using this
 have hval:(Rows.laid_math_bits_deBruijn32tab:DataW Unit)= .agg (xs.map (·.1)):=hx.1
 have hlist:(xs.map (·.1))[j]? =(Lib.deBruijn32tab.map fun(k:Nat)=>DataW.lit (H:=Unit) (.int .u8 (k:Int)))[j]? :=by
  have e:(Lib.deBruijn32tab.map fun(k:Nat)=>DataW.lit (H:=Unit) (.int .u8 (k:Int)))=xs.map (·.1):=by
   have:DataW.agg (Lib.deBruijn32tab.map fun(k:Nat)=>DataW.lit (H:=Unit) (.int .u8 (k:Int)))=DataW.agg (xs.map (·.1)):=by
    rw[<-hval];rfl
   injection this
  rw[e]
 rw[K9,hjx,K9]at hlist
 have hdb:Lib.deBruijn32tab[j]? =some (Lib.deBruijn32tab.getD j 0):=by
  have:j<Lib.deBruijn32tab.length:=by simpa[Lib.deBruijn32tab]using hj
  simp[List.getD,KZ this]
 rw[hdb]at hlist;simp only[Kp,K1,e2]at hlist
 have hn:nn=((Lib.deBruijn32tab.getD j 0:Nat):Int):=by
  have:=hlist;injection this with this
  injection this
 rw[PH hg hv j,hcell,hn]
theorem H2 {P:Program} {env:Env} {f:FuncId} {cs:List AV} {u:Value} {w:World} {vs:List Value} (h:Con P env f cs (.lit u)) (hE:EnvOk env (fun b _=>b<w.heap.size) w) (hv:RAs (fun b _=>b<w.heap.size) w vs cs):
 Calls P f vs.toArray w fun e w'=>e= .returned u/\Below w.heap.size w w':=(H3 h hE (fun _ _ _=>by simp) hv).mono (by
 rintro e w' ⟨v,rfl,hb,_,hv⟩
 exact⟨by rw[hv.lit_inv],hb⟩)
end
section
open Go.RowKit Go.ChangeShapes
theorem FB {W:World} (h:laidMetH prog [("math/bits.deBruijn32tab",Rows.laid_math_bits_deBruijn32tab),("scrinium/api.ErrForm",Rows.laid_scrinium_api_ErrForm),("scrinium/api.ErrRange",Rows.laid_scrinium_api_ErrRange),("scrinium/api.ErrFull",Rows.laid_scrinium_api_ErrFull),("scrinium/api.ErrNone",Rows.laid_scrinium_api_ErrNone),("scrinium/api.ErrCorrupt",Rows.laid_scrinium_api_ErrCorrupt),("scrinium/api.ErrFuel",Rows.laid_scrinium_api_ErrFuel),("scrinium/api.ErrState",Rows.laid_scrinium_api_ErrState),("scrinium/api.ErrLong",Rows.laid_scrinium_api_ErrLong),("scrinium/api.ErrTwice",Rows.laid_scrinium_api_ErrTwice)] W):(∃ad,Sents W ad)/\TabAt W:=by
 rw[Nu _ _ _ (by kernel_rfl)]at h;obtain⟨ps,hv,hnd,hrows⟩:=h;obtain⟨g0,t0,cs0,f0,p0,q0,hg0,ht0,hv0,hd0,hrest,rfl⟩:=hv;refine⟨tc ?_,J9 hg0 ht0 hv0 hd0⟩;rw[Nu _ _ _ (by kernel_rfl)];exact⟨q0,hrest,(MW.1 hnd).2.1,fun b off hh=>hrows b off (M6 _ hh)⟩
def cz:More:=⟨fun w=>TabAt w,fun _ _ h hb=>TabAt.below h hb⟩
theorem Gj (ad:Nat->Addr):ChEnv (cE ad cz) (ad 1) (ad 8):=⟨rfl,rfl⟩
theorem Eu (ad:Nat->Addr): ∀W,(cE ad cz).inv W->TabAt W:=fun _ h=>h.2
end
section
open Go.RowKit
theorem DV {c:ChD} (h:mP c=true):(chk c).1=0:=by
 unfold mP at h;rw[K3,L5]at h;exact h.2
end

end Go.Proofs.YtdpjgflalmnkdaaGreatDoor