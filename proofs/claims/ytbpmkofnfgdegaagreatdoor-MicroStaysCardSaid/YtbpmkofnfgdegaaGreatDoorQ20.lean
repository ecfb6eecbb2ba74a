/- The law of entering: its small functions; awake; what a nil table tells. -/
import Derived.Test.YtbpmkofnfgdegaaGreatDoorQ19
import Derived.Test.YtbpmkofnfgdegaaGreatDoorQ8
import Derived.Test.YtbpmkofnfgdegaaGreatDoorQ6
import Derived.Test.YtbpmkofnfgdegaaGreatDoorQ14
import Derived.Test.YtbpmkofnfgdegaaGreatDoorQ11
import Derived.Test.YtbpmkofnfgdegaaGreatDoorQ18
import Derived.Test.YtbpmkofnfgdegaaGreatDoorQ12
import Derived.Test.YtbpmkofnfgdegaaGreatDoorQ9
import Derived.Test.YtbpmkofnfgdegaaGreatDoorQ5
import Derived.Test.YtbpmkofnfgdegaaGreatDoorQ10
import Derived.Test.YtbpmkofnfgdegaaGreatDoorQ16
set_option maxRecDepth 100000
set_option maxHeartbeats 16000000
set_option linter.unusedSimpArgs false
namespace Go.Proofs.YtbpmkofnfgdegaaGreatDoor
open Go.Proofs.Tryz
section
open Go.RowKit
theorem zlj (l:List Int) (x:Int):zdH (l++[x])=zdH l++[[I x,I 1]]:=by unfold zdH;rw[List.map_append];rfl
def zbY (L K:List Int) (j:Nat):List Int:=(K.take j).filter fun k=> !L.contains k
theorem zqi {L K:List Int} {j:Nat} {x:Int} (h:K[j]? =some x):zbY L K (j+1)=if L.contains x=true then zbY L K j else zbY L K j++[x]:=by
 unfold zbY;rw[List.take_add_one,h,List.filter_append];cases hb:L.contains x<;>simp only[List.filter_cons,hb,Bool.not_true,Bool.not_false,Bool.false_eq_true,if_true,if_false,List.filter_nil,List.append_nil,Option.toList_some]
theorem zts {L K:List Int} {j:Nat} {x:Int} :x∈zbY L K j↔x∈K.take j/\x∉L:=by
 unfold zbY;rw[List.mem_filter];simp
theorem ziD {K:List Int} (hn:K.Nodup) {j:Nat} {x:Int} (h:K[j]? =some x):x∉K.take j:=fun hh=>by
 obtain⟨k,hk,e⟩:=List.mem_take_iff_getElem.1 hh;obtain⟨hj,e2⟩:=List.getElem?_eq_some_iff.1 h;have:=(List.getElem_inj hn (h₀:=by omega) (h₁:=hj)).1 (e.trans e2.symm);omega
theorem ztj {l:List Int} {k:Int} {i:Nat} (h:l[i]? =some k):(zdH l)[i]? =some [I k,I 1]:=by unfold zdH;rw[List.getElem?_map,h];rfl
theorem zon (env:Env) (c:ChD) (h:Full c) (hs:Small c) (l:List Int) (hn:l.Nodup) (hz: ∀x∈l,inZ c x=true):Con prog env 191 [zah c, .seq 1 (l.map intAV)] (.seq 1 ((growL c l).map intAV)):=by
 have hc:=h.toRight;have hlen:=hc.few;have hl32:l.length<=32:=Nat.le_trans (zdS hn hz) hlen;have f0:=zas env c hs;have w1:IntKind.i64.wrap (0+1)=1:=rfl;have w2: ¬(0:Int)<0:=by omega
 have w3:(0:Int)<1:=by omega
 unfold zah at f0 |-;refine qf func191 call191 ntmps191 results191 ?_;repeat refine st0 ?_
 refine ztg ?_;have F:=chAV.eq_1;repeat refine tz1 f0 ?_
 refine zab (D:=Nat) (fun j vs=>[(0, .ref 9 [tabCells c] 0 0),(1, .seq 1 (l.map intAV)),(5, .loc 5 (vs 5) 0 0),(6, .mp 18 (vs 18)),(19, .seq 1 (l.map intAV)),(20,I l.length),(21,I j)]) (fun j _=>[(5,⟨5,[chAV c],26,false⟩),(18,⟨0,zdH (l.take j),264,true⟩)]) (fun j _ _=>j<=l.length) (fun j=>l.length-j) 0 ?_ ?_ ?_ ?_
 ·exact Nat.zero_le _
 ·(simp only[go_sem,F])
  try rfl
 ·have F:=chAV.eq_1
  (simp only[go_sem,F])
  try rfl
 ·rintro j ws esc hj;by_cases hlt:j<l.length
  ·obtain⟨x,hx⟩:=gE hlt;have q1:=nlt hlt;have q2:=zaa hlt (by omega);have hm:=zfO x (l.take j) 0;rw[zft (ziD hn hx)]at hm;have ht:zdH (l.take (j+1))=zdH (l.take j)++[[I x,I 1]]:=by rw[List.take_add_one,hx];exact zlj _ _
   have F:=ai5 hx q1 q2 hm w1;repeat refine st ?_
   refine⟨j+1,hlt,?_,?_,by omega⟩
   ·exact qe
   ·have F:=ht;exact qe
  obtain rfl:j=l.length:=by omega
  have q1:=nl l.length;rw[List.take_length];have F:=q1;repeat refine st ?_
  refine zth ?_;show awp _ _ _ _ _ _;repeat refine st ?_
  refine zab (D:=List Int×List Int) (fun d vs=>[(0, .ref 9 [tabCells c] 0 0),(1, .seq 1 (d.1.map intAV)),(5, .loc 5 (vs 5) 0 0),(6, .mp 18 (vs 18)),(9, .seq 1 (d.2.map intAV))]) (fun d _=>[(5,⟨5,[chAV c],26,false⟩),(18,⟨0,zdH d.1,264,true⟩)])
   (fun d _ _=>Grown c l d.1 d.2/\d.1.Nodup/\zeK c (missL c d.1+d.2.length) d.1 d.2=growL c l) (fun d=>missL c d.1+d.2.length) (l,l) ?_ ?_ ?_ ?_
  ·exact⟨zhJ hn,hn,rfl⟩
  ·(simp only[go_sem,F])
   try rfl
  ·(simp only[go_sem,F])
   try rfl
  try clear hj hlt q1
  rintro⟨L,T⟩ ws esc ⟨hg,hLn,hgr⟩;simp only at hg hLn hgr;have hLz: ∀x∈L,inZ c x=true:=fun x hx=>(hg.gr x hx).in h hz;have hL32:L.length<=32:=Nat.le_trans (zdS hLn hLz) hlen;have hT32:T.length<=32:=Nat.le_trans (zdS hg.nd fun x hx=>hLz x (hg.todo x hx)) hlen;cases T with
  | nil=>
    have hL:growL c l=L:=by
     rw[<-hgr];cases missL c L+([]:List Int).length<;>rfl
    rw[hL];have q1: ¬(0:Int)<0:=by omega
    have F:=q1;repeat refine st ?_
    exact aR
  |cons i r=>
  have hi:=hg.todo i (by simp);obtain⟨k,s,rfl,hsk,hat⟩:=zb9 (hLz i hi);have hk:=(List.getElem?_eq_some_iff.1 hsk).1;have q1:(0:Int)< (((k:Int)::r).length:Int):=by simp only[List.length_cons];omega
  have q2:((k:Nat):Int)< (c.states.length:Int):=by omega
  have q3:(((k:Int)::r).drop 1).take (((k:Int)::r).length-1)=r:=by simp
  have q4:(1:Int)<=(((k:Int)::r).length:Int):=by simp only[List.length_cons];omega
  have q5:((k:Int)::r)[0]? =some (k:Int):=rfl;have f1:=zaN env c h k;rw[if_pos (.inr (hLz _ hi)), <-zcF]at f1;unfold zah at f1;have hKd:zL (kidsL c (k:Int) true)=kidZ c (k:Int):=rfl;rw[hKd]at f1;have hpl:=zjz hsk;have hini:iniZ c (k:Int)=s.initial:=by unfold iniZ;rw[hat]
  have hstep:=hg.step h;have hmiss:=zgJ (c:=c) (l:=L) (zcE c L k) fun x hx=>⟨(zcT h hx).1,(zcT h hx).2.1⟩
  have hgr':zeK c (missL c L+r.length) (L++addK c L k) (r++addK c L k)=growL c l:=by
   rw[<-hgr,List.length_cons,show missL c L+(r.length+1)=(missL c L+r.length)+1 by omega];rfl
  have hmore:zeK c (missL c (L++addK c L k)+(r++addK c L k).length) (L++addK c L k) (r++addK c L k)=growL c l:=by
   rw[<-hgr'];refine zlk h hstep ?_ ?_
   ·exact Nat.le_refl _
   ·rw[List.length_append];omega
  have hnext:(L++addK c L k).Nodup:=by
   rw[List.nodup_append];exact⟨hLn,zcE c L k,fun x hx y hy e=>(zcT h hy).1 (by rw[<-e];exact hx)⟩
  have hmu:missL c (L++addK c L k)+(r++addK c L k).length<missL c L+((k:Int)::r).length:=by
   rw[List.length_append,List.length_cons];omega
  generalize hKK:kidZ c (k:Int)=KK at*;have hKn:KK.Nodup:=by rw[<-hKK];exact ziK c k
  have hK32:KK.length<=32:=by
   rw[<-hKK,kidZ,za9];exact zaS hc k true
  have fin: ∀x:Int,x∉L->mfind prog 3 (I x) (zdH L) 0=some none:=fun x hx=>by rw[zfO,zft hx]
  have fyes: ∀x:Int,x∈L-> ∃p,mfind prog 3 (I x) (zdH L) 0=some (some p)/\(zdH L)[p]? =some [I x,I 1]:=fun x hx=>by
   obtain⟨p,h1,h2⟩:=zhD (n:=0) hx;exact⟨p,by rw[zfO,h1,Nat.zero_add],ztj h2⟩
  generalize hT:(k:Int)::r=T at*;have F:=ai8 q1 q2 q3 q4 q5 hsk chAV.eq_1 stAV.eq_1;repeat refine tz1 f1 ?_
  refine zwk (D:=List Int) (fun K vs=>[(0, .ref 9 [tabCells c] 0 0),(1, .seq 1 (L.map intAV)),(5, .loc 5 (vs 5) 0 0),(6, .mp 18 (vs 18)),(9, .seq 1 (r.map intAV)),(11, .seq 1 (K.map intAV))]) (fun _ _=>[(5,⟨5,[chAV c],26,false⟩),(18,⟨0,zdH L,264,true⟩)]) (fun K _ _=>K=newK c L k) ?_ ?_
  ·refine zcA ?_;by_cases hk1:s.kind=1
   ·have b1:(s.kind==1)=true:=by simp[hk1]
    rw[b1]at hpl;have F:=b1;repeat refine st ?_
    refine zab (D:=Nat) (fun j vs=>[(0, .ref 9 [tabCells c] 0 0),(1, .seq 1 (L.map intAV)),(5, .loc 5 (vs 5) 0 0),(6, .mp 18 (vs 18)),(9, .seq 1 (r.map intAV)),(10,I k),(49, .row 41 (vs 41)),(50,I KK.length),(51,I j)]) (fun _ _=>[(5,⟨5,[chAV c],26,false⟩),(18,⟨0,zdH L,264,true⟩),(41,⟨1,KK.map intAV,3,true⟩)]) (fun j _ _=>j<=KK.length/\ ∀m (y:Int),m<j->KK[m]? =some y->y∉L) (fun j=>KK.length-j) 0 ?_ ?_ ?_ ?_
    ·exact⟨Nat.zero_le _,fun m y hm=>absurd hm (by omega)⟩
    ·(simp only[go_sem,F])
     try rfl
    ·have F:=chAV.eq_1
     (simp only[go_sem,F])
     try rfl
    rintro j us es ⟨hj,hno⟩;by_cases hlt:j<KK.length
    ·obtain⟨x,hx⟩:=gE hlt;have p1:=nlt hlt;have p2:=zaa hlt (by omega);by_cases hxL:x∈L
     ·obtain⟨p,m1,m2⟩:=fyes x hxL
      have hnk:addK c L k=[]:=by
       unfold addK newK;rw[if_pos hpl,hKK,if_pos (List.any_eq_true.2 ⟨x,List.mem_of_getElem? hx,List.contains_iff_mem.2 hxL⟩)];rfl
      rw[hnk,List.append_nil,List.append_nil]at hmore hmu hstep;have F:=ai6 hx p1 p2 m1 m2 w3;repeat refine st ?_
      refine⟨_,Turned.refl _,(L,r),⟨hstep,hLn,hmore⟩,?_,?_,hmu⟩
      ·exact qe
      ·have F:=chAV.eq_1;exact qe
     ·have m1:=fin x hxL;have F:=ai5 hx p1 p2 m1 w2;repeat refine st ?_
      refine⟨j+1,⟨hlt,fun m y hm hy=> ?_⟩,?_,?_,by omega⟩
      ·rcases Nat.lt_succ_iff_lt_or_eq.1 hm with e|e
       ·exact hno m y e hy
       ·rw[e,hx]at hy;cases hy;exact hxL
      ·exact qe
      ·have F:=chAV.eq_1;exact qe
    ·obtain rfl:j=KK.length:=by omega
     have p1:=nl KK.length
     have hany:(kidZ c (k:Int)).any (fun k=>L.contains k)=false:=by
      rw[List.any_eq_false];intro y hy;rw[hKK]at hy;obtain⟨m,hm⟩:=List.mem_iff_getElem?.1 hy;have:=hno m y (List.getElem?_eq_some_iff.1 hm).1 hm;simpa using this
     by_cases h0:0<=s.initial
     ·have hnew:newK c L k=[s.initial]:=by
       unfold newK;rw[if_pos hpl,if_neg (by rw[hany];simp),hini,if_pos h0]
      have F:=ai6 p1 h0 q2 hsk chAV.eq_1 stAV.eq_1;repeat refine st ?_
      refine⟨_,Turned.frozen 73 11 ⟨1,[[I s.initial]],3,true⟩ rfl (Nat.succ_ne_zero 0) (by simp only[go_sem]) (by simp only[go_sem]),[s.initial],hnew.symm,?_,?_⟩
      ·exact qe
      ·have F:=chAV.eq_1;exact qe
     ·have hnew:newK c L k=[]:=by
       unfold newK;rw[if_pos hpl,if_neg (by rw[hany];simp),hini,if_neg h0]
      have F:=ai6 p1 h0 q2 hsk chAV.eq_1 stAV.eq_1;repeat refine st ?_
      refine⟨_,Turned.nil 11 1 (by simp only[go_sem]),[],hnew.symm,?_,?_⟩
      ·exact qe
      ·have F:=chAV.eq_1;exact qe
   ·have b1:(s.kind==1)=false:=by simpa using hk1
    rw[b1]at hpl
    have hnew:newK c L k=KK:=by
     unfold newK;rw[if_neg (by rw[hpl];simp),hKK]
    have F:=b1;repeat refine st ?_
    refine⟨_,Turned.frozen 41 11 ⟨1,KK.map intAV,3,true⟩ rfl (Nat.succ_ne_zero 0) (by simp only[go_sem]) (by simp only[go_sem]),KK,hnew.symm,?_,?_⟩
    ·exact qe
    ·have F:=chAV.eq_1;exact qe
  ·intro K us es hK;have hKn2:K.Nodup:=by rw[hK];exact ziE c L k
   have hKz: ∀x∈K,inZ c x=true:=fun x hx=>by
    rw[hK]at hx;exact(zaO hc (zn3 h hx)).1
   have hK32b:K.length<=32:=Nat.le_trans (zdS hKn2 hKz) hlen;have hadd:zbY L K K.length=addK c L k:=by unfold zbY addK;rw[List.take_length,hK]
   have hr32:r.length<=32:=by rw[<-hT,List.length_cons]at hT32;omega
   repeat (first|refine oO rfl (by simp only[go_sem,chAV];exact⟨rfl,rfl⟩) ?_|refine gR ?_|refine gO ?_|refine oZ (zlS ?_)|refine oZ ?_|refine oS ?_|refine gT ?_|refine gD mixed ?_|refine oB ?_|refine oK ?_|(refine oX ?_;simp only[zcV,zdr, ↓reduceIte,Nat.reduceEqDiff,reduceCtorEq])|refine oY (by simp only[go_sem,chAV];exact iR) ?_|refine oN (by simp only[go_sem,chAV];exact iR) ?_)
   refine zab (D:=Nat) (fun j vs=>[(0, .ref 9 [tabCells c] 0 0),(1, .seq 1 ((L++zbY L K j).map intAV)),(5, .loc 5 (vs 5) 0 0),(6, .mp 18 (vs 18)),(9, .seq 1 ((r++zbY L K j).map intAV)),(74, .seq 1 (K.map intAV)),(75,I K.length),(76,I j)]) (fun j _=>[(5,⟨5,[chAV c],26,false⟩),(18,⟨0,zdH (L++zbY L K j),264,true⟩)]) (fun j _ _=>j<=K.length) (fun j=>K.length-j) 0 ?_ ?_ ?_ ?_
   ·exact Nat.zero_le _
   ·have:zbY L K 0=[]:=rfl;rw[this,List.append_nil,List.append_nil]
    (simp only[go_sem,chAV])
    try rfl
   ·have:zbY L K 0=[]:=rfl;rw[this,List.append_nil]
    (simp only[go_sem,chAV])
    try rfl
   rintro j us es hj;by_cases hlt:j<K.length
   ·obtain⟨x,hx⟩:=gE hlt;have p1:=nlt hlt;have p2:=zaa hlt (by omega);have hnx:=zqi (L:=L) hx;have hal:(zbY L K j).length<=32:=Nat.le_trans (List.length_filter_le ..) (by rw[List.length_take];omega);refine zcA ?_;by_cases hxL:x∈L
    ·rw[if_pos (List.contains_iff_mem.2 hxL)]at hnx;obtain⟨p,m1,m2⟩:=zhD (n:=0) (show x∈L++zbY L K j from List.mem_append_left _ hxL);have m3:=zfO x (L++zbY L K j) 0;rw[m1,Nat.zero_add]at m3;have m4:=ztj m2;have F:=ai5 hx p1 p2 m3 m4;repeat refine st ?_
     refine⟨_,Turned.refl _,j+1,hlt,?_,?_,by omega⟩
     ·have F:=hnx;exact qe
     ·have F:=ai hnx chAV.eq_1;exact qe
    ·have hxn:x∉L++zbY L K j:=fun hh=>by
      rcases List.mem_append.1 hh with hh|hh
      ·exact hxL hh
      ·exact ziD hKn2 hx (zts.1 hh).1
     rw[if_neg (by simpa using hxL)]at hnx;have m3:=zfO x (L++zbY L K j) 0;rw[zft hxn]at m3;have e1:zdH (L++zbY L K (j+1))=zdH (L++zbY L K j)++[[I x,I 1]]:=by rw[hnx, <-List.append_assoc];exact zlj _ _
     have e2:L++zbY L K (j+1)=(L++zbY L K j)++[x]:=by rw[hnx,List.append_assoc]
     have e3:r++zbY L K (j+1)=(r++zbY L K j)++[x]:=by rw[hnx,List.append_assoc]
     have hf1:Fits ((L++zbY L K j).length+1) 8:=zae (by rw[List.length_append];omega) (by omega);have hf2:Fits ((r++zbY L K j).length+1) 8:=zae (by rw[List.length_append];omega) (by omega);generalize hA:L++zbY L K j=A at*;generalize hB:r++zbY L K j=B at*;have F:=ai7 hx p1 p2 m3 w1 hf1 hf2;repeat refine st ?_
     refine⟨_,(Turned.frozen 96 1 ⟨1,(A++[x]).map intAV,3,true⟩ rfl (Nat.succ_ne_zero 0) (by simp only[go_sem,List.map_append]) (by simp only[go_sem])).trans (Turned.frozen 105 9 ⟨1,(B++[x]).map intAV,3,true⟩ rfl (Nat.succ_ne_zero 0) (by simp only[go_sem,List.map_append]) (by simp only[go_sem])),j+1,hlt,?_,?_,by omega⟩
     ·have F:=ai e2 e3;exact qe
     ·have F:=ai e1 chAV.eq_1;exact qe
   ·obtain rfl:j=K.length:=by omega
    have p1:=nl K.length;rw[hadd];have F:=p1;repeat refine st ?_
    refine⟨(L++addK c L k,r++addK c L k),⟨hstep,hnext,hmore⟩,?_,?_,hmu⟩
    ·exact qe
    ·have F:=chAV.eq_1;exact qe
end
section
open Go.RowKit
def leadL (c:ChD) (tg:Int) (mem:List MemD):List Int:=match at_ c tg with
 | some s=>if zaq s=true then(match mem.find? (fun m=>m.1==tg) with
   |some m=>m.2
   |none=>[s.initial]) else [tg]
 |none=>[]
theorem zlX {c:ChD} (h:Right c) {i k1 k2 m:Int} (z1:inZ c k1=true) (z2:inZ c k2=true) (p1:parZ c k1=i) (p2:parZ c k2=i) (hm:inZ c m=true) (c1:m=k1\/k1∈upL c m) (c2:m=k2\/k2∈upL c m):k1=k2:=by
 obtain⟨a,_,rfl,_⟩:=zb9 z1;obtain⟨b,_,rfl,_⟩:=zb9 z2;obtain⟨m,_,rfl,_⟩:=zb9 hm;have:=zmU h (zcm.2 ⟨zar.1 z1,p1⟩) (zcm.2 ⟨zar.1 z2,p2⟩) (m+1) m (by omega) (zar.1 hm) (c1.imp (by omega) id) (c2.imp (by omega) id);omega
theorem zoM {c:ChD} (h:Right c) {d:Int} : ∀(n:Nat) (t:Int),t<n->aboveB c d t=true-> ∃k,(k=t\/(k∈upL c t/\aboveB c d k=true))/\inZ c k=true/\parZ c k=d
 | 0,t,hn,ha=>by
   cases hh:inZ c t with
   |true=>have:=zag.1 hh;omega
   |false=>unfold aboveB at ha;rw[zbr hh]at ha;simp at ha
 | n+1,t,hn,ha=>by
   have hz:inZ c t=true:=by
    cases hh:inZ c t with
    |true=>rfl
    |false=>unfold aboveB at ha;rw[zbr hh]at ha;simp at ha
   rcases (zam h hz).1 ha with e|e
   ·exact⟨t, .inl rfl,hz,e⟩
   ·have hp:=zb0 h hz;obtain⟨k,hk,k1,k2⟩:=zoM h n (parZ c t) (by omega) e;refine⟨k, .inr ?_,k1,k2⟩;rcases hk with rfl|⟨hk,hd⟩
    ·exact⟨(zbF h hz).2 (.inl rfl),e⟩
    ·exact⟨(zbF h hz).2 (.inr hk),hd⟩
theorem zao {c:ChD} {d x:Int} (h:aboveB c d x=true):inZ c x=true:=by
 cases hh:inZ c x with
 |true=>rfl
 |false=>unfold aboveB at h;rw[zbr hh]at h;simp at h
theorem zdO {c:ChD} (h:Right c) {a b d:Int} (h1:aboveB c a b=true) (h2:aboveB c b d=true):aboveB c a d=true:=by
 have hz:=zag.1 (zao h2);unfold aboveB at*;rw[List.contains_iff_mem]at*;exact zdt h (c.states.length) d b a hz.2 h2 h1
theorem zu6 {c:ChD} (h:Right c) {d:Int} :aboveB c d d=false:=by
 cases hh:aboveB c d d with
 |false=>rfl
 | true=>
   unfold aboveB at hh;have:=(ze8 h 40 d d (List.contains_iff_mem.1 hh)).2;omega
theorem zh7 {c:ChD} (h:Right c) {a b:Int} : ∀(n:Nat) (t:Int),t<n->a∈upL c t->b∈upL c t->a=b\/a∈upL c b\/b∈upL c a
 | 0,t,hn,ha,_=>by
   cases hh:inZ c t with
   |true=>have:=zag.1 hh;omega
   |false=>rw[zbr hh]at ha;simp at ha
 | n+1,t,hn,ha,hb=>by
   have hz:inZ c t=true:=by
    cases hh:inZ c t with
    |true=>rfl
    |false=>rw[zbr hh]at ha;simp at ha
   have hp:=zb0 h hz;rw[zbF h hz]at ha hb;rcases ha with rfl|ha
   ·rcases hb with rfl|hb
    ·exact .inl rfl
    ·exact .inr (.inr hb)
   ·rcases hb with rfl|hb
    ·exact .inr (.inl ha)
    ·exact zh7 h n _ (by omega) ha hb
theorem zlO {c:ChD} (h:Full c) {src tg:Int} (hs:inZ c src=true) (ht:inZ c tg=true):aboveB c (domE c src tg) tg=true/\domE c src tg∈upL c src/\(domE c src tg= -1\/(0<=domE c src tg/\zaD c (domE c src tg)=true)):=by
 have hr:=h.toRight;have root: ∀ {x},inZ c x=true-> -1∈upL c x:=fun {x} hx=>zjd hr (c.states.length) x hx (zag.1 hx).2;unfold domE;cases hf:(upL c src).find? (domP c tg) with
 | none=>
   rw[List.find?_eq_none]at hf;exact absurd rfl (hf _ (root hs))
 | some d=>
   have h1:=List.find?_some hf;have h2:=List.mem_of_find?_eq_some hf;have h3:=(ze8 hr 40 _ _ h2).1;simp only[Option.getD_some];unfold domP at h1;rw[Bool.or_eq_true,decide_eq_true_eq,Bool.and_eq_true]at h1;rcases h1 with h1|h1
   ·have:d= -1:=by omega
    subst this;exact⟨by unfold aboveB;rw[List.contains_iff_mem];exact root ht,h2, .inl rfl⟩
   ·refine⟨h1.2,h2,?_⟩;rcases Int.lt_or_le d 0 with q|q
    ·exact .inl (by omega)
    ·exact .inr ⟨q,h1.1⟩
structure Uni (c:ChD) (d:Int) (P:List Int):Prop where
 real: ∀k∈P,∃s,at_ c k=some s/\zaq s=false
 bel: ∀k∈P,aboveB c d k=true
 up: ∀k∈P,parZ c k=d\/parZ c k∈P
 one: ∀x,zaD c x=true\/x= -1-> ∀k1∈P,∀k2∈P,parZ c k1=x->parZ c k2=x->k1=k2
 has: ∃k∈P,parZ c k=d
theorem zkZ {c:ChD} {x:Int} (h:zav c x=true): ∃s,at_ c x=some s/\zaq s=false:=by
 obtain⟨s,hs,hk⟩:=zdm h;refine⟨s,hs,?_⟩;unfold zaq;rcases hk with e|e<;>simp[e]
theorem zqC {c:ChD} (h:Full c) {d:Int} {l:List Int} (hl: ∀x∈l,aboveB c d x=true/\ ∃s,at_ c x=some s/\zaq s=false) (hne:l≠[]) (_hd: -1<=d)
 (hone: ∀x,zaD c x=true\/x= -1-> ∀k1∈upsL c l d,∀k2∈upsL c l d,parZ c k1=x->parZ c k2=x->k1=k2):Uni c d (upsL c l d):=by
 have hr:=h.toRight;have hm:=(zdX (c:=c) (d:=d) (l:=l)).2
 have hbel: ∀k∈upsL c l d,aboveB c d k=true:=fun k hk=>by
  rcases (hm k).1 hk with hk|⟨_,_,_,_,hk⟩
  ·exact(hl k hk).1
  ·exact hk
 refine⟨fun k hk=> ?_,hbel,fun k hk=> ?_,hone,?_⟩
 ·rcases (hm k).1 hk with hk|⟨i,hi,h1,h2,_⟩
  ·exact(hl k hk).2
  ·exact zkZ (zje h (c.states.length) i k (zag.1 (zao (hl i hi).1)).2 h1 h2)
 ·have hz:=zao (hbel k hk);rcases (zam hr hz).1 (hbel k hk) with e|e
  ·exact .inl e
  ·refine .inr ((hm _).2 (.inr ?_));have h0:0<=parZ c k:=(zag.1 (zao e)).1;rcases (hm k).1 hk with hk|⟨i,hi,h1,h2,_⟩
   ·exact⟨k,hk,(zbF hr hz).2 (.inl rfl),h0,e⟩
   ·exact⟨i,hi,zdt hr (c.states.length) i k _ (zag.1 (zao (hl i hi).1)).2 h1 ((zbF hr hz).2 (.inl rfl)),h0,e⟩
 ·obtain⟨t,ht⟩:=List.exists_mem_of_ne_nil l hne;obtain⟨k,hk,k1,k2⟩:=zoM hr (c.states.length) t (zag.1 (zao (hl t ht).1)).2 (hl t ht).1;refine⟨k,(hm k).2 ?_,k2⟩;rcases hk with rfl|⟨hk,e⟩
  ·exact .inl ht
  ·exact .inr ⟨t,ht,hk,(zag.1 k1).1,e⟩
theorem zqG {c:ChD} (h:Full c) {d t:Int} (ha:aboveB c d t=true) (hd: -1<=d) (hr: ∃s,at_ c t=some s/\zaq s=false):Uni c d (upsL c [t] d):=by
 have hm:=(zdX (c:=c) (d:=d) (l:=[t])).2
 have hc: ∀k∈upsL c [t] d,inZ c k=true/\(t=k\/k∈upL c t):=fun k hk=>by
  rcases (hm k).1 hk with hk|⟨i,hi,h1,h2,_⟩
  ·rw[List.mem_singleton.1 hk];exact⟨zao ha, .inl rfl⟩
  ·rw[List.mem_singleton.1 hi]at h1;exact⟨(zc9 h.toRight h1 h2).1, .inr h1⟩
 refine zqC h (fun x hx=>by rw[List.mem_singleton.1 hx];exact⟨ha,hr⟩) (by simp) hd fun x _ k1 h1 k2 h2 e1 e2=> ?_;exact zlX h.toRight (hc k1 h1).1 (hc k2 h2).1 e1 e2 (zao ha) (hc k1 h1).2 (hc k2 h2).2
theorem zmQ {act:List Int} {ks:List Nat} (h:manyI act ks<=1) {a b:Int} (ha:a∈zL ks) (hb:b∈zL ks) (h1:a∈act) (h2:b∈act):a=b:=by
 rw[<-zhs]at h;have m1:a∈(zL ks).filter fun k=>act.contains k:=List.mem_filter.2 ⟨ha,by simpa using h1⟩;have m2:b∈(zL ks).filter fun k=>act.contains k:=List.mem_filter.2 ⟨hb,by simpa using h2⟩;generalize (zL ks).filter (fun k=>act.contains k)=q at*
 match q,h with
 |[],_=>simp at m1
 |[x],_=>rw[List.mem_singleton.1 m1,List.mem_singleton.1 m2]
theorem ztG {c:ChD} (h:Full c) {d p:Int} (hp:zav c p=true) {l:List Int} (hb:zlR c p l=true) (hd: -1<=d) (hdp:d=p\/aboveB c d p=true):Uni c d (upsL c l d):=by
 have hr:=h.toRight;unfold zlR at hb;rw[Bool.and_eq_true,Bool.and_eq_true,List.all_eq_true,List.all_eq_true]at hb;obtain⟨⟨b1,b2⟩,b3⟩:=hb
 have hlp: ∀x∈l,aboveB c p x=true/\ ∃s,at_ c x=some s/\zaq s=false:=fun x hx=>by
  have:=b2 x hx;unfold zbw at this;rw[Bool.and_eq_true,Bool.and_eq_true]at this;refine⟨this.1.1,?_⟩;have:=this.1.2;split at this
  ·rename_i s hs;exact⟨s,hs,by simpa using this⟩
  ·cases this
 have hdx: ∀x,aboveB c p x=true->aboveB c d x=true:=fun x hx=>by
  rcases hdp with rfl|e
  ·exact hx
  ·exact zdO hr e hx
 have hm:=(zdX (c:=c) (d:=d) (l:=l)).2
 have hz: ∀k∈upsL c l d,inZ c k=true:=fun k hk=>by
  rcases (hm k).1 hk with hk|⟨_,_,_,_,hk⟩
  ·exact zao (hlp k hk).1
  ·exact zao hk
 have hpz:inZ c p=true:=by
  obtain⟨s,hs,_⟩:=zdm hp;unfold at_ at hs;split at hs
  ·rename_i h0;have:=(List.getElem?_eq_some_iff.1 hs).1;exact zag.2 ⟨h0,by omega⟩
  ·cases hs
 obtain⟨t,ht⟩:=List.exists_mem_of_ne_nil l (zms b1);refine zqC h (fun x hx=>⟨hdx x (hlp x hx).1,(hlp x hx).2⟩) (zms b1) hd fun x hx k1 h1 k2 h2 e1 e2=> ?_
 have tri: ∀k∈upsL c l d,aboveB c p k=true\/p=k\/k∈upL c p:=fun k hk=>by
  rcases (hm k).1 hk with hk|⟨i,hi,q1,q2,_⟩
  ·exact .inl (hlp k hk).1
  ·have hip:p∈upL c i:=List.contains_iff_mem.1 (hlp i hi).1;rcases zh7 hr (c.states.length) i (zag.1 (zao (hlp i hi).1)).2 hip q1 with e|e|e
   ·exact .inr (.inl e)
   ·exact .inl (List.contains_iff_mem.2 e)
   ·exact .inr (.inr e)
 have low: ∀k,k∈upsL c l d->aboveB c p k=true->k∈deepRA c p l:=fun k hk ha=>by
  unfold deepRA;rw[List.mem_append,zjA hr fun x hx=>zao (hlp x hx).1,zdX.2];rcases (hm k).1 hk with hk|⟨i,hi,q1,q2,_⟩
  ·exact .inl (.inl hk)
  ·exact .inl (.inr ⟨i,hi,q1,q2,ha⟩)
 have hreal: ∀k∈upsL c l d,k∈kidZ c (parZ c k):=fun k hk=>by
  obtain⟨j,s,rfl,hs,ha⟩:=zb9 (hz k hk);refine List.mem_map.2 ⟨j,zrZ hs (zck hs).symm ?_,rfl⟩;rcases (hm _).1 hk with hk|⟨i,hi,q1,q2,_⟩
  ·obtain⟨s',e,e2⟩:=(hlp _ hk).2;rw[ha]at e;cases e;exact e2
  ·obtain⟨s',e,e2⟩:=zkZ (zje h (c.states.length) i _ (zag.1 (zao (hlp i hi).1)).2 q1 q2);rw[ha]at e;cases e;exact e2
 have both: ∀ka kb,ka∈upsL c l d->kb∈upsL c l d->parZ c ka=x->parZ c kb=x->aboveB c p ka=true->ka=kb:=fun ka kb ha hb ea eb hap=>by
  have hkb:aboveB c p kb=true:=by
   have:=(zam hr (hz ka ha)).1 hap;rw[ea, <-eb]at this;exact(zam hr (hz kb hb)).2 this
  have hxd:x∈deepRA c p l:=by
   rcases (zam hr (hz ka ha)).1 hap with e|e
   ·unfold deepRA;rw[<-ea,e];simp
   ·have hx0:0<=parZ c ka:=(zag.1 (zao e)).1;rw[ea]at e hx0;refine low x ((hm x).2 (.inr ?_)) e;have hup:x∈upL c ka:=(zbF hr (hz ka ha)).2 (.inl ea.symm);rcases (hm ka).1 ha with q|⟨i,hi,q1,q2,_⟩
    ·exact⟨ka,q,hup,hx0,hdx x e⟩
    ·exact⟨i,hi,zdt hr (c.states.length) i ka x (zag.1 (zao (hlp i hi).1)).2 q1 hup,hx0,hdx x e⟩
  have hc:=b3 x hxd;unfold zbx at hc;cases hs:at_ c x with
  |none=>rw[hs]at hc;cases hc
  | some s=>
    have hpl:zaD c x=true:=hx.resolve_right fun e=>by rw[e]at hs;simp[at_]at hs
    rw[zaV hs]at hpl;rw[hs]at hc;have hk1:s.kind=1:=by simpa using hpl
    simp only[hk1]at hc
    have hle:manyI (deepRA c p l) (kidsL c x true)<=1:=by
     simp at hc;omega
    have r1:=hreal ka ha;have r2:=hreal kb hb;rw[ea]at r1;rw[eb]at r2;exact zmQ hle r1 r2 (low ka ha hap) (low kb hb hkb)
 rcases tri k1 h1 with a|a
 ·exact both k1 k2 h1 h2 e1 e2 a
 ·rcases tri k2 h2 with b|b
  ·exact(both k2 k1 h2 h1 e2 e1 b).symm
  ·exact zlX hr (hz k1 h1) (hz k2 h2) e1 e2 hpz a b
theorem zjN {c:ChD} (h:Full c) {d tg:Int} (hz:inZ c tg=true) {mem:List MemD} (hm:zbd c mem=true) (ha:aboveB c d tg=true) (hd: -1<=d):Uni c d (upsL c (leadL c tg mem) d):=by
 have hr:=h.toRight;obtain⟨k,s,rfl,hs,hat⟩:=zb9 hz;unfold leadL;rw[hat];simp only;by_cases hmy:zaq s=true
 ·rw[if_pos hmy];obtain⟨q1,q2,q3,q4,q5⟩:=zhH h hs hmy
  have hdp:d=s.parent\/aboveB c d s.parent=true:=by
   have:=(zam hr hz).1 ha;rw[zck hs]at this;exact this.imp Eq.symm id
  have kidcase: ∀t∈kidZ c s.parent,Uni c d (upsL c [t] d):=fun t ht=>by
   obtain⟨t1,t2,_⟩:=zaO hr ht;refine zqG h ((zam hr t1).2 (by rw[t2];exact hdp.imp Eq.symm id)) hd ?_;obtain⟨j,hj,rfl⟩:=List.mem_map.1 ht;obtain⟨s',e1,_,e2,_⟩:=zog hj;exact⟨s',by rw[zaM];exact e1,e2⟩
  cases hf:mem.find? (fun m=>m.1==(k:Int)) with
  | none=>
    refine kidcase _ ?_;rcases h.cases hs with⟨e,_⟩|⟨e,_⟩|⟨e,_⟩|⟨_,_,_,e⟩
    ·omega
    ·omega
    ·omega
    ·obtain⟨j,hj,e⟩:=zjW.1 e;exact List.mem_map.2 ⟨j,hj,e⟩
  | some m=>
    have e1:=List.find?_some hf;have e2:=(zhq hm).2 m (List.mem_of_find?_eq_some hf);simp only[beq_iff_eq]at e1;unfold memB at e2;rw[e1,hat]at e2;simp only at e2 |-;split at e2
    ·rw[Bool.and_eq_true,decide_eq_true_eq]at e2;obtain⟨t,ht⟩:=List.length_eq_one_iff.1 e2.1;rw[ht]at e2 |-;exact kidcase t (by simpa using e2.2)
    ·rw[Bool.and_eq_true,zhY h q2]at e2;exact ztG h q2 e2.2 hd hdp
 ·rw[if_neg hmy];exact zqG h ha hd ⟨s,hat,by simpa using hmy⟩
theorem zk8 {c:ChD} {k:Int} {s:StD} (hs:at_ c k=some s) (hm:zaq s=false) (hz:inZ c k=true):k∈kidZ c (parZ c k):=by
 obtain⟨j,s',rfl,hs',ha⟩:=zb9 hz;rw[hs]at ha;cases ha;exact List.mem_map.2 ⟨j,zrZ hs' (zck hs').symm hm,rfl⟩
theorem zfQ {l:List Int} {ks:List Nat} (hn:ks.Nodup) {k:Int} (hk:k∈zL ks) (h: ∀x∈zL ks,x∈l↔x=k):manyI l ks=1:=by
 obtain⟨j,hj,rfl⟩:=List.mem_map.1 hk;unfold manyI;rw[filter_one hn hj fun x hx=> ?_]
 ·rfl
 ·rw[List.contains_iff_mem,h _ (List.mem_map.2 ⟨x,hx,rfl⟩)];omega
theorem zpw {c:ChD} (h:Full c) {act:List Int} (hg:Lg c act) {d:Int} {P:List Int} (hu:Uni c d P) (hd:d= -1\/(d∈act/\zaD c d=true)) {O:List Nat} (hO:O.Pairwise (· < ·))
 (hm: ∀x,x∈zL O↔(x∈act/\aboveB c d x=false)\/Gr c P x):lgB c (zL O)=true/\ ∀x,aboveB c d x=false->(x∈zL O↔x∈act):=by
 have hr:=h.toRight
 have gb: ∀x,Gr c P x->aboveB c d x=true/\(parZ c x=d\/Gr c P (parZ c x))/\ ∃s,at_ c x=some s/\zaq s=false:=fun x g=>by
  induction g with
  |base hx=>exact⟨hu.bel _ hx,(hu.up _ hx).imp id .base,hu.real _ hx⟩
  | ini g hp hn h0 ih=>
    have hk:=zfr h hp h0;obtain⟨k1,k2,_⟩:=zaO hr hk;refine⟨(zam hr k1).2 (.inr (by rw[k2];exact ih.1)), .inr (by rw[k2];exact g),?_⟩;obtain⟨j,hj,e⟩:=List.mem_map.1 hk;obtain⟨s,e1,_,e2,_⟩:=zog hj;exact⟨s,by rw[<-e,zaM];exact e1,e2⟩
  | par g hp hk ih=>
    obtain⟨k1,k2,_⟩:=zaO hr hk;refine⟨(zam hr k1).2 (.inr (by rw[k2];exact ih.1)), .inr (by rw[k2];exact g),?_⟩;obtain⟨j,hj,e⟩:=List.mem_map.1 hk;obtain⟨s,e1,_,e2,_⟩:=zog hj;exact⟨s,by rw[<-e,zaM];exact e1,e2⟩
 have hout: ∀x,aboveB c d x=false->(x∈zL O↔x∈act):=fun x hx=>by
  rw[hm];refine⟨fun hh=>hh.elim (fun a=>a.1) fun g=> ?_,fun hh=> .inl ⟨hh,hx⟩⟩;rw[(gb x g).1]at hx;cases hx
 have hin: ∀x,aboveB c d x=true->(x∈zL O↔Gr c P x):=fun x hx=>by
  rw[hm];refine⟨fun hh=>hh.elim (fun a=> ?_) id, .inr⟩;rw[hx]at a;cases a.2
 have two: ∀x,zaD c x=true\/x= -1-> ∀k1 k2,Gr c P k1->Gr c P k2->parZ c k1=x->parZ c k2=x->k1=k2:=fun x hx k1 k2 g1 g2 e1 e2=>by
  have inP: ∀k,Gr c P k->parZ c k=x->k∈P\/(k=iniZ c x/\(∀k∈kidZ c x,k∉P)/\zaD c x=true):=fun k g e=>by
   rcases g.real h with a|⟨a1,a2,a3⟩
   ·exact .inl a
   ·rw[e]at a1 a2 a3;rcases hx with hx|hx
    ·exact .inr ⟨(a3 hx).1,(a3 hx).2,hx⟩
    ·rw[hx]at a2;have:=(zag.1 (zao (gb _ a2).1)).1;omega
  have kz: ∀k∈P,parZ c k=x->k∈kidZ c x:=fun k hk e=>by
   obtain⟨s,q1,q2⟩:=hu.real k hk;rw[<-e];exact zk8 q1 q2 (zao (hu.bel k hk))
  rcases inP k1 g1 e1 with a|⟨a1,a2,_⟩
  ·rcases inP k2 g2 e2 with b|⟨b1,b2,_⟩
   ·exact hu.one x hx k1 a k2 b e1 e2
   ·exact absurd a (b2 k1 (kz k1 a e1))
  ·rcases inP k2 g2 e2 with b|⟨b1,b2,_⟩
   ·exact absurd b (a2 k2 (kz k2 b e2))
   ·rw[a1,b1]
 have dkid:manyI (zL O) (kidsL c d true)=1:=by
  obtain⟨k,hk,e⟩:=hu.has;obtain⟨s,q1,q2⟩:=hu.real k hk;have hkz:=zk8 q1 q2 (zao (hu.bel k hk));rw[e]at hkz;refine zfQ (zaI c d true) hkz fun x hx=> ?_;obtain⟨x1,x2,_⟩:=zaO hr hx;rw[hin x ((zam hr x1).2 (.inl x2))];refine⟨fun g=>two d ?_ x k g (.base hk) x2 e,fun e=>by rw[e];exact .base hk⟩;rcases hd with e|e
  ·exact .inr e
  ·exact .inl e.2
 have hb: ∀k∈O,k<c.states.length:=fun k hk=>by
  rcases (hm k).1 (List.mem_map.2 ⟨k,hk,rfl⟩) with a|a
  ·obtain⟨_,_,z,_⟩:=hg.of a.1;exact zar.1 z
  ·exact zar.1 (zao (gb _ a).1)
 refine⟨zwD hO (fun k hk=> ?_) ?_,hout⟩
 ·have hkO:(k:Int)∈zL O:=List.mem_map.2 ⟨k,hk,rfl⟩
  have key: ∃s,at_ c (k:Int)=some s/\zaq s=false/\(s.parent<0\/s.parent∈zL O)/\(s.kind=1->kidsL c k true≠[]->manyI (zL O) (kidsL c k true)=1)/\(s.kind=2->manyI (zL O) (kidsL c k true)=(kidsL c k true).length):=by
   rcases (hm k).1 hkO with⟨ka,kn⟩|g
   ·obtain⟨s,hs,hz,hmy,hp,f1,f2⟩:=hg.of ka;have hps:parZ c (k:Int)=s.parent:=by unfold parZ;rw[hs]
    rw[hps]at hp;refine⟨s,hs,hmy,?_,?_⟩
    ·rcases hp with hp|hp
     ·exact .inl hp
     ·refine .inr ((hout _ ?_).2 hp);cases hh:aboveB c d s.parent with
      |false=>rfl
      | true=>
        rw[(zam hr hz).2 (.inr (by rw[hps];exact hh))]at kn;cases kn
    ·by_cases e:d=k
     ·rw[<-e];refine⟨fun _ _=>dkid,fun e2=> ?_⟩;have hpl:=(hd.resolve_left (by omega)).2;rw[e,zaV hs,e2]at hpl;cases hpl
     ·have same:manyI (zL O) (kidsL c k true)=manyI act (kidsL c k true):=by
       unfold manyI
       congr 1
       apply List.filter_congr;intro j hj;have hjz:(j:Int)∈kidZ c k:=List.mem_map.2 ⟨j,hj,rfl⟩;obtain⟨j1,j2,_⟩:=zaO hr hjz;rw[Bool.eq_iff_iff,List.contains_iff_mem,List.contains_iff_mem];refine hout _ ?_;cases hh:aboveB c d (j:Int) with
       |false=>rfl
       | true=>
         rcases (zam hr j1).1 hh with q|q
         ·rw[j2]at q;exact absurd q.symm e
         ·rw[j2,kn]at q;cases q
      rw[same];exact⟨f1,f2⟩
   ·obtain⟨g1,g2,s,hs,hmy⟩:=gb k g;have hz:=zao g1;have hps:parZ c (k:Int)=s.parent:=by unfold parZ;rw[hs]
    have below: ∀j∈kidZ c (k:Int),(j∈zL O↔Gr c P j):=fun j hj=>by
     obtain⟨j1,j2,_⟩:=zaO hr hj;exact hin j ((zam hr j1).2 (.inr (by rw[j2];exact g1)))
    refine⟨s,hs,hmy,?_,fun e hne=> ?_,fun e=> ?_⟩
    ·rw[<-hps];rcases g2 with q|q
     ·rw[q];rcases hd with e|e
      ·exact .inl (by omega)
      ·exact .inr ((hout d (zu6 hr)).2 e.1)
     ·exact .inr ((hm _).2 (.inr q))
    ·have hpl:zaD c (k:Int)=true:=by rw[zaV hs,e];rfl
     have hini:0<=iniZ c (k:Int)/\iniZ c (k:Int)∈kidZ c (k:Int):=by
      rcases zfD h hs with⟨_,e2|e2⟩|⟨e2,_⟩|⟨e2,_⟩|⟨e2|e2,_⟩
      ·exact absurd e2 hne
      ·exact e2
      all_goals omega
     by_cases hex: ∃j∈kidZ c (k:Int),j∈P
     ·obtain⟨j,hj,hjP⟩:=hex;refine zfQ (zaI c k true) hj fun x hx=> ?_;rw[below x hx];exact⟨fun gx=>two k (.inl hpl) x j gx (.base hjP) (zaO hr hx).2.1 (zaO hr hj).2.1,fun e=>by rw[e];exact .base hjP⟩
     ·have hno: ∀j∈kidZ c (k:Int),j∉P:=fun j hj hjP=>hex ⟨j,hj,hjP⟩;refine zfQ (zaI c k true) hini.2 fun x hx=> ?_;rw[below x hx];have gi:Gr c P (iniZ c (k:Int)):= .ini g hpl hno hini.1;exact⟨fun gx=>two k (.inl hpl) x _ gx gi (zaO hr hx).2.1 (zaO hr hini.2).2.1,fun e=>by rw[e];exact gi⟩
    ·rw[zee];intro j hj;exact(below j hj).2 (.par g (by rw[zaV hs,e];rfl) hj)
  obtain⟨s,hs,k1,k2,k3,k4⟩:=key;have hfit:fitI c (zL O) (k:Int)=fitB c (zL O) k s:=by unfold fitI;rw[hs];rfl
  rw[hfit];unfold fitB;rw[k1,Bool.and_eq_true,Bool.and_eq_true];refine⟨⟨rfl,?_⟩,?_⟩
  ·rw[Bool.or_eq_true,decide_eq_true_eq];exact k2.imp id fun q=>List.contains_iff_mem.2 q
  ·split
   ·rename_i e;simpa using k3 e.1 e.2
   ·split
    ·rename_i e;simpa using k4 e
    ·rfl
 ·rcases hd with e|e
  ·rw[e]at dkid;exact dkid
  ·rw[<-hg.top];unfold manyI
   congr 1
   apply List.filter_congr;intro j hj;have hjz:(j:Int)∈kidZ c (-1):=List.mem_map.2 ⟨j,hj,rfl⟩;obtain⟨j1,j2,_⟩:=zaO hr hjz;have hd0:=(hg.of e.1);obtain⟨_,_,dz,_⟩:=hd0;rw[Bool.eq_iff_iff,List.contains_iff_mem,List.contains_iff_mem];refine hout _ ?_;cases hh:aboveB c d (j:Int) with
   |false=>rfl
   | true=>
     rcases (zam hr j1).1 hh with q|q
     ·rw[j2]at q;have:=(zag.1 dz).1;omega
     ·rw[j2]at q;have:=(zag.1 (zao q)).1;omega
end
section
open Go.RowKit
abbrev memsAV (l:List MemD):AV:= .seq 2 (l.map mmAV)
theorem zul {s:StD} :zaq s=false->s.kind≠4/\s.kind≠5:=fun h=>by
 unfold zaq at h;simpa using h
def zpL (s:StD) (k:Int) (mem:List MemD):List Int:=match mem.find? (fun m=>m.1==k) with|some m=>m.2|none=>[s.initial]
theorem zpJ {s:StD} {k:Int} {mem:List MemD} {m:MemD} (h:mem.find? (fun m=>m.1==k)=some m):zpL s k mem=m.2:=by unfold zpL;rw[h]
theorem zpK {s:StD} {k:Int} {mem:List MemD} (h:mem.find? (fun m=>m.1==k)=none):zpL s k mem=[s.initial]:=by unfold zpL;rw[h]
theorem zrW (env:Env) (c:ChD) (hc:Right c) (hs:Small c) (k:Nat) (s:StD) (hsk:c.states[k]? =some s) (mem:List MemD) (hl:mem.length<=1000000) (hm: ∀m∈mem,m.2.length<=4096):Con prog env 193 [zah c,I k,memsAV mem] (.own 3 1 ((leadL c k mem).map intAV)):=by
 have hlen:=hc.few;have f0:=zas env c hs;have hk:=(List.getElem?_eq_some_iff.1 hsk).1;have q0:((k:Nat):Int)< (c.states.length:Int):=by omega
 have hat:at_ c (k:Int)=some s:=by rw[zaM];exact hsk
 have hlead:leadL c k mem=if zaq s=true then(zpL s k mem) else [(k:Int)]:=by unfold leadL;rw[hat];rfl
 rw[hlead];unfold zah at f0 |-;cases hmy:zaq s with
 | false=>
   rw[if_neg (by simp)];obtain⟨n4,n5⟩:=zul hmy;have b4:(s.kind==4)=false:=by simpa using n4
   have b5:(s.kind==5)=false:=by simpa using n5
   refine qf func193 call193 ntmps193 results193 ?_;have F:=ai7 chAV.eq_1 stAV.eq_1 q0 hsk b4 b5 bneA;repeat refine tz1 f0 ?_
   exact aR
 | true=>
   rw[if_pos rfl]
   have hk45:((s.kind==4)=true)\/((s.kind==4)=false/\(s.kind==5)=true):=by
    unfold zaq at hmy;cases h4:(s.kind==4) with
    |true=>exact .inl rfl
    |false=>rw[h4]at hmy;exact .inr ⟨rfl,by simpa using hmy⟩
   have main: ∀b4 b5:Bool,(s.kind==4)=b4->(s.kind==5)=b5->(b4=true\/b5=true)->Con prog env 193 [.ref 9 [tabCells c] 0 0,I k,memsAV mem] (.own 3 1 ((zpL s k mem).map intAV)):=fun b4 b5 h4 h5 hb=>by
    cases b4<;>cases b5<;>(try simp at hb)<;>
    ·refine qf func193 call193 ntmps193 results193 ?_;have F:=ai7 chAV.eq_1 stAV.eq_1 q0 hsk h4 h5 bneA;repeat refine tz1 f0 ?_
     refine zab (D:=Nat) (fun j vs=>[(1,I k),(7, .loc 7 (vs 7) 0 0),(27,memsAV mem),(28,I mem.length),(29,I j)]) (fun _ _=>[(7,⟨5,[chAV c],26,false⟩)]) (fun j _ _=>j<=mem.length/\mem.find? (fun m=>m.1==(k:Int))=(mem.drop j).find? (fun m=>m.1==(k:Int))) (fun j=>mem.length-j) 0 ?_ ?_ ?_ ?_
     ·exact⟨Nat.zero_le _,rfl⟩
     ·(simp only[go_sem,F])
      try rfl
     ·have F:=chAV.eq_1
      (simp only[go_sem,F])
      try rfl
     rintro j ws esc ⟨hj,hf⟩;by_cases hlt:j<mem.length
     ·obtain⟨x,hx⟩:=gE hlt;have q1:=nlt hlt;have q2:=zaa hlt (by omega);rw[zhO hx]at hf;have f1:=zbP env (x.2.map intAV) (by rw[List.length_map];exact hm x (List.mem_of_getElem? hx));cases he:(x.1==(k:Int)) with
      | true=>
        rw[he]at hf;simp only[if_true]at hf;rw[zpJ hf];have F:=ai4 mmAV.eq_1 hx q1 he;repeat refine tz1 f1 ?_
        exact aR
      | false=>
        rw[he]at hf;simp only[Bool.false_eq_true,if_false]at hf;have F:=ai5 mmAV.eq_1 hx q1 q2 he;repeat refine tz1 f1 ?_
        refine⟨j+1,⟨hlt,hf⟩,?_,?_,by omega⟩
        ·exact qe
        ·have F:=chAV.eq_1;exact qe
     ·obtain rfl:j=mem.length:=by omega
      have q1:=nl mem.length;rw[List.drop_length,List.find?_nil]at hf;rw[zpK hf];have F:=ai5 chAV.eq_1 stAV.eq_1 q0 q1 hsk;repeat refine tz1 f0 ?_
      exact aR
   rcases hk45 with h4|⟨h4,h5⟩
   ·exact main _ _ h4 rfl (.inl rfl)
   ·exact main _ _ h4 h5 (.inr rfl)
theorem zom {c:ChD} (h:Full c) {l:List Int} (hn:l.Nodup) (hz: ∀x∈l,inZ c x=true):(growL c l).length<=32:=by
 refine Nat.le_trans (zdS (ze1 c _ _ _ hn) fun x hx=> ?_) h.toRight.few;exact((zc5 h hn).1 hx).in h hz
def tgtL (c:ChD) (src tg:Int) (mem:List MemD):List Nat:=sortL c (growL c (upsL c (leadL c tg mem) (domE c src tg)))
theorem zvY {c:ChD} (h:Full c) {tg:Int} (hz:inZ c tg=true) {mem:List MemD} (hm:zbd c mem=true):(∀x∈leadL c tg mem,inZ c x=true)/\(leadL c tg mem).length<=1000000:=by
 obtain⟨d1,_,d3⟩:=zlO h hz hz;have hu:=zjN h hz hm d1 (by rcases d3 with e|e<;>omega);have h1: ∀x∈leadL c tg mem,inZ c x=true:=fun x hx=>zao (hu.bel x ((zdX.2 x).2 (.inl hx)));refine⟨h1,?_⟩;unfold leadL;split
 ·rename_i s hs;split
  ·split
   ·rename_i m hf;have e2:=(zhq hm).2 m (List.mem_of_find?_eq_some hf);unfold memB at e2;split at e2
    ·split at e2
     ·rw[Bool.and_eq_true,decide_eq_true_eq]at e2;omega
     ·unfold deepB at e2;simp only[Bool.and_eq_true]at e2;have hr:=e2.2.1.1.1;have hnd:m.2.Nodup:=zeB hr
      have hin: ∀x∈m.2,inZ c x=true:=fun x hx=>by
       have:=List.all_eq_true.1 e2.2.1.1.2 x hx;unfold zcr at this;rw[Bool.and_eq_true]at this;exact zao this.1
      exact Nat.le_trans (zdS hnd hin) (by have:=h.toRight.few;omega)
    ·cases e2
   ·simp
  ·simp
 ·simp
theorem zo1 (env:Env) (c:ChD) (h:Full c) (hs:Small c) (t:TrD) (hsrc:inZ c t.src=true) (htg:inZ c t.target=true) (mem:List MemD) (hl:mem.length<=1000000) (hm: ∀m∈mem,m.2.length<=4096) (hmem:zbd c mem=true):
 Con prog env 136 [zah c, .agg (trAV t),memsAV mem] (.own 3 1 ((tgtL c t.src t.target mem).map zac)):=by
 have hc:=h.toRight;obtain⟨k,s,e,hsk,_⟩:=zb9 htg;obtain⟨l1,l2⟩:=zvY h htg hmem;obtain⟨u1,u2⟩:=zdX (c:=c) (d:=domE c t.src t.target) (l:=leadL c t.target mem)
 have u3: ∀x∈upsL c (leadL c t.target mem) (domE c t.src t.target),inZ c x=true:=fun x hx=>by
  rcases (u2 x).1 hx with h|⟨i,_,q1,q2,_⟩
  ·exact l1 x h
  ·exact(zc9 hc q1 q2).1
 have f0:=zaE env c;have f1:=zrW env c hc hs k s hsk mem hl hm;rw[<-e]at f1;have f2:=zf1 env c hc hs t hsrc;have f3:=zu8 env c hc (leadL c t.target mem) l2 l1 (domE c t.src t.target);have f4:=zon env c h hs _ u1 u3;have f5:=zcG env c hc (growL c (upsL c (leadL c t.target mem) (domE c t.src t.target))) (by have:=zom h u1 u3;omega);unfold tgtL;generalize growL c (upsL c (leadL c t.target mem) (domE c t.src t.target))=G at*;generalize upsL c (leadL c t.target mem) (domE c t.src t.target)=U at*;generalize leadL c t.target mem=A at*;unfold trAV at f2;unfold zaj at f0 f5;unfold zah at f0 f1 f2 f3 f4 |-;refine qf func136 call136 ntmps136 results136 ?_;have F:=trAV.eq_1;repeat refine tz6 f0 f1 f2 f3 f4 f5 ?_
 exact aR
end
section
open Go.RowKit
theorem zbb {α:Type} {l:List α} {n:Nat} {x:α} (h:l[n]? =some x):l.take (n+1)=l.take n++[x]:=by rw[List.take_add_one,h];rfl
theorem zaQ {α:Type} {l:List α} {n:Nat} {x:α} (h:l[n]? =some x):l.drop n=x::l.drop (n+1):=by
 obtain⟨hn,he⟩:=List.getElem?_eq_some_iff.1 h;rw[List.drop_eq_getElem_cons hn,he]
def idxQ (p:Int->Bool):List Int->Option Nat
 |[]=>none
 |d::l=>if p d=true then some 0 else(idxQ p l).map (· +1)
def idxJ:Option Nat->Int
 |some i=>i
 |none=> -1
theorem zhE {p:Int->Bool} : ∀ {l:List Int} {i:Nat},idxQ p l=some i->i<l.length/\l.take i=(l.take i).filter (fun d=> !p d)/\ ∃d,l[i]? =some d/\p d=true
 |[],i,h=>by simp[idxQ]at h
 | d::l,i,h=>by
   unfold idxQ at h;split at h
   ·rename_i hp;cases h;exact⟨by simp,by simp,d,rfl,hp⟩
   ·rename_i hp;cases hi:idxQ p l with
    |none=>rw[hi]at h;cases h
    | some j=>
      rw[hi]at h;cases h;obtain⟨h1,h2,x,h3,h4⟩:=zhE hi;refine⟨by simp;omega,?_,x,by simpa using h3,h4⟩;have hp:p d=false:=by simpa using hp
      simp only[List.take_succ_cons,List.filter_cons,hp,Bool.not_false,if_true];rw[<-h2]
theorem zhF {p:Int->Bool} : ∀ {l:List Int},idxQ p l=none->l.filter (fun d=> !p d)=l/\ ∀d∈l,p d=false
 |[],h=>by simp
 | d::l,h=>by
   unfold idxQ at h;split at h
   ·cases h
   ·rename_i hp;have hp:p d=false:=by simpa using hp
    cases hi:idxQ p l with
    |some j=>rw[hi]at h;cases h
    | none=>
      obtain⟨h1,h2⟩:=zhF hi;refine⟨by simp only[List.filter_cons,hp,Bool.not_false,if_true,h1],fun x hx=> ?_⟩;rcases List.mem_cons.1 hx with rfl|hx
      ·exact hp
      ·exact h2 x hx
theorem zse {p:Int->Bool} {l:List Int} {n:Nat} {d:Int} (hd:l[n]? =some d):idxQ p (l.drop n)=if p d=true then some 0 else(idxQ p (l.drop (n+1))).map (· +1):=by
 rw[zaQ hd];rfl
theorem zhC (env:Env) (l:List Int) (p:Int->Bool) (g:FuncId) (caps:List (List AV)) (hp: ∀d,Con prog env g [I d, .ref 1 caps 0 0] (B (p d))) (hl:l.length<=4096):Con prog env 185 [.seq 1 (l.map intAV), .clo g [.ref 1 caps 0 0]] (I (idxJ (idxQ p l))):=by
 refine qf func185 call185 ntmps185 results185 ?_;repeat refine st0 ?_
 refine zab (D:=Nat) (fun n vs=>[(0, .seq 1 (l.map intAV)),(1, .clo g [.ref 1 caps 0 0]),(7,I l.length),(8,I n)]) (fun n vs=>[]) (fun n _ esc=>n<=l.length/\idxQ p l=(idxQ p (l.drop n)).map (· +n)) (fun n=>l.length-n) 0 ?_ ?_ ?_ ?_
 ·exact⟨Nat.zero_le _,by simp⟩
 ·exact qe0
 ·exact qe0
 rintro n vs esc ⟨hn,hi⟩;by_cases hlt:n<l.length
 ·obtain⟨d,hd⟩:=gE hlt;have g1:=nlt hlt;have g2:=zaa hlt (by omega);have f1:=hp d;rw[zse hd]at hi;cases h1:p d
  ·rw[h1]at hi f1;simp only[Bool.false_eq_true,if_false]at hi;have F:=ai3 hd g1 g2;repeat refine st ?_
   refine oC (za5 rfl (by simp only[go_sem,F];exact iR)) (f1) (by simp only[go_sem,F];exact iR) (by simp only[go_sem,F];exact⟨rfl,rfl⟩) ?_;repeat refine st ?_
   refine⟨n+1,⟨hlt,?_⟩,?_,?_,?_⟩
   ·rw[hi];cases idxQ p (l.drop (n+1))
    ·rfl
    ·simp;omega
   ·exact qe
   ·exact qe
   ·omega
  ·rw[h1]at hi f1;simp only[if_true,Option.map_some,Nat.zero_add]at hi;rw[hi];have F:=ai5 hd g1 g2 idxJ.eq_1 idxJ.eq_2;repeat refine st ?_
   refine oC (za5 rfl (by simp only[go_sem,F];exact iR)) (f1) (by simp only[go_sem,F];exact iR) (by simp only[go_sem,F];exact⟨rfl,rfl⟩) ?_;repeat refine st ?_
   exact aR
 ·have g1: ¬(n:Int)< (l.length:Int):=by omega
  rw[List.drop_of_length_le (by omega)]at hi;rw[hi];have F:=ai3 g1 idxJ.eq_1 idxJ.eq_2;repeat (first|refine oO rfl (by simp only[go_sem,idxQ,F];exact⟨rfl,rfl⟩) ?_|refine gR ?_|refine gO ?_|refine oZ (zlS ?_)|refine oZ ?_|refine oS ?_|refine gT ?_|refine gD mixed ?_|refine oB ?_|refine oK ?_|(refine oX ?_;simp only[zcV,zdr, ↓reduceIte,Nat.reduceEqDiff,reduceCtorEq])|refine oY (by simp only[go_sem,idxQ,F];exact iR) ?_|refine oN (by simp only[go_sem,idxQ,F];exact iR) ?_)
  (refine zal ?_;show (zaG _ _ _).run _=some _;simp only[go_sem,idxQ,F])
end
section
open Go.RowKit
end
section
open Go.RowKit
def zw2 (G act:List Int):List Int:=act.filter fun i=> !G.contains i
def moved (G act:List Int) (T:List Nat):List Int:=Lib.compact (zbq (zw2 G act++zL T))
theorem zg7 (l:List Int):(zbq l).length=l.length:=by unfold zbq;rw[List.length_mergeSort]
end
section
open Go.RowKit Go.ChangeShapes
theorem Tryz.tabArr:prog.underlying 250=some (.array 32 5):=by kernel_rfl
theorem zwe:prog.cellsOf 5=1:=by kernel_rfl
theorem zwu {W:World} {g t:Nat} {cs:Array Value} {fuel:Nat} {p:List MemPlace} (hg:prog.globalNamed "math/bits.deBruijn32tab" =some g) (ht:(prog.globals[g]?).map (·.type)=some t) (hv:W.var? prog "math/bits.deBruijn32tab" =some cs)
 (hd:DataW.trod (fun _=>()) prog W 0 (fun _=>true) false fuel t cs.toList=some (Rows.laid_math_bits_deBruijn32tab,p)):TabAt W:=by
 obtain rfl:9=g:=Option.some.inj ((show prog.globalNamed "math/bits.deBruijn32tab" =some 9 by kernel_rfl).symm.trans hg);obtain rfl:250=t:=Option.some.inj ((show (prog.globals[9]?).map (·.type)=some 250 by kernel_rfl).symm.trans ht);obtain⟨xs,m,_,hx,_,hxl,hgx⟩:=DataW.trod_array Tryz.tabArr hd;simp only[Prod.mk.injEq]at hx;intro j hj;have h1:=hgx j hj;rw[zwe,Nat.mul_one]at h1;have hjx:xs[j]? =some (xs[j]'(by omega)):=List.getElem?_eq_getElem _;rw[hjx]at h1;obtain⟨nn,e1,e2,_⟩:=DataW.trod_int Tryz.underlying5 h1
 have hcell:cs[j]? =some (.int .u8 nn):=by
  have:((cs.toList.drop j).take 1)[0]? =some (.int .u8 nn):=by rw[e1];rfl
  rw[List.getElem?_take,if_pos (by omega),List.getElem?_drop,Nat.add_zero]at this;simpa using this
 have hval:(Rows.laid_math_bits_deBruijn32tab:DataW Unit)= .agg (xs.map (·.1)):=hx.1
 have hlist:(xs.map (·.1))[j]? =(Lib.deBruijn32tab.map fun(k:Nat)=>DataW.lit (H:=Unit) (.int .u8 (k:Int)))[j]? :=by
  have e:(Lib.deBruijn32tab.map fun(k:Nat)=>DataW.lit (H:=Unit) (.int .u8 (k:Int)))=xs.map (·.1):=by
   have:DataW.agg (Lib.deBruijn32tab.map fun(k:Nat)=>DataW.lit (H:=Unit) (.int .u8 (k:Int)))=DataW.agg (xs.map (·.1)):=by
    rw[<-hval];rfl
   injection this
  rw[e]
 rw[List.getElem?_map,hjx,List.getElem?_map]at hlist
 have hdb:Lib.deBruijn32tab[j]? =some (Lib.deBruijn32tab.getD j 0):=by
  have:j<Lib.deBruijn32tab.length:=by simpa[Lib.deBruijn32tab]using hj
  simp[List.getD,List.getElem?_eq_getElem this]
 rw[hdb]at hlist;simp only[Option.map_some,Option.some.injEq,e2]at hlist
 have hn:nn=((Lib.deBruijn32tab.getD j 0:Nat):Int):=by
  have:=hlist;injection this with this
  injection this
 rw[World.var?_cell hg hv j,hcell,hn]
theorem zuN {P:Program} {env:Env} {f:FuncId} {cs:List AV} {u:Value} {w:World} {vs:List Value} (h:Con P env f cs (.lit u)) (hE:EnvOk env (fun b _=>b<w.heap.size) w) (hv:RAs (fun b _=>b<w.heap.size) w vs cs):
 Calls P f vs.toArray w fun e w'=>e= .returned u/\Below w.heap.size w w':=(zuO h hE (fun _ _ _=>by simp) hv).mono (by
 rintro e w' ⟨v,rfl,hb,_,hv⟩
 exact⟨by rw[hv.lit_inv],hb⟩)
end
section
open Go.RowKit Go.ChangeShapes
end
section
open Go.RowKit
theorem zsm {c:ChD} (h:zhK c=true):(chk c).1=0:=by
 unfold zhK at h;rw[Bool.and_eq_true,beq_iff_eq]at h;exact h.2
end

end Go.Proofs.YtbpmkofnfgdegaaGreatDoor