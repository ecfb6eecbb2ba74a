/- The law of entering: its small functions; awake; what a nil table tells. -/
import Derived.Test.YtnbjaghjdeicmaaGreatDoorK18
import Derived.Test.YtnbjaghjdeicmaaGreatDoorK10
import Derived.Test.YtnbjaghjdeicmaaGreatDoorK5
import Derived.Test.YtnbjaghjdeicmaaGreatDoorK13
import Derived.Test.YtnbjaghjdeicmaaGreatDoorK12
import Derived.Test.YtnbjaghjdeicmaaGreatDoorK8
import Derived.Test.YtnbjaghjdeicmaaGreatDoorK16
set_option maxRecDepth 100000
set_option maxHeartbeats 16000000
set_option linter.unusedSimpArgs false
namespace Go.Proofs.YtnbjaghjdeicmaaGreatDoor
section
open Go.RowKit
theorem zjP (l:List Int) (x:Int):zc9 (l++[x])=zc9 l++[[I x,I 1]]:=by unfold zc9; rw [List.map_append]; rfl
def zbN (L K:List Int) (j:Nat):List Int:=(K.take j).filter fun k=> !L.contains k
theorem zn0 {L K:List Int} {j:Nat} {x:Int} (h:K[j]? =some x):zbN L K (j+1)=if L.contains x=true then zbN L K j else zbN L K j++[x]:=by
 unfold zbN
 rw [List.take_add_one,h,List.filter_append]
 cases hb:L.contains x<;>simp only [List.filter_cons,hb,Bool.not_true,Bool.not_false,Bool.false_eq_true,if_true,if_false,List.filter_nil,List.append_nil,Option.toList_some]
theorem zqy {L K:List Int} {j:Nat} {x:Int} :x∈zbN L K j↔x∈K.take j/\x∉L:=by
 unfold zbN
 rw [List.mem_filter]
 simp
theorem zhB {K:List Int} (hn:K.Nodup) {j:Nat} {x:Int} (h:K[j]? =some x):x∉K.take j:=fun hh=>by
 obtain⟨k,hk,e⟩:=List.mem_take_iff_getElem.1 hh
 obtain⟨hj,e2⟩:=List.getElem?_eq_some_iff.1 h
 have:=(List.getElem_inj hn (h₀:=by omega) (h₁:=hj)).1 (e.trans e2.symm)
 omega
theorem zqq {l:List Int} {k:Int} {i:Nat} (h:l[i]? =some k):(zc9 l)[i]? =some [I k,I 1]:=by unfold zc9; rw [List.getElem?_map,h]; rfl
theorem zme (env:Env) (c:ChD) (h:Full c) (hs:Small c) (l:List Int) (hn:l.Nodup) (hz: ∀x∈l,inZ c x=true):Con Tryz.prog env 273 [zaj c, .seq 1 (l.map intAV)] (.seq 1 ((growL c l).map intAV)):=by
 have hc:=h.toRight
 have hlen:=hc.few
 have hl32:l.length<=32:=Nat.le_trans (zdh hn hz) hlen
 have f0:=zaA env c hs
 have w1:IntKind.i64.wrap (0+1)=1:=rfl
 have w2: ¬(0:Int)<0:=by omega
 have w3:(0:Int)<1:=by omega
 unfold zaj at f0 |-
 refine zaa Tryz.func273 rfl Tryz.call273 (by rw [Tryz.ntmps273]; simp) ?_
 rw [Tryz.ntmps273,Tryz.results273]
 repeat refine st0 ?_
 refine zql ?_
 have F:=chAV.eq_1
 repeat (first | refine st ?_ | refine cC f0 ?_)
 refine zac (D:=Nat) (fun j vs=>[(0, .ref 9 [tabCells c] 0 0),(1, .seq 1 (l.map intAV)),(5, .loc 5 (vs 5) 0 0),(6, .mp 18 (vs 18)),(19, .seq 1 (l.map intAV)),(20,I l.length),(21,I j)]) (fun j _=>[(5,⟨5,[chAV c],26,false⟩),(18,⟨0,zc9 (l.take j),345,true⟩)]) (fun j _ _=>j<=l.length) (fun j=>l.length-j) 0 ?_ ?_ ?_ ?_
 ·exact Nat.zero_le _
 ·(simp only [go_sem,F])
  try rfl
 ·have F:=chAV.eq_1
  (simp only [go_sem,F])
  try rfl
 ·rintro j ws esc hj
  by_cases hlt:j<l.length
  ·obtain⟨x,hx⟩: ∃x,l[j]? =some x:=⟨l[j],List.getElem?_eq_getElem hlt⟩
   have q1:=nlt hlt
   have q2:=zab hlt (by omega)
   have hm:=zeZ x (l.take j) 0
   rw [zeI (zhB hn hx)] at hm
   have ht:zc9 (l.take (j+1))=zc9 (l.take j)++[[I x,I 1]]:=by rw [List.take_add_one,hx]; exact zjP _ _
   have F:=ai hx<|ai q1<|ai q2<|ai hm<|w1
   repeat refine st ?_
   refine⟨j+1,hlt, ?_, ?_,by omega⟩
   ·(simp only [go_sem,F])
   ·have F:=ht
    (simp only [go_sem,F])
  obtain rfl:j=l.length:=by omega
  have q1: ¬(l.length:Int)< (l.length:Int):=by omega
  rw [List.take_length]
  have F:=q1
  repeat refine st ?_
  refine zqn ?_
  show awp _ _ _ _ _ _
  repeat refine st ?_
  refine zac (D:=List Int×List Int) (fun d vs=>[(0, .ref 9 [tabCells c] 0 0),(1, .seq 1 (d.1.map intAV)),(5, .loc 5 (vs 5) 0 0),(6, .mp 18 (vs 18)),(9, .seq 1 (d.2.map intAV))]) (fun d _=>[(5,⟨5,[chAV c],26,false⟩),(18,⟨0,zc9 d.1,345,true⟩)])
   (fun d _ _=>Grown c l d.1 d.2/\d.1.Nodup/\zd5 c (missL c d.1+d.2.length) d.1 d.2=growL c l) (fun d=>missL c d.1+d.2.length) (l,l) ?_ ?_ ?_ ?_
  ·exact⟨zgJ hn,hn,rfl⟩
  ·(simp only [go_sem,F])
   try rfl
  ·(simp only [go_sem,F])
   try rfl
  try clear hj hlt q1
  rintro⟨L,T⟩ ws esc ⟨hg,hLn,hgr⟩
  simp only at hg hLn hgr
  have hLz: ∀x∈L,inZ c x=true:=fun x hx=>(hg.gr x hx).in h hz
  have hL32:L.length<=32:=Nat.le_trans (zdh hLn hLz) hlen
  have hT32:T.length<=32:=Nat.le_trans (zdh hg.nd fun x hx=>hLz x (hg.todo x hx)) hlen
  cases T with
  | nil=>
    have hL:growL c l=L:=by
     rw [<-hgr]
     cases missL c L+([]:List Int).length<;>rfl
    rw [hL]
    have q1: ¬(0:Int)<0:=by omega
    have F:=q1
    repeat refine st ?_
    exact aR
  | cons i r=>
  have hi:=hg.todo i (by simp)
  obtain⟨k,s,rfl,hsk,hat⟩:=zcD (hLz i hi)
  have hk:=(List.getElem?_eq_some_iff.1 hsk).1
  have q1:(0:Int)< (((k:Int)::r).length:Int):=by simp only [List.length_cons]; omega
  have q2:((k:Nat):Int)< (c.states.length:Int):=by omega
  have q3:(((k:Int)::r).drop 1).take (((k:Int)::r).length-1)=r:=by simp
  have q4:(1:Int)<=(((k:Int)::r).length:Int):=by simp only [List.length_cons]; omega
  have q5:((k:Int)::r)[0]? =some (k:Int):=rfl
  have f1:=zaX env c h k
  rw [if_pos (.inr (hLz _ hi)), <-zep] at f1
  unfold zaj at f1
  have hKd:zL (kidsL c (k:Int) true)=kidZ c (k:Int):=rfl
  rw [hKd] at f1
  have hpl:=zlZ hsk
  have hini:iniZ c (k:Int)=s.initial:=by unfold iniZ; rw [hat]
  have hstep:=hg.step h
  have hmiss:=zfM (c:=c) (l:=L) (zcp c L k) fun x hx=>⟨(zcE h hx).1,(zcE h hx).2.1⟩
  have hgr':zd5 c (missL c L+r.length) (L++addK c L k) (r++addK c L k)=growL c l:=by
   rw [<-hgr,List.length_cons,show missL c L+(r.length+1)=(missL c L+r.length)+1 by omega]
   rfl
  have hmore:zd5 c (missL c (L++addK c L k)+(r++addK c L k).length) (L++addK c L k) (r++addK c L k)=growL c l:=by
   rw [<-hgr']
   refine zjQ h hstep ?_ ?_
   ·exact Nat.le_refl _
   ·rw [List.length_append]; omega
  have hnext:(L++addK c L k).Nodup:=by
   rw [List.nodup_append]
   exact⟨hLn,zcp c L k,fun x hx y hy e=>(zcE h hy).1 (by rw [<-e]; exact hx)⟩
  have hmu:missL c (L++addK c L k)+(r++addK c L k).length<missL c L+((k:Int)::r).length:=by
   rw [List.length_append,List.length_cons]; omega
  generalize hKK:kidZ c (k:Int)=KK at*
  have hKn:KK.Nodup:=by rw [<-hKK]; exact zhH c k
  have hK32:KK.length<=32:=by
   rw [<-hKK,kidZ,zeo]; exact za8 hc k true
  have fin: ∀x:Int,x∉L->mfind Tryz.prog 3 (I x) (zc9 L) 0=some none:=fun x hx=>by rw [zeZ,zeI hx]
  have fyes: ∀x:Int,x∈L-> ∃p,mfind Tryz.prog 3 (I x) (zc9 L) 0=some (some p)/\(zc9 L)[p]? =some [I x,I 1]:=fun x hx=>by
   obtain⟨p,h1,h2⟩:=zgD (n:=0) hx
   exact⟨p,by rw [zeZ,h1,Nat.zero_add],zqq h2⟩
  generalize hT:(k:Int)::r=T at*
  have F:=ai q1<|ai q2<|ai q3<|ai q4<|ai q5<|ai hsk<|ai chAV.eq_1<|stAV.eq_1
  repeat (first | refine st ?_ | refine cC f1 ?_)
  refine zsS (D:=List Int) (fun K vs=>[(0, .ref 9 [tabCells c] 0 0),(1, .seq 1 (L.map intAV)),(5, .loc 5 (vs 5) 0 0),(6, .mp 18 (vs 18)),(9, .seq 1 (r.map intAV)),(11, .seq 1 (K.map intAV))]) (fun _ _=>[(5,⟨5,[chAV c],26,false⟩),(18,⟨0,zc9 L,345,true⟩)]) (fun K _ _=>K=newK c L k) ?_ ?_
  ·refine zd2 ?_
   by_cases hk1:s.kind=1
   ·have b1:(s.kind==1)=true:=by simp [hk1]
    rw [b1] at hpl
    have F:=b1
    repeat refine st ?_
    refine zac (D:=Nat) (fun j vs=>[(0, .ref 9 [tabCells c] 0 0),(1, .seq 1 (L.map intAV)),(5, .loc 5 (vs 5) 0 0),(6, .mp 18 (vs 18)),(9, .seq 1 (r.map intAV)),(10,I k),(49, .row 41 (vs 41)),(50,I KK.length),(51,I j)]) (fun _ _=>[(5,⟨5,[chAV c],26,false⟩),(18,⟨0,zc9 L,345,true⟩),(41,⟨1,KK.map intAV,3,true⟩)]) (fun j _ _=>j<=KK.length/\ ∀m (y:Int),m<j->KK[m]? =some y->y∉L) (fun j=>KK.length-j) 0 ?_ ?_ ?_ ?_
    ·exact⟨Nat.zero_le _,fun m y hm=>absurd hm (by omega)⟩
    ·(simp only [go_sem,F])
     try rfl
    ·have F:=chAV.eq_1
     (simp only [go_sem,F])
     try rfl
    rintro j us es ⟨hj,hno⟩
    by_cases hlt:j<KK.length
    ·obtain⟨x,hx⟩: ∃x,KK[j]? =some x:=⟨KK[j],List.getElem?_eq_getElem hlt⟩
     have p1:=nlt hlt
     have p2:=zab hlt (by omega)
     by_cases hxL:x∈L
     ·obtain⟨p,m1,m2⟩:=fyes x hxL
      have hnk:addK c L k=[]:=by
       unfold addK newK
       rw [if_pos hpl,hKK,if_pos (List.any_eq_true.2 ⟨x,List.mem_of_getElem? hx,List.contains_iff_mem.2 hxL⟩)]
       rfl
      rw [hnk,List.append_nil,List.append_nil] at hmore hmu hstep
      have F:=ai hx<|ai p1<|ai p2<|ai m1<|ai m2<|w3
      repeat refine st ?_
      refine⟨_,Turned.refl _,(L,r),⟨hstep,hLn,hmore⟩, ?_, ?_,hmu⟩
      ·(simp only [go_sem,F])
      ·have F:=chAV.eq_1
       (simp only [go_sem,F])
     ·have m1:=fin x hxL
      have F:=ai hx<|ai p1<|ai p2<|ai m1<|w2
      repeat refine st ?_
      refine⟨j+1,⟨hlt,fun m y hm hy=> ?_⟩, ?_, ?_,by omega⟩
      ·rcases Nat.lt_succ_iff_lt_or_eq.1 hm with e | e
       ·exact hno m y e hy
       ·rw [e,hx] at hy; cases hy; exact hxL
      ·(simp only [go_sem,F])
      ·have F:=chAV.eq_1
       (simp only [go_sem,F])
    ·obtain rfl:j=KK.length:=by omega
     have p1: ¬(KK.length:Int)< (KK.length:Int):=by omega
     have hany:(kidZ c (k:Int)).any (fun k=>L.contains k)=false:=by
      rw [List.any_eq_false]
      intro y hy
      rw [hKK] at hy
      obtain⟨m,hm⟩:=List.mem_iff_getElem?.1 hy
      have:=hno m y (List.getElem?_eq_some_iff.1 hm).1 hm
      simpa using this
     by_cases h0:0<=s.initial
     ·have hnew:newK c L k=[s.initial]:=by
       unfold newK
       rw [if_pos hpl,if_neg (by rw [hany]; simp),hini,if_pos h0]
      have F:=ai p1<|ai h0<|ai q2<|ai hsk<|ai chAV.eq_1<|stAV.eq_1
      repeat refine st ?_
      refine⟨_,Turned.frozen 73 11 ⟨1,[[I s.initial]],3,true⟩ rfl (Nat.succ_ne_zero 0) (by simp only [go_sem]) (by simp only [go_sem]),[s.initial],hnew.symm, ?_, ?_⟩
      ·(simp only [go_sem,F])
      ·have F:=chAV.eq_1
       (simp only [go_sem,F])
     ·have hnew:newK c L k=[]:=by
       unfold newK
       rw [if_pos hpl,if_neg (by rw [hany]; simp),hini,if_neg h0]
      have F:=ai p1<|ai h0<|ai q2<|ai hsk<|ai chAV.eq_1<|stAV.eq_1
      repeat refine st ?_
      refine⟨_,Turned.nil 11 1 (by simp only [go_sem]),[],hnew.symm, ?_, ?_⟩
      ·(simp only [go_sem,F])
      ·have F:=chAV.eq_1
       (simp only [go_sem,F])
   ·have b1:(s.kind==1)=false:=by simpa using hk1
    rw [b1] at hpl
    have hnew:newK c L k=KK:=by
     unfold newK
     rw [if_neg (by rw [hpl]; simp),hKK]
    have F:=b1
    repeat refine st ?_
    refine⟨_,Turned.frozen 41 11 ⟨1,KK.map intAV,3,true⟩ rfl (Nat.succ_ne_zero 0) (by simp only [go_sem]) (by simp only [go_sem]),KK,hnew.symm, ?_, ?_⟩
    ·(simp only [go_sem,F])
    ·have F:=chAV.eq_1
     (simp only [go_sem,F])
  ·intro K us es hK
   have hKn2:K.Nodup:=by rw [hK]; exact zhC c L k
   have hKz: ∀x∈K,inZ c x=true:=fun x hx=>by
    rw [hK] at hx
    exact(zei hc (zl3 h hx)).1
   have hK32b:K.length<=32:=Nat.le_trans (zdh hKn2 hKz) hlen
   have hadd:zbN L K K.length=addK c L k:=by unfold zbN addK; rw [List.take_length,hK]
   have hr32:r.length<=32:=by rw [<-hT,List.length_cons] at hT32; omega
   repeat (first | refine oO rfl (by simp only [go_sem,chAV]; exact⟨rfl,rfl⟩) ?_ | refine gR ?_ | refine gO ?_ | refine oZ (zau ?_) | refine oZ ?_ | refine oS ?_ | refine gT ?_ | refine gD Tryz.mixed ?_ | refine oB ?_ | refine oK ?_ | (refine oX ?_; simp only [zam,zag, ↓reduceIte,Nat.reduceEqDiff,reduceCtorEq]) | refine oY (by simp only [go_sem,chAV]; exact iR) ?_ | refine oN (by simp only [go_sem,chAV]; exact iR) ?_)
   refine zac (D:=Nat) (fun j vs=>[(0, .ref 9 [tabCells c] 0 0),(1, .seq 1 ((L++zbN L K j).map intAV)),(5, .loc 5 (vs 5) 0 0),(6, .mp 18 (vs 18)),(9, .seq 1 ((r++zbN L K j).map intAV)),(74, .seq 1 (K.map intAV)),(75,I K.length),(76,I j)]) (fun j _=>[(5,⟨5,[chAV c],26,false⟩),(18,⟨0,zc9 (L++zbN L K j),345,true⟩)]) (fun j _ _=>j<=K.length) (fun j=>K.length-j) 0 ?_ ?_ ?_ ?_
   ·exact Nat.zero_le _
   ·have:zbN L K 0=[]:=rfl
    rw [this,List.append_nil,List.append_nil]
    (simp only [go_sem,chAV])
    try rfl
   ·have:zbN L K 0=[]:=rfl
    rw [this,List.append_nil]
    (simp only [go_sem,chAV])
    try rfl
   rintro j us es hj
   by_cases hlt:j<K.length
   ·obtain⟨x,hx⟩: ∃x,K[j]? =some x:=⟨K[j],List.getElem?_eq_getElem hlt⟩
    have p1:=nlt hlt
    have p2:=zab hlt (by omega)
    have hnx:=zn0 (L:=L) hx
    have hal:(zbN L K j).length<=32:=Nat.le_trans (List.length_filter_le ..) (by rw [List.length_take]; omega)
    refine zd2 ?_
    by_cases hxL:x∈L
    ·rw [if_pos (List.contains_iff_mem.2 hxL)] at hnx
     obtain⟨p,m1,m2⟩:=zgD (n:=0) (show x∈L++zbN L K j from List.mem_append_left _ hxL)
     have m3:=zeZ x (L++zbN L K j) 0
     rw [m1,Nat.zero_add] at m3
     have m4:=zqq m2
     have F:=ai hx<|ai p1<|ai p2<|ai m3<|m4
     repeat refine st ?_
     refine⟨_,Turned.refl _,j+1,hlt, ?_, ?_,by omega⟩
     ·have F:=hnx
      (simp only [go_sem,F])
     ·have F:=ai hnx<|chAV.eq_1
      (simp only [go_sem,F])
    ·have hxn:x∉L++zbN L K j:=fun hh=>by
      rcases List.mem_append.1 hh with hh | hh
      ·exact hxL hh
      ·exact zhB hKn2 hx (zqy.1 hh).1
     rw [if_neg (by simpa using hxL)] at hnx
     have m3:=zeZ x (L++zbN L K j) 0
     rw [zeI hxn] at m3
     have e1:zc9 (L++zbN L K (j+1))=zc9 (L++zbN L K j)++[[I x,I 1]]:=by rw [hnx, <-List.append_assoc]; exact zjP _ _
     have e2:L++zbN L K (j+1)=(L++zbN L K j)++[x]:=by rw [hnx,List.append_assoc]
     have e3:r++zbN L K (j+1)=(r++zbN L K j)++[x]:=by rw [hnx,List.append_assoc]
     have hf1:Fits ((L++zbN L K j).length+1) 8:=zah (by rw [List.length_append]; omega) (by omega)
     have hf2:Fits ((r++zbN L K j).length+1) 8:=zah (by rw [List.length_append]; omega) (by omega)
     generalize hA:L++zbN L K j=A at*
     generalize hB:r++zbN L K j=B at*
     have F:=ai hx<|ai p1<|ai p2<|ai m3<|ai w1<|ai hf1<|hf2
     repeat refine st ?_
     refine⟨_,(Turned.frozen 96 1 ⟨1,(A++[x]).map intAV,3,true⟩ rfl (Nat.succ_ne_zero 0) (by simp only [go_sem,List.map_append]) (by simp only [go_sem])).trans (Turned.frozen 105 9 ⟨1,(B++[x]).map intAV,3,true⟩ rfl (Nat.succ_ne_zero 0) (by simp only [go_sem,List.map_append]) (by simp only [go_sem])),j+1,hlt, ?_, ?_,by omega⟩
     ·have F:=ai e2<|e3
      (simp only [go_sem,F])
     ·have F:=ai e1<|chAV.eq_1
      (simp only [go_sem,F])
   ·obtain rfl:j=K.length:=by omega
    have p1: ¬(K.length:Int)< (K.length:Int):=by omega
    rw [hadd]
    have F:=p1
    repeat refine st ?_
    refine⟨(L++addK c L k,r++addK c L k),⟨hstep,hnext,hmore⟩, ?_, ?_,hmu⟩
    ·(simp only [go_sem,F])
    ·have F:=chAV.eq_1
     (simp only [go_sem,F])
end
section
open Go.RowKit
def leadL (c:ChD) (tg:Int) (mem:List MemD):List Int:=match at_ c tg with
 | some s=>if zay s=true then(match mem.find? (fun m=>m.1==tg) with
   | some m=>m.2
   | none=>[s.initial]) else [tg]
 | none=>[]
theorem zkq {c:ChD} (h:Right c) {i k1 k2 m:Int} (z1:inZ c k1=true) (z2:inZ c k2=true) (p1:parZ c k1=i) (p2:parZ c k2=i) (hm:inZ c m=true) (c1:m=k1\/k1∈upL c m) (c2:m=k2\/k2∈upL c m):k1=k2:=by
 obtain⟨a,_,rfl,_⟩:=zcD z1
 obtain⟨b,_,rfl,_⟩:=zcD z2
 obtain⟨m,_,rfl,_⟩:=zcD hm
 have:=zlh h (zdC.2 ⟨zaR.1 z1,p1⟩) (zdC.2 ⟨zaR.1 z2,p2⟩) (m+1) m (by omega) (zaR.1 hm) (c1.imp (by omega) id) (c2.imp (by omega) id)
 omega
theorem zmw {c:ChD} (h:Right c) {d:Int} : ∀(n:Nat) (t:Int),t<n->aboveB c d t=true-> ∃k,(k=t\/(k∈upL c t/\aboveB c d k=true))/\inZ c k=true/\parZ c k=d
 | 0,t,hn,ha=>by
   cases hh:inZ c t with
   | true=>have:=zak.1 hh; omega
   | false=>unfold aboveB at ha; rw [zbC hh] at ha; simp at ha
 | n+1,t,hn,ha=>by
   have hz:inZ c t=true:=by
    cases hh:inZ c t with
    | true=>rfl
    | false=>unfold aboveB at ha; rw [zbC hh] at ha; simp at ha
   rcases (zbv h hz).1 ha with e | e
   ·exact⟨t, .inl rfl,hz,e⟩
   ·have hp:=zbP h hz
    obtain⟨k,hk,k1,k2⟩:=zmw h n (parZ c t) (by omega) e
    refine⟨k, .inr ?_,k1,k2⟩
    rcases hk with rfl | ⟨hk,hd⟩
    ·exact⟨(zbD h hz).2 (.inl rfl),e⟩
    ·exact⟨(zbD h hz).2 (.inr hk),hd⟩
theorem zaQ {c:ChD} {d x:Int} (h:aboveB c d x=true):inZ c x=true:=by
 cases hh:inZ c x with
 | true=>rfl
 | false=>unfold aboveB at h; rw [zbC hh] at h; simp at h
theorem zlH {c:ChD} (h:Right c) {a b d:Int} (h1:aboveB c a b=true) (h2:aboveB c b d=true):aboveB c a d=true:=by
 have hz:=zak.1 (zaQ h2)
 unfold aboveB at*
 rw [List.contains_iff_mem] at*
 exact zdN h (c.states.length) d b a hz.2 h2 h1
theorem zkx {c:ChD} (h:Right c) {a b:Int} : ∀(n:Nat) (t:Int),t<n->a∈upL c t->b∈upL c t->a=b\/a∈upL c b\/b∈upL c a
 | 0,t,hn,ha,_=>by
   cases hh:inZ c t with
   | true=>have:=zak.1 hh; omega
   | false=>rw [zbC hh] at ha; simp at ha
 | n+1,t,hn,ha,hb=>by
   have hz:inZ c t=true:=by
    cases hh:inZ c t with
    | true=>rfl
    | false=>rw [zbC hh] at ha; simp at ha
   have hp:=zbP h hz
   rw [zbD h hz] at ha hb
   rcases ha with rfl | ha
   ·rcases hb with rfl | hb
    ·exact .inl rfl
    ·exact .inr (.inr hb)
   ·rcases hb with rfl | hb
    ·exact .inr (.inl ha)
    ·exact zkx h n _ (by omega) ha hb
theorem zti {c:ChD} (h:Full c) {src tg:Int} (hs:inZ c src=true) (ht:inZ c tg=true):aboveB c (domE c src tg) tg=true/\domE c src tg∈upL c src/\(domE c src tg= -1\/(0<=domE c src tg/\zbj c (domE c src tg)=true)):=by
 have hr:=h.toRight
 have root: ∀ {x},inZ c x=true-> -1∈upL c x:=fun {x} hx=>zh9 hr (c.states.length) x hx (zak.1 hx).2
 unfold domE
 cases hf:(upL c src).find? (domP c tg) with
 | none=>
   rw [List.find?_eq_none] at hf
   exact absurd rfl (hf _ (root hs))
 | some d=>
   have h1:=List.find?_some hf
   have h2:=List.mem_of_find?_eq_some hf
   have h3:=(zfB hr 40 _ _ h2).1
   simp only [Option.getD_some]
   unfold domP at h1
   rw [Bool.or_eq_true,decide_eq_true_eq,Bool.and_eq_true] at h1
   rcases h1 with h1 | h1
   ·have:d= -1:=by omega
    subst this
    exact⟨by unfold aboveB; rw [List.contains_iff_mem]; exact root ht,h2, .inl rfl⟩
   ·refine⟨h1.2,h2, ?_⟩
    rcases Int.lt_or_le d 0 with q | q
    ·exact .inl (by omega)
    ·exact .inr ⟨q,h1.1⟩
structure Uni (c:ChD) (d:Int) (P:List Int):Prop where
 real: ∀k∈P,∃s,at_ c k=some s/\zay s=false
 bel: ∀k∈P,aboveB c d k=true
 up: ∀k∈P,parZ c k=d\/parZ c k∈P
 one: ∀x,zbj c x=true\/x= -1-> ∀k1∈P,∀k2∈P,parZ c k1=x->parZ c k2=x->k1=k2
 has: ∃k∈P,parZ c k=d
theorem zjw {c:ChD} {x:Int} (h:zax c x=true): ∃s,at_ c x=some s/\zay s=false:=by
 obtain⟨s,hs,hk⟩:=zcV h
 refine⟨s,hs, ?_⟩
 unfold zay
 rcases hk with e | e<;>simp [e]
theorem zoe {c:ChD} (h:Full c) {d:Int} {l:List Int} (hl: ∀x∈l,aboveB c d x=true/\ ∃s,at_ c x=some s/\zay s=false) (hne:l≠[]) (_hd: -1<=d)
 (hone: ∀x,zbj c x=true\/x= -1-> ∀k1∈upsL c l d,∀k2∈upsL c l d,parZ c k1=x->parZ c k2=x->k1=k2):Uni c d (upsL c l d):=by
 have hr:=h.toRight
 have hm:=(zer (c:=c) (d:=d) (l:=l)).2
 have hbel: ∀k∈upsL c l d,aboveB c d k=true:=fun k hk=>by
  rcases (hm k).1 hk with hk | ⟨_,_,_,_,hk⟩
  ·exact(hl k hk).1
  ·exact hk
 refine⟨fun k hk=> ?_,hbel,fun k hk=> ?_,hone, ?_⟩
 ·rcases (hm k).1 hk with hk | ⟨i,hi,h1,h2,_⟩
  ·exact(hl k hk).2
  ·exact zjw (zia h (c.states.length) i k (zak.1 (zaQ (hl i hi).1)).2 h1 h2)
 ·have hz:=zaQ (hbel k hk)
  rcases (zbv hr hz).1 (hbel k hk) with e | e
  ·exact .inl e
  ·refine .inr ((hm _).2 (.inr ?_))
   have h0:0<=parZ c k:=(zak.1 (zaQ e)).1
   rcases (hm k).1 hk with hk | ⟨i,hi,h1,h2,_⟩
   ·exact⟨k,hk,(zbD hr hz).2 (.inl rfl),h0,e⟩
   ·exact⟨i,hi,zdN hr (c.states.length) i k _ (zak.1 (zaQ (hl i hi).1)).2 h1 ((zbD hr hz).2 (.inl rfl)),h0,e⟩
 ·obtain⟨t,ht⟩:=List.exists_mem_of_ne_nil l hne
  obtain⟨k,hk,k1,k2⟩:=zmw hr (c.states.length) t (zak.1 (zaQ (hl t ht).1)).2 (hl t ht).1
  refine⟨k,(hm k).2 ?_,k2⟩
  rcases hk with rfl | ⟨hk,e⟩
  ·exact .inl ht
  ·exact .inr ⟨t,ht,hk,(zak.1 k1).1,e⟩
theorem zoi {c:ChD} (h:Full c) {d t:Int} (ha:aboveB c d t=true) (hd: -1<=d) (hr: ∃s,at_ c t=some s/\zay s=false):Uni c d (upsL c [t] d):=by
 have hm:=(zer (c:=c) (d:=d) (l:=[t])).2
 have hc: ∀k∈upsL c [t] d,inZ c k=true/\(t=k\/k∈upL c t):=fun k hk=>by
  rcases (hm k).1 hk with hk | ⟨i,hi,h1,h2,_⟩
  ·rw [List.mem_singleton.1 hk]; exact⟨zaQ ha, .inl rfl⟩
  ·rw [List.mem_singleton.1 hi] at h1; exact⟨(zde h.toRight h1 h2).1, .inr h1⟩
 refine zoe h (fun x hx=>by rw [List.mem_singleton.1 hx]; exact⟨ha,hr⟩) (by simp) hd fun x _ k1 h1 k2 h2 e1 e2=> ?_
 exact zkq h.toRight (hc k1 h1).1 (hc k2 h2).1 e1 e2 (zaQ ha) (hc k1 h1).2 (hc k2 h2).2
theorem zle {act:List Int} {ks:List Nat} (h:manyI act ks<=1) {a b:Int} (ha:a∈zL ks) (hb:b∈zL ks) (h1:a∈act) (h2:b∈act):a=b:=by
 rw [<-zgv] at h
 have m1:a∈(zL ks).filter fun k=>act.contains k:=List.mem_filter.2 ⟨ha,by simpa using h1⟩
 have m2:b∈(zL ks).filter fun k=>act.contains k:=List.mem_filter.2 ⟨hb,by simpa using h2⟩
 generalize (zL ks).filter (fun k=>act.contains k)=q at*
 match q,h with
 | [],_=>simp at m1
 | [x],_=>rw [List.mem_singleton.1 m1,List.mem_singleton.1 m2]
theorem zqN {c:ChD} (h:Full c) {d p:Int} (hp:zax c p=true) {l:List Int} (hb:znH c p l=true) (hd: -1<=d) (hdp:d=p\/aboveB c d p=true):Uni c d (upsL c l d):=by
 have hr:=h.toRight
 unfold znH at hb
 rw [Bool.and_eq_true,Bool.and_eq_true,List.all_eq_true,List.all_eq_true] at hb
 obtain⟨⟨b1,b2⟩,b3⟩:=hb
 have hlp: ∀x∈l,aboveB c p x=true/\ ∃s,at_ c x=some s/\zay s=false:=fun x hx=>by
  have:=b2 x hx
  unfold zbE at this
  rw [Bool.and_eq_true,Bool.and_eq_true] at this
  refine⟨this.1.1, ?_⟩
  have:=this.1.2
  split at this
  ·rename_i s hs; exact⟨s,hs,by simpa using this⟩
  ·cases this
 have hdx: ∀x,aboveB c p x=true->aboveB c d x=true:=fun x hx=>by
  rcases hdp with rfl | e
  ·exact hx
  ·exact zlH hr e hx
 have hm:=(zer (c:=c) (d:=d) (l:=l)).2
 have hz: ∀k∈upsL c l d,inZ c k=true:=fun k hk=>by
  rcases (hm k).1 hk with hk | ⟨_,_,_,_,hk⟩
  ·exact zaQ (hlp k hk).1
  ·exact zaQ hk
 have hpz:inZ c p=true:=by
  obtain⟨s,hs,_⟩:=zcV hp
  unfold at_ at hs
  split at hs
  ·rename_i h0
   have:=(List.getElem?_eq_some_iff.1 hs).1
   exact zak.2 ⟨h0,by omega⟩
  ·cases hs
 obtain⟨t,ht⟩:=List.exists_mem_of_ne_nil l (zkV b1)
 refine zoe h (fun x hx=>⟨hdx x (hlp x hx).1,(hlp x hx).2⟩) (zkV b1) hd fun x hx k1 h1 k2 h2 e1 e2=> ?_
 have tri: ∀k∈upsL c l d,aboveB c p k=true\/p=k\/k∈upL c p:=fun k hk=>by
  rcases (hm k).1 hk with hk | ⟨i,hi,q1,q2,_⟩
  ·exact .inl (hlp k hk).1
  ·have hip:p∈upL c i:=List.contains_iff_mem.1 (hlp i hi).1
   rcases zkx hr (c.states.length) i (zak.1 (zaQ (hlp i hi).1)).2 hip q1 with e | e | e
   ·exact .inr (.inl e)
   ·exact .inl (List.contains_iff_mem.2 e)
   ·exact .inr (.inr e)
 have low: ∀k,k∈upsL c l d->aboveB c p k=true->k∈deepRA c p l:=fun k hk ha=>by
  unfold deepRA
  rw [List.mem_append,zl0 hr fun x hx=>zaQ (hlp x hx).1,zer.2]
  rcases (hm k).1 hk with hk | ⟨i,hi,q1,q2,_⟩
  ·exact .inl (.inl hk)
  ·exact .inl (.inr ⟨i,hi,q1,q2,ha⟩)
 have hreal: ∀k∈upsL c l d,k∈kidZ c (parZ c k):=fun k hk=>by
  obtain⟨j,s,rfl,hs,ha⟩:=zcD (hz k hk)
  refine List.mem_map.2 ⟨j,ztf hs (zcN hs).symm ?_,rfl⟩
  rcases (hm _).1 hk with hk | ⟨i,hi,q1,q2,_⟩
  ·obtain⟨s',e,e2⟩:=(hlp _ hk).2
   rw [ha] at e; cases e; exact e2
  ·obtain⟨s',e,e2⟩:=zjw (zia h (c.states.length) i _ (zak.1 (zaQ (hlp i hi).1)).2 q1 q2)
   rw [ha] at e; cases e; exact e2
 have both: ∀ka kb,ka∈upsL c l d->kb∈upsL c l d->parZ c ka=x->parZ c kb=x->aboveB c p ka=true->ka=kb:=fun ka kb ha hb ea eb hap=>by
  have hkb:aboveB c p kb=true:=by
   have:=(zbv hr (hz ka ha)).1 hap
   rw [ea, <-eb] at this
   exact(zbv hr (hz kb hb)).2 this
  have hxd:x∈deepRA c p l:=by
   rcases (zbv hr (hz ka ha)).1 hap with e | e
   ·unfold deepRA
    rw [<-ea,e]
    simp
   ·have hx0:0<=parZ c ka:=(zak.1 (zaQ e)).1
    rw [ea] at e hx0
    refine low x ((hm x).2 (.inr ?_)) e
    have hup:x∈upL c ka:=(zbD hr (hz ka ha)).2 (.inl ea.symm)
    rcases (hm ka).1 ha with q | ⟨i,hi,q1,q2,_⟩
    ·exact⟨ka,q,hup,hx0,hdx x e⟩
    ·exact⟨i,hi,zdN hr (c.states.length) i ka x (zak.1 (zaQ (hlp i hi).1)).2 q1 hup,hx0,hdx x e⟩
  have hc:=b3 x hxd
  unfold zbG at hc
  cases hs:at_ c x with
  | none=>rw [hs] at hc; cases hc
  | some s=>
    have hpl:zbj c x=true:=hx.resolve_right fun e=>by rw [e] at hs; simp [at_] at hs
    rw [zct hs] at hpl
    rw [hs] at hc
    have hk1:s.kind=1:=by simpa using hpl
    simp only [hk1] at hc
    have hle:manyI (deepRA c p l) (kidsL c x true)<=1:=by
     simp at hc
     omega
    have r1:=hreal ka ha
    have r2:=hreal kb hb
    rw [ea] at r1
    rw [eb] at r2
    exact zle hle r1 r2 (low ka ha hap) (low kb hb hkb)
 rcases tri k1 h1 with a | a
 ·exact both k1 k2 h1 h2 e1 e2 a
 ·rcases tri k2 h2 with b | b
  ·exact(both k2 k1 h2 h1 e2 e1 b).symm
  ·exact zkq hr (hz k1 h1) (hz k2 h2) e1 e2 hpz a b
theorem zrf {c:ChD} (h:Full c) {d tg:Int} (hz:inZ c tg=true) {mem:List MemD} (hm:zdi c mem=true) (ha:aboveB c d tg=true) (hd: -1<=d):Uni c d (upsL c (leadL c tg mem) d):=by
 have hr:=h.toRight
 obtain⟨k,s,rfl,hs,hat⟩:=zcD hz
 unfold leadL
 rw [hat]
 simp only
 by_cases hmy:zay s=true
 ·rw [if_pos hmy]
  obtain⟨q1,q2,q3,q4,q5⟩:=zpu h hs hmy
  have hdp:d=s.parent\/aboveB c d s.parent=true:=by
   have:=(zbv hr hz).1 ha
   rw [zcN hs] at this
   exact this.imp Eq.symm id
  have kidcase: ∀t∈kidZ c s.parent,Uni c d (upsL c [t] d):=fun t ht=>by
   obtain⟨t1,t2,_⟩:=zei hr ht
   refine zoi h ((zbv hr t1).2 (by rw [t2]; exact hdp.imp Eq.symm id)) hd ?_
   obtain⟨j,hj,rfl⟩:=List.mem_map.1 ht
   obtain⟨s',e1,_,e2,_⟩:=zr3 hj
   exact⟨s',by rw [zbL]; exact e1,e2⟩
  cases hf:mem.find? (fun m=>m.1==(k:Int)) with
  | none=>
    refine kidcase _ ?_
    rcases h.cases hs with⟨e,_⟩ | ⟨e,_⟩ | ⟨e,_⟩ | ⟨_,_,_,e⟩
    ·omega
    ·omega
    ·omega
    ·obtain⟨j,hj,e⟩:=zlm.1 e
     exact List.mem_map.2 ⟨j,hj,e⟩
  | some m=>
    have e1:=List.find?_some hf
    have e2:=(ziA hm).2 m (List.mem_of_find?_eq_some hf)
    simp only [beq_iff_eq] at e1
    unfold memB at e2
    rw [e1,hat] at e2
    simp only at e2 |-
    split at e2
    ·rw [Bool.and_eq_true,decide_eq_true_eq] at e2
     obtain⟨t,ht⟩:=List.length_eq_one_iff.1 e2.1
     rw [ht] at e2 |-
     exact kidcase t (by simpa using e2.2)
    ·rw [Bool.and_eq_true,zkk h q2] at e2
     exact zqN h q2 e2.2 hd hdp
 ·rw [if_neg hmy]
  exact zoi h ha hd ⟨s,hat,by simpa using hmy⟩
end
section
open Go.RowKit
abbrev memsAV (l:List MemD):AV:= .seq 2 (l.map mmAV)
theorem zrj {s:StD} :zay s=false->s.kind≠4/\s.kind≠5:=fun h=>by
 unfold zay at h
 simpa using h
def znw (s:StD) (k:Int) (mem:List MemD):List Int:=match mem.find? (fun m=>m.1==k) with | some m=>m.2 | none=>[s.initial]
theorem znu {s:StD} {k:Int} {mem:List MemD} {m:MemD} (h:mem.find? (fun m=>m.1==k)=some m):znw s k mem=m.2:=by unfold znw; rw [h]
theorem znv {s:StD} {k:Int} {mem:List MemD} (h:mem.find? (fun m=>m.1==k)=none):znw s k mem=[s.initial]:=by unfold znw; rw [h]
theorem zpf (env:Env) (c:ChD) (hc:Right c) (hs:Small c) (k:Nat) (s:StD) (hsk:c.states[k]? =some s) (mem:List MemD) (hl:mem.length<=1000000) (hm: ∀m∈mem,m.2.length<=4096):Con Tryz.prog env 275 [zaj c,I k,memsAV mem] (.own 3 1 ((leadL c k mem).map intAV)):=by
 have hlen:=hc.few
 have f0:=zaA env c hs
 have hk:=(List.getElem?_eq_some_iff.1 hsk).1
 have q0:((k:Nat):Int)< (c.states.length:Int):=by omega
 have hat:at_ c (k:Int)=some s:=by rw [zbL]; exact hsk
 have hlead:leadL c k mem=if zay s=true then(znw s k mem) else [(k:Int)]:=by unfold leadL; rw [hat]; rfl
 rw [hlead]
 unfold zaj at f0 |-
 cases hmy:zay s with
 | false=>
   rw [if_neg (by simp)]
   obtain⟨n4,n5⟩:=zrj hmy
   have b4:(s.kind==4)=false:=by simpa using n4
   have b5:(s.kind==5)=false:=by simpa using n5
   refine zaa Tryz.func275 rfl Tryz.call275 (by rw [Tryz.ntmps275]; simp) ?_
   rw [Tryz.ntmps275,Tryz.results275]
   have F:=ai chAV.eq_1<|ai stAV.eq_1<|ai q0<|ai hsk<|ai b4<|ai b5<|bneA
   repeat (first | refine st ?_ | refine cC f0 ?_)
   exact aR
 | true=>
   rw [if_pos rfl]
   have hk45:((s.kind==4)=true)\/((s.kind==4)=false/\(s.kind==5)=true):=by
    unfold zay at hmy
    cases h4:(s.kind==4) with
    | true=>exact .inl rfl
    | false=>rw [h4] at hmy; exact .inr ⟨rfl,by simpa using hmy⟩
   have main: ∀b4 b5:Bool,(s.kind==4)=b4->(s.kind==5)=b5->(b4=true\/b5=true)->Con Tryz.prog env 275 [.ref 9 [tabCells c] 0 0,I k,memsAV mem] (.own 3 1 ((znw s k mem).map intAV)):=fun b4 b5 h4 h5 hb=>by
    cases b4<;>cases b5<;>(try simp at hb)<;>
    ·refine zaa Tryz.func275 rfl Tryz.call275 (by rw [Tryz.ntmps275]; simp) ?_
     rw [Tryz.ntmps275,Tryz.results275]
     have F:=ai chAV.eq_1<|ai stAV.eq_1<|ai q0<|ai hsk<|ai h4<|ai h5<|bneA
     repeat (first | refine st ?_ | refine cC f0 ?_)
     refine zac (D:=Nat) (fun j vs=>[(1,I k),(7, .loc 7 (vs 7) 0 0),(27,memsAV mem),(28,I mem.length),(29,I j)]) (fun _ _=>[(7,⟨5,[chAV c],26,false⟩)]) (fun j _ _=>j<=mem.length/\mem.find? (fun m=>m.1==(k:Int))=(mem.drop j).find? (fun m=>m.1==(k:Int))) (fun j=>mem.length-j) 0 ?_ ?_ ?_ ?_
     ·exact⟨Nat.zero_le _,rfl⟩
     ·(simp only [go_sem,F])
      try rfl
     ·have F:=chAV.eq_1
      (simp only [go_sem,F])
      try rfl
     rintro j ws esc ⟨hj,hf⟩
     by_cases hlt:j<mem.length
     ·obtain⟨x,hx⟩: ∃x,mem[j]? =some x:=⟨mem[j],List.getElem?_eq_getElem hlt⟩
      have q1:=nlt hlt
      have q2:=zab hlt (by omega)
      rw [zjY hx] at hf
      have f1:=zbX env (x.2.map intAV) (by rw [List.length_map]; exact hm x (List.mem_of_getElem? hx))
      cases he:(x.1==(k:Int)) with
      | true=>
        rw [he] at hf
        simp only [if_true] at hf
        rw [znu hf]
        have F:=ai mmAV.eq_1<|ai hx<|ai q1<|he
        repeat (first | refine st ?_ | refine cC f1 ?_)
        exact aR
      | false=>
        rw [he] at hf
        simp only [Bool.false_eq_true,if_false] at hf
        have F:=ai mmAV.eq_1<|ai hx<|ai q1<|ai q2<|he
        repeat (first | refine st ?_ | refine cC f1 ?_)
        refine⟨j+1,⟨hlt,hf⟩, ?_, ?_,by omega⟩
        ·(simp only [go_sem,F])
        ·have F:=chAV.eq_1
         (simp only [go_sem,F])
     ·obtain rfl:j=mem.length:=by omega
      have q1: ¬(mem.length:Int)< (mem.length:Int):=by omega
      rw [List.drop_length,List.find?_nil] at hf
      rw [znv hf]
      have F:=ai chAV.eq_1<|ai stAV.eq_1<|ai q0<|ai q1<|hsk
      repeat (first | refine st ?_ | refine cC f0 ?_)
      exact aR
   rcases hk45 with h4 | ⟨h4,h5⟩
   ·exact main _ _ h4 rfl (.inl rfl)
   ·exact main _ _ h4 h5 (.inr rfl)
theorem zmd {c:ChD} (h:Full c) {l:List Int} (hn:l.Nodup) (hz: ∀x∈l,inZ c x=true):(growL c l).length<=32:=by
 refine Nat.le_trans (zdh (zek c _ _ _ hn) fun x hx=> ?_) h.toRight.few
 exact((zdY h hn).1 hx).in h hz
def tgtL (c:ChD) (src tg:Int) (mem:List MemD):List Nat:=sortL c (growL c (upsL c (leadL c tg mem) (domE c src tg)))
theorem zsC {c:ChD} (h:Full c) {tg:Int} (hz:inZ c tg=true) {mem:List MemD} (hm:zdi c mem=true):(∀x∈leadL c tg mem,inZ c x=true)/\(leadL c tg mem).length<=1000000:=by
 obtain⟨d1,_,d3⟩:=zti h hz hz
 have hu:=zrf h hz hm d1 (by rcases d3 with e | e<;>omega)
 have h1: ∀x∈leadL c tg mem,inZ c x=true:=fun x hx=>zaQ (hu.bel x ((zer.2 x).2 (.inl hx)))
 refine⟨h1, ?_⟩
 unfold leadL
 split
 ·rename_i s hs
  split
  ·split
   ·rename_i m hf
    have e2:=(ziA hm).2 m (List.mem_of_find?_eq_some hf)
    unfold memB at e2
    split at e2
    ·split at e2
     ·rw [Bool.and_eq_true,decide_eq_true_eq] at e2; omega
     ·unfold deepB at e2
      simp only [Bool.and_eq_true] at e2
      have hr:=e2.2.1.1.1
      have hnd:m.2.Nodup:=zdT hr
      have hin: ∀x∈m.2,inZ c x=true:=fun x hx=>by
       have:=List.all_eq_true.1 e2.2.1.1.2 x hx
       unfold zch at this
       rw [Bool.and_eq_true] at this
       exact zaQ this.1
      exact Nat.le_trans (zdh hnd hin) (by have:=h.toRight.few; omega)
    ·cases e2
   ·simp
  ·simp
 ·simp
theorem zmP (env:Env) (c:ChD) (h:Full c) (hs:Small c) (t:TrD) (hsrc:inZ c t.src=true) (htg:inZ c t.target=true) (mem:List MemD) (hl:mem.length<=1000000) (hm: ∀m∈mem,m.2.length<=4096) (hmem:zdi c mem=true):
 Con Tryz.prog env 220 [zaj c, .agg (trAV t),memsAV mem] (.own 3 1 ((tgtL c t.src t.target mem).map zaf)):=by
 have hc:=h.toRight
 obtain⟨k,s,e,hsk,_⟩:=zcD htg
 obtain⟨l1,l2⟩:=zsC h htg hmem
 obtain⟨u1,u2⟩:=zer (c:=c) (d:=domE c t.src t.target) (l:=leadL c t.target mem)
 have u3: ∀x∈upsL c (leadL c t.target mem) (domE c t.src t.target),inZ c x=true:=fun x hx=>by
  rcases (u2 x).1 hx with h | ⟨i,_,q1,q2,_⟩
  ·exact l1 x h
  ·exact(zde hc q1 q2).1
 have f0:=zaN env c
 have f1:=zpf env c hc hs k s hsk mem hl hm
 rw [<-e] at f1
 have f2:=zhT env c hc hs t hsrc
 have f3:=zrY env c hc (leadL c t.target mem) l2 l1 (domE c t.src t.target)
 have f4:=zme env c h hs _ u1 u3
 have f5:=zcq env c hc (growL c (upsL c (leadL c t.target mem) (domE c t.src t.target))) (by have:=zmd h u1 u3; omega)
 unfold tgtL
 generalize growL c (upsL c (leadL c t.target mem) (domE c t.src t.target))=G at*
 generalize upsL c (leadL c t.target mem) (domE c t.src t.target)=U at*
 generalize leadL c t.target mem=A at*
 unfold trAV at f2
 unfold zao at f0 f5
 unfold zaj at f0 f1 f2 f3 f4 |-
 refine zaa Tryz.func220 rfl Tryz.call220 (by rw [Tryz.ntmps220]; simp) ?_
 rw [Tryz.ntmps220,Tryz.results220]
 have F:=trAV.eq_1
 repeat (first | refine st ?_ | refine cC f0 ?_ | refine cC f1 ?_ | refine cC f2 ?_ | refine cC f3 ?_ | refine cC f4 ?_ | refine cC f5 ?_)
 exact aR
end
section
open Go.RowKit
theorem zf5 {α:Type} {l:List α} {n:Nat} {x:α} (h:l[n]? =some x):l.take (n+1)=l.take n++[x]:=by rw [List.take_add_one,h]; rfl
theorem zp5 {α:Type} {l:List α} {n:Nat} {x:α} (h:l[n]? =some x):l.drop n=x::l.drop (n+1):=by
 obtain⟨hn,he⟩:=List.getElem?_eq_some_iff.1 h
 rw [List.drop_eq_getElem_cons hn,he]
def idxQ (p:Int->Bool):List Int->Option Nat
 | []=>none
 | d::l=>if p d=true then some 0 else(idxQ p l).map (· +1)
def idxJ:Option Nat->Int
 | some i=>i
 | none=> -1
theorem zgE {p:Int->Bool} : ∀ {l:List Int} {i:Nat},idxQ p l=some i->i<l.length/\l.take i=(l.take i).filter (fun d=> !p d)/\ ∃d,l[i]? =some d/\p d=true
 | [],i,h=>by simp [idxQ] at h
 | d::l,i,h=>by
   unfold idxQ at h
   split at h
   ·rename_i hp
    cases h
    exact⟨by simp,by simp,d,rfl,hp⟩
   ·rename_i hp
    cases hi:idxQ p l with
    | none=>rw [hi] at h; cases h
    | some j=>
      rw [hi] at h
      cases h
      obtain⟨h1,h2,x,h3,h4⟩:=zgE hi
      refine⟨by simp; omega, ?_,x,by simpa using h3,h4⟩
      have hp:p d=false:=by simpa using hp
      simp only [List.take_succ_cons,List.filter_cons,hp,Bool.not_false,if_true]
      rw [<-h2]
theorem zgF {p:Int->Bool} : ∀ {l:List Int},idxQ p l=none->l.filter (fun d=> !p d)=l/\ ∀d∈l,p d=false
 | [],h=>by simp
 | d::l,h=>by
   unfold idxQ at h
   split at h
   ·cases h
   ·rename_i hp
    have hp:p d=false:=by simpa using hp
    cases hi:idxQ p l with
    | some j=>rw [hi] at h; cases h
    | none=>
      obtain⟨h1,h2⟩:=zgF hi
      refine⟨by simp only [List.filter_cons,hp,Bool.not_false,if_true,h1],fun x hx=> ?_⟩
      rcases List.mem_cons.1 hx with rfl | hx
      ·exact hp
      ·exact h2 x hx
theorem zps {p:Int->Bool} {l:List Int} {n:Nat} {d:Int} (hd:l[n]? =some d):idxQ p (l.drop n)=if p d=true then some 0 else(idxQ p (l.drop (n+1))).map (· +1):=by
 rw [zp5 hd]
 rfl
theorem zgC (env:Env) (l:List Int) (p:Int->Bool) (g:FuncId) (caps:List (List AV)) (hp: ∀d,Con Tryz.prog env g [I d, .ref 1 caps 0 0] (B (p d))) (hl:l.length<=4096):Con Tryz.prog env 267 [.seq 1 (l.map intAV), .clo g [.ref 1 caps 0 0]] (I (idxJ (idxQ p l))):=by
 refine zaa Tryz.func267 rfl Tryz.call267 (by rw [Tryz.ntmps267]; simp) ?_
 rw [Tryz.ntmps267,Tryz.results267]
 repeat refine st0 ?_
 refine zac (D:=Nat) (fun n vs=>[(0, .seq 1 (l.map intAV)),(1, .clo g [.ref 1 caps 0 0]),(7,I l.length),(8,I n)]) (fun n vs=>[]) (fun n _ esc=>n<=l.length/\idxQ p l=(idxQ p (l.drop n)).map (· +n)) (fun n=>l.length-n) 0 ?_ ?_ ?_ ?_
 ·exact⟨Nat.zero_le _,by simp⟩
 ·(simp only [go_sem])
 ·(simp only [go_sem])
 rintro n vs esc ⟨hn,hi⟩
 by_cases hlt:n<l.length
 ·obtain⟨d,hd⟩: ∃x,l[n]? =some x:=⟨l[n],List.getElem?_eq_getElem hlt⟩
  have g1:=nlt hlt
  have g2:=zab hlt (by omega)
  have f1:=hp d
  rw [zps hd] at hi
  cases h1:p d
  ·rw [h1] at hi f1
   simp only [Bool.false_eq_true,if_false] at hi
   have F:=ai g1<|g2
   repeat (first | refine oO rfl (by simp only [go_sem,hd,F]; exact⟨rfl,rfl⟩) ?_ | refine gR ?_ | refine gO ?_ | refine oZ (zau ?_) | refine oZ ?_ | refine oS ?_ | refine gT ?_ | refine gD Tryz.mixed ?_ | refine oB ?_ | refine oK ?_ | (refine oX ?_; simp only [zam,zag, ↓reduceIte,Nat.reduceEqDiff,reduceCtorEq]) | refine oY (by simp only [go_sem,hd,F]; exact iR) ?_ | refine oN (by simp only [go_sem,hd,F]; exact iR) ?_)
   refine oC (zco rfl (by simp only [go_sem,hd,F]; exact iR)) (f1) (by simp only [go_sem,hd,F]; exact iR) (by simp only [go_sem,hd,F]; exact⟨rfl,rfl⟩) ?_
   repeat (first | refine oO rfl (by simp only [go_sem,hd,F]; exact⟨rfl,rfl⟩) ?_ | refine gR ?_ | refine gO ?_ | refine oZ (zau ?_) | refine oZ ?_ | refine oS ?_ | refine gT ?_ | refine gD Tryz.mixed ?_ | refine oB ?_ | refine oK ?_ | (refine oX ?_; simp only [zam,zag, ↓reduceIte,Nat.reduceEqDiff,reduceCtorEq]) | refine oY (by simp only [go_sem,hd,F]; exact iR) ?_ | refine oN (by simp only [go_sem,hd,F]; exact iR) ?_)
   refine⟨n+1,⟨hlt, ?_⟩, ?_, ?_, ?_⟩
   ·rw [hi]
    cases idxQ p (l.drop (n+1))
    ·rfl
    ·simp; omega
   ·(simp only [go_sem,hd,F])
   ·(simp only [go_sem,hd,F])
   ·omega
  ·rw [h1] at hi f1
   simp only [if_true,Option.map_some,Nat.zero_add] at hi
   rw [hi]
   have F:=ai g1<|g2
   repeat (first | refine oO rfl (by simp only [go_sem,hd,idxJ,F]; exact⟨rfl,rfl⟩) ?_ | refine gR ?_ | refine gO ?_ | refine oZ (zau ?_) | refine oZ ?_ | refine oS ?_ | refine gT ?_ | refine gD Tryz.mixed ?_ | refine oB ?_ | refine oK ?_ | (refine oX ?_; simp only [zam,zag, ↓reduceIte,Nat.reduceEqDiff,reduceCtorEq]) | refine oY (by simp only [go_sem,hd,idxJ,F]; exact iR) ?_ | refine oN (by simp only [go_sem,hd,idxJ,F]; exact iR) ?_)
   refine oC (zco rfl (by simp only [go_sem,hd,idxJ,F]; exact iR)) (f1) (by simp only [go_sem,hd,idxJ,F]; exact iR) (by simp only [go_sem,hd,idxJ,F]; exact⟨rfl,rfl⟩) ?_
   repeat (first | refine oO rfl (by simp only [go_sem,hd,idxJ,F]; exact⟨rfl,rfl⟩) ?_ | refine gR ?_ | refine gO ?_ | refine oZ (zau ?_) | refine oZ ?_ | refine oS ?_ | refine gT ?_ | refine gD Tryz.mixed ?_ | refine oB ?_ | refine oK ?_ | (refine oX ?_; simp only [zam,zag, ↓reduceIte,Nat.reduceEqDiff,reduceCtorEq]) | refine oY (by simp only [go_sem,hd,idxJ,F]; exact iR) ?_ | refine oN (by simp only [go_sem,hd,idxJ,F]; exact iR) ?_)
   (refine zae ?_; show (zar _ _ _).run _=some _; simp only [go_sem,hd,idxJ,F])
 ·have g1: ¬(n:Int)< (l.length:Int):=by omega
  rw [List.drop_of_length_le (by omega)] at hi
  rw [hi]
  have F:=g1
  repeat (first | refine oO rfl (by simp only [go_sem,idxJ,idxQ,F]; exact⟨rfl,rfl⟩) ?_ | refine gR ?_ | refine gO ?_ | refine oZ (zau ?_) | refine oZ ?_ | refine oS ?_ | refine gT ?_ | refine gD Tryz.mixed ?_ | refine oB ?_ | refine oK ?_ | (refine oX ?_; simp only [zam,zag, ↓reduceIte,Nat.reduceEqDiff,reduceCtorEq]) | refine oY (by simp only [go_sem,idxJ,idxQ,F]; exact iR) ?_ | refine oN (by simp only [go_sem,idxJ,idxQ,F]; exact iR) ?_)
  (refine zae ?_; show (zar _ _ _).run _=some _; simp only [go_sem,idxJ,idxQ,F])
end
section
open Go.RowKit
end
section
open Go.RowKit
def ztG (G act:List Int):List Int:=act.filter fun i=> !G.contains i
def moved (G act:List Int) (T:List Nat):List Int:=Lib.compact (zgc (ztG G act++zL T))
end
section
open Go.RowKit Go.ChangeShapes
theorem Tryz.tabArr:Tryz.prog.underlying 317=some (.array 32 5):=by kernel_rfl
theorem zsN:Tryz.prog.cellsOf 5=1:=by kernel_rfl
theorem zs3 {W:World} {g t:Nat} {cs:Array Value} {fuel:Nat} {p:List MemPlace} (hg:Tryz.prog.globalNamed "math/bits.deBruijn32tab" =some g) (ht:(Tryz.prog.globals[g]?).map (·.type)=some t) (hv:W.var? Tryz.prog "math/bits.deBruijn32tab" =some cs)
 (hd:DataW.trod (fun _=>()) Tryz.prog W 0 (fun _=>true) false fuel t cs.toList=some (Rows.laid_math_bits_deBruijn32tab,p)):TabAt W:=by
 obtain rfl:10=g:=Option.some.inj ((show Tryz.prog.globalNamed "math/bits.deBruijn32tab" =some 10 by kernel_rfl).symm.trans hg)
 obtain rfl:317=t:=Option.some.inj ((show (Tryz.prog.globals[10]?).map (·.type)=some 317 by kernel_rfl).symm.trans ht)
 obtain⟨xs,m,_,hx,_,hxl,hgx⟩:=DataW.trod_array Tryz.tabArr hd
 simp only [Prod.mk.injEq] at hx
 intro j hj
 have h1:=hgx j hj
 rw [zsN,Nat.mul_one] at h1
 have hjx:xs[j]? =some (xs[j]'(by omega)):=List.getElem?_eq_getElem _
 rw [hjx] at h1
 obtain⟨nn,e1,e2,_⟩:=DataW.trod_int Tryz.underlying5 h1
 have hcell:cs[j]? =some (.int .u8 nn):=by
  have:((cs.toList.drop j).take 1)[0]? =some (.int .u8 nn):=by rw [e1]; rfl
  rw [List.getElem?_take,if_pos (by omega),List.getElem?_drop,Nat.add_zero] at this
  simpa using this
 have hval:(Rows.laid_math_bits_deBruijn32tab:DataW Unit)= .agg (xs.map (·.1)):=hx.1
 have hlist:(xs.map (·.1))[j]? =(Lib.deBruijn32tab.map fun(k:Nat)=>DataW.lit (H:=Unit) (.int .u8 (k:Int)))[j]? :=by
  have e:(Lib.deBruijn32tab.map fun(k:Nat)=>DataW.lit (H:=Unit) (.int .u8 (k:Int)))=xs.map (·.1):=by
   have:DataW.agg (Lib.deBruijn32tab.map fun(k:Nat)=>DataW.lit (H:=Unit) (.int .u8 (k:Int)))=DataW.agg (xs.map (·.1)):=by
    rw [<-hval]
    rfl
   injection this
  rw [e]
 rw [List.getElem?_map,hjx,List.getElem?_map] at hlist
 have hdb:Lib.deBruijn32tab[j]? =some (Lib.deBruijn32tab.getD j 0):=by
  have:j<Lib.deBruijn32tab.length:=by simpa [Lib.deBruijn32tab] using hj
  simp [List.getD,List.getElem?_eq_getElem this]
 rw [hdb] at hlist
 simp only [Option.map_some,Option.some.injEq,e2] at hlist
 have hn:nn=((Lib.deBruijn32tab.getD j 0:Nat):Int):=by
  have:=hlist
  injection this with this
  injection this
 rw [World.var?_cell hg hv j,hcell,hn]
theorem zrE {P:Program} {env:Env} {f:FuncId} {cs:List AV} {u:Value} {w:World} {vs:List Value} (h:Con P env f cs (.lit u)) (hE:EnvOk env (fun b _=>b<w.heap.size) w) (hv:RAs (fun b _=>b<w.heap.size) w vs cs):
 Calls P f vs.toArray w fun e w'=>e= .returned u/\Below w.heap.size w w':=(zrF h hE (fun _ _ _=>by simp) hv).mono (by
 rintro e w' ⟨v,rfl,hb,_,hv⟩
 exact⟨by rw [hv.lit_inv],hb⟩)
end
section
open Go.RowKit Go.ChangeShapes
theorem zpg {W:World} (h:laidMetH Tryz.prog [("math/bits.deBruijn32tab",Rows.laid_math_bits_deBruijn32tab),("scrinium/api.ErrForm",Rows.laid_scrinium_api_ErrForm),("scrinium/api.ErrRange",Rows.laid_scrinium_api_ErrRange),("scrinium/api.ErrFull",Rows.laid_scrinium_api_ErrFull),("scrinium/api.ErrNone",Rows.laid_scrinium_api_ErrNone),("scrinium/api.ErrCorrupt",Rows.laid_scrinium_api_ErrCorrupt),("scrinium/api.ErrFuel",Rows.laid_scrinium_api_ErrFuel),("scrinium/api.ErrState",Rows.laid_scrinium_api_ErrState),("scrinium/api.ErrLong",Rows.laid_scrinium_api_ErrLong),("scrinium/api.ErrTwice",Rows.laid_scrinium_api_ErrTwice)] W):(∃ad,Sents W ad)/\TabAt W:=by
 rw [MakeChecks.laidMetH_plain _ _ _ (by kernel_rfl)] at h
 obtain⟨ps,hv,hnd,hrows⟩:=h
 obtain⟨g0,t0,cs0,f0,p0,q0,hg0,ht0,hv0,hd0,hrest,rfl⟩:=hv
 refine⟨zim ?_,zs3 hg0 ht0 hv0 hd0⟩
 rw [MakeChecks.laidMetH_plain _ _ _ (by kernel_rfl)]
 exact⟨q0,hrest,(List.nodup_append.1 hnd).2.1,fun b off hh=>hrows b off (List.mem_append_right _ hh)⟩
def zbq:More:=⟨fun w=>TabAt w,fun _ _ h hb=>TabAt.below h hb⟩
theorem zrc (ad:Nat->Addr):ChEnv (zbf ad zbq) (ad 1) (ad 8):=⟨rfl,rfl⟩
theorem zjF (ad:Nat->Addr): ∀W,(zbf ad zbq).inv W->TabAt W:=fun _ h=>h.2
end
section
open Go.RowKit
theorem zsH {c:ChD} (h:zjS c=true):(chk c).1=0:=by
 unfold zjS at h
 rw [Bool.and_eq_true,beq_iff_eq] at h
 exact h.2
end

end Go.Proofs.YtnbjaghjdeicmaaGreatDoor