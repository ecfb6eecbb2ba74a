/- Growing: the program's way. -/
import Derived.Test.YtlmekdfleciejaaGreatDoorD39
import Derived.Test.YtlmekdfleciejaaGreatDoorD7
set_option maxRecDepth 100000
set_option maxHeartbeats 16000000
set_option linter.unusedSimpArgs false
namespace Go.Proofs.YtlmekdfleciejaaGreatDoor
open Go.RowKit
theorem zi3 (l:List Int) (x:Int):zcU (l++[x])=zcU l++[[I x,I 1]]:=by unfold zcU; rw [List.map_append]; rfl
def zbD (L K:List Int) (j:Nat):List Int:=(K.take j).filter fun k=> !L.contains k
theorem zmF {L K:List Int} {j:Nat} {x:Int} (h:K[j]? =some x):zbD L K (j+1)=if L.contains x=true then zbD L K j else zbD L K j++[x]:=by
 unfold zbD
 rw [List.take_add_one,h,List.filter_append]
 cases hb:L.contains x<;>simp only [List.filter_cons,hb,Bool.not_true,Bool.not_false,Bool.false_eq_true,if_true,if_false,List.filter_nil,List.append_nil,Option.toList_some]
theorem zoV {L K:List Int} {j:Nat} {x:Int} :x∈zbD L K j↔x∈K.take j/\x∉L:=by
 unfold zbD
 rw [List.mem_filter]
 simp
theorem zgZ {K:List Int} (hn:K.Nodup) {j:Nat} {x:Int} (h:K[j]? =some x):x∉K.take j:=fun hh=>by
 obtain⟨k,hk,e⟩:=List.mem_take_iff_getElem.1 hh
 obtain⟨hj,e2⟩:=List.getElem?_eq_some_iff.1 h
 have:=(List.getElem_inj hn (h₀:=by omega) (h₁:=hj)).1 (e.trans e2.symm)
 omega
theorem zoP {l:List Int} {k:Int} {i:Nat} (h:l[i]? =some k):(zcU l)[i]? =some [I k,I 1]:=by unfold zcU; rw [List.getElem?_map,h]; rfl
theorem zlf (env:Env) (c:ChD) (h:Full c) (hs:Small c) (l:List Int) (hn:l.Nodup) (hz: ∀x∈l,inZ c x=true):Con Tryz.prog env 162 [zai c, .seq 1 (l.map intAV)] (.seq 1 ((growL c l).map intAV)):=by
 have hc:=h.toRight
 have hlen:=hc.few
 have hl32:l.length<=32:=Nat.le_trans (zc2 hn hz) hlen
 have f0:=zaG env c hs
 have w1:IntKind.i64.wrap (0+1)=1:=rfl
 have w2: ¬(0:Int)<0:=by omega
 have w3:(0:Int)<1:=by omega
 unfold zai at f0 |-
 refine zaa Tryz.func162 rfl Tryz.call162 (by rw [Tryz.ntmps162]; simp) ?_
 rw [Tryz.ntmps162,Tryz.results162]
 repeat refine st0 ?_
 refine zoM ?_
 have F:=chAV.eq_1
 repeat (first | refine st ?_ | refine cC f0 ?_)
 refine zab (D:=Nat) (fun j vs=>[(0, .ref 9 [tabCells c] 0 0),(1, .seq 1 (l.map intAV)),(5, .loc 5 (vs 5) 0 0),(6, .mp 18 (vs 18)),(19, .seq 1 (l.map intAV)),(20,I l.length),(21,I j)]) (fun j _=>[(5,⟨5,[chAV c],26,false⟩),(18,⟨0,zcU (l.take j),112,true⟩)]) (fun j _ _=>j<=l.length) (fun j=>l.length-j) 0 ?_ ?_ ?_ ?_
 ·exact Nat.zero_le _
 ·(simp only [go_sem,F])
  try rfl
 ·have F:=chAV.eq_1
  (simp only [go_sem,F])
  try rfl
 ·rintro j ws esc hj
  by_cases hlt:j<l.length
  ·obtain⟨x,hx⟩: ∃x,l[j]? =some x:=⟨l[j],List.getElem?_eq_getElem hlt⟩
   have q1:=nlt hlt
   have q2:=zac hlt (by omega)
   have hm:=zeS x (l.take j) 0
   rw [zes (zgZ hn hx)] at hm
   have ht:zcU (l.take (j+1))=zcU (l.take j)++[[I x,I 1]]:=by rw [List.take_add_one,hx]; exact zi3 _ _
   have F:=ai hx<|ai q1<|ai q2<|ai hm<|w1
   repeat refine st ?_
   refine⟨j+1,hlt, ?_, ?_,by omega⟩
   ·(simp only [go_sem,F])
   ·have F:=ht
    (simp only [go_sem,F])
  obtain rfl:j=l.length:=by omega
  have q1: ¬(l.length:Int)< (l.length:Int):=by omega
  rw [List.take_length]
  have F:=q1
  repeat refine st ?_
  refine zoN ?_
  show awp _ _ _ _ _ _
  repeat refine st ?_
  refine zab (D:=List Int×List Int) (fun d vs=>[(0, .ref 9 [tabCells c] 0 0),(1, .seq 1 (d.1.map intAV)),(5, .loc 5 (vs 5) 0 0),(6, .mp 18 (vs 18)),(9, .seq 1 (d.2.map intAV))]) (fun d _=>[(5,⟨5,[chAV c],26,false⟩),(18,⟨0,zcU d.1,112,true⟩)])
   (fun d _ _=>Grown c l d.1 d.2/\d.1.Nodup/\zdP c (missL c d.1+d.2.length) d.1 d.2=growL c l) (fun d=>missL c d.1+d.2.length) (l,l) ?_ ?_ ?_ ?_
  ·exact⟨zgk hn,hn,rfl⟩
  ·(simp only [go_sem,F])
   try rfl
  ·(simp only [go_sem,F])
   try rfl
  try clear hj hlt q1
  rintro⟨L,T⟩ ws esc ⟨hg,hLn,hgr⟩
  simp only at hg hLn hgr
  have hLz: ∀x∈L,inZ c x=true:=fun x hx=>(hg.gr x hx).in h hz
  have hL32:L.length<=32:=Nat.le_trans (zc2 hLn hLz) hlen
  have hT32:T.length<=32:=Nat.le_trans (zc2 hg.nd fun x hx=>hLz x (hg.todo x hx)) hlen
  cases T with
  | nil=>
    have hL:growL c l=L:=by
     rw [<-hgr]
     cases missL c L+([]:List Int).length<;>rfl
    rw [hL]
    have q1: ¬(0:Int)<0:=by omega
    have F:=q1
    repeat refine st ?_
    exact aR
  | cons i r=>
  have hi:=hg.todo i (by simp)
  obtain⟨k,s,rfl,hsk,hat⟩:=zb0 (hLz i hi)
  have hk:=(List.getElem?_eq_some_iff.1 hsk).1
  have q1:(0:Int)< (((k:Int)::r).length:Int):=by simp only [List.length_cons]; omega
  have q2:((k:Nat):Int)< (c.states.length:Int):=by omega
  have q3:(((k:Int)::r).drop 1).take (((k:Int)::r).length-1)=r:=by simp
  have q4:(1:Int)<=(((k:Int)::r).length:Int):=by simp only [List.length_cons]; omega
  have q5:((k:Int)::r)[0]? =some (k:Int):=rfl
  have f1:=zbI env c h k
  rw [if_pos (.inr (hLz _ hi)), <-ze8] at f1
  unfold zai at f1
  have hKd:zL (kidsL c (k:Int) true)=kidZ c (k:Int):=rfl
  rw [hKd] at f1
  have hpl:=zhO hsk
  have hini:iniZ c (k:Int)=s.initial:=by unfold iniZ; rw [hat]
  have hstep:=hg.step h
  have hmiss:=zeh (c:=c) (l:=L) (zb9 c L k) fun x hx=>⟨(zcn h hx).1,(zcn h hx).2.1⟩
  have hgr':zdP c (missL c L+r.length) (L++addK c L k) (r++addK c L k)=growL c l:=by
   rw [<-hgr,List.length_cons,show missL c L+(r.length+1)=(missL c L+r.length)+1 by omega]
   rfl
  have hmore:zdP c (missL c (L++addK c L k)+(r++addK c L k).length) (L++addK c L k) (r++addK c L k)=growL c l:=by
   rw [<-hgr']
   refine zi4 h hstep ?_ ?_
   ·exact Nat.le_refl _
   ·rw [List.length_append]; omega
  have hnext:(L++addK c L k).Nodup:=by
   rw [List.nodup_append]
   exact⟨hLn,zb9 c L k,fun x hx y hy e=>(zcn h hy).1 (by rw [<-e]; exact hx)⟩
  have hmu:missL c (L++addK c L k)+(r++addK c L k).length<missL c L+((k:Int)::r).length:=by
   rw [List.length_append,List.length_cons]; omega
  generalize hKK:kidZ c (k:Int)=KK at*
  have hKn:KK.Nodup:=by rw [<-hKK]; exact zg3 c k
  have hK32:KK.length<=32:=by
   rw [<-hKK,kidZ,zdQ]; exact zbz hc k true
  have fin: ∀x:Int,x∉L->mfind Tryz.prog 3 (I x) (zcU L) 0=some none:=fun x hx=>by rw [zeS,zes hx]
  have fyes: ∀x:Int,x∈L-> ∃p,mfind Tryz.prog 3 (I x) (zcU L) 0=some (some p)/\(zcU L)[p]? =some [I x,I 1]:=fun x hx=>by
   obtain⟨p,h1,h2⟩:=zgi (n:=0) hx
   exact⟨p,by rw [zeS,h1,Nat.zero_add],zoP h2⟩
  generalize hT:(k:Int)::r=T at*
  have F:=ai q1<|ai q2<|ai q3<|ai q4<|ai q5<|ai hsk<|ai chAV.eq_1<|stAV.eq_1
  repeat (first | refine st ?_ | refine cC f1 ?_)
  refine zqE (D:=List Int) (fun K vs=>[(0, .ref 9 [tabCells c] 0 0),(1, .seq 1 (L.map intAV)),(5, .loc 5 (vs 5) 0 0),(6, .mp 18 (vs 18)),(9, .seq 1 (r.map intAV)),(11, .seq 1 (K.map intAV))]) (fun _ _=>[(5,⟨5,[chAV c],26,false⟩),(18,⟨0,zcU L,112,true⟩)]) (fun K _ _=>K=newK c L k) ?_ ?_
  ·refine zh8 ?_
   by_cases hk1:s.kind=1
   ·have b1:(s.kind==1)=true:=by simp [hk1]
    rw [b1] at hpl
    have F:=b1
    repeat refine st ?_
    refine zab (D:=Nat) (fun j vs=>[(0, .ref 9 [tabCells c] 0 0),(1, .seq 1 (L.map intAV)),(5, .loc 5 (vs 5) 0 0),(6, .mp 18 (vs 18)),(9, .seq 1 (r.map intAV)),(10,I k),(49, .row 41 (vs 41)),(50,I KK.length),(51,I j)]) (fun _ _=>[(5,⟨5,[chAV c],26,false⟩),(18,⟨0,zcU L,112,true⟩),(41,⟨1,KK.map intAV,3,true⟩)]) (fun j _ _=>j<=KK.length/\ ∀m (y:Int),m<j->KK[m]? =some y->y∉L) (fun j=>KK.length-j) 0 ?_ ?_ ?_ ?_
    ·exact⟨Nat.zero_le _,fun m y hm=>absurd hm (by omega)⟩
    ·(simp only [go_sem,F])
     try rfl
    ·have F:=chAV.eq_1
     (simp only [go_sem,F])
     try rfl
    rintro j us es ⟨hj,hno⟩
    by_cases hlt:j<KK.length
    ·obtain⟨x,hx⟩: ∃x,KK[j]? =some x:=⟨KK[j],List.getElem?_eq_getElem hlt⟩
     have p1:=nlt hlt
     have p2:=zac hlt (by omega)
     by_cases hxL:x∈L
     ·obtain⟨p,m1,m2⟩:=fyes x hxL
      have hnk:addK c L k=[]:=by
       unfold addK newK
       rw [if_pos hpl,hKK,if_pos (List.any_eq_true.2 ⟨x,List.mem_of_getElem? hx,List.contains_iff_mem.2 hxL⟩)]
       rfl
      rw [hnk,List.append_nil,List.append_nil] at hmore hmu hstep
      have F:=ai hx<|ai p1<|ai p2<|ai m1<|ai m2<|w3
      repeat refine st ?_
      refine⟨_,Turned.refl _,(L,r),⟨hstep,hLn,hmore⟩, ?_, ?_,hmu⟩
      ·(simp only [go_sem,F])
      ·have F:=chAV.eq_1
       (simp only [go_sem,F])
     ·have m1:=fin x hxL
      have F:=ai hx<|ai p1<|ai p2<|ai m1<|w2
      repeat refine st ?_
      refine⟨j+1,⟨hlt,fun m y hm hy=> ?_⟩, ?_, ?_,by omega⟩
      ·rcases Nat.lt_succ_iff_lt_or_eq.1 hm with e | e
       ·exact hno m y e hy
       ·rw [e,hx] at hy; cases hy; exact hxL
      ·(simp only [go_sem,F])
      ·have F:=chAV.eq_1
       (simp only [go_sem,F])
    ·obtain rfl:j=KK.length:=by omega
     have p1: ¬(KK.length:Int)< (KK.length:Int):=by omega
     have hany:(kidZ c (k:Int)).any (fun k=>L.contains k)=false:=by
      rw [List.any_eq_false]
      intro y hy
      rw [hKK] at hy
      obtain⟨m,hm⟩:=List.mem_iff_getElem?.1 hy
      have:=hno m y (List.getElem?_eq_some_iff.1 hm).1 hm
      simpa using this
     by_cases h0:0<=s.initial
     ·have hnew:newK c L k=[s.initial]:=by
       unfold newK
       rw [if_pos hpl,if_neg (by rw [hany]; simp),hini,if_pos h0]
      have F:=ai p1<|ai h0<|ai q2<|ai hsk<|ai chAV.eq_1<|stAV.eq_1
      repeat refine st ?_
      refine⟨_,Turned.frozen 73 11 ⟨1,[[I s.initial]],3,true⟩ rfl (Nat.succ_ne_zero 0) (by simp only [go_sem]) (by simp only [go_sem]),[s.initial],hnew.symm, ?_, ?_⟩
      ·(simp only [go_sem,F])
      ·have F:=chAV.eq_1
       (simp only [go_sem,F])
     ·have hnew:newK c L k=[]:=by
       unfold newK
       rw [if_pos hpl,if_neg (by rw [hany]; simp),hini,if_neg h0]
      have F:=ai p1<|ai h0<|ai q2<|ai hsk<|ai chAV.eq_1<|stAV.eq_1
      repeat refine st ?_
      refine⟨_,Turned.nil 11 1 (by simp only [go_sem]),[],hnew.symm, ?_, ?_⟩
      ·(simp only [go_sem,F])
      ·have F:=chAV.eq_1
       (simp only [go_sem,F])
   ·have b1:(s.kind==1)=false:=by simpa using hk1
    rw [b1] at hpl
    have hnew:newK c L k=KK:=by
     unfold newK
     rw [if_neg (by rw [hpl]; simp),hKK]
    have F:=b1
    repeat refine st ?_
    refine⟨_,Turned.frozen 41 11 ⟨1,KK.map intAV,3,true⟩ rfl (Nat.succ_ne_zero 0) (by simp only [go_sem]) (by simp only [go_sem]),KK,hnew.symm, ?_, ?_⟩
    ·(simp only [go_sem,F])
    ·have F:=chAV.eq_1
     (simp only [go_sem,F])
  ·intro K us es hK
   have hKn2:K.Nodup:=by rw [hK]; exact zg0 c L k
   have hKz: ∀x∈K,inZ c x=true:=fun x hx=>by
    rw [hK] at hx
    exact(zcz hc (zk3 h hx)).1
   have hK32b:K.length<=32:=Nat.le_trans (zc2 hKn2 hKz) hlen
   have hadd:zbD L K K.length=addK c L k:=by unfold zbD addK; rw [List.take_length,hK]
   have hr32:r.length<=32:=by rw [<-hT,List.length_cons] at hT32; omega
   repeat (first | refine oO rfl (by simp only [go_sem,chAV]; exact⟨rfl,rfl⟩) ?_ | refine gR ?_ | refine gO ?_ | refine oZ (zb5 ?_) | refine oZ ?_ | refine oS ?_ | refine gT ?_ | refine gD Tryz.mixed ?_ | refine oB ?_ | refine oK ?_ | (refine oX ?_; simp only [zaQ,zaE, ↓reduceIte,Nat.reduceEqDiff,reduceCtorEq]) | refine oY (by simp only [go_sem,chAV]; exact iR) ?_ | refine oN (by simp only [go_sem,chAV]; exact iR) ?_)
   refine zab (D:=Nat) (fun j vs=>[(0, .ref 9 [tabCells c] 0 0),(1, .seq 1 ((L++zbD L K j).map intAV)),(5, .loc 5 (vs 5) 0 0),(6, .mp 18 (vs 18)),(9, .seq 1 ((r++zbD L K j).map intAV)),(74, .seq 1 (K.map intAV)),(75,I K.length),(76,I j)]) (fun j _=>[(5,⟨5,[chAV c],26,false⟩),(18,⟨0,zcU (L++zbD L K j),112,true⟩)]) (fun j _ _=>j<=K.length) (fun j=>K.length-j) 0 ?_ ?_ ?_ ?_
   ·exact Nat.zero_le _
   ·have:zbD L K 0=[]:=rfl
    rw [this,List.append_nil,List.append_nil]
    (simp only [go_sem,chAV])
    try rfl
   ·have:zbD L K 0=[]:=rfl
    rw [this,List.append_nil]
    (simp only [go_sem,chAV])
    try rfl
   rintro j us es hj
   by_cases hlt:j<K.length
   ·obtain⟨x,hx⟩: ∃x,K[j]? =some x:=⟨K[j],List.getElem?_eq_getElem hlt⟩
    have p1:=nlt hlt
    have p2:=zac hlt (by omega)
    have hnx:=zmF (L:=L) hx
    have hal:(zbD L K j).length<=32:=Nat.le_trans (List.length_filter_le ..) (by rw [List.length_take]; omega)
    refine zh8 ?_
    by_cases hxL:x∈L
    ·rw [if_pos (List.contains_iff_mem.2 hxL)] at hnx
     obtain⟨p,m1,m2⟩:=zgi (n:=0) (show x∈L++zbD L K j from List.mem_append_left _ hxL)
     have m3:=zeS x (L++zbD L K j) 0
     rw [m1,Nat.zero_add] at m3
     have m4:=zoP m2
     have F:=ai hx<|ai p1<|ai p2<|ai m3<|m4
     repeat refine st ?_
     refine⟨_,Turned.refl _,j+1,hlt, ?_, ?_,by omega⟩
     ·have F:=hnx
      (simp only [go_sem,F])
     ·have F:=ai hnx<|chAV.eq_1
      (simp only [go_sem,F])
    ·have hxn:x∉L++zbD L K j:=fun hh=>by
      rcases List.mem_append.1 hh with hh | hh
      ·exact hxL hh
      ·exact zgZ hKn2 hx (zoV.1 hh).1
     rw [if_neg (by simpa using hxL)] at hnx
     have m3:=zeS x (L++zbD L K j) 0
     rw [zes hxn] at m3
     have e1:zcU (L++zbD L K (j+1))=zcU (L++zbD L K j)++[[I x,I 1]]:=by rw [hnx, <-List.append_assoc]; exact zi3 _ _
     have e2:L++zbD L K (j+1)=(L++zbD L K j)++[x]:=by rw [hnx,List.append_assoc]
     have e3:r++zbD L K (j+1)=(r++zbD L K j)++[x]:=by rw [hnx,List.append_assoc]
     have hf1:Fits ((L++zbD L K j).length+1) 8:=zah (by rw [List.length_append]; omega) (by omega)
     have hf2:Fits ((r++zbD L K j).length+1) 8:=zah (by rw [List.length_append]; omega) (by omega)
     generalize hA:L++zbD L K j=A at*
     generalize hB:r++zbD L K j=B at*
     have F:=ai hx<|ai p1<|ai p2<|ai m3<|ai w1<|ai hf1<|hf2
     repeat refine st ?_
     refine⟨_,(Turned.frozen 96 1 ⟨1,(A++[x]).map intAV,3,true⟩ rfl (Nat.succ_ne_zero 0) (by simp only [go_sem,List.map_append]) (by simp only [go_sem])).trans (Turned.frozen 105 9 ⟨1,(B++[x]).map intAV,3,true⟩ rfl (Nat.succ_ne_zero 0) (by simp only [go_sem,List.map_append]) (by simp only [go_sem])),j+1,hlt, ?_, ?_,by omega⟩
     ·have F:=ai e2<|e3
      (simp only [go_sem,F])
     ·have F:=ai e1<|chAV.eq_1
      (simp only [go_sem,F])
   ·obtain rfl:j=K.length:=by omega
    have p1: ¬(K.length:Int)< (K.length:Int):=by omega
    rw [hadd]
    have F:=p1
    repeat refine st ?_
    refine⟨(L++addK c L k,r++addK c L k),⟨hstep,hnext,hmore⟩, ?_, ?_,hmu⟩
    ·(simp only [go_sem,F])
    ·have F:=chAV.eq_1
     (simp only [go_sem,F])
end Go.Proofs.YtlmekdfleciejaaGreatDoor
