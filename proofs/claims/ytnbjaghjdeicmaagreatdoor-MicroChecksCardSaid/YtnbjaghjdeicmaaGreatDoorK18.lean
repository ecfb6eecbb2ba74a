/- Ways up and growing, as the program does them. -/
import Derived.Test.YtnbjaghjdeicmaaGreatDoorK16
import Derived.Test.YtnbjaghjdeicmaaGreatDoorK10
import Derived.Test.YtnbjaghjdeicmaaGreatDoorK5
import Derived.Test.YtnbjaghjdeicmaaGreatDoorK17
import Derived.Test.YtnbjaghjdeicmaaGreatDoorK13
import Derived.Shelf.Slices.Reverse
import Derived.Shelf.Slices.CompactI
set_option linter.unusedSimpArgs false
namespace Go.Proofs.YtnbjaghjdeicmaaGreatDoor
open Go.RowKit
set_option maxRecDepth 100000
set_option maxHeartbeats 8000000
theorem zoC (env:Env) (c:ChD) (hc:Right c) (i:Int):Con Tryz.prog env 74 [.agg (chAV c),I i] (.own 3 1 ((upL c i).map intAV)):=by
 have hlen:=hc.few
 have hul:(upL c i).length<=40:=zhn 40 i
 refine zaa Tryz.func74 rfl Tryz.call74 (by rw [Tryz.ntmps74]; simp) ?_
 rw [Tryz.ntmps74,Tryz.results74]
 have F:=chAV.eq_1
 repeat refine st ?_
 refine zac (D:=Int×List Int) (fun d vs=>[(1,I d.1),(2, .loc 2 (vs 2) 0 0),(5, .row 7 (vs 7)),(6,I d.2.length)]) (fun d _=>[(2,⟨5,[chAV c],26,false⟩),(7,⟨1,d.2.map intAV,3,true⟩)]) (fun d _ esc=>upL c i=d.2++upL c d.1/\esc 7=false/\(d.2=[]\/d.2.length<40-(d.1+1).toNat\/d.1<40)) (fun d=>(d.1+1).toNat) (i,[]) ?_ ?_ ?_ ?_
 ·exact⟨rfl,rfl, .inl rfl⟩
 ·(simp only [go_sem,F])
  try rfl
 ·have F:=chAV.eq_1
  (simp only [go_sem,F])
  try rfl
 rintro⟨d,l⟩ ws esc ⟨hu,e0, -⟩
 simp only at hu
 have f0:=zk2 env c d
 have hll:l.length<=40:=by have:=congrArg List.length hu; rw [List.length_append] at this; omega
 cases hz:inZ c d with
 | false=>
   rw [hz] at f0
   rw [zbC hz,List.append_nil] at hu
   by_cases h40:l.length<40
   ·have q1:(l.length:Int)<40:=by omega
    have F:=ai chAV.eq_1<|ai q1<|ai hu<|e0
    repeat (first | refine st ?_ | refine cC f0 ?_)
    exact aR
   ·have q1: ¬(l.length:Int)<40:=by omega
    have F:=ai chAV.eq_1<|ai q1<|ai hu<|e0
    repeat (first | refine st ?_ | refine cC f0 ?_)
    exact aR
 | true=>
   rw [hz] at f0
   obtain⟨k,s,rfl,hs,ha⟩:=zcD hz
   have hp:=zcN hs
   have hlt:=zbP hc hz
   rw [hp] at hlt
   rw [zib hc hz,hp] at hu
   have hl:l.length+1<=40:=by
    have:=congrArg List.length hu
    rw [List.length_append,List.length_cons] at this
    omega
   have q1:(l.length:Int)<40:=by omega
   have q2:((k:Nat):Int)< (c.states.length:Int):=by have:=(zak.1 hz).2; omega
   have q3:IntKind.i64.wrap ((l.length:Int)+1)=((l.length+1:Nat):Int):=zab (Nat.lt_succ_self _) (by omega)
   have hf:Fits (l.length+1) 8:=⟨by omega,by omega⟩
   have F:=ai chAV.eq_1<|ai stAV.eq_1<|ai q1<|ai q2<|ai q3<|ai hs<|ai hf<|e0
   repeat (first | refine st ?_ | refine cC f0 ?_)
   refine⟨(s.parent,l++[s.parent]),⟨?_,by simp only [go_sem,e0], ?_⟩, ?_, ?_, ?_⟩
   ·show upL c i=(l++[s.parent])++upL c s.parent
    rw [hu,List.append_assoc]
    rfl
   ·exact .inr (.inr (by show s.parent<40; omega))
   ·simp only [List.length_append,List.length_singleton]
    (simp only [go_sem,F])
   ·have F:=chAV.eq_1
    (simp only [go_sem,List.map_append,F])
   ·show (s.parent+1).toNat< ((k:Int)+1).toNat
    omega
theorem zfk (env:Env) (c:ChD) (hc:Right c) (k i:Int):Con Tryz.prog env 25 [.agg (chAV c),I k,I i] (B (aboveB c k i)):=by
 have hul:(upL c i).length<=40:=zhn 40 i
 have f0:=zoC env c hc i
 have f1:=zey env (upL c i) k (by omega)
 unfold chAV at f0
 unfold aboveB
 refine zaa Tryz.func25 rfl Tryz.call25 (by rw [Tryz.ntmps25]; simp) ?_
 rw [Tryz.ntmps25,Tryz.results25]
 have F:=chAV.eq_1
 repeat (first | refine st ?_ | refine cC f0 ?_ | refine cC f1 ?_)
 exact aR
theorem zn1 {c:ChD} (hc:Right c) {k i:Nat} (_hi:i<c.states.length):(mask c i).testBit k=aboveB c k i:=by
 unfold aboveB upL mask
 rw [ziC hc,Bool.eq_iff_iff,decide_eq_true_eq,List.contains_iff_mem]
theorem zcP (env:Env) (c:ChD) (hc:Right c) (k i:Int):Con Tryz.prog env 150 [zao c,I k,I i] (B (aboveB c k i)):=by
 have hlen:=hc.few
 have f0:=zic env c i
 cases hz:inZ c i with
 | false=>
   rw [hz] at f0
   have:aboveB c k i=false:=by unfold aboveB; rw [zbC hz]; rfl
   rw [this]
   refine zaa Tryz.func150 rfl Tryz.call150 (by rw [Tryz.ntmps150]; simp) ?_
   rw [Tryz.ntmps150,Tryz.results150]
   repeat (first | refine st0 ?_ | refine cC0 f0 ?_)
   exact aR0
 | true=>
   rw [hz] at f0
   obtain⟨m,s,rfl,hs,ha⟩:=zcD hz
   have hm:=(List.getElem?_eq_some_iff.1 hs).1
   by_cases e:k= -1
   ·subst e
    have:aboveB c (-1) m=true:=by unfold aboveB; rw [List.contains_iff_mem]; exact zh9 hc (m+1) m hz (by omega)
    rw [this]
    refine zaa Tryz.func150 rfl Tryz.call150 (by rw [Tryz.ntmps150]; simp) ?_
    rw [Tryz.ntmps150,Tryz.results150]
    repeat (first | refine st0 ?_ | refine cC0 f0 ?_)
    exact aR0
   ·have e1:(k == -1)=false:=by simpa using e
    have f1:=zic env c k
    cases hk:inZ c k with
    | false=>
      rw [hk] at f1
      have:aboveB c k m=false:=by
       cases hb:aboveB c k m with
       | false=>rfl
       | true=>
         unfold aboveB at hb
         have h1:=zfB hc 40 _ _ (List.contains_iff_mem.1 hb)
         rw [zak.2 ⟨by omega,by omega⟩] at hk
         cases hk
      rw [this]
      refine zaa Tryz.func150 rfl Tryz.call150 (by rw [Tryz.ntmps150]; simp) ?_
      rw [Tryz.ntmps150,Tryz.results150]
      have F:=e1
      repeat (first | refine st ?_ | refine cC f0 ?_ | refine cC f1 ?_)
      exact aR
    | true=>
      rw [hk] at f1
      obtain⟨p,sp,rfl,hps,_⟩:=zcD hk
      have hpl:=(List.getElem?_eq_some_iff.1 hps).1
      have hml:mask c m<4294967296:=ze0 hc (by omega)
      have f2:=zlO env (mask c m) hml p (by omega)
      rw [zn1 hc hm] at f2
      have g1:(mkTo c c.states.length)[m]? =some (mask c m):=by rw [zeh hm,if_pos hm]
      have g2:((m:Nat):Int)< (c.states.length:Int):=by omega
      have g3:=zbI c c.states.length
      refine zaa Tryz.func150 rfl Tryz.call150 (by rw [Tryz.ntmps150]; simp) ?_
      rw [Tryz.ntmps150,Tryz.results150]
      have F:=ai zao.eq_1<|ai umAV.eq_1<|ai e1<|ai g1<|ai g2<|g3
      repeat (first | refine st ?_ | refine cC f0 ?_ | refine cC f1 ?_ | refine cC f2 ?_)
      exact aR
def zaY:List Int->Int->Nat->Int
 | [],_,_=> -1
 | x::l,v,k=>if x=v then k else zaY l v (k+1)
theorem zpq {l:List Int} {v:Int} {k:Nat} {x:Int} (h:l[k]? =some x) (hn:zaY l v 0=zaY (l.drop k) v k):(x=v->zaY l v 0=k)/\(x≠v->zaY l v 0=zaY (l.drop (k+1)) v (k+1)):=by
 obtain⟨hk,rfl⟩:=List.getElem?_eq_some_iff.1 h
 rw [List.drop_eq_getElem_cons hk] at hn
 simp only [zaY] at hn
 exact⟨fun e=>by rw [hn,if_pos e],fun e=>by rw [hn,if_neg e]⟩
theorem zpr (v:Int): ∀(l:List Int) (k:Nat),decide (0<=zaY l v k)=l.contains v
 | [],k=>rfl
 | x::l,k=>by
   have ih:=zpr v l (k+1)
   by_cases e:x=v
   ·have e1:zaY (x::l) v k=k:=if_pos e
    rw [e1,Bool.eq_iff_iff,decide_eq_true_eq,List.contains_iff_mem]
    exact⟨fun _=>by rw [e]; exact List.mem_cons_self ..,fun _=>by omega⟩
   ·have e1:zaY (x::l) v k=zaY l v (k+1):=if_neg e
    rw [e1,ih,Bool.eq_iff_iff,List.contains_iff_mem,List.contains_iff_mem,List.mem_cons]
    exact⟨.inr,fun h=>h.resolve_left fun h=>e h.symm⟩
theorem znz (env:Env) (l:List Int) (v:Int) (hl:l.length<=1000000):Con Tryz.prog env 149 [.seq 1 (l.map intAV),I v] (I (zaY l v 0)):=by
 refine zaa Tryz.func149 rfl Tryz.call149 (by rw [Tryz.ntmps149]; simp) ?_
 rw [Tryz.ntmps149,Tryz.results149]
 repeat refine st0 ?_
 refine zac (D:=Nat) (fun k _=>[(0, .seq 1 (l.map intAV)),(1,I v),(7,I l.length),(8,I k)]) (fun _ _=>[]) (fun k _ _=>k<=l.length/\zaY l v 0=zaY (l.drop k) v k) (fun k=>l.length-k) 0 ?_ ?_ ?_ ?_
 ·exact⟨Nat.zero_le _,rfl⟩
 ·(simp only [go_sem])
 ·(simp only [go_sem])
 rintro k ws esc ⟨hk,hi⟩
 by_cases hlt:k<l.length
 ·obtain⟨x,hx,_⟩:=zan hlt
  obtain⟨yes,no⟩:=zpq hx hi
  have k1:=nlt hlt
  have k2:=zab hlt (by omega)
  by_cases e:x=v
  ·rw [yes e]
   have k3:(v==x)=true:=by simp [e]
   have F:=ai k1<|ai k2<|ai k3<|hx
   repeat refine st ?_
   exact aR
  ·have k3:(v==x)=false:=by simpa using fun h=>e h.symm
   have F:=ai k1<|ai k2<|ai k3<|hx
   repeat refine st ?_
   refine⟨k+1,⟨hlt,no e⟩, ?_, ?_, ?_⟩
   ·(simp only [go_sem,F])
   ·(simp only [go_sem,F])
   ·omega
 ·have k1: ¬(k:Int)< (l.length:Int):=by omega
  rw [hi,List.drop_of_length_le (by omega),show zaY [] v k= -1 from rfl]
  have F:=k1
  repeat refine st ?_
  exact aR
theorem zaM (env:Env) (l:List Int) (v:Int) (hl:l.length<=1000000):Con Tryz.prog env 72 [.seq 1 (l.map intAV),I v] (B (l.contains v)):=by
 have h:=zpr v l 0
 refine zaa Tryz.func72 rfl Tryz.call72 (by rw [Tryz.ntmps72]; simp) ?_
 rw [Tryz.ntmps72,Tryz.results72]
 repeat (first | refine st0 ?_ | refine cC0 (znz env l v hl) ?_)
 (refine zae ?_; show (zar _ _ _).run _=some _; simp only [go_sem])
 exact congrArg B h
theorem zlM (env:Env) (c:ChD) (hs:Small c) (k:Nat) (t:TrD) (ht:c.trans[k]? =some t):Con Tryz.prog env 216 [zaj c,I k] (.tuple [.agg (trAV t),B true]):=by
 have f0:=zaA env c hs
 have hk:=(List.getElem?_eq_some_iff.1 ht).1
 have g1:((k:Nat):Int)< (c.trans.length:Int):=by omega
 have g2: ¬(c.trans.length:Int)<=(k:Int):=by omega
 have g3: ¬((k:Nat):Int)<0:=by omega
 refine zaa Tryz.func216 rfl Tryz.call216 (by rw [Tryz.ntmps216]; simp) ?_
 rw [Tryz.ntmps216,Tryz.results216]
 have F:=ai chAV.eq_1<|ai trAV.eq_1<|ai g1<|ai g2<|ai g3<|ht
 repeat (first | refine st ?_ | refine cC f0 ?_)
 exact aR
theorem zlZ {c:ChD} {k:Nat} {s:StD} (hs:c.states[k]? =some s):zbj c k=(s.kind==1):=by unfold zbj; rw [zbL,hs]
theorem zhT (env:Env) (c:ChD) (hc:Right c) (hs:Small c) (t:TrD) (_hsrc:inZ c t.src=true):Con Tryz.prog env 218 [zaj c, .agg (trAV t)] (I (domE c t.src t.target)):=by
 have hlen:=hc.few
 have f0:=zaA env c hs
 have f1:=zaN env c
 have f2:=zkF env c hc t.src
 have hul:(upL c t.src).length<=40:=zhn 40 t.src
 have hrange: ∀x∈upL c t.src,x<0\/inZ c x=true:=fun x hx=>by
  rcases Int.lt_or_le x 0 with h | h
  ·exact .inl h
  ·exact .inr (zde hc hx h).1
 unfold domE
 generalize upL c t.src=U at*
 unfold zaj at f0 f1 |-
 refine zaa Tryz.func218 rfl Tryz.call218 (by rw [Tryz.ntmps218]; simp) ?_
 rw [Tryz.ntmps218,Tryz.results218]
 have F:=trAV.eq_1
 repeat (first | refine st ?_ | refine cC f0 ?_ | refine cC f1 ?_ | refine cC f2 ?_)
 refine zac (D:=Nat) (fun j vs=>[(0, .ref 9 [tabCells c] 0 0),(3, .loc 3 (vs 3) 0 0),(5, .loc 5 (vs 5) 0 0),(14, .row 14 (vs 14)),(15,I U.length),(16,I j)]) (fun j _=>[(3,⟨5,[trAV t],65,false⟩),(5,⟨5,[chAV c],26,false⟩),(14,⟨1,U.map intAV,3,true⟩)]) (fun j _ _=>j<=U.length/\U.find? (domP c t.target)=(U.drop j).find? (domP c t.target)) (fun j=>U.length-j) 0 ?_ ?_ ?_ ?_
 ·exact⟨Nat.zero_le _,rfl⟩
 ·have F:=ai trAV.eq_1<|chAV.eq_1
  (simp only [go_sem,F])
  try rfl
 ·have F:=ai trAV.eq_1<|chAV.eq_1
  (simp only [go_sem,F])
  try rfl
 rintro j ws esc ⟨hj,hf⟩
 by_cases hlt:j<U.length
 ·obtain⟨x,hx⟩: ∃x,U[j]? =some x:=⟨U[j],List.getElem?_eq_getElem hlt⟩
  have q1:=nlt hlt
  have q2:=zab hlt (by omega)
  rw [zjY hx] at hf
  rcases hrange x (List.mem_of_getElem? hx) with h0 | hz
  ·have hd:domP c t.target x=true:=by unfold domP; rw [decide_eq_true h0]; rfl
   rw [hd] at hf
   simp only [if_true] at hf
   rw [hf,Option.getD_some]
   have F:=ai hx<|q1
   repeat (first | refine oO rfl (by simp only [go_sem,h0,F]; exact⟨rfl,rfl⟩) ?_ | refine gR ?_ | refine gO ?_ | refine oZ (zau ?_) | refine oZ ?_ | refine oS ?_ | refine gT ?_ | refine gD Tryz.mixed ?_ | refine oB ?_ | refine oK ?_ | (refine oX ?_; simp only [zam,zag, ↓reduceIte,Nat.reduceEqDiff,reduceCtorEq]) | refine oY (by simp only [go_sem,h0,F]; exact iR) ?_ | refine oN (by simp only [go_sem,h0,F]; exact iR) ?_)
   (refine zae ?_; show (zar _ _ _).run _=some _; simp only [go_sem,h0,F])
  ·obtain⟨k,s,rfl,hsk,_⟩:=zcD hz
   have hk:=(List.getElem?_eq_some_iff.1 hsk).1
   have h0: ¬((k:Nat):Int)<0:=by omega
   have q3:((k:Nat):Int)< (c.states.length:Int):=by omega
   have hdp:domP c t.target (k:Int)=(zbj c (k:Int)&&aboveB c (k:Int) t.target):=by unfold domP; rw [decide_eq_false h0,Bool.false_or]
   have hpl:=zlZ hsk
   have f3:=zcP env c hc k t.target
   cases hk1:(s.kind==1) with
   | false=>
     rw [hdp,hpl,hk1,Bool.false_and] at hf
     simp only [Bool.false_eq_true,if_false] at hf
     have F:=ai trAV.eq_1<|ai chAV.eq_1<|ai stAV.eq_1<|ai hx<|ai hsk<|ai q1<|ai q2<|ai q3<|ai h0<|hk1
     repeat (first | refine st ?_ | refine cC f1 ?_)
     refine⟨j+1,⟨hlt,hf⟩, ?_, ?_,by omega⟩
     ·(simp only [go_sem,F])
     ·have F:=ai trAV.eq_1<|chAV.eq_1
      (simp only [go_sem,F])
   | true=>
     rw [hdp,hpl,hk1,Bool.true_and] at hf
     cases hab:aboveB c (k:Int) t.target with
     | false=>
       rw [hab] at hf f3
       simp only [Bool.false_eq_true,if_false] at hf
       unfold zao at f1 f3
       have F:=ai trAV.eq_1<|ai chAV.eq_1<|ai stAV.eq_1<|ai hx<|ai hsk<|ai q1<|ai q2<|ai q3<|ai h0<|hk1
       repeat (first | refine st ?_ | refine cC f1 ?_ | refine cC f3 ?_)
       refine⟨j+1,⟨hlt,hf⟩, ?_, ?_,by omega⟩
       ·(simp only [go_sem,F])
       ·have F:=ai trAV.eq_1<|chAV.eq_1
        (simp only [go_sem,F])
     | true=>
       rw [hab] at hf f3
       simp only [if_true] at hf
       rw [hf,Option.getD_some]
       unfold zao at f1 f3
       have F:=ai trAV.eq_1<|ai chAV.eq_1<|ai stAV.eq_1<|ai hx<|ai hsk<|ai q1<|ai q2<|ai q3<|ai h0<|hk1
       repeat (first | refine st ?_ | refine cC f1 ?_ | refine cC f3 ?_)
       exact aR
 ·obtain rfl:j=U.length:=by omega
  have q1: ¬(U.length:Int)< (U.length:Int):=by omega
  rw [List.drop_length] at hf
  rw [hf]
  simp only [List.find?_nil,Option.getD_none]
  have F:=q1
  repeat refine st ?_
  exact aR
theorem Full.src {c:ChD} (h:Full c) {k:Nat} {t:TrD} (ht:c.trans[k]? =some t):inZ c t.src=true/\(t.target= -1\/inZ c t.target=true):=by
 have:=h.tr k t ht
 unfold zcH at this
 simp only [Bool.and_eq_true,Bool.or_eq_true,beq_iff_eq,decide_eq_true_eq] at this
 refine⟨?_,this.2.imp id fun q=>zak.2 q⟩
 have h1:=this.1.1.1.1
 unfold zax at h1
 split at h1
 ·rename_i s hs
  unfold at_ at hs
  split at hs
  ·rename_i h0
   have:=(List.getElem?_eq_some_iff.1 hs).1
   exact zak.2 ⟨h0,by omega⟩
  ·cases hs
 ·cases h1
end Go.Proofs.YtnbjaghjdeicmaaGreatDoor
namespace Go.Proofs
def Tryz.revI_ren:Go.Shelf.Ren:=⟨fun | 112=>221 | n=>n,fun | 28=>27 | 3=>3 | 4=>4 | 0=>0 | n=>n,fun | n=>n⟩
theorem Tryz.revI:Go.Proofs.Lays.n112 Tryz.prog Tryz.revI_ren:={
 mixed:=by kernel_rfl
 f112:=Tryz.func221.trans (congrArg some (by kernel_rfl))
 t0:=Tryz.underlying0
 a0:=Tryz.isAgg0
 z0:=Tryz.sizeOf0
 v0:=Tryz.zeroValue0
 t3:=Tryz.underlying3
 a3:=Tryz.isAgg3
 z3:=Tryz.sizeOf3
 v3:=Tryz.zeroValue3
 t4:=Tryz.underlying4
 a4:=Tryz.isAgg4
 z4:=Tryz.sizeOf4
 v4:=Tryz.zeroValue4
 t28:=Tryz.underlying27
 a28:=Tryz.isAgg27
 z28:=Tryz.sizeOf27
 v28:=Tryz.zeroValue27 }
def Tryz.compI_ren:Go.Shelf.Ren:=⟨fun | 20=>285 | n=>n,fun | 22=>27 | 3=>3 | 4=>4 | 0=>0 | n=>n,fun | n=>n⟩
theorem Tryz.compI:Go.Proofs.Lays2.n20 Tryz.prog Tryz.compI_ren:={
 mixed:=by kernel_rfl
 f20:=Tryz.func285.trans (congrArg some (by kernel_rfl))
 t0:=Tryz.underlying0
 a0:=Tryz.isAgg0
 z0:=Tryz.sizeOf0
 v0:=Tryz.zeroValue0
 t3:=Tryz.underlying3
 a3:=Tryz.isAgg3
 z3:=Tryz.sizeOf3
 v3:=Tryz.zeroValue3
 t4:=Tryz.underlying4
 a4:=Tryz.isAgg4
 z4:=Tryz.sizeOf4
 v4:=Tryz.zeroValue4
 t22:=Tryz.underlying27
 a22:=Tryz.isAgg27
 z22:=Tryz.sizeOf27
 v22:=Tryz.zeroValue27
 i3:=by kernel_rfl }
end Go.Proofs
namespace Go.Proofs.YtnbjaghjdeicmaaGreatDoor
open Go.RowKit Go.Sort Go.Shelf Go.Lib
theorem Tryz.revIEnter: ∀(args:Array Value) (w:World),(callFunc 221 args).run Tryz.prog w= .ok (.enter 221 args) w:=enters_of Tryz.func221 (by kernel_rfl) rfl
theorem Tryz.compIEnter: ∀(args:Array Value) (w:World),(callFunc 285 args).run Tryz.prog w= .ok (.enter 285 args) w:=enters_of Tryz.func285 (by kernel_rfl) rfl
theorem zhu (l:List Int) (hl:l.length<=9223372036854775807):Turns Tryz.prog 221 [] 3 1 (l.map intC) (l.reverse.map intC):=by
 by_cases h0:l=[]
 ·subst h0
  exact zeS Tryz.revIEnter fun p cap w=>Any.slices_Reverse_int_empty Tryz.revI p cap w
 ·refine zeT (by rw [List.length_map]; exact List.length_pos_iff.2 h0) Tryz.revIEnter (by simp) (fun x hx=> ?_) (fun x hx=> ?_) fun w g cap hH hg=> ?_
  ·obtain⟨y,_,rfl⟩:=List.mem_map.1 hx; rfl
  ·obtain⟨y,_,rfl⟩:=List.mem_map.1 hx
   exact⟨rfl,fun u hu=>by rw [List.mem_singleton.1 hu]; rfl⟩
  ·have hH:Holds id w g 0 (l.map (Value.int .i64)).toArray:=by rw [<-zbK]; exact hH
   have:=Any.slices_Reverse_int Tryz.revI g 0 cap l w (zhJ hH) hl
   rw [List.length_map]
   refine(show Calls Tryz.prog 221 #[.slice (some ⟨g,0,none⟩) l.length cap] w _ from this).mono ?_
   rintro ex w' ⟨rfl,n,rfl⟩
   refine⟨rfl,n, #[], ?_⟩
   have hgr: ∀W:World,grow W #[]=W:=fun W=>by simp [grow]
   rw [hgr,zdx,show (l.reverse.map intC).flatten=l.reverse.map (Value.int .i64) from zbK (Value.int .i64) _]
   simp
theorem znL (l:List Int) (hl:l.length<=9223372036854775807):Cuts Tryz.prog 285 3 1 (l.map intC) ((Lib.compact l).map intC):=by
 refine⟨Tryz.compIEnter,fun x hx=> ?_,fun w base v ho=> ?_⟩
 ·obtain⟨y,_,rfl⟩:=List.mem_map.1 hx
  exact⟨rfl,fun u hu=>by rw [List.mem_singleton.1 hu]; rfl⟩
 rw [show (l.map intC).flatten=l.map (Value.int .i64) from zbK (Value.int .i64) _,List.length_map] at ho
 rw [show ((Lib.compact l).map intC).flatten=(Lib.compact l).map (Value.int .i64) from zbK (Value.int .i64) _,List.length_map]
 by_cases h0:l=[]
 ·subst h0
  obtain⟨p,cap,rfl⟩: ∃p cap,v= .slice p 0 cap:=by
   rcases ho.2 with⟨rfl,_⟩ | ⟨g,cap,cur,rfl,_⟩
   ·exact⟨_,_,rfl⟩
   ·exact⟨_,_,rfl⟩
  refine(show Calls Tryz.prog 285 #[.slice p 0 cap] w _ from Any.slices_Compact_int_empty Tryz.compI p cap w).mono ?_
  rintro ex w' ⟨rfl,rfl⟩
  exact⟨_,rfl,rfl,⟨rfl,rfl,rfl,Nat.le_refl _,fun _ _ _=>rfl⟩,fun _ h=>h,ho⟩
 ·rcases ho.2 with⟨_,h⟩ | ⟨g,cap,cur,rfl,hbase,hb,h1,h2,h3,h4⟩
  ·exact absurd (List.eq_nil_of_length_eq_zero h) h0
  have hg:g<w.heap.size:=(Array.getElem?_eq_some_iff.1 hb).1
  have hH:Holds (Value.int .i64) w g 0 l.toArray:=fun j hj=>by
   have hj':j<l.length:=by simpa using hj
   have e1:(cur.toList.take (l.length*1))[j]? =(l.map (Value.int .i64))[j]? :=by rw [h4]
   rw [List.getElem?_take_of_lt (by omega),List.getElem?_map,List.getElem?_eq_getElem hj'] at e1
   refine⟨?_,by simp [World.frozen?,hb]⟩
   simp only [World.cell?,hb,Nat.zero_add,Option.isSome_none,Bool.false_eq_true,if_false]
   rw [<-Array.getElem?_toList,e1,getElem!_pos _ j hj]
   rfl
  have hcl:(Lib.compact l).length<=l.length:=by
   unfold Lib.compact Lib.compactUpTo
   rw [List.length_map]
   exact Nat.le_trans (List.length_filter_le ..) (by simp)
  refine(show Calls Tryz.prog 285 #[.slice (some ⟨g,0,none⟩) l.length cap] w _ from Any.slices_Compact_int Tryz.compI g 0 cap l w hH hl h1).mono ?_
  rintro ex w' ⟨rfl,q,rfl⟩
  rw [zdx]
  generalize hF:((Lib.compact l++List.replicate (l.length-(Lib.compact l).length) 0).toArray.map (Value.int .i64))=F
  have hFs:F.size=l.length:=by rw [<-hF]; simp; omega
  have hgr: ∀W:World,grow W #[]=W:=fun W=>by simp [grow]
  have e2:=heap_put (n:=q) (os:= #[]) F hb
  have e3:=zej (w:=w) (g:=g) (n:=q) (os:= #[]) F
  rw [hgr] at e2 e3
  refine⟨_,rfl,rfl,e3,fun _ h=>h,⟨by rw [List.length_map,Nat.mul_one], .inr ⟨g,cap,_,rfl,hbase,e2,Nat.le_trans hcl h1,h2,by simp [putCells,h3], ?_⟩⟩⟩
  have ht:=zid cur F (by rw [hFs,h3]; omega)
  rw [Nat.mul_one]
  have:((putCells id 0 F cur).toList.take (Lib.compact l).length)=(F.toList).take (Lib.compact l).length:=by
   rw [<-ht,List.take_take,Nat.min_eq_left (by omega)]
  rw [this, <-hF]
  simp
end Go.Proofs.YtnbjaghjdeicmaaGreatDoor
namespace Go.Proofs.YtnbjaghjdeicmaaGreatDoor
open Go.RowKit
/-! Legal states -/
theorem zq5 {l:List Int} (h: ∀j,0<j->j<l.length->l.getD (j-1) 0<l.getD j 0):l.Pairwise (· < ·):=by
 rw [List.pairwise_iff_getElem]
 intro i j hi hj hij
 have key: ∀d,i+d+1<l.length->l.getD i 0<l.getD (i+d+1) 0:=fun d=>by
  induction d with
  | zero=>intro hd; simpa using h (i+1) (by omega) (by omega)
  | succ d ih=>
    intro hd
    have h1:=ih (by omega)
    have h2:=h (i+d+1+1) (by omega) (by omega)
    have e:i+(d+1)+1=i+d+1+1:=by omega
    rw [e]
    simp only [Nat.add_sub_cancel] at h2
    omega
 have:=key (j-i-1) (by omega)
 rw [show i+(j-i-1)+1=j by omega] at this
 simpa [List.getD_eq_getElem?_getD,List.getElem?_eq_getElem hi,List.getElem?_eq_getElem hj] using this
structure Lg (c:ChD) (act:List Int):Prop where
 rise:act.Pairwise (· < ·)
 fit: ∀x∈act,∃s,at_ c x=some s/\fitB c act x.toNat s=true
 top:manyI act (kidsL c (-1) true)=1
theorem ztb {c:ChD} {act:List Int} (h:lgB c act=true):Lg c act:=by
 obtain⟨h1,h2⟩:=zr2.1 h
 have h3: ∀j (hj:j<act.length),(j==0||decide (act.getD (j-1) 0<act[j]))=true/\fitI c act act[j]=true:=fun j hj=>by
  have:=h1 j hj
  unfold lgAt at this
  rw [List.getElem?_eq_getElem hj] at this
  simpa only [Bool.and_eq_true] using this
 refine⟨zq5 fun j h0 hj=> ?_,fun x hx=> ?_,h2⟩
 ·have:=(h3 j hj).1
  have hne:(j==0)=false:=by simp; omega
  rw [hne,Bool.false_or,decide_eq_true_eq] at this
  simpa [List.getD_eq_getElem?_getD,List.getElem?_eq_getElem hj] using this
 ·obtain⟨j,hj,rfl⟩:=List.mem_iff_getElem.1 hx
  have:=(h3 j hj).2
  unfold fitI at this
  split at this
  ·rename_i s hs; exact⟨s,hs,this⟩
  ·cases this
theorem Lg.of {c:ChD} {act:List Int} (h:Lg c act) {x:Int} (hx:x∈act): ∃s,at_ c x=some s/\inZ c x=true/\zay s=false/\(parZ c x<0\/parZ c x∈act)/\(s.kind=1->kidsL c x true≠[]->manyI act (kidsL c x true)=1)/\(s.kind=2->manyI act (kidsL c x true)=(kidsL c x true).length):=by
 obtain⟨s,hs,hf⟩:=h.fit x hx
 have h0:0<=x/\c.states[x.toNat]? =some s:=by
  unfold at_ at hs
  split at hs
  ·exact⟨by assumption,hs⟩
  ·cases hs
 obtain⟨k,rfl⟩: ∃k:Nat,x=k:=⟨x.toNat,by omega⟩
 have hk:=(List.getElem?_eq_some_iff.1 h0.2).1
 have hp:parZ c (k:Int)=s.parent:=by unfold parZ; rw [hs]
 unfold fitB at hf
 rw [Int.toNat_natCast,Bool.and_eq_true,Bool.and_eq_true] at hf
 obtain⟨⟨f1,f2⟩,f3⟩:=hf
 refine⟨s,hs,zak.2 ⟨by omega,by simpa using hk⟩,by simpa using f1, ?_,fun e hne=> ?_,fun e=> ?_⟩
 ·rw [hp]
  rw [Bool.or_eq_true,decide_eq_true_eq] at f2
  exact f2.imp id fun f2=>by simpa using f2
 ·rw [if_pos ⟨e,hne⟩] at f3
  simpa using f3
 ·rw [if_neg (fun q=>by omega),if_pos e] at f3
  simpa using f3
theorem Lg.real {c:ChD} {act:List Int} (h:Lg c act) {x:Int} (hx:x∈act) {s:StD} (hs:at_ c x=some s):s.kind≠4/\s.kind≠5:=by
 obtain⟨s',e,_,hm,_⟩:=h.of hx
 rw [hs] at e
 cases e
 unfold zay at hm
 simpa using hm
theorem Lg.up {c:ChD} (hr:Right c) {act:List Int} (h:Lg c act): ∀(n:Nat) (x k:Int),x<n->x∈act->k∈upL c x->0<=k->k∈act
 | 0,x,k,hn,hx,hk,h0=>by
   obtain⟨_,_,hz,_⟩:=h.of hx
   have:=zak.1 hz
   omega
 | n+1,x,k,hn,hx,hk,h0=>by
   obtain⟨_,_,hz,_,hp,_⟩:=h.of hx
   rw [zbD hr hz] at hk
   have:=zbP hr hz
   rcases hk with rfl | hk
   ·exact hp.resolve_left (by omega)
   ·rcases hp with hp | hp
    ·rw [zbC (by unfold inZ; rw [decide_eq_false (by omega),Bool.false_and])] at hk
     simp at hk
    ·exact Lg.up hr h n _ k (by omega) hp hk h0
/-! Memories in their order -/
def putM:List MemD->MemD->List MemD
 | [],m=>[m]
 | x::r,m=>if x.1<m.1 then x::putM r m else if x.1=m.1 then m::r else m::x::r
abbrev Srt (l:List MemD):Prop:=l.Pairwise fun a b=>a.1<b.1
theorem ziv {m p:MemD} : ∀ {l:List MemD},Srt l->(p∈putM l m↔p=m\/(p∈l/\p.1≠m.1))
 | [],_=>by simp [putM]
 | x::r,h=>by
   obtain⟨h1,h2⟩:=List.pairwise_cons.1 h
   unfold putM
   split
   ·rename_i hlt
    rw [List.mem_cons,ziv h2,List.mem_cons]
    constructor
    ·rintro(rfl | rfl | ⟨a,b⟩)
     ·exact .inr ⟨.inl rfl,by omega⟩
     ·exact .inl rfl
     ·exact .inr ⟨.inr a,b⟩
    ·rintro(rfl | ⟨rfl | a,b⟩)
     ·exact .inr (.inl rfl)
     ·exact .inl rfl
     ·exact .inr (.inr ⟨a,b⟩)
   ·split
    ·rename_i he
     rw [List.mem_cons,List.mem_cons]
     constructor
     ·rintro(rfl | a)
      ·exact .inl rfl
      ·exact .inr ⟨.inr a,by have:=h1 p a; omega⟩
     ·rintro(rfl | ⟨rfl | a,b⟩)
      ·exact .inl rfl
      ·exact absurd he b
      ·exact .inr a
    ·rename_i hn he
     rw [List.mem_cons,List.mem_cons]
     constructor
     ·rintro(rfl | rfl | a)
      ·exact .inl rfl
      ·exact .inr ⟨.inl rfl,by omega⟩
      ·exact .inr ⟨.inr a,by have:=h1 p a; omega⟩
     ·rintro(rfl | ⟨rfl | a,b⟩)
      ·exact .inl rfl
      ·exact .inr (.inl rfl)
      ·exact .inr (.inr a)
theorem zlU {m:MemD} : ∀ {l:List MemD},Srt l->Srt (putM l m)
 | [],_=>by simp [putM,Srt]
 | x::r,h=>by
   obtain⟨h1,h2⟩:=List.pairwise_cons.1 h
   unfold putM
   split
   ·rename_i hlt
    refine List.pairwise_cons.2 ⟨fun p hp=> ?_,zlU h2⟩
    rcases (ziv h2).1 hp with rfl | ⟨a,_⟩
    ·exact hlt
    ·exact h1 p a
   ·split
    ·rename_i he
     exact List.pairwise_cons.2 ⟨fun p hp=>by have:=h1 p hp; omega,h2⟩
    ·refine List.pairwise_cons.2 ⟨fun p hp=> ?_,h⟩
     rcases List.mem_cons.1 hp with rfl | hp
     ·omega
     ·have:=h1 p hp; omega
/-! What is remembered -/
def underL (c:ChD) (l:List Int) (i:Int):List Int:=l.filter (aboveB c i)
def innerP (c:ChD) (l:List Int) (i:Int):Bool:= !(kidZ c i).any fun k=>l.contains k
def innerL (c:ChD) (l:List Int):List Int:=zgc (l.filter (innerP c l))
def zgy (c:ChD) (act:List Int) (i:Int):List Int:=match ((kidZ c i).filter fun k=>act.contains k).getLast? with
 | some k=>[k]
 | none=>[]
def newV (c:ChD) (act:List Int) (i:Int) (h:Nat):List Int:=match c.states[h]? with
 | some s=>if s.kind=5 then innerL c (underL c act i) else zgy c act i
 | none=>[]
def memTo_ (c:ChD) (act:List Int) (i:Int) (o:List MemD) (M:List Nat) (m:Nat):List MemD:=(M.take m).foldl (fun o (h:Nat)=>putM o ((h:Int),newV c act i h)) o
def remTo (c:ChD) (act gone:List Int) (o:List MemD) (j:Nat):List MemD:=(gone.take j).foldl (fun o i=>if zbj c i=true then memTo_ c act i o (memL c i) (memL c i).length else o) o
def remL (c:ChD) (act gone:List Int) (mem:List MemD):List MemD:=remTo c act gone mem gone.length
theorem zrb {c:ChD} {i:Int} {k:Nat} :k∈memL c i↔ ∃s,c.states[k]? =some s/\inZ c i=true/\s.parent=i/\zay s=true:=by
 unfold memL memP
 rw [List.mem_filter,List.mem_range]
 constructor
 ·rintro⟨h1,h2⟩
  rw [List.getElem?_eq_getElem h1] at h2 |-
  simp only [Bool.and_eq_true,beq_iff_eq] at h2
  exact⟨_,rfl,h2.1,h2.2.1,h2.2.2⟩
 ·rintro⟨s,hs,h1,h2,h3⟩
  refine⟨(List.getElem?_eq_some_iff.1 hs).1, ?_⟩
  rw [hs]
  simp [h1,h2,h3]
/-! As the document says -/
theorem ziA {c:ChD} {mem:List MemD} (h:zdi c mem=true):Srt mem/\ ∀m∈mem,memB c m=true:=by
 have h1: ∀j (hj:j<mem.length),memB c mem[j]=true/\(j=0\/(mem.getD (j-1) (0,[])).1<mem[j].1):=fun j hj=>by
  have:=List.all_eq_true.1 h j (List.mem_range.2 hj)
  unfold zhf at this
  rw [List.getElem?_eq_getElem hj,Bool.and_eq_true,Bool.or_eq_true,decide_eq_true_eq] at this
  exact⟨this.1,this.2.imp (by simp) id⟩
 refine⟨List.pairwise_iff_getElem.2 ?_,fun m hm=> ?_⟩
 ·intro i j hi hj hij
  have key: ∀d (hd:i+d+1<mem.length),mem[i].1<mem[i+d+1].1:=fun d=>by
   induction d with
   | zero=>
     intro hd
     have:=(h1 (i+1) hd).2.resolve_left (by omega)
     simpa [List.getD_eq_getElem?_getD,List.getElem?_eq_getElem hi] using this
   | succ d ih=>
     intro hd
     have a:=ih (by omega)
     have b:=(h1 (i+d+1+1) (by omega)).2.resolve_left (by omega)
     simp only [Nat.add_sub_cancel,List.getD_eq_getElem?_getD,List.getElem?_eq_getElem (show i+d+1<mem.length by omega),Option.getD_some] at b
     have e:i+(d+1)+1=i+d+1+1:=by omega
     simp only [e]
     omega
  have:=key (j-i-1) (by omega)
  simpa [show i+(j-i-1)+1=j by omega] using this
 ·obtain⟨j,hj,rfl⟩:=List.mem_iff_getElem.1 hm
  exact(h1 j hj).1
theorem zkV {l:List Int} (h:zdt l=true):l≠[]:=by
 unfold zdt at h
 rw [Bool.and_eq_true] at h
 intro e
 rw [e] at h
 simp at h
theorem zsA {c:ChD} {m:MemD} (h:memB c m=true): ∃(k:Nat) (s:StD),m.1=(k:Int)/\c.states[k]? =some s/\zay s=true/\m.2≠[]:=by
 unfold memB at h
 split at h
 ·rename_i s hs
  have h0:0<=m.1/\c.states[m.1.toNat]? =some s:=by
   unfold at_ at hs
   split at hs
   ·exact⟨by assumption,hs⟩
   ·cases hs
  refine⟨m.1.toNat,s,by omega,h0.2, ?_, ?_⟩
  ·unfold zay
   split at h
   ·rename_i e; simp [e]
   ·rw [Bool.and_eq_true] at h; rw [h.1]; simp
  ·split at h
   ·rw [Bool.and_eq_true,decide_eq_true_eq] at h
    intro e
    rw [e] at h
    simp at h
   ·unfold deepB at h
    simp only [Bool.and_eq_true] at h
    exact zkV h.2.1.1.1
 ·cases h
theorem last_one {l:List Int} {x:Int} (h:l=[x]):l.getLast? =some x:=by rw [h]; rfl
theorem zgv (act:List Int) (ks:List Nat):((zL ks).filter fun k=>act.contains k).length=manyI act ks:=by
 unfold manyI zL
 rw [List.filter_map,List.length_map]
 rfl
theorem zrk {c:ChD} {act:List Int} {i:Int} (h:manyI act (kidsL c i true)=1): ∃k,k∈kidZ c i/\k∈act/\zgy c act i=[k]/\((kidZ c i).filter fun k=>act.contains k)=[k]:=by
 rw [<-zgv] at h
 obtain⟨k,hk⟩:=List.length_eq_one_iff.1 h
 have hm:k∈(kidZ c i).filter fun k=>act.contains k:=by rw [hk]; simp
 obtain⟨h1,h2⟩:=List.mem_filter.1 hm
 refine⟨k,h1,by simpa using h2, ?_,hk⟩
 unfold zgy
 rw [last_one hk]
theorem zbv {c:ChD} (hr:Right c) {p x:Int} (hx:inZ c x=true):aboveB c p x=true↔parZ c x=p\/aboveB c p (parZ c x)=true:=by
 unfold aboveB
 rw [List.contains_iff_mem,List.contains_iff_mem,zbD hr hx]
 exact⟨fun h=>h.imp Eq.symm id,fun h=>h.imp Eq.symm id⟩
theorem zpu {c:ChD} (h:Full c) {k:Nat} {s:StD} (hs:c.states[k]? =some s) (hm:zay s=true):zbj c s.parent=true/\zax c s.parent=true/\kidsL c s.parent true≠[]/\inZ c s.parent=true/\(s.kind=4\/s.kind=5):=by
 have hk:s.kind=4\/s.kind=5:=by unfold zay at hm; simpa using hm
 rcases h.cases hs with⟨e,_⟩ | ⟨e,_⟩ | ⟨e,_⟩ | ⟨_,_,hp,hi⟩
 ·omega
 ·omega
 ·omega
 ·unfold zaO at hp
  split at hp
  ·rename_i q hq
   refine⟨by unfold zbj; rw [hq]; exact hp, ?_,fun e=> ?_, ?_,hk⟩
   ·unfold zax zb2
    rw [hq]
    simp only [hp,Bool.true_or]
   ·rw [e] at hi; simp [inL] at hi
   ·unfold at_ at hq
    split at hq
    ·rename_i h0
     have:=(List.getElem?_eq_some_iff.1 hq).1
     exact zak.2 ⟨h0,by omega⟩
    ·cases hq
  ·cases hp
/-! Moves -/
end Go.Proofs.YtnbjaghjdeicmaaGreatDoor
set_option linter.unusedSimpArgs false
namespace Go.Proofs.YtnbjaghjdeicmaaGreatDoor
open Go.RowKit
set_option maxRecDepth 100000
set_option maxHeartbeats 8000000
def undR (c:ChD) (act:List Int) (i:Int):List Int:=(zL (sortL c act)).filter (aboveB c i)
def zes (c:ChD) (l:List Int) (i:Int) (j:Nat):List Int:=(l.take j).filter (aboveB c i)
theorem zhp {c:ChD} {l:List Int} {i:Int} {j:Nat} {x:Int} (h:l[j]? =some x):zes c l i (j+1)=if aboveB c i x then zes c l i j++[x] else zes c l i j:=by
 unfold zes
 rw [List.take_add_one,h,List.filter_append]
 cases hb:aboveB c i x<;>simp [hb]
theorem zi7 (c:ChD) (l:List Int) (i:Int) (j:Nat):(zes c l i j).length<=l.length:=by
 unfold zes
 exact Nat.le_trans (List.length_filter_le ..) (by rw [List.length_take]; omega)
theorem zos {c:ChD} (hc:Right c) (act:List Int):(sortL c act).length<=32:=by
 unfold sortL
 split
 ·exact Nat.le_trans (List.length_filter_le ..) (zqI hc (by omega))
 ·simp
theorem zre (env:Env) (c:ChD) (hc:Right c) (act:List Int) (hl:act.length<=1000000) (d:Int):Con Tryz.prog env 217 [zaj c, .seq 1 (act.map intAV),I d] (.own 3 1 ((undR c act d).reverse.map intAV)):=by
 have f1:=zaN env c
 have f2:=zcq env c hc act hl
 have hsl:=zos hc act
 rw [<-zep] at f2
 unfold undR
 have hsl:(zL (sortL c act)).length<=32:=by rw [zeo]; exact hsl
 generalize zL (sortL c act)=L at*
 unfold zaj zao at f1
 unfold zao at f2
 unfold zaj
 refine zaa Tryz.func217 rfl Tryz.call217 (by rw [Tryz.ntmps217]; simp) ?_
 rw [Tryz.ntmps217,Tryz.results217]
 repeat (first | refine st0 ?_ | refine cC0 f1 ?_ | refine cC0 f2 ?_)
 refine zaS 7 7 3 1 ?_
 refine zac (D:=Nat) (fun j vs=>[(0, .ref 9 [tabCells c] 0 0),(2,I d),(7, .row 7 (vs 7)),(13, .row 13 (vs 13)),(14,I L.length),(15,I j)]) (fun j _=>[(7,⟨1,(zes c L d j).map intAV,3,true⟩),(13,⟨1,L.map intAV,3,true⟩)]) (fun j _ esc=>j<=L.length/\esc 7=false) (fun j=>L.length-j) 0 ?_ ?_ ?_ ?_
 ·exact⟨Nat.zero_le _,rfl⟩
 ·(simp only [go_sem])
  try rfl
 ·(simp only [go_sem])
  try rfl
 rintro j ws esc ⟨hj,e0⟩
 by_cases hlt:j<L.length
 ·obtain⟨x,hx⟩: ∃x,L[j]? =some x:=⟨L[j],List.getElem?_eq_getElem hlt⟩
  have q1:=nlt hlt
  have q2:=zab hlt (by omega)
  have f3:=zcP env c hc d x
  unfold zao at f3
  have hil:=zi7 c L d j
  have hf:Fits ((zes c L d j).length+1) 8:=zah (by omega) (by omega)
  have hn:=zhp (c:=c) (i:=d) hx
  cases hb:aboveB c d x with
  | true=>
    rw [hb] at f3
    rw [hb,if_pos rfl] at hn
    have F:=ai q1<|ai q2<|ai hx<|ai hf<|e0
    repeat (first | refine st ?_ | refine cC f1 ?_ | refine cC f3 ?_)
    refine⟨j+1,⟨hlt,by simp only [go_sem,e0]⟩, ?_, ?_,by omega⟩
    ·(simp only [go_sem,F])
    ·have F:=hn
     (simp only [go_sem,List.map_append,F])
  | false=>
    rw [hb] at f3
    rw [hb,if_neg Bool.false_ne_true] at hn
    have F:=ai q1<|ai q2<|ai hx<|ai hf<|e0
    repeat (first | refine st ?_ | refine cC f1 ?_ | refine cC f3 ?_)
    refine⟨j+1,⟨hlt,by simp only [go_sem,e0]⟩, ?_, ?_,by omega⟩
    ·(simp only [go_sem,F])
    ·have F:=hn
     (simp only [go_sem,List.map_append,F])
 ·obtain rfl:j=L.length:=by omega
  have q1: ¬(L.length:Int)< (L.length:Int):=by omega
  have hall:zes c L d L.length=L.filter (aboveB c d):=by unfold zes; rw [List.take_length]
  rw [hall]
  have hfl:(L.filter (aboveB c d)).length<=32:=Nat.le_trans (List.length_filter_le ..) hsl
  generalize L.filter (aboveB c d)=U at*
  have f4:=zhu U (by omega)
  have F:=ai q1<|e0
  repeat refine st ?_
  refine zjT 7 rfl (row:=⟨1,U.map intAV,3,true⟩) f4 (Nat.succ_ne_zero 0) rfl (litEs_int _).symm (by simp only [go_sem,e0]; exact iR) (by simp only [go_sem,e0]; exact iR) (by simp only [go_sem,e0]; exact iR) (by simp only [go_sem,e0]; exact iR) ?_
  rw [litEs_int]
  repeat refine st ?_
  exact aR
theorem zhL (env:Env) (a1 a8:Addr) (he:ChEnv env a1 a8) (s:List UInt8):Con Tryz.prog env 177 [Sg s] (errV (-1) (sentV a1)):=by
 have g1:=ziL he.e1
 have f0:=zca env s a1
 refine zaa Tryz.func177 rfl Tryz.call177 (by rw [Tryz.ntmps177]; simp) ?_
 rw [Tryz.ntmps177,Tryz.results177]
 have F:=g1
 repeat (first | refine st ?_ | refine cC f0 ?_)
 exact aR
def zl8 (c:ChD) (act:List Int) (t:TrD):List Int:=if t.target<0 then [] else(undR c act (domE c t.src t.target)).reverse
end Go.Proofs.YtnbjaghjdeicmaaGreatDoor
set_option linter.unusedSimpArgs false
namespace Go.Proofs.YtnbjaghjdeicmaaGreatDoor
open Go.RowKit
set_option maxRecDepth 100000
set_option maxHeartbeats 16000000
def idxZ:List Int->Int->Nat->Option Nat
 | [],_,_=>none
 | x::l,k,n=>if k=x then some n else idxZ l k (n+1)
theorem zeI {k:Int} : ∀ {l:List Int} {n:Nat},k∉l->idxZ l k n=none
 | [],_,_=>rfl
 | x::l,n,h=>by
   unfold idxZ
   rw [if_neg (fun e=>h (by rw [e]; exact List.mem_cons_self ..)),zeI (fun hh=>h (List.mem_cons_of_mem _ hh))]
theorem zgD {k:Int} : ∀ {l:List Int} {n:Nat},k∈l-> ∃i,idxZ l k n=some (n+i)/\l[i]? =some k
 | [],n,h=>by cases h
 | x::l,n,h=>by
   unfold idxZ
   by_cases e:k=x
   ·exact⟨0,by rw [if_pos e]; rfl,by rw [e]; rfl⟩
   ·obtain⟨i,h1,h2⟩:=zgD (n:=n+1) ((List.mem_cons.1 h).resolve_left e)
    exact⟨i+1,by rw [if_neg e,h1]; congr 1; omega,by simpa using h2⟩
def zc9 (l:List Int):List (List AV):=l.map fun k=>[I k,I 1]
theorem zeZ (k:Int): ∀(l:List Int) (n:Nat),mfind Tryz.prog 3 (I k) (zc9 l) n=some (idxZ l k n)
 | [],n=>rfl
 | x::l,n=>by
   have ih:=zeZ k l (n+1)
   unfold zc9 at ih |-
   unfold idxZ
   by_cases e:k=x
   ·have e1:(k==x)=true:=by simp [e]
    simp only [go_sem,zbl,zbs,List.map_cons,e1,if_pos e]
   ·have e1:(k==x)=false:=by simpa using e
    simp only [go_sem,zbl,zbs,List.map_cons,e1,if_neg e,ih]
theorem zi6 (env:Env) (o:List Int) (i:Int) (ho:o.length<=4000) (te:TypeId):ConI Tryz.prog env 303 [1000,1001] (fun k=>k==1001) (fun vs=>[I i, .loc 1000 (vs 1000) 0 0]) (fun vs=>[(1000,⟨1,[[.row 1001 (vs 1001)]],te,false⟩),(1001,⟨1,o.map intAV,3,true⟩)]) (fun vs=>[(1000,⟨1,[[.row 1001 (vs 1001)]],te,false⟩),(1001,⟨1,(addU o i).map intAV,3,true⟩)]) (fun _=> .lit (.tuple #[])):=by
 have f0:=(zaM env o i (by omega)).lend rfl
 unfold addU
 cases hc:o.contains i with
 | true=>
   rw [hc] at f0
   simp only [if_true]
   refine⟨Tryz.call303,_,_,Tryz.func303,rfl,(by intro _; rw [Tryz.ntmps303]; simp), ?_⟩
   intro vs esc hesc
   rw [Tryz.ntmps303,Tryz.results303]
   have e0:=hesc 1000 (by simp)
   have e1:=hesc 1001 (by simp)
   have F:=ai e0<|e1
   repeat refine st ?_
   refine oL rfl (f0) (by simp only [go_sem,F]; exact iR) (by simp only [go_sem,F]; exact⟨rfl,rfl⟩) ?_
   repeat refine st ?_
   (refine ziq ?_ ?_<;>simp only [go_sem,F,implies_true,and_self,imp_self,false_implies,AV.tuple.injEq,exists_eq_left',ne_eq])
 | false=>
   rw [hc] at f0
   have hf:Fits (o.length+1) 8:=zah (by omega) (by omega)
   simp only [Bool.false_eq_true,if_false,List.map_append]
   refine⟨Tryz.call303,_,_,Tryz.func303,rfl,(by intro _; rw [Tryz.ntmps303]; simp), ?_⟩
   intro vs esc hesc
   rw [Tryz.ntmps303,Tryz.results303]
   have e0:=hesc 1000 (by simp)
   have e1:=hesc 1001 (by simp)
   have F:=ai e0<|ai e1<|hf
   repeat refine st ?_
   refine oL rfl (f0) (by simp only [go_sem,F]; exact iR) (by simp only [go_sem,F]; exact⟨rfl,rfl⟩) ?_
   repeat refine st ?_
   (refine ziq ?_ ?_<;>simp only [go_sem,F,implies_true,and_self,imp_self,false_implies,AV.tuple.injEq,exists_eq_left',ne_eq])
theorem zdh {c:ChD} {a:List Int} (hn:a.Nodup) (hz: ∀x∈a,inZ c x=true):a.length<=c.states.length:=by
 have:=zfM (c:=c) (l:=[]) hn fun k hk=>⟨by simp,hz k hk⟩
 have:=zsy c []
 omega
theorem zoh {c:ChD} {d:Int} {o U:List Int} {m:Nat} {k:Int} (h:U[m]? =some k):upTo c d o U (m+1)=if 0<=k/\aboveB c d k=true then addU (upTo c d o U m) k else upTo c d o U m:=zcm _ _ h
theorem zmM {c:ChD} {d:Int} {l:List Int} {j:Nat} {k:Int} (h:l[j]? =some k):upsTo c d l (j+1)=upTo c d (addU (upsTo c d l j) k) (upL c k) (upL c k).length:=zcm _ _ h
theorem zof {c:ChD} (hc:Right c) {d:Int} {l:List Int} (hz: ∀x∈l,inZ c x=true) {j:Nat} (hj:j<=l.length):(upsTo c d l j).Nodup/\(∀x∈upsTo c d l j,inZ c x=true)/\(upsTo c d l j).length<=32:=by
 obtain⟨h1,h2⟩:=zh8 (c:=c) (d:=d) (l:=l) j hj
 have h3: ∀x∈upsTo c d l j,inZ c x=true:=fun x hx=>by
  rcases (h2 x).1 hx with h | ⟨i,h,q1,q2,_⟩
  ·exact hz x (List.mem_of_mem_take h)
  ·exact(zde hc q1 q2).1
 exact⟨h1,h3,Nat.le_trans (zdh h1 h3) hc.few⟩
theorem zqM {c:ChD} (hc:Right c) {d i:Int} {o:List Int} (hn:o.Nodup) (hz: ∀x∈o,inZ c x=true) {m:Nat} (hm:m<=(upL c i).length):(upTo c d o (upL c i) m).Nodup/\(∀x∈upTo c d o (upL c i) m,inZ c x=true)/\(upTo c d o (upL c i) m).length<=32:=by
 obtain⟨h1,h2⟩:=zkE (c:=c) (d:=d) (U:=upL c i) m hm hn
 have h3: ∀x∈upTo c d o (upL c i) m,inZ c x=true:=fun x hx=>by
  rcases (h2 x).1 hx with h | ⟨h,q2,_⟩
  ·exact hz x h
  ·exact(zde hc (List.mem_of_mem_take h) q2).1
 exact⟨h1,h3,Nat.le_trans (zdh h1 h3) hc.few⟩
theorem zrY (env:Env) (c:ChD) (hc:Right c) (l:List Int) (hl:l.length<=1000000) (hz: ∀x∈l,inZ c x=true) (d:Int):Con Tryz.prog env 274 [zaj c, .seq 1 (l.map intAV),I d] (.own 3 1 ((upsL c l d).map intAV)):=by
 have hlen:=hc.few
 have f1:=zaN env c
 unfold zaj zao at f1
 unfold zaj
 refine zaa Tryz.func274 rfl Tryz.call274 (by rw [Tryz.ntmps274]; simp) ?_
 rw [Tryz.ntmps274,Tryz.results274]
 repeat refine st0 ?_
 refine zaB 7 9000 0 0 ⟨1,[[nilS]],27,false⟩ [nilS] 3 1 (by decide) (by decide) (Nat.succ_ne_zero 0) rfl rfl rfl (by simp only [go_sem]; exact iR) (by simp only [go_sem]; exact iR) ?_
 refine zac (D:=Nat) (fun j vs=>[(0, .ref 9 [tabCells c] 0 0),(2,I d),(7, .loc 7 (vs 7) 0 0),(8, .clo 303 [.loc 7 (vs 7) 0 0]),(14, .seq 1 (l.map intAV)),(15,I l.length),(16,I j)]) (fun j vs=>[(7,⟨1,[[.row 9000 (vs 9000)]],27,false⟩),(9000,⟨1,(upsTo c d l j).map intAV,3,true⟩)]) (fun j _ esc=>j<=l.length/\esc 7=false/\esc 9000=false) (fun j=>l.length-j) 0 ?_ ?_ ?_ ?_
 ·exact⟨Nat.zero_le _,rfl,rfl⟩
 ·(simp only [go_sem])
  try rfl
 ·(simp only [go_sem])
  try rfl
 rintro j ws esc ⟨hj,e0,e1⟩
 by_cases hlt:j<l.length
 ·obtain⟨x,hx⟩: ∃x,l[j]? =some x:=⟨l[j],List.getElem?_eq_getElem hlt⟩
  have q1:=nlt hlt
  have q2:=zab hlt (by omega)
  obtain⟨n1,n2,n3⟩:=zof hc (d:=d) hz hj
  have hxz:=hz x (List.mem_of_getElem? hx)
  have hn:=zmM (c:=c) (d:=d) hx
  have fa:=zi6 env (upsTo c d l j) x (by omega) 27
  have f2:=zkF env c hc x
  unfold zao at f2
  have m1:=zff n1 x
  have m2: ∀y∈addU (upsTo c d l j) x,inZ c y=true:=fun y hy=>(zi3.1 hy).elim (n2 y) fun e=>by rw [e]; exact hxz
  have hfew:=fun m hm=>zqM hc (d:=d) (i:=x) m1 m2 (m:=m) hm
  have hUl:(upL c x).length<=40:=zhn 40 x
  have hUr: ∀y∈upL c x,y<0\/inZ c y=true:=fun y hy=>by
   rcases Int.lt_or_le y 0 with h | h
   ·exact .inl h
   ·exact .inr (zde hc hy h).1
  generalize addU (upsTo c d l j) x=o at*
  generalize upL c x=U at*
  have z0:upTo c d o U 0=o:=rfl
  have F:=ai hx<|ai q1<|ai q2<|ai e0<|e1
  repeat refine st ?_
  refine zaF [(1000,7),(1001,9000)] (zco rfl (by simp only [go_sem,F]; exact iR)) (fa) (by decide) (by decide) (by simp only [go_sem,F]<;>rfl) (by simp only [go_sem,F,and_self]<;>trivial) (by simp only [go_sem,F,and_self]<;>trivial) (by intro o; simp only [go_sem,F,behind,and_self]<;>trivial) (by intro o; simp only [go_sem,F]<;>rfl) (by simp only [go_sem,F,behind]; exact iR) (by simp only [go_sem,F,behind]; exact iR) ?_
  repeat (first | refine st ?_ | refine cC f1 ?_ | refine cC f2 ?_)
  refine zac (D:=Nat) (fun m vs=>[(0, .ref 9 [tabCells c] 0 0),(2,I d),(7, .loc 7 (vs 7) 0 0),(8, .clo 303 [.loc 7 (vs 7) 0 0]),(14, .seq 1 (l.map intAV)),(15,I l.length),(16,I j),(26, .row 26 (vs 26)),(27,I U.length),(28,I m)]) (fun m vs=>[(7,⟨1,[[.row 9000 (vs 9000)]],27,false⟩),(9000,⟨1,(upTo c d o U m).map intAV,3,true⟩),(26,⟨1,U.map intAV,3,true⟩)]) (fun m _ esc=>m<=U.length/\esc 7=false/\esc 9000=false) (fun m=>U.length-m) 0 ?_ ?_ ?_ ?_
  ·exact⟨Nat.zero_le _,by simp only [go_sem,e0],by simp only [go_sem,e1]⟩
  ·(simp only [go_sem,F])
   try rfl
  ·have F:=z0
   (simp only [go_sem,F])
   try rfl
  try clear e0 e1
  rintro m vs es ⟨hm,e0,e1⟩
  obtain⟨k1,k2,k3⟩:=hfew m hm
  by_cases hml:m<U.length
  ·obtain⟨y,hy⟩: ∃y,U[m]? =some y:=⟨U[m],List.getElem?_eq_getElem hml⟩
   have p1:=nlt hml
   have p2:=zab hml (by omega)
   have hnm:=zoh (c:=c) (d:=d) (o:=o) hy
   have fb:=zi6 env (upTo c d o U m) y (by omega) 27
   have f3:=zcP env c hc d y
   unfold zao at f3
   rcases hUr y (List.mem_of_getElem? hy) with h0 | hyz
   ·have h1: ¬0<=y:=by omega
    rw [if_neg (fun q=>h1 q.1)] at hnm
    have F:=ai hy<|ai p1<|ai p2<|ai h1<|ai e0<|e1
    repeat (first | refine st ?_ | refine cC f1 ?_ | refine cC f3 ?_)
    refine⟨m+1,⟨hml,by simp only [go_sem,e0],by simp only [go_sem,e1]⟩, ?_, ?_,by omega⟩
    ·(simp only [go_sem,F])
    ·have F:=hnm
     (simp only [go_sem,F])
   ·have h1:=(zak.1 hyz).1
    cases hab:aboveB c d y with
    | false=>
      rw [hab] at f3 hnm
      rw [if_neg (by simp)] at hnm
      have F:=ai hy<|ai p1<|ai p2<|ai h1<|ai e0<|e1
      repeat (first | refine st ?_ | refine cC f1 ?_ | refine cC f3 ?_)
      refine⟨m+1,⟨hml,by simp only [go_sem,e0],by simp only [go_sem,e1]⟩, ?_, ?_,by omega⟩
      ·(simp only [go_sem,F])
      ·have F:=hnm
       (simp only [go_sem,F])
    | true=>
      rw [hab] at f3 hnm
      rw [if_pos ⟨h1,rfl⟩] at hnm
      generalize upTo c d o U m=a at*
      have F:=ai hy<|ai p1<|ai p2<|ai h1<|ai e0<|e1
      repeat (first | refine st ?_ | refine cC f1 ?_ | refine cC f3 ?_)
      refine zaF [(1000,7),(1001,9000)] (zco rfl (by simp only [go_sem,F]; exact iR)) (fb) (by decide) (by decide) (by simp only [go_sem,F]<;>rfl) (by simp only [go_sem,F,and_self]<;>trivial) (by simp only [go_sem,F,and_self]<;>trivial) (by intro o; simp only [go_sem,F,behind,and_self]<;>trivial) (by intro o; simp only [go_sem,F]<;>rfl) (by simp only [go_sem,F,behind]; exact iR) (by simp only [go_sem,F,behind]; exact iR) ?_
      repeat refine st ?_
      refine⟨m+1,⟨hml,by simp only [go_sem,e0],by simp only [go_sem,e1]⟩, ?_, ?_,by omega⟩
      ·(simp only [go_sem,F])
      ·have F:=hnm
       (simp only [go_sem,F])
  ·obtain rfl:m=U.length:=by omega
   have p1: ¬(U.length:Int)< (U.length:Int):=by omega
   have F:=ai p1<|ai q2<|ai e0<|e1
   repeat refine st ?_
   refine⟨j+1,⟨hlt,by simp only [go_sem,e0],by simp only [go_sem,e1]⟩, ?_, ?_,by omega⟩
   ·(simp only [go_sem,F])
   ·have F:=hn
    (simp only [go_sem,F])
 ·obtain rfl:j=l.length:=by omega
  have q1: ¬(l.length:Int)< (l.length:Int):=by omega
  show awp _ _ _ _ _ _
  have hall:upsTo c d l l.length=upsL c l d:=rfl
  rw [hall]
  have F:=ai q1<|ai e0<|e1
  repeat refine st ?_
  exact aR
end Go.Proofs.YtnbjaghjdeicmaaGreatDoor
