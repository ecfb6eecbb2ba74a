/- Above, transitions and their domains: the program's and the document's words. -/
import Derived.Test.YtlmekdfleciejaaGreatDoorD33
import Derived.Test.YtlmekdfleciejaaGreatDoorD7
import Derived.Test.YtlmekdfleciejaaGreatDoorD34
import Derived.Test.YtlmekdfleciejaaGreatDoorD36
set_option maxRecDepth 100000
set_option maxHeartbeats 8000000
set_option linter.unusedSimpArgs false
namespace Go.Proofs.YtlmekdfleciejaaGreatDoor
open Go.RowKit
theorem ziv (env:Env) (c:ChD) (hc:Right c) (i:Int):Con Tryz.prog env 113 [.agg (chAV c),I i] (.own 3 1 ((upL c i).map intAV)):=by
 have hlen:=hc.few
 have hul:(upL c i).length<=40:=zfQ 40 i
 refine zaa Tryz.func113 rfl Tryz.call113 (by rw [Tryz.ntmps113]; simp) ?_
 rw [Tryz.ntmps113,Tryz.results113]
 have F:=chAV.eq_1
 repeat refine st ?_
 refine zab (D:=Int×List Int) (fun d vs=>[(1,I d.1),(2, .loc 2 (vs 2) 0 0),(5, .row 7 (vs 7)),(6,I d.2.length)]) (fun d _=>[(2,⟨5,[chAV c],26,false⟩),(7,⟨1,d.2.map intAV,3,true⟩)]) (fun d _ esc=>upL c i=d.2++upL c d.1/\esc 7=false/\(d.2=[]\/d.2.length<40-(d.1+1).toNat\/d.1<40)) (fun d=>(d.1+1).toNat) (i,[]) ?_ ?_ ?_ ?_
 ·exact⟨rfl,rfl, .inl rfl⟩
 ·(simp only [go_sem,F])
  try rfl
 ·have F:=chAV.eq_1
  (simp only [go_sem,F])
  try rfl
 rintro⟨d,l⟩ ws esc ⟨hu,e0, -⟩
 simp only at hu
 have f0:=zka env c d
 have hll:l.length<=40:=by have:=congrArg List.length hu; rw [List.length_append] at this; omega
 cases hz:inZ c d with
 | false=>
   rw [hz] at f0
   rw [zbq hz,List.append_nil] at hu
   by_cases h40:l.length<40
   ·have q1:(l.length:Int)<40:=by omega
    have F:=ai chAV.eq_1<|ai q1<|ai hu<|e0
    repeat (first | refine st ?_ | refine cC f0 ?_)
    exact aR
   ·have q1: ¬(l.length:Int)<40:=by omega
    have F:=ai chAV.eq_1<|ai q1<|ai hu<|e0
    repeat (first | refine st ?_ | refine cC f0 ?_)
    exact aR
 | true=>
   rw [hz] at f0
   obtain⟨k,s,rfl,hs,ha⟩:=zb0 hz
   have hp:=zcx hs
   have hlt:=zbF hc hz
   rw [hp] at hlt
   rw [zhw hc hz,hp] at hu
   have hl:l.length+1<=40:=by
    have:=congrArg List.length hu
    rw [List.length_append,List.length_cons] at this
    omega
   have q1:(l.length:Int)<40:=by omega
   have q2:((k:Nat):Int)< (c.states.length:Int):=by have:=(zag.1 hz).2; omega
   have q3:IntKind.i64.wrap ((l.length:Int)+1)=((l.length+1:Nat):Int):=zac (Nat.lt_succ_self _) (by omega)
   have hf:Fits (l.length+1) 8:=⟨by omega,by omega⟩
   have F:=ai chAV.eq_1<|ai stAV.eq_1<|ai q1<|ai q2<|ai q3<|ai hs<|ai hf<|e0
   repeat (first | refine st ?_ | refine cC f0 ?_)
   refine⟨(s.parent,l++[s.parent]),⟨?_,by simp only [go_sem,e0], ?_⟩, ?_, ?_, ?_⟩
   ·show upL c i=(l++[s.parent])++upL c s.parent
    rw [hu,List.append_assoc]
    rfl
   ·exact .inr (.inr (by show s.parent<40; omega))
   ·simp only [List.length_append,List.length_singleton]
    (simp only [go_sem,F])
   ·have F:=chAV.eq_1
    (simp only [go_sem,List.map_append,F])
   ·show (s.parent+1).toNat< ((k:Int)+1).toNat
    omega
theorem zdh (env:Env) (c:ChD) (hc:Right c) (k i:Int):Con Tryz.prog env 57 [.agg (chAV c),I k,I i] (B (aboveB c k i)):=by
 have hul:(upL c i).length<=40:=zfQ 40 i
 have f0:=ziv env c hc i
 have f1:=zdF env (upL c i) k (by omega)
 unfold chAV at f0
 unfold aboveB
 refine zaa Tryz.func57 rfl Tryz.call57 (by rw [Tryz.ntmps57]; simp) ?_
 rw [Tryz.ntmps57,Tryz.results57]
 have F:=chAV.eq_1
 repeat (first | refine st ?_ | refine cC f0 ?_ | refine cC f1 ?_)
 exact aR
theorem zmG {c:ChD} (hc:Right c) {k i:Nat} (_hi:i<c.states.length):(mask c i).testBit k=aboveB c k i:=by
 unfold aboveB upL mask
 rw [zhR hc,Bool.eq_iff_iff,decide_eq_true_eq,List.contains_iff_mem]
theorem zdB (env:Env) (c:ChD) (hc:Right c) (k i:Int):Con Tryz.prog env 168 [zal c,I k,I i] (B (aboveB c k i)):=by
 have hlen:=hc.few
 have f0:=zhy env c i
 cases hz:inZ c i with
 | false=>
   rw [hz] at f0
   have:aboveB c k i=false:=by unfold aboveB; rw [zbq hz]; rfl
   rw [this]
   refine zaa Tryz.func168 rfl Tryz.call168 (by rw [Tryz.ntmps168]; simp) ?_
   rw [Tryz.ntmps168,Tryz.results168]
   repeat (first | refine st0 ?_ | refine cC0 f0 ?_)
   exact aR0
 | true=>
   rw [hz] at f0
   obtain⟨m,s,rfl,hs,ha⟩:=zb0 hz
   have hm:=(List.getElem?_eq_some_iff.1 hs).1
   by_cases e:k= -1
   ·subst e
    have:aboveB c (-1) m=true:=by unfold aboveB; rw [List.contains_iff_mem]; exact zhu hc (m+1) m hz (by omega)
    rw [this]
    refine zaa Tryz.func168 rfl Tryz.call168 (by rw [Tryz.ntmps168]; simp) ?_
    rw [Tryz.ntmps168,Tryz.results168]
    repeat (first | refine st0 ?_ | refine cC0 f0 ?_)
    exact aR0
   ·have e1:(k == -1)=false:=by simpa using e
    have f1:=zhy env c k
    cases hk:inZ c k with
    | false=>
      rw [hk] at f1
      have:aboveB c k m=false:=by
       cases hb:aboveB c k m with
       | false=>rfl
       | true=>
         unfold aboveB at hb
         have h1:=zeG hc 40 _ _ (List.contains_iff_mem.1 hb)
         rw [zag.2 ⟨by omega,by omega⟩] at hk
         cases hk
      rw [this]
      refine zaa Tryz.func168 rfl Tryz.call168 (by rw [Tryz.ntmps168]; simp) ?_
      rw [Tryz.ntmps168,Tryz.results168]
      have F:=e1
      repeat (first | refine st ?_ | refine cC f0 ?_ | refine cC f1 ?_)
      exact aR
    | true=>
      rw [hk] at f1
      obtain⟨p,sp,rfl,hps,_⟩:=zb0 hk
      have hpl:=(List.getElem?_eq_some_iff.1 hps).1
      have hml:mask c m<4294967296:=zeT hc (by omega)
      have f2:=zkQ env (mask c m) hml p (by omega)
      rw [zmG hc hm] at f2
      have g1:(mkTo c c.states.length)[m]? =some (mask c m):=by rw [zd3 hm,if_pos hm]
      have g2:((m:Nat):Int)< (c.states.length:Int):=by omega
      have g3:=zby c c.states.length
      refine zaa Tryz.func168 rfl Tryz.call168 (by rw [Tryz.ntmps168]; simp) ?_
      rw [Tryz.ntmps168,Tryz.results168]
      have F:=ai zal.eq_1<|ai umAV.eq_1<|ai e1<|ai g1<|ai g2<|g3
      repeat (first | refine st ?_ | refine cC f0 ?_ | refine cC f1 ?_ | refine cC f2 ?_)
      exact aR
def zaP:List Int->Int->Nat->Int
 | [],_,_=> -1
 | x::l,v,k=>if x=v then k else zaP l v (k+1)
theorem znY {l:List Int} {v:Int} {k:Nat} {x:Int} (h:l[k]? =some x) (hn:zaP l v 0=zaP (l.drop k) v k):(x=v->zaP l v 0=k)/\(x≠v->zaP l v 0=zaP (l.drop (k+1)) v (k+1)):=by
 obtain⟨hk,rfl⟩:=List.getElem?_eq_some_iff.1 h
 rw [List.drop_eq_getElem_cons hk] at hn
 simp only [zaP] at hn
 exact⟨fun e=>by rw [hn,if_pos e],fun e=>by rw [hn,if_neg e]⟩
theorem znZ (v:Int): ∀(l:List Int) (k:Nat),decide (0<=zaP l v k)=l.contains v
 | [],k=>rfl
 | x::l,k=>by
   have ih:=znZ v l (k+1)
   by_cases e:x=v
   ·have e1:zaP (x::l) v k=k:=if_pos e
    rw [e1,Bool.eq_iff_iff,decide_eq_true_eq,List.contains_iff_mem]
    exact⟨fun _=>by rw [e]; exact List.mem_cons_self ..,fun _=>by omega⟩
   ·have e1:zaP (x::l) v k=zaP l v (k+1):=if_neg e
    rw [e1,ih,Bool.eq_iff_iff,List.contains_iff_mem,List.contains_iff_mem,List.mem_cons]
    exact⟨.inr,fun h=>h.resolve_left fun h=>e h.symm⟩
theorem zmj (env:Env) (l:List Int) (v:Int) (hl:l.length<=1000000):Con Tryz.prog env 131 [.seq 1 (l.map intAV),I v] (I (zaP l v 0)):=by
 refine zaa Tryz.func131 rfl Tryz.call131 (by rw [Tryz.ntmps131]; simp) ?_
 rw [Tryz.ntmps131,Tryz.results131]
 repeat refine st0 ?_
 refine zab (D:=Nat) (fun k _=>[(0, .seq 1 (l.map intAV)),(1,I v),(7,I l.length),(8,I k)]) (fun _ _=>[]) (fun k _ _=>k<=l.length/\zaP l v 0=zaP (l.drop k) v k) (fun k=>l.length-k) 0 ?_ ?_ ?_ ?_
 ·exact⟨Nat.zero_le _,rfl⟩
 ·(simp only [go_sem])
 ·(simp only [go_sem])
 rintro k ws esc ⟨hk,hi⟩
 by_cases hlt:k<l.length
 ·obtain⟨x,hx,_⟩:=zam hlt
  obtain⟨yes,no⟩:=znY hx hi
  have k1:=nlt hlt
  have k2:=zac hlt (by omega)
  by_cases e:x=v
  ·rw [yes e]
   have k3:(v==x)=true:=by simp [e]
   have F:=ai k1<|ai k2<|ai k3<|hx
   repeat refine st ?_
   exact aR
  ·have k3:(v==x)=false:=by simpa using fun h=>e h.symm
   have F:=ai k1<|ai k2<|ai k3<|hx
   repeat refine st ?_
   refine⟨k+1,⟨hlt,no e⟩, ?_, ?_, ?_⟩
   ·(simp only [go_sem,F])
   ·(simp only [go_sem,F])
   ·omega
 ·have k1: ¬(k:Int)< (l.length:Int):=by omega
  rw [hi,List.drop_of_length_le (by omega),show zaP [] v k= -1 from rfl]
  have F:=k1
  repeat refine st ?_
  exact aR
theorem zb6 (env:Env) (l:List Int) (v:Int) (hl:l.length<=1000000):Con Tryz.prog env 82 [.seq 1 (l.map intAV),I v] (B (l.contains v)):=by
 have h:=znZ v l 0
 refine zaa Tryz.func82 rfl Tryz.call82 (by rw [Tryz.ntmps82]; simp) ?_
 rw [Tryz.ntmps82,Tryz.results82]
 repeat (first | refine st0 ?_ | refine cC0 (zmj env l v hl) ?_)
 (refine zak ?_; show (zaz _ _ _).run _=some _; simp only [go_sem])
 exact congrArg B h
def isT (c:ChD) (n:Int):Bool:=decide (0<=n)&&decide (n<c.trans.length)
theorem zqV {c:ChD} {n:Int} (h:isT c n=true): ∃(k:Nat) (t:TrD),n=(k:Int)/\c.trans[k]? =some t:=by
 unfold isT at h
 rw [Bool.and_eq_true,decide_eq_true_eq,decide_eq_true_eq] at h
 exact⟨n.toNat,c.trans[n.toNat]'(by omega),by omega,List.getElem?_eq_getElem _⟩
abbrev noTr:AV:= .agg [I 0,Sg [],nilS,nilS,I 0]
theorem zhx (env:Env) (c:ChD) (hs:Small c) (k:Nat) (t:TrD) (ht:c.trans[k]? =some t):Con Tryz.prog env 105 [zai c,I k] (.tuple [.agg (trAV t),B true]):=by
 have f0:=zaG env c hs
 have hk:=(List.getElem?_eq_some_iff.1 ht).1
 have g1:((k:Nat):Int)< (c.trans.length:Int):=by omega
 have g2: ¬(c.trans.length:Int)<=(k:Int):=by omega
 have g3: ¬((k:Nat):Int)<0:=by omega
 refine zaa Tryz.func105 rfl Tryz.call105 (by rw [Tryz.ntmps105]; simp) ?_
 rw [Tryz.ntmps105,Tryz.results105]
 have F:=ai chAV.eq_1<|ai trAV.eq_1<|ai g1<|ai g2<|ai g3<|ht
 repeat (first | refine st ?_ | refine cC f0 ?_)
 exact aR
theorem zmX (env:Env) (c:ChD) (hs:Small c) (n:Int) (h:isT c n=false):Con Tryz.prog env 105 [zai c,I n] (.tuple [noTr,B false]):=by
 have f0:=zaG env c hs
 by_cases h0:n<0
 ·refine zaa Tryz.func105 rfl Tryz.call105 (by rw [Tryz.ntmps105]; simp) ?_
  rw [Tryz.ntmps105,Tryz.results105]
  have F:=ai chAV.eq_1<|h0
  repeat (first | refine st ?_ | refine cC f0 ?_)
  exact aR
 ·have h1:(c.trans.length:Int)<=n:=by
   unfold isT at h
   rw [decide_eq_true (by omega),Bool.true_and,decide_eq_false_iff_not] at h
   omega
  refine zaa Tryz.func105 rfl Tryz.call105 (by rw [Tryz.ntmps105]; simp) ?_
  rw [Tryz.ntmps105,Tryz.results105]
  have F:=ai chAV.eq_1<|ai h0<|h1
  repeat (first | refine st ?_ | refine cC f0 ?_)
  exact aR
theorem zhO {c:ChD} {k:Nat} {s:StD} (hs:c.states[k]? =some s):zaL c k=(s.kind==1):=by unfold zaL; rw [zbp,hs]
theorem zhg (env:Env) (c:ChD) (hc:Right c) (hs:Small c) (t:TrD) (_hsrc:inZ c t.src=true):Con Tryz.prog env 112 [zai c, .agg (trAV t)] (I (domE c t.src t.target)):=by
 have hlen:=hc.few
 have f0:=zaG env c hs
 have f1:=zbH env c
 have f2:=zmW env c hc t.src
 have hul:(upL c t.src).length<=40:=zfQ 40 t.src
 have hrange: ∀x∈upL c t.src,x<0\/inZ c x=true:=fun x hx=>by
  rcases Int.lt_or_le x 0 with h | h
  ·exact .inl h
  ·exact .inr (zcu hc hx h).1
 unfold domE
 generalize upL c t.src=U at*
 unfold zai at f0 f1 |-
 refine zaa Tryz.func112 rfl Tryz.call112 (by rw [Tryz.ntmps112]; simp) ?_
 rw [Tryz.ntmps112,Tryz.results112]
 have F:=trAV.eq_1
 repeat (first | refine st ?_ | refine cC f0 ?_ | refine cC f1 ?_ | refine cC f2 ?_)
 refine zab (D:=Nat) (fun j vs=>[(0, .ref 9 [tabCells c] 0 0),(3, .loc 3 (vs 3) 0 0),(5, .loc 5 (vs 5) 0 0),(14, .row 14 (vs 14)),(15,I U.length),(16,I j)]) (fun j _=>[(3,⟨5,[trAV t],76,false⟩),(5,⟨5,[chAV c],26,false⟩),(14,⟨1,U.map intAV,3,true⟩)]) (fun j _ _=>j<=U.length/\U.find? (domP c t.target)=(U.drop j).find? (domP c t.target)) (fun j=>U.length-j) 0 ?_ ?_ ?_ ?_
 ·exact⟨Nat.zero_le _,rfl⟩
 ·have F:=ai trAV.eq_1<|chAV.eq_1
  (simp only [go_sem,F])
  try rfl
 ·have F:=ai trAV.eq_1<|chAV.eq_1
  (simp only [go_sem,F])
  try rfl
 rintro j ws esc ⟨hj,hf⟩
 by_cases hlt:j<U.length
 ·obtain⟨x,hx⟩: ∃x,U[j]? =some x:=⟨U[j],List.getElem?_eq_getElem hlt⟩
  have q1:=nlt hlt
  have q2:=zac hlt (by omega)
  rw [zcL hx] at hf
  rcases hrange x (List.mem_of_getElem? hx) with h0 | hz
  ·have hd:domP c t.target x=true:=by unfold domP; rw [decide_eq_true h0]; rfl
   rw [hd] at hf
   simp only [if_true] at hf
   rw [hf,Option.getD_some]
   have F:=ai hx<|q1
   repeat (first | refine oO rfl (by simp only [go_sem,h0,F]; exact⟨rfl,rfl⟩) ?_ | refine gR ?_ | refine gO ?_ | refine oZ (zb5 ?_) | refine oZ ?_ | refine oS ?_ | refine gT ?_ | refine gD Tryz.mixed ?_ | refine oB ?_ | refine oK ?_ | (refine oX ?_; simp only [zaQ,zaE, ↓reduceIte,Nat.reduceEqDiff,reduceCtorEq]) | refine oY (by simp only [go_sem,h0,F]; exact iR) ?_ | refine oN (by simp only [go_sem,h0,F]; exact iR) ?_)
   (refine zak ?_; show (zaz _ _ _).run _=some _; simp only [go_sem,h0,F])
  ·obtain⟨k,s,rfl,hsk,_⟩:=zb0 hz
   have hk:=(List.getElem?_eq_some_iff.1 hsk).1
   have h0: ¬((k:Nat):Int)<0:=by omega
   have q3:((k:Nat):Int)< (c.states.length:Int):=by omega
   have hdp:domP c t.target (k:Int)=(zaL c (k:Int)&&aboveB c (k:Int) t.target):=by unfold domP; rw [decide_eq_false h0,Bool.false_or]
   have hpl:=zhO hsk
   have f3:=zdB env c hc k t.target
   cases hk1:(s.kind==1) with
   | false=>
     rw [hdp,hpl,hk1,Bool.false_and] at hf
     simp only [Bool.false_eq_true,if_false] at hf
     have F:=ai trAV.eq_1<|ai chAV.eq_1<|ai stAV.eq_1<|ai hx<|ai hsk<|ai q1<|ai q2<|ai q3<|ai h0<|hk1
     repeat (first | refine st ?_ | refine cC f1 ?_)
     refine⟨j+1,⟨hlt,hf⟩, ?_, ?_,by omega⟩
     ·(simp only [go_sem,F])
     ·have F:=ai trAV.eq_1<|chAV.eq_1
      (simp only [go_sem,F])
   | true=>
     rw [hdp,hpl,hk1,Bool.true_and] at hf
     cases hab:aboveB c (k:Int) t.target with
     | false=>
       rw [hab] at hf f3
       simp only [Bool.false_eq_true,if_false] at hf
       unfold zal at f1 f3
       have F:=ai trAV.eq_1<|ai chAV.eq_1<|ai stAV.eq_1<|ai hx<|ai hsk<|ai q1<|ai q2<|ai q3<|ai h0<|hk1
       repeat (first | refine st ?_ | refine cC f1 ?_ | refine cC f3 ?_)
       refine⟨j+1,⟨hlt,hf⟩, ?_, ?_,by omega⟩
       ·(simp only [go_sem,F])
       ·have F:=ai trAV.eq_1<|chAV.eq_1
        (simp only [go_sem,F])
     | true=>
       rw [hab] at hf f3
       simp only [if_true] at hf
       rw [hf,Option.getD_some]
       unfold zal at f1 f3
       have F:=ai trAV.eq_1<|ai chAV.eq_1<|ai stAV.eq_1<|ai hx<|ai hsk<|ai q1<|ai q2<|ai q3<|ai h0<|hk1
       repeat (first | refine st ?_ | refine cC f1 ?_ | refine cC f3 ?_)
       exact aR
 ·obtain rfl:j=U.length:=by omega
  have q1: ¬(U.length:Int)< (U.length:Int):=by omega
  rw [List.drop_length] at hf
  rw [hf]
  simp only [List.find?_nil,Option.getD_none]
  have F:=q1
  repeat refine st ?_
  exact aR
theorem Full.src {c:ChD} (h:Full c) {k:Nat} {t:TrD} (ht:c.trans[k]? =some t):inZ c t.src=true/\(t.target= -1\/inZ c t.target=true):=by
 have:=h.tr k t ht
 unfold zcq at this
 simp only [Bool.and_eq_true,Bool.or_eq_true,beq_iff_eq,decide_eq_true_eq] at this
 refine⟨?_,this.2.imp id fun q=>zag.2 q⟩
 have h1:=this.1.1.1.1
 unfold zar at h1
 split at h1
 ·rename_i s hs
  unfold at_ at hs
  split at hs
  ·rename_i h0
   have:=(List.getElem?_eq_some_iff.1 hs).1
   exact zag.2 ⟨h0,by omega⟩
  ·cases hs
 ·cases h1
theorem zng (env:Env) (c:ChD) (n:Int):Con Tryz.prog env 48 [.agg (chAV c),I n] (B (isT c n)):=by
 unfold isT
 by_cases h0:0<=n
 ·by_cases h1:n< (c.trans.length:Int)
  ·refine zaa Tryz.func48 rfl Tryz.call48 (by rw [Tryz.ntmps48]; simp) ?_
   rw [Tryz.ntmps48,Tryz.results48]
   have F:=ai chAV.eq_1<|ai h0<|h1
   repeat refine st ?_
   exact aR
  ·refine zaa Tryz.func48 rfl Tryz.call48 (by rw [Tryz.ntmps48]; simp) ?_
   rw [Tryz.ntmps48,Tryz.results48]
   have F:=ai chAV.eq_1<|ai h0<|h1
   repeat refine st ?_
   exact aR
 ·refine zaa Tryz.func48 rfl Tryz.call48 (by rw [Tryz.ntmps48]; simp) ?_
  rw [Tryz.ntmps48,Tryz.results48]
  have F:=ai chAV.eq_1<|h0
  repeat refine st ?_
  exact aR
theorem zhN (env:Env) (c:ChD) (hc:Right c) (t:TrD) (_hsrc:inZ c t.src=true):Con Tryz.prog env 68 [.agg (chAV c), .agg (trAV t)] (I (domE c t.src t.target)):=by
 have hlen:=hc.few
 have f2:=ziv env c hc t.src
 have hul:(upL c t.src).length<=40:=zfQ 40 t.src
 have hrange: ∀x∈upL c t.src,x= -1\/inZ c x=true:=fun x hx=>by
  rcases Int.lt_or_le x 0 with h | h
  ·have:=(zeG hc 40 _ _ hx).1
   exact .inl (by omega)
  ·exact .inr (zcu hc hx h).1
 unfold domE
 generalize upL c t.src=U at*
 unfold chAV at f2
 refine zaa Tryz.func68 rfl Tryz.call68 (by rw [Tryz.ntmps68]; simp) ?_
 rw [Tryz.ntmps68,Tryz.results68]
 have F:=ai trAV.eq_1<|chAV.eq_1
 repeat (first | refine st ?_ | refine cC f2 ?_)
 refine zab (D:=Nat) (fun j vs=>[(2, .loc 2 (vs 2) 0 0),(3, .loc 3 (vs 3) 0 0),(5, .row 10 (vs 10)),(6,I j)]) (fun j _=>[(2,⟨5,[chAV c],26,false⟩),(3,⟨5,[trAV t],76,false⟩),(10,⟨1,U.map intAV,3,true⟩)]) (fun j _ _=>j<=U.length/\U.find? (domP c t.target)=(U.drop j).find? (domP c t.target)) (fun j=>U.length-j) 0 ?_ ?_ ?_ ?_
 ·exact⟨Nat.zero_le _,rfl⟩
 ·have F:=ai trAV.eq_1<|chAV.eq_1
  (simp only [go_sem,F])
  try rfl
 ·have F:=ai trAV.eq_1<|chAV.eq_1
  (simp only [go_sem,F])
  try rfl
 rintro j ws esc ⟨hj,hf⟩
 by_cases hlt:j<U.length
 ·obtain⟨x,hx⟩: ∃x,U[j]? =some x:=⟨U[j],List.getElem?_eq_getElem hlt⟩
  have q1:=nlt hlt
  have q2:=zac hlt (by omega)
  rw [zcL hx] at hf
  rcases hrange x (List.mem_of_getElem? hx) with rfl | hz
  ·have hd:domP c t.target (-1)=true:=by unfold domP; rw [decide_eq_true (by omega)]; rfl
   rw [hd] at hf
   simp only [if_true] at hf
   rw [hf,Option.getD_some]
   have F:=ai hx<|q1
   repeat refine st ?_
   exact aR
  ·obtain⟨k,s,rfl,hsk,_⟩:=zb0 hz
   have hk:=(List.getElem?_eq_some_iff.1 hsk).1
   have h0:(((k:Nat):Int) == -1)=false:=by simp
   have q3:((k:Nat):Int)< (c.states.length:Int):=by omega
   have hdp:domP c t.target (k:Int)=(zaL c (k:Int)&&aboveB c (k:Int) t.target):=by unfold domP; rw [decide_eq_false (by omega),Bool.false_or]
   have hpl:=zhO hsk
   have f3:=zdh env c hc k t.target
   unfold chAV at f3
   cases hk1:(s.kind==1) with
   | false=>
     rw [hdp,hpl,hk1,Bool.false_and] at hf
     simp only [Bool.false_eq_true,if_false] at hf
     have F:=ai trAV.eq_1<|ai chAV.eq_1<|ai stAV.eq_1<|ai hx<|ai hsk<|ai q1<|ai q2<|ai q3<|ai h0<|hk1
     repeat (first | refine st ?_ | refine cC f3 ?_)
     refine⟨j+1,⟨hlt,hf⟩, ?_, ?_,by omega⟩
     ·(simp only [go_sem,F])
     ·have F:=ai trAV.eq_1<|chAV.eq_1
      (simp only [go_sem,F])
   | true=>
     rw [hdp,hpl,hk1,Bool.true_and] at hf
     cases hab:aboveB c (k:Int) t.target with
     | false=>
       rw [hab] at hf f3
       simp only [Bool.false_eq_true,if_false] at hf
       have F:=ai trAV.eq_1<|ai chAV.eq_1<|ai stAV.eq_1<|ai hx<|ai hsk<|ai q1<|ai q2<|ai q3<|ai h0<|hk1
       repeat (first | refine st ?_ | refine cC f3 ?_)
       refine⟨j+1,⟨hlt,hf⟩, ?_, ?_,by omega⟩
       ·(simp only [go_sem,F])
       ·have F:=ai trAV.eq_1<|chAV.eq_1
        (simp only [go_sem,F])
     | true=>
       rw [hab] at hf f3
       simp only [if_true] at hf
       rw [hf,Option.getD_some]
       have F:=ai trAV.eq_1<|ai chAV.eq_1<|ai stAV.eq_1<|ai hx<|ai hsk<|ai q1<|ai q2<|ai q3<|ai h0<|hk1
       repeat (first | refine st ?_ | refine cC f3 ?_)
       exact aR
 ·obtain rfl:j=U.length:=by omega
  have q1: ¬(U.length:Int)< (U.length:Int):=by omega
  rw [List.drop_length] at hf
  rw [hf]
  simp only [List.find?_nil,Option.getD_none]
  have F:=q1
  repeat refine st ?_
  exact aR
end Go.Proofs.YtlmekdfleciejaaGreatDoor
