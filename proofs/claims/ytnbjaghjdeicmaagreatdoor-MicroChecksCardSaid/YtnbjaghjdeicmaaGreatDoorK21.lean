/- DeleteFunc over numbers with a closure that holds a number. -/
import Derived.Test.YtnbjaghjdeicmaaGreatDoorK13
import Derived.Test.YtnbjaghjdeicmaaGreatDoorK10
import Derived.Test.YtnbjaghjdeicmaaGreatDoorK5
import Derived.Test.YtnbjaghjdeicmaaGreatDoorK17
import Derived.Test.YtnbjaghjdeicmaaGreatDoorK20
import Derived.Test.YtnbjaghjdeicmaaGreatDoorK16
import Derived.Test.YtnbjaghjdeicmaaGreatDoorK19
import Derived.Test.YtnbjaghjdeicmaaGreatDoorK4
import Derived.LoopNIn
set_option maxRecDepth 100000
set_option maxHeartbeats 16000000
set_option linter.unusedSimpArgs false
namespace Go.Proofs.YtnbjaghjdeicmaaGreatDoor
section
open Go.RowKit
def zdm (c:ChD) (x:Int):Bool:=match c.states[x.toNat]? with
 | some s=>decide (s.parent<0)&&(s.kind==3)
 | none=>false
def zjv (c:ChD) (act:List Int):Bool:=act.any (zdm c)
theorem zmG {c:ChD} {act:List Int} {i:Nat} {x:Int} (ha:(act.take i).any (zdm c)=false) (hx:act[i]? =some x) (h:zdm c x=false):(act.take (i+1)).any (zdm c)=false:=by
 rw [List.take_add_one,hx,List.any_append,ha]
 simp [h]
theorem zqx {c:ChD} {act:List Int} {i:Nat} {x:Int} (hx:act[i]? =some x) (h:zdm c x=true):zjv c act=true:=List.any_eq_true.2 ⟨x,List.mem_of_getElem? hx,h⟩
theorem zq3 (env:Env) (c:ChD) (act:List Int) (hl:act.length<=1000000) (hr: ∀x∈act,0<=x/\x<c.states.length):Con Tryz.prog env 91 [.agg (chAV c),ints34 act] (B (zjv c act)):=by
 refine zaa Tryz.func91 rfl Tryz.call91 (by rw [Tryz.ntmps91]; simp) ?_
 rw [Tryz.ntmps91,Tryz.results91]
 have F:=chAV.eq_1
 repeat refine st ?_
 refine zac (D:=Nat) (fun i vs=>[(2, .loc 2 (vs 2) 0 0),(7,ints34 act),(8,I act.length),(9,I i)]) (fun _ _=>[(2,⟨5,[chAV c],26,false⟩)]) (fun i _ _=>i<=act.length/\(act.take i).any (zdm c)=false) (fun i=>act.length-i) 0 ?_ ?_ ?_ ?_
 ·exact⟨Nat.zero_le _,rfl⟩
 ·(simp only [go_sem,F])
 ·have F:=chAV.eq_1
  (simp only [go_sem,F])
 rintro i vs esc ⟨hi,ha⟩
 by_cases hlt:i<act.length
 ·have g1:=nlt hlt
  have g2:=zab hlt (by omega)
  obtain⟨x,hx⟩: ∃x,act[i]? =some x:=⟨act[i],List.getElem?_eq_getElem hlt⟩
  obtain⟨h0,h1⟩:=hr x (List.mem_of_getElem? hx)
  obtain⟨k,rfl⟩:=Int.eq_ofNat_of_zero_le h0
  have hk:k<c.states.length:=by omega
  obtain⟨s,hs⟩: ∃s,c.states[k]? =some s:=⟨c.states[k],List.getElem?_eq_getElem hk⟩
  have g3:=nlt hk
  have ht:zdm c k=(decide (s.parent<0)&&(s.kind==3)):=by unfold zdm; rw [Int.toNat_natCast,hs]
  by_cases b1:s.parent<0
  ·by_cases b2:s.kind=3
   ·rw [zqx hx (by rw [ht,decide_eq_true b1,b2]; rfl)]
    have F:=ai chAV.eq_1<|ai stAV.eq_1<|ai g1<|ai g2<|ai g3<|ai hx<|ai hs<|ai b1<|b2
    repeat (first | refine oO rfl (by simp only [go_sem,intAV,F]; exact⟨rfl,rfl⟩) ?_ | refine gR ?_ | refine gO ?_ | refine oZ (zau ?_) | refine oZ ?_ | refine oS ?_ | refine gT ?_ | refine gD Tryz.mixed ?_ | refine oB ?_ | refine oK ?_ | (refine oX ?_; simp only [zam,zag, ↓reduceIte,Nat.reduceEqDiff,reduceCtorEq]) | refine oY (by simp only [go_sem,intAV,F]; exact iR) ?_ | refine oN (by simp only [go_sem,intAV,F]; exact iR) ?_)
    (refine zae ?_; show (zar _ _ _).run _=some _; simp only [go_sem,intAV,F])
   ·have b3:(s.kind==3)=false:=by simpa using b2
    have F:=ai chAV.eq_1<|ai stAV.eq_1<|ai g1<|ai g2<|ai g3<|ai hx<|ai hs<|ai b1<|b3
    repeat (first | refine oO rfl (by simp only [go_sem,intAV,F]; exact⟨rfl,rfl⟩) ?_ | refine gR ?_ | refine gO ?_ | refine oZ (zau ?_) | refine oZ ?_ | refine oS ?_ | refine gT ?_ | refine gD Tryz.mixed ?_ | refine oB ?_ | refine oK ?_ | (refine oX ?_; simp only [zam,zag, ↓reduceIte,Nat.reduceEqDiff,reduceCtorEq]) | refine oY (by simp only [go_sem,intAV,F]; exact iR) ?_ | refine oN (by simp only [go_sem,intAV,F]; exact iR) ?_)
    refine⟨i+1,⟨hlt,zmG ha hx (by rw [ht,b3,Bool.and_false])⟩, ?_, ?_,by omega⟩
    ·(simp only [go_sem,intAV,F])
    ·have F:=chAV.eq_1
     (simp only [go_sem,F])
  ·have F:=ai chAV.eq_1<|ai stAV.eq_1<|ai g1<|ai g2<|ai g3<|ai hx<|ai hs<|b1
   repeat (first | refine oO rfl (by simp only [go_sem,intAV,F]; exact⟨rfl,rfl⟩) ?_ | refine gR ?_ | refine gO ?_ | refine oZ (zau ?_) | refine oZ ?_ | refine oS ?_ | refine gT ?_ | refine gD Tryz.mixed ?_ | refine oB ?_ | refine oK ?_ | (refine oX ?_; simp only [zam,zag, ↓reduceIte,Nat.reduceEqDiff,reduceCtorEq]) | refine oY (by simp only [go_sem,intAV,F]; exact iR) ?_ | refine oN (by simp only [go_sem,intAV,F]; exact iR) ?_)
   refine⟨i+1,⟨hlt,zmG ha hx (by rw [ht,decide_eq_false b1,Bool.false_and])⟩, ?_, ?_,by omega⟩
   ·(simp only [go_sem,intAV,F])
   ·have F:=chAV.eq_1
    (simp only [go_sem,F])
 have g1: ¬(i:Int)< (act.length:Int):=by omega
 rw [show zjv c act=false from by rwa [List.take_of_length_le (by omega)] at ha]
 have F:=g1
 repeat refine st ?_
 exact aR
theorem zoF (env:Env) (c:ChD) (act:List Int) (hl:act.length<=1000000) (hr: ∀x∈act,0<=x/\x<c.states.length):Con Tryz.prog env 59 [.agg (chAV c),ints34 act] (B (zjv c act)):=by
 refine zaa Tryz.func59 rfl Tryz.call59 (by rw [Tryz.ntmps59]; simp) ?_
 rw [Tryz.ntmps59,Tryz.results59]
 have F:=chAV.eq_1
 repeat refine st ?_
 refine zac (D:=Nat) (fun i vs=>[(1,ints34 act),(2, .loc 2 (vs 2) 0 0),(5,I i)]) (fun _ _=>[(2,⟨5,[chAV c],26,false⟩)]) (fun i _ _=>i<=act.length/\(act.take i).any (zdm c)=false) (fun i=>act.length-i) 0 ?_ ?_ ?_ ?_
 ·exact⟨Nat.zero_le _,rfl⟩
 ·(simp only [go_sem,F])
 ·have F:=chAV.eq_1
  (simp only [go_sem,F])
 rintro i vs esc ⟨hi,ha⟩
 by_cases hlt:i<act.length
 ·have g1:=nlt hlt
  have g2:=zab hlt (by omega)
  obtain⟨x,hx⟩: ∃x,act[i]? =some x:=⟨act[i],List.getElem?_eq_getElem hlt⟩
  obtain⟨h0,h1⟩:=hr x (List.mem_of_getElem? hx)
  obtain⟨k,rfl⟩:=Int.eq_ofNat_of_zero_le h0
  have hk:k<c.states.length:=by omega
  obtain⟨s,hs⟩: ∃s,c.states[k]? =some s:=⟨c.states[k],List.getElem?_eq_getElem hk⟩
  have g3:=nlt hk
  have ht:zdm c k=(decide (s.parent<0)&&(s.kind==3)):=by unfold zdm; rw [Int.toNat_natCast,hs]
  by_cases b1:s.parent<0
  ·by_cases b2:s.kind=3
   ·rw [zqx hx (by rw [ht,decide_eq_true b1,b2]; rfl)]
    have F:=ai chAV.eq_1<|ai stAV.eq_1<|ai g1<|ai g2<|ai g3<|ai hx<|ai hs<|ai b1<|b2
    repeat (first | refine oO rfl (by simp only [go_sem,intAV,F]; exact⟨rfl,rfl⟩) ?_ | refine gR ?_ | refine gO ?_ | refine oZ (zau ?_) | refine oZ ?_ | refine oS ?_ | refine gT ?_ | refine gD Tryz.mixed ?_ | refine oB ?_ | refine oK ?_ | (refine oX ?_; simp only [zam,zag, ↓reduceIte,Nat.reduceEqDiff,reduceCtorEq]) | refine oY (by simp only [go_sem,intAV,F]; exact iR) ?_ | refine oN (by simp only [go_sem,intAV,F]; exact iR) ?_)
    (refine zae ?_; show (zar _ _ _).run _=some _; simp only [go_sem,intAV,F])
   ·have b3:(s.kind==3)=false:=by simpa using b2
    have F:=ai chAV.eq_1<|ai stAV.eq_1<|ai g1<|ai g2<|ai g3<|ai hx<|ai hs<|ai b1<|b3
    repeat (first | refine oO rfl (by simp only [go_sem,intAV,F]; exact⟨rfl,rfl⟩) ?_ | refine gR ?_ | refine gO ?_ | refine oZ (zau ?_) | refine oZ ?_ | refine oS ?_ | refine gT ?_ | refine gD Tryz.mixed ?_ | refine oB ?_ | refine oK ?_ | (refine oX ?_; simp only [zam,zag, ↓reduceIte,Nat.reduceEqDiff,reduceCtorEq]) | refine oY (by simp only [go_sem,intAV,F]; exact iR) ?_ | refine oN (by simp only [go_sem,intAV,F]; exact iR) ?_)
    refine⟨i+1,⟨hlt,zmG ha hx (by rw [ht,b3,Bool.and_false])⟩, ?_, ?_,by omega⟩
    ·(simp only [go_sem,intAV,F])
    ·have F:=chAV.eq_1
     (simp only [go_sem,F])
  ·have F:=ai chAV.eq_1<|ai stAV.eq_1<|ai g1<|ai g2<|ai g3<|ai hx<|ai hs<|b1
   repeat (first | refine oO rfl (by simp only [go_sem,intAV,F]; exact⟨rfl,rfl⟩) ?_ | refine gR ?_ | refine gO ?_ | refine oZ (zau ?_) | refine oZ ?_ | refine oS ?_ | refine gT ?_ | refine gD Tryz.mixed ?_ | refine oB ?_ | refine oK ?_ | (refine oX ?_; simp only [zam,zag, ↓reduceIte,Nat.reduceEqDiff,reduceCtorEq]) | refine oY (by simp only [go_sem,intAV,F]; exact iR) ?_ | refine oN (by simp only [go_sem,intAV,F]; exact iR) ?_)
   refine⟨i+1,⟨hlt,zmG ha hx (by rw [ht,decide_eq_false b1,Bool.false_and])⟩, ?_, ?_,by omega⟩
   ·(simp only [go_sem,intAV,F])
   ·have F:=chAV.eq_1
    (simp only [go_sem,F])
 have g1: ¬(i:Int)< (act.length:Int):=by omega
 rw [show zjv c act=false from by rwa [List.take_of_length_le (by omega)] at ha]
 have F:=g1
 repeat refine st ?_
 exact aR
theorem zq9 (env:Env) (l:List (List UInt8×Int)) (hl:l.length<=9223372036854775807) (hn: ∀t∈l,t.1.length<=9223372036854775807):Con Tryz.prog env 90 [.seq 2 (l.map tmAV)] (B (zc1 l)):=by
 refine zaa Tryz.func90 rfl Tryz.call90 (by rw [Tryz.ntmps90]; simp) ?_
 rw [Tryz.ntmps90,Tryz.results90]
 repeat refine st0 ?_
 refine zac (D:=Nat) (fun i _=>[(0, .seq 2 (l.map tmAV)),(5, .seq 2 (l.map tmAV)),(6,I l.length),(7,I i)]) (fun _ _=>[]) (fun i _ _=>i<=l.length/\ ∀j,j<i->tmAt l j=true) (fun i=>l.length-i) 0 ?_ ?_ ?_ ?_
 ·exact⟨Nat.zero_le _,fun j hj=>by omega⟩
 ·(simp only [go_sem])
 ·(simp only [go_sem])
 rintro i vs esc ⟨hi,ha⟩
 by_cases hlt:i<l.length
 ·have g1:=nlt hlt
  have g2:=zab hlt (by omega)
  obtain⟨x,hx⟩: ∃x,l[i]? =some x:=⟨l[i],List.getElem?_eq_getElem hlt⟩
  have f1:=zbR env x.1 (hn x (zs9 hx))
  have hnot:tmAt l i=false->zc1 l=false:=fun h=>by rw [zc1,zh2 hlt h]; rfl
  cases a1:zaI x.1
  ·rw [hnot (by unfold tmAt; rw [zcc hx,a1]; rfl)]
   rw [a1] at f1
   have F:=ai g1<|ai g2<|ai hx<|tmAV.eq_1
   repeat (first | refine st ?_ | refine cC f1 ?_)
   exact aR
  rw [a1] at f1
  by_cases a2:x.2<0
  ·rw [hnot (by unfold tmAt clkB; rw [zcc hx,decide_eq_false (by omega),Bool.and_false]; rfl)]
   have F:=ai g1<|ai g2<|ai hx<|ai tmAV.eq_1<|a2
   repeat (first | refine st ?_ | refine cC f1 ?_)
   exact aR
  by_cases a3:1099511627776<x.2
  ·rw [hnot (by unfold tmAt clkB; rw [zcc hx,decide_eq_false (by omega),Bool.and_false]; rfl)]
   have F:=ai g1<|ai g2<|ai hx<|ai tmAV.eq_1<|ai a2<|a3
   repeat (first | refine st ?_ | refine cC f1 ?_)
   exact aR
  have a4:clkB x.2=true:=decide_eq_true ⟨by omega,by omega⟩
  by_cases h0:i=0
  ·have g3: ¬(0:Int)< (i:Int):=by omega
   have F:=ai g1<|ai g2<|ai hx<|ai tmAV.eq_1<|ai a2<|ai a3<|g3
   repeat (first | refine st ?_ | refine cC f1 ?_)
   refine⟨i+1,⟨hlt,zi1 ha ?_⟩, ?_, ?_,by omega⟩
   ·unfold tmAt
    rw [zcc hx,a1,a4,decide_eq_true h0]
    rfl
   ·(simp only [go_sem,F])
   ·(simp only [go_sem,F])
  have g3:(0:Int)< (i:Int):=by omega
  have g4:IntKind.i64.wrap ((i:Int)-1)=((i-1:Nat):Int):=i64m i 1 (by omega) (by omega)
  have g5:((i-1:Nat):Int)< (l.length:Int):=by omega
  obtain⟨y,hy⟩: ∃y,l[i-1]? =some y:=⟨l[i-1],List.getElem?_eq_getElem (by omega)⟩
  have hv:tmAt l i= !(Op.bytesLess x.1 y.1||x.1==y.1):=by unfold tmAt; rw [zcc hx,zcc hy,a1,a4,decide_eq_false h0,zgx]; rfl
  by_cases hc:(Op.bytesLess x.1 y.1||x.1==y.1)=true
  ·rw [hnot (by rw [hv,hc]; rfl)]
   have F:=ai g1<|ai g2<|ai hx<|ai tmAV.eq_1<|ai a2<|ai a3<|ai g3<|ai g4<|ai g5<|ai hy<|hc
   repeat (first | refine st ?_ | refine cC f1 ?_)
   exact aR
  have hc:(Op.bytesLess x.1 y.1||x.1==y.1)=false:=by simpa using hc
  have F:=ai g1<|ai g2<|ai hx<|ai tmAV.eq_1<|ai a2<|ai a3<|ai g3<|ai g4<|ai g5<|ai hy<|hc
  repeat (first | refine st ?_ | refine cC f1 ?_)
  refine⟨i+1,⟨hlt,zi1 ha (by rw [hv,hc]; rfl)⟩, ?_, ?_,by omega⟩
  ·(simp only [go_sem,F])
  ·(simp only [go_sem,F])
 have g1: ¬(i:Int)< (l.length:Int):=by omega
 have e:zc1 l=decide ((l.length:Int)<=8):=by
  rw [zc1,zkw (n:=l.length) fun j hj=>ha j (by omega),Bool.true_and]
  exact decide_eq_decide.2 (by omega)
 rw [e]
 have F:=g1
 repeat refine st ?_
 exact aR
theorem zo1 (env:Env) (a1 a8:Addr) (he:ChEnv env a1 a8) (s:List UInt8):Con Tryz.prog env 67 [Sg s] (errV (-1) (sentV a1)):=by
 have h1:=ziL he.e1
 have f1:=zca env s a1
 refine zaa Tryz.func67 rfl Tryz.call67 (by rw [Tryz.ntmps67]; simp) ?_
 rw [Tryz.ntmps67,Tryz.results67]
 have F:=h1
 repeat (first | refine st ?_ | refine cC f1 ?_)
 exact aR
structure LiteI (r:Rc):Prop where
 active:r.active.length<=1000000
 vars:r.vars.length<=1000000
 mem:r.mem.length<=1000000
 timers:r.timers.length<=9223372036854775807
def zhj (l:List Int):Bool:=l.all zdj
def zck (c:ChD) (r:Rc):Bool:=lgB c r.active&&zdi c r.mem&&(r.vars.length==c.vars.length)&&zc1 r.timers&&(r.over==zjv c r.active)&&zhj r.vars
def zli (a1:Addr) (c:ChD) (r:Rc):AV:=if zck c r=true then nilE else errV (-1) (sentV a1)
theorem ztc {c:ChD} {act:List Int} (h:lgB c act=true): ∀x∈act,0<=x/\x<c.states.length:=fun x hx=>by
 obtain⟨i,hi⟩:=List.mem_iff_getElem?.1 hx
 have h1:=(zr2.1 h).1 i (List.getElem?_eq_some_iff.1 hi).1
 rw [zlg hi,Bool.and_eq_true] at h1
 have h2:=h1.2
 unfold fitI at_ at h2
 by_cases h0:0<=x
 ·rw [if_pos h0] at h2
  cases hs:c.states[x.toNat]? with
  | none=>rw [hs] at h2; cases h2
  | some s=>have:=(List.getElem?_eq_some_iff.1 hs).1; omega
 ·rw [if_neg h0] at h2
  cases h2
end
section
open Go.RowKit
theorem zpF {l:List Int} {i:Nat} {x:Int} (ha:(l.take i).all zdj=true) (hx:l[i]? =some x) (h:zdj x=true):(l.take (i+1)).all zdj=true:=by
 rw [List.take_add_one,hx,List.all_append,ha]
 simp [h]
theorem zpG {l:List Int} {i:Nat} {x:Int} (hx:l[i]? =some x) (h:zdj x=false):zhj l=false:=by
 unfold zhj
 rw [List.all_eq_false]
 exact⟨x,List.mem_of_getElem? hx,by rw [h]; exact Bool.false_ne_true⟩
theorem zhE (env:Env) (a1 a8:Addr) (he:ChEnv env a1 a8) (c:ChD) (h:Full c) (hs:Small c) (r:Rc) (hl:LiteI r) (hn: ∀t∈r.timers,t.1.length<=9223372036854775807) (hF: ∀m∈r.mem,Fits m.2.length 8):Con Tryz.prog env 36 [zaj c, .agg (inAV r)] (zli a1 c r):=by
 have f1:=zaA env c hs
 have f2:=zcL env a1 a8 he c h hs r.active hl.active
 have f3:=zg5 env a1 a8 he c h hs r.mem hl.mem hF
 have f4:=zq9 env r.timers hl.timers hn
 have f6:=zo1 env a1 a8 he [109,105,99,114,111,46,67,104,101,99,107]
 have bad:zck c r=false->zli a1 c r=errV (-1) (sentV a1):=fun h=>by unfold zli; rw [h]; rfl
 unfold chkE at f2
 unfold chkM at f3
 unfold chAV at f1
 unfold zaj at f1 f2 f3 |-
 cases b1:lgB c r.active
 ·rw [bad (by unfold zck; rw [b1]; rfl)]
  rw [b1,if_neg Bool.false_ne_true] at f2
  refine zaa Tryz.func36 rfl Tryz.call36 (by rw [Tryz.ntmps36]; simp) ?_
  rw [Tryz.ntmps36,Tryz.results36]
  have F:=inAV.eq_1
  repeat (first | refine st ?_ | refine cC f1 ?_ | refine cC f2 ?_ | refine cC f6 ?_)
  exact aR
 rw [b1,if_pos rfl] at f2
 cases b2:zdi c r.mem
 ·rw [bad (by unfold zck; rw [b2,Bool.and_false]; rfl)]
  rw [b2,if_neg Bool.false_ne_true] at f3
  refine zaa Tryz.func36 rfl Tryz.call36 (by rw [Tryz.ntmps36]; simp) ?_
  rw [Tryz.ntmps36,Tryz.results36]
  have F:=inAV.eq_1
  repeat (first | refine st ?_ | refine cC f1 ?_ | refine cC f2 ?_ | refine cC f3 ?_ | refine cC f6 ?_)
  exact aR
 rw [b2,if_pos rfl] at f3
 by_cases b3:r.vars.length=c.vars.length
 case neg=>
  rw [bad (by unfold zck; rw [show (r.vars.length==c.vars.length)=false by simpa using b3,Bool.and_false]; rfl)]
  have b4:((r.vars.length:Int) != (c.vars.length:Int))=true:=by simp; omega
  refine zaa Tryz.func36 rfl Tryz.call36 (by rw [Tryz.ntmps36]; simp) ?_
  rw [Tryz.ntmps36,Tryz.results36]
  have F:=ai inAV.eq_1<|b4
  repeat (first | refine st ?_ | refine cC f1 ?_ | refine cC f2 ?_ | refine cC f3 ?_ | refine cC f6 ?_)
  exact aR
 have b4:((r.vars.length:Int) != (c.vars.length:Int))=false:=by simp [b3]
 cases b5:zc1 r.timers
 ·rw [bad (by unfold zck; rw [b5,Bool.and_false]; rfl)]
  rw [b5] at f4
  refine zaa Tryz.func36 rfl Tryz.call36 (by rw [Tryz.ntmps36]; simp) ?_
  rw [Tryz.ntmps36,Tryz.results36]
  have F:=ai inAV.eq_1<|b4
  repeat (first | refine st ?_ | refine cC f1 ?_ | refine cC f2 ?_ | refine cC f3 ?_ | refine cC f4 ?_ | refine cC f6 ?_)
  exact aR
 rw [b5] at f4
 have f5:=zq3 env c r.active hl.active (ztc b1)
 unfold chAV at f5
 cases b6:(r.over==zjv c r.active)
 ·rw [bad (by unfold zck; rw [b6,Bool.and_false]; rfl)]
  refine zaa Tryz.func36 rfl Tryz.call36 (by rw [Tryz.ntmps36]; simp) ?_
  rw [Tryz.ntmps36,Tryz.results36]
  have F:=ai inAV.eq_1<|ai b4<|b6
  repeat (first | refine st ?_ | refine cC f1 ?_ | refine cC f2 ?_ | refine cC f3 ?_ | refine cC f4 ?_ | refine cC f5 ?_ | refine cC f6 ?_)
  exact aR
 have hi:zck c r=zhj r.vars:=by unfold zck; rw [b1,b2,b5,b6,show (r.vars.length==c.vars.length)=true by simpa using b3]; rfl
 have hvl:=hl.vars
 refine zaa Tryz.func36 rfl Tryz.call36 (by rw [Tryz.ntmps36]; simp) ?_
 rw [Tryz.ntmps36,Tryz.results36]
 have F:=ai inAV.eq_1<|ai b4<|b6
 repeat (first | refine st ?_ | refine cC f1 ?_ | refine cC f2 ?_ | refine cC f3 ?_ | refine cC f4 ?_ | refine cC f5 ?_ | refine cC f6 ?_)
 try clear f1 f2 f3 f4 f5 b1 b2 b4 b5 b6
 refine zac (D:=Nat) (fun i _=>[(52,ints34 r.vars),(53,I r.vars.length),(54,I i)]) (fun _ _=>[]) (fun i _ _=>i<=r.vars.length/\(r.vars.take i).all zdj=true) (fun i=>r.vars.length-i) 0 ?_ ?_ ?_ ?_
 ·exact⟨Nat.zero_le _,rfl⟩
 ·(simp only [go_sem,F])
 ·(simp only [go_sem,F])
 rintro i vs esc ⟨hi2,ha⟩
 by_cases hlt:i<r.vars.length
 ·have g1:=nlt hlt
  have g2:=zab hlt (by omega)
  obtain⟨x,hx⟩: ∃x,r.vars[i]? =some x:=⟨r.vars[i],List.getElem?_eq_getElem hlt⟩
  have f7:=zeq env x
  cases b8:zdj x
  ·rw [b8] at f7
   rw [bad (by rw [hi]; exact zpG hx b8)]
   have F:=ai g1<|ai g2<|hx
   repeat (first | refine oO rfl (by simp only [go_sem,intAV,F]; exact⟨rfl,rfl⟩) ?_ | refine gR ?_ | refine gO ?_ | refine oC rfl (f6) (by simp only [go_sem,intAV,F]; exact iR) (by simp only [go_sem,intAV,F]; exact⟨rfl,rfl⟩) ?_ | refine oC rfl (f7) (by simp only [go_sem,intAV,F]; exact iR) (by simp only [go_sem,intAV,F]; exact⟨rfl,rfl⟩) ?_ | refine oZ (zau ?_) | refine oZ ?_ | refine oS ?_ | refine gT ?_ | refine gD Tryz.mixed ?_ | refine oB ?_ | refine oK ?_ | (refine oX ?_; simp only [zam,zag, ↓reduceIte,Nat.reduceEqDiff,reduceCtorEq]) | refine oY (by simp only [go_sem,intAV,F]; exact iR) ?_ | refine oN (by simp only [go_sem,intAV,F]; exact iR) ?_)
   (refine zae ?_; show (zar _ _ _).run _=some _; simp only [go_sem,intAV,F])
  ·rw [b8] at f7
   have F:=ai g1<|ai g2<|hx
   repeat (first | refine oO rfl (by simp only [go_sem,intAV,F]; exact⟨rfl,rfl⟩) ?_ | refine gR ?_ | refine gO ?_ | refine oC rfl (f6) (by simp only [go_sem,intAV,F]; exact iR) (by simp only [go_sem,intAV,F]; exact⟨rfl,rfl⟩) ?_ | refine oC rfl (f7) (by simp only [go_sem,intAV,F]; exact iR) (by simp only [go_sem,intAV,F]; exact⟨rfl,rfl⟩) ?_ | refine oZ (zau ?_) | refine oZ ?_ | refine oS ?_ | refine gT ?_ | refine gD Tryz.mixed ?_ | refine oB ?_ | refine oK ?_ | (refine oX ?_; simp only [zam,zag, ↓reduceIte,Nat.reduceEqDiff,reduceCtorEq]) | refine oY (by simp only [go_sem,intAV,F]; exact iR) ?_ | refine oN (by simp only [go_sem,intAV,F]; exact iR) ?_)
   refine⟨i+1,⟨hlt,zpF ha hx b8⟩, ?_, ?_,by omega⟩
   ·(simp only [go_sem,intAV,F])
   ·(simp only [go_sem,intAV,F])
 have g1: ¬(i:Int)< (r.vars.length:Int):=by omega
 rw [show zli a1 c r=nilE from by unfold zli; rw [if_pos (by rw [hi]; unfold zhj; rwa [List.take_of_length_le (by omega)] at ha)]]
 have F:=g1
 repeat refine st ?_
 exact aR
theorem zkB (env:Env) (s:List UInt8):Con Tryz.prog env 44 [Sg s,nilE] nilE:=by
 refine zaa Tryz.func44 rfl Tryz.call44 (by rw [Tryz.ntmps44]; simp) ?_
 rw [Tryz.ntmps44,Tryz.results44]
 repeat refine st0 ?_
 exact aR0
theorem zjo (env:Env) (l:List Int) (hl:l.length<=1000000):Con Tryz.prog env 60 [.agg [ints34 l,I 0,nilS]] (B (zhj l)):=by
 refine zaa Tryz.func60 rfl Tryz.call60 (by rw [Tryz.ntmps60]; simp) ?_
 rw [Tryz.ntmps60,Tryz.results60]
 repeat refine st0 ?_
 refine zac (D:=Nat) (fun i vs=>[(1, .loc 1 (vs 1) 0 0),(3,I i)]) (fun _ _=>[(1,⟨3,[[ints34 l,I 0,nilS]],120,false⟩)]) (fun i _ _=>i<=l.length/\(l.take i).all zdj=true) (fun i=>l.length-i) 0 ?_ ?_ ?_ ?_
 ·exact⟨Nat.zero_le _,rfl⟩
 ·(simp only [go_sem])
 ·(simp only [go_sem])
 rintro i vs esc ⟨hi,ha⟩
 by_cases hlt:i<l.length
 ·have g1:=nlt hlt
  have g2:=zab hlt (by omega)
  obtain⟨x,hx⟩: ∃x,l[i]? =some x:=⟨l[i],List.getElem?_eq_getElem hlt⟩
  have f7:=zgo env x
  cases b8:zdj x
  ·rw [b8] at f7
   rw [zpG hx b8]
   have F:=ai g1<|ai g2<|hx
   repeat (first | refine oO rfl (by simp only [go_sem,intAV,F]; exact⟨rfl,rfl⟩) ?_ | refine gR ?_ | refine gO ?_ | refine oC rfl (f7) (by simp only [go_sem,intAV,F]; exact iR) (by simp only [go_sem,intAV,F]; exact⟨rfl,rfl⟩) ?_ | refine oZ (zau ?_) | refine oZ ?_ | refine oS ?_ | refine gT ?_ | refine gD Tryz.mixed ?_ | refine oB ?_ | refine oK ?_ | (refine oX ?_; simp only [zam,zag, ↓reduceIte,Nat.reduceEqDiff,reduceCtorEq]) | refine oY (by simp only [go_sem,intAV,F]; exact iR) ?_ | refine oN (by simp only [go_sem,intAV,F]; exact iR) ?_)
   (refine zae ?_; show (zar _ _ _).run _=some _; simp only [go_sem,intAV,F])
  ·rw [b8] at f7
   have F:=ai g1<|ai g2<|hx
   repeat (first | refine oO rfl (by simp only [go_sem,intAV,F]; exact⟨rfl,rfl⟩) ?_ | refine gR ?_ | refine gO ?_ | refine oC rfl (f7) (by simp only [go_sem,intAV,F]; exact iR) (by simp only [go_sem,intAV,F]; exact⟨rfl,rfl⟩) ?_ | refine oZ (zau ?_) | refine oZ ?_ | refine oS ?_ | refine gT ?_ | refine gD Tryz.mixed ?_ | refine oB ?_ | refine oK ?_ | (refine oX ?_; simp only [zam,zag, ↓reduceIte,Nat.reduceEqDiff,reduceCtorEq]) | refine oY (by simp only [go_sem,intAV,F]; exact iR) ?_ | refine oN (by simp only [go_sem,intAV,F]; exact iR) ?_)
   refine⟨i+1,⟨hlt,zpF ha hx b8⟩, ?_, ?_,by omega⟩
   ·(simp only [go_sem,intAV,F])
   ·(simp only [go_sem,intAV,F])
 have g1: ¬(i:Int)< (l.length:Int):=by omega
 have f7:=zgo env 0
 rw [show zhj l=true from by unfold zhj; rwa [List.take_of_length_le (by omega)] at ha]
 rw [show zdj 0=true from rfl] at f7
 have F:=g1
 repeat (first | refine st ?_ | refine cC f7 ?_)
 exact aR
theorem zk1 (env:Env) (c:ChD) (h:Full c) (act:List Int) (hl:act.length<=1000000):Con Tryz.prog env 28 [.agg (chAV c), .seq 1 (act.map intAV)] (B (lgB c act)):=by
 have f0:=ziu env c h act hl
 unfold lgB
 refine zaa Tryz.func28 rfl Tryz.call28 (by rw [Tryz.ntmps28]; simp) ?_
 rw [Tryz.ntmps28,Tryz.results28]
 have F:=chAV.eq_1
 repeat (first | refine st ?_ | refine cC f0 ?_)
 exact aR
theorem zjn (env:Env) (c:ChD) (h:Full c) (r:Rc) (hl:LiteI r) (hF: ∀m∈r.mem,Fits m.2.length 8):Con Tryz.prog env 17 [.agg (chAV c), .agg (inAV r)] (B (zck c r)):=by
 have f2:=zk1 env c h r.active hl.active
 have f3:=zjr env c h r.mem hl.mem hF
 have hll:=hl.timers
 unfold chAV at f2 f3
 cases b1:lgB c r.active
 ·rw [show zck c r=false from by unfold zck; rw [b1]; rfl]
  rw [b1] at f2
  refine zaa Tryz.func17 rfl Tryz.call17 (by rw [Tryz.ntmps17]; simp) ?_
  rw [Tryz.ntmps17,Tryz.results17]
  have F:=ai chAV.eq_1<|inAV.eq_1
  repeat (first | refine st ?_ | refine cC f2 ?_)
  exact aR
 rw [b1] at f2
 cases b2:zdi c r.mem
 ·rw [show zck c r=false from by unfold zck; rw [b2,Bool.and_false]; rfl]
  rw [b2] at f3
  refine zaa Tryz.func17 rfl Tryz.call17 (by rw [Tryz.ntmps17]; simp) ?_
  rw [Tryz.ntmps17,Tryz.results17]
  have F:=ai chAV.eq_1<|inAV.eq_1
  repeat (first | refine st ?_ | refine cC f2 ?_ | refine cC f3 ?_)
  exact aR
 rw [b2] at f3
 by_cases b3:r.vars.length=c.vars.length
 case neg=>
  rw [show zck c r=false from by unfold zck; rw [show (r.vars.length==c.vars.length)=false by simpa using b3,Bool.and_false]; rfl]
  have b4:((r.vars.length:Int) != (c.vars.length:Int))=true:=by simp; omega
  refine zaa Tryz.func17 rfl Tryz.call17 (by rw [Tryz.ntmps17]; simp) ?_
  rw [Tryz.ntmps17,Tryz.results17]
  have F:=ai chAV.eq_1<|ai inAV.eq_1<|b4
  repeat (first | refine st ?_ | refine cC f2 ?_ | refine cC f3 ?_)
  exact aR
 have b4:((r.vars.length:Int) != (c.vars.length:Int))=false:=by simp [b3]
 by_cases b5:8<r.timers.length
 ·have b6:(8:Int)< (r.timers.length:Int):=by omega
  rw [show zck c r=false from by unfold zck zc1; rw [decide_eq_false (show ¬r.timers.length<=8 by omega),Bool.and_false,Bool.and_false]; rfl]
  refine zaa Tryz.func17 rfl Tryz.call17 (by rw [Tryz.ntmps17]; simp) ?_
  rw [Tryz.ntmps17,Tryz.results17]
  have F:=ai chAV.eq_1<|ai inAV.eq_1<|ai b4<|b6
  repeat (first | refine st ?_ | refine cC f2 ?_ | refine cC f3 ?_)
  exact aR
 have b6: ¬(8:Int)< (r.timers.length:Int):=by omega
 have f5:=zoF env c r.active hl.active (ztc b1)
 unfold chAV at f5
 cases b7:(r.over==zjv c r.active)
 ·rw [show zck c r=false from by unfold zck; rw [b7,Bool.and_false]; rfl]
  refine zaa Tryz.func17 rfl Tryz.call17 (by rw [Tryz.ntmps17]; simp) ?_
  rw [Tryz.ntmps17,Tryz.results17]
  have F:=ai chAV.eq_1<|ai inAV.eq_1<|ai b4<|ai b6<|b7
  repeat (first | refine st ?_ | refine cC f2 ?_ | refine cC f3 ?_ | refine cC f5 ?_)
  exact aR
 have hi:zck c r=(allB r.timers.length (tmAt r.timers)&&zhj r.vars):=by
  unfold zck zc1
  rw [b1,b2,b7,show (r.vars.length==c.vars.length)=true by simpa using b3,decide_eq_true (show r.timers.length<=8 by omega),Bool.and_true]
  simp
 rw [hi]
 refine zaa Tryz.func17 rfl Tryz.call17 (by rw [Tryz.ntmps17]; simp) ?_
 rw [Tryz.ntmps17,Tryz.results17]
 have F:=ai chAV.eq_1<|ai inAV.eq_1<|ai b4<|ai b6<|b7
 repeat (first | refine st ?_ | refine cC f2 ?_ | refine cC f3 ?_ | refine cC f5 ?_)
 try clear f2 f3 f5 b1 b2 b4 b6 b7 hi
 have F:=inAV.eq_1
 refine zac (D:=Nat) (fun i vs=>[(3, .loc 3 (vs 3) 0 0),(5,I i)]) (fun _ _=>[(3,⟨5,[inAV r],31,false⟩)]) (fun i _ _=>i<=r.timers.length/\ ∀j,j<i->tmAt r.timers j=true) (fun i=>r.timers.length-i) 0 ?_ ?_ ?_ ?_
 ·exact⟨Nat.zero_le _,fun j hj=>by omega⟩
 ·(simp only [go_sem,F])
 ·(simp only [go_sem,F])
 rintro i vs esc ⟨hi,ha⟩
 by_cases hlt:i<r.timers.length
 ·have g1:=nlt hlt
  have g2:=zab hlt (by omega)
  obtain⟨x,hx⟩: ∃x,r.timers[i]? =some x:=⟨r.timers[i],List.getElem?_eq_getElem hlt⟩
  have f1:=zbQ env x.1
  have hnot:tmAt r.timers i=false->(allB r.timers.length (tmAt r.timers)&&zhj r.vars)=false:=fun h=>by rw [zh2 hlt h]; rfl
  cases a1:zaI x.1
  ·rw [hnot (by unfold tmAt; rw [zcc hx,a1]; rfl)]
   rw [a1] at f1
   have F:=ai inAV.eq_1<|ai g1<|ai g2<|ai hx<|tmAV.eq_1
   repeat (first | refine st ?_ | refine cC f1 ?_)
   exact aR
  rw [a1] at f1
  by_cases a2:x.2<0
  ·rw [hnot (by unfold tmAt clkB; rw [zcc hx,decide_eq_false (by omega),Bool.and_false]; rfl)]
   have F:=ai inAV.eq_1<|ai g1<|ai g2<|ai hx<|ai tmAV.eq_1<|a2
   repeat (first | refine st ?_ | refine cC f1 ?_)
   exact aR
  by_cases a3:1099511627776<x.2
  ·rw [hnot (by unfold tmAt clkB; rw [zcc hx,decide_eq_false (by omega),Bool.and_false]; rfl)]
   have F:=ai inAV.eq_1<|ai g1<|ai g2<|ai hx<|ai tmAV.eq_1<|ai a2<|a3
   repeat (first | refine st ?_ | refine cC f1 ?_)
   exact aR
  have a4:clkB x.2=true:=decide_eq_true ⟨by omega,by omega⟩
  by_cases h0:i=0
  ·have g3: ¬(0:Int)< (i:Int):=by omega
   have F:=ai inAV.eq_1<|ai g1<|ai g2<|ai hx<|ai tmAV.eq_1<|ai a2<|ai a3<|g3
   repeat (first | refine st ?_ | refine cC f1 ?_)
   refine⟨i+1,⟨hlt,zi1 ha ?_⟩, ?_, ?_,by omega⟩
   ·unfold tmAt
    rw [zcc hx,a1,a4,decide_eq_true h0]
    rfl
   ·(simp only [go_sem,F])
   ·have F:=inAV.eq_1
    (simp only [go_sem,F])
  have g3:(0:Int)< (i:Int):=by omega
  have g4:IntKind.i64.wrap ((i:Int)-1)=((i-1:Nat):Int):=i64m i 1 (by omega) (by omega)
  have g5:((i-1:Nat):Int)< (r.timers.length:Int):=by omega
  obtain⟨y,hy⟩: ∃y,r.timers[i-1]? =some y:=⟨r.timers[i-1],List.getElem?_eq_getElem (by omega)⟩
  have hv:tmAt r.timers i= !(Op.bytesLess x.1 y.1||x.1==y.1):=by unfold tmAt; rw [zcc hx,zcc hy,a1,a4,decide_eq_false h0,zgx]; rfl
  by_cases hc:(Op.bytesLess x.1 y.1||x.1==y.1)=true
  ·rw [hnot (by rw [hv,hc]; rfl)]
   have F:=ai inAV.eq_1<|ai g1<|ai g2<|ai hx<|ai tmAV.eq_1<|ai a2<|ai a3<|ai g3<|ai g4<|ai g5<|ai hy<|hc
   repeat (first | refine st ?_ | refine cC f1 ?_)
   exact aR
  have hc:(Op.bytesLess x.1 y.1||x.1==y.1)=false:=by simpa using hc
  have F:=ai inAV.eq_1<|ai g1<|ai g2<|ai hx<|ai tmAV.eq_1<|ai a2<|ai a3<|ai g3<|ai g4<|ai g5<|ai hy<|hc
  repeat (first | refine st ?_ | refine cC f1 ?_)
  refine⟨i+1,⟨hlt,zi1 ha (by rw [hv,hc]; rfl)⟩, ?_, ?_,by omega⟩
  ·(simp only [go_sem,F])
  ·have F:=inAV.eq_1
   (simp only [go_sem,F])
 have g1: ¬(i:Int)< (r.timers.length:Int):=by omega
 have f4:=zjo env r.vars hl.vars
 rw [zkw (n:=r.timers.length) fun j hj=>ha j (by omega),Bool.true_and]
 have F:=ai inAV.eq_1<|g1
 repeat (first | refine st ?_ | refine cC f4 ?_)
 exact aR
end
section
open Go.RowKit Go.ChangeShapes Go.WideShapes Go.ChangeAt
abbrev InD:=List Int×List Int×List MemD×List (List UInt8×Int)×Bool
def inE (x:InD):List AV:=[ints34 x.1,ints34 x.2.1, .seq 2 (x.2.2.1.map mmAV), .seq 2 (x.2.2.2.1.map tmAV),B x.2.2.2.2]
def zmj (t:List UInt8×Int):Prop:=t.1.length<=maxLen
def zpJ (x:InD):Prop:=(x.1.length<=maxLen/\x.2.1.length<=maxLen)/\(x.2.2.1.length<=maxLen/\ ∀m∈x.2.2.1,zth m)/\x.2.2.2.1.length<=maxLen/\ ∀t∈x.2.2.2.1,zmj t
theorem ztx:Tryz.prog.cellsOf 4=1:=by kernel_rfl
theorem c_tm:Tryz.prog.cellsOf 114=2:=by kernel_rfl
theorem ztw:Tryz.prog.cellsOf 31=5:=by kernel_rfl
section
variable {H:Type} {enc:TypeId×Value->H} {w:World} {base:Nat} {spare:Nat->Bool} {held:Bool}
theorem zss (m:Nat) (cs:List Value) (y:DataW H×List MemPlace) (h:DataW.trod enc Tryz.prog w base spare held m 114 cs=some y): ∃a:List UInt8×Int,RE w tmAV zmj cs a:=by
 obtain⟨xs,n,_,_,hl,hxl,hg⟩:=DataW.trod_struct Tryz.underlying114 h
 rw [c_tm] at hl
 obtain⟨c0,c1,rfl⟩:=zrd hl
 obtain⟨y0,h0⟩:=zbb hxl hg 0 _ rfl 9 0 1 rfl rfl zdd
 obtain⟨x0,e0, -,s0⟩:=DataW.trod_string Tryz.underlying9 (show DataW.trod enc Tryz.prog w base spare held n 9 [c0]=some y0 from h0)
 cases e0
 obtain⟨⟨t0⟩⟩:=x0
 obtain⟨y1,h1⟩:=zbb hxl hg 1 _ rfl 3 1 1 rfl rfl c_int
 obtain⟨x1,e1, -, -⟩:=DataW.trod_int Tryz.underlying3 (show DataW.trod enc Tryz.prog w base spare held n 3 [c1]=some y1 from h1)
 cases e1
 exact⟨(t0,x1),⟨⟨rfl, .lit _⟩,⟨rfl, .lit _⟩,trivial⟩,(by simpa [zmj,ByteArray.size] using s0)⟩
end
end
section
open Go.RowKit
def zaH (c:ChD) (x:InD) (ev:List UInt8) (d n:Int):List AV:=[Sg c.name,I c.initial,varsAV c.vars,stsAV c.states,trsAV c.trans,ints34 x.1,ints34 x.2.1, .seq 2 (x.2.2.1.map mmAV), .seq 2 (x.2.2.2.1.map tmAV),B x.2.2.2.2,Sg ev,I d,I n]
theorem zgw (env:Env) (c:ChD):Con Tryz.prog env 33 [.agg (chAV c)] (B (ziF c)):=by
 unfold ziF
 by_cases h1:(c.states.length:Int)<=40<;>by_cases h2:(c.trans.length:Int)<=70<;>by_cases h3:(c.vars.length:Int)<=10
 all_goals (refine zaa Tryz.func33 rfl Tryz.call33 (by rw [Tryz.ntmps33]; simp) ?_
            rw [Tryz.ntmps33,Tryz.results33])
 all_goals have F:=ai chAV.eq_1<|ai h1<|ai h2<|h3
 all_goals (repeat refine st ?_)
 all_goals ((refine zae ?_; show (zar _ _ _).run _=some _; simp only [go_sem,F]))
theorem znq (env:Env) (a1 a8:Addr) (he:ChEnv env a1 a8) (hT: ∀W,env.inv W->TabAt W) (c:ChD) (hcf:zd9 c) (h:zjS c=true):Con Tryz.prog env 18 [.agg (chAV c)] (zaj c):=by
 have f0:=zgw env c
 have f1:=zhx env c
 unfold zjS at h
 rw [Bool.and_eq_true] at h
 rw [h.1] at f0
 rw [h.2] at f1
 rw [beq_iff_eq] at h
 have f2:=zi8 env a1 a8 he hT c (zts h.2) hcf
 unfold zaj at f2 |-
 refine zaa Tryz.func18 rfl Tryz.call18 (by rw [Tryz.ntmps18]; simp) ?_
 rw [Tryz.ntmps18,Tryz.results18]
 repeat (first | refine st0 ?_ | refine cC0 f0 ?_ | refine cC0 f1 ?_ | refine cC0 f2 ?_)
 exact aR0
def zfJ (c:ChD) (x:InD):Bool:= !zjS c||decide (60< (x.1.length:Int))||decide (60< (x.2.2.1.length:Int))||decide (60< (x.2.1.length:Int))
theorem zkW (env:Env) (c:ChD) (x:InD) (ev:List UInt8) (d n:Int):Con Tryz.prog env 19 [.agg (zaH c x ev d n)] (B (zfJ c x)):=by
 have f0:=zgw env c
 have f1:=zhx env c
 unfold chAV at f0 f1
 unfold zfJ zjS
 cases h1:ziF c
 ·rw [h1] at f0
  refine zaa Tryz.func19 rfl Tryz.call19 (by rw [Tryz.ntmps19]; simp) ?_
  rw [Tryz.ntmps19,Tryz.results19]
  repeat (first | refine oO rfl (by simp only [go_sem,zaH]; exact⟨rfl,rfl⟩) ?_ | refine gR ?_ | refine gO ?_ | refine oC rfl (f0) (by simp only [go_sem,zaH]; exact iR) (by simp only [go_sem,zaH]; exact⟨rfl,rfl⟩) ?_ | refine oC rfl (f1) (by simp only [go_sem,zaH]; exact iR) (by simp only [go_sem,zaH]; exact⟨rfl,rfl⟩) ?_ | refine oZ (zau ?_) | refine oZ ?_ | refine oS ?_ | refine gT ?_ | refine gD Tryz.mixed ?_ | refine oB ?_ | refine oK ?_ | (refine oX ?_; simp only [zam,zag, ↓reduceIte,Nat.reduceEqDiff,reduceCtorEq]) | refine oY (by simp only [go_sem,zaH]; exact iR) ?_ | refine oN (by simp only [go_sem,zaH]; exact iR) ?_)
  (refine zae ?_; show (zar _ _ _).run _=some _; simp only [go_sem,zaH])
 rw [h1] at f0
 cases h2:((chk c).1==0)
 ·rw [h2] at f1
  refine zaa Tryz.func19 rfl Tryz.call19 (by rw [Tryz.ntmps19]; simp) ?_
  rw [Tryz.ntmps19,Tryz.results19]
  repeat (first | refine oO rfl (by simp only [go_sem,zaH]; exact⟨rfl,rfl⟩) ?_ | refine gR ?_ | refine gO ?_ | refine oC rfl (f0) (by simp only [go_sem,zaH]; exact iR) (by simp only [go_sem,zaH]; exact⟨rfl,rfl⟩) ?_ | refine oC rfl (f1) (by simp only [go_sem,zaH]; exact iR) (by simp only [go_sem,zaH]; exact⟨rfl,rfl⟩) ?_ | refine oZ (zau ?_) | refine oZ ?_ | refine oS ?_ | refine gT ?_ | refine gD Tryz.mixed ?_ | refine oB ?_ | refine oK ?_ | (refine oX ?_; simp only [zam,zag, ↓reduceIte,Nat.reduceEqDiff,reduceCtorEq]) | refine oY (by simp only [go_sem,zaH]; exact iR) ?_ | refine oN (by simp only [go_sem,zaH]; exact iR) ?_)
  (refine zae ?_; show (zar _ _ _).run _=some _; simp only [go_sem,zaH])
 rw [h2] at f1
 by_cases h3:60< (x.1.length:Int)
 ·rw [decide_eq_true h3]
  refine zaa Tryz.func19 rfl Tryz.call19 (by rw [Tryz.ntmps19]; simp) ?_
  rw [Tryz.ntmps19,Tryz.results19]
  have F:=h3
  repeat (first | refine oO rfl (by simp only [go_sem,zaH,F]; exact⟨rfl,rfl⟩) ?_ | refine gR ?_ | refine gO ?_ | refine oC rfl (f0) (by simp only [go_sem,zaH,F]; exact iR) (by simp only [go_sem,zaH,F]; exact⟨rfl,rfl⟩) ?_ | refine oC rfl (f1) (by simp only [go_sem,zaH,F]; exact iR) (by simp only [go_sem,zaH,F]; exact⟨rfl,rfl⟩) ?_ | refine oZ (zau ?_) | refine oZ ?_ | refine oS ?_ | refine gT ?_ | refine gD Tryz.mixed ?_ | refine oB ?_ | refine oK ?_ | (refine oX ?_; simp only [zam,zag, ↓reduceIte,Nat.reduceEqDiff,reduceCtorEq]) | refine oY (by simp only [go_sem,zaH,F]; exact iR) ?_ | refine oN (by simp only [go_sem,zaH,F]; exact iR) ?_)
  (refine zae ?_; show (zar _ _ _).run _=some _; simp only [go_sem,zaH,F])
 rw [decide_eq_false h3]
 by_cases h4:60< (x.2.2.1.length:Int)
 ·rw [decide_eq_true h4]
  refine zaa Tryz.func19 rfl Tryz.call19 (by rw [Tryz.ntmps19]; simp) ?_
  rw [Tryz.ntmps19,Tryz.results19]
  have F:=ai h3<|h4
  repeat (first | refine oO rfl (by simp only [go_sem,zaH,F]; exact⟨rfl,rfl⟩) ?_ | refine gR ?_ | refine gO ?_ | refine oC rfl (f0) (by simp only [go_sem,zaH,F]; exact iR) (by simp only [go_sem,zaH,F]; exact⟨rfl,rfl⟩) ?_ | refine oC rfl (f1) (by simp only [go_sem,zaH,F]; exact iR) (by simp only [go_sem,zaH,F]; exact⟨rfl,rfl⟩) ?_ | refine oZ (zau ?_) | refine oZ ?_ | refine oS ?_ | refine gT ?_ | refine gD Tryz.mixed ?_ | refine oB ?_ | refine oK ?_ | (refine oX ?_; simp only [zam,zag, ↓reduceIte,Nat.reduceEqDiff,reduceCtorEq]) | refine oY (by simp only [go_sem,zaH,F]; exact iR) ?_ | refine oN (by simp only [go_sem,zaH,F]; exact iR) ?_)
  (refine zae ?_; show (zar _ _ _).run _=some _; simp only [go_sem,zaH,F])
 rw [decide_eq_false h4]
 by_cases h5:60< (x.2.1.length:Int)
 ·rw [decide_eq_true h5]
  refine zaa Tryz.func19 rfl Tryz.call19 (by rw [Tryz.ntmps19]; simp) ?_
  rw [Tryz.ntmps19,Tryz.results19]
  have F:=ai h3<|ai h4<|h5
  repeat (first | refine oO rfl (by simp only [go_sem,zaH,F]; exact⟨rfl,rfl⟩) ?_ | refine gR ?_ | refine gO ?_ | refine oC rfl (f0) (by simp only [go_sem,zaH,F]; exact iR) (by simp only [go_sem,zaH,F]; exact⟨rfl,rfl⟩) ?_ | refine oC rfl (f1) (by simp only [go_sem,zaH,F]; exact iR) (by simp only [go_sem,zaH,F]; exact⟨rfl,rfl⟩) ?_ | refine oZ (zau ?_) | refine oZ ?_ | refine oS ?_ | refine gT ?_ | refine gD Tryz.mixed ?_ | refine oB ?_ | refine oK ?_ | (refine oX ?_; simp only [zam,zag, ↓reduceIte,Nat.reduceEqDiff,reduceCtorEq]) | refine oY (by simp only [go_sem,zaH,F]; exact iR) ?_ | refine oN (by simp only [go_sem,zaH,F]; exact iR) ?_)
  (refine zae ?_; show (zar _ _ _).run _=some _; simp only [go_sem,zaH,F])
 rw [decide_eq_false h5]
 refine zaa Tryz.func19 rfl Tryz.call19 (by rw [Tryz.ntmps19]; simp) ?_
 rw [Tryz.ntmps19,Tryz.results19]
 have F:=ai h3<|ai h4<|h5
 repeat (first | refine oO rfl (by simp only [go_sem,zaH,F]; exact⟨rfl,rfl⟩) ?_ | refine gR ?_ | refine gO ?_ | refine oC rfl (f0) (by simp only [go_sem,zaH,F]; exact iR) (by simp only [go_sem,zaH,F]; exact⟨rfl,rfl⟩) ?_ | refine oC rfl (f1) (by simp only [go_sem,zaH,F]; exact iR) (by simp only [go_sem,zaH,F]; exact⟨rfl,rfl⟩) ?_ | refine oZ (zau ?_) | refine oZ ?_ | refine oS ?_ | refine gT ?_ | refine gD Tryz.mixed ?_ | refine oB ?_ | refine oK ?_ | (refine oX ?_; simp only [zam,zag, ↓reduceIte,Nat.reduceEqDiff,reduceCtorEq]) | refine oY (by simp only [go_sem,zaH,F]; exact iR) ?_ | refine oN (by simp only [go_sem,zaH,F]; exact iR) ?_)
 (refine zae ?_; show (zar _ _ _).run _=some _; simp only [go_sem,zaH,F])
theorem znN (env:Env):Con Tryz.prog env 42 [nilE] (I 0):=
 zlu Tryz.call42 fun w S vs hE hl hv=>by
  match vs,hl with
  | [v],_=>
    obtain rfl:=(hv 0 v _ rfl rfl).lit_inv
    refine(zrG w).mono ?_
    rintro e w' ⟨rfl,rfl⟩
    exact⟨rfl,Below.refl _ _⟩
theorem zkH (env:Env):Con Tryz.prog env 29 [nilE,I 0] (B true):=by
 have f1:=znN env
 refine zaa Tryz.func29 rfl Tryz.call29 (by rw [Tryz.ntmps29]; simp) ?_
 rw [Tryz.ntmps29,Tryz.results29]
 repeat (first | refine st0 ?_ | refine cC0 f1 ?_)
 exact aR0
theorem zf4 (ad:Nat->Addr) (mo:More) (k:Nat) (hk:1<=k/\k<=9) (p:Int) (ps:List Int):Con Tryz.prog (zbf ad mo) 29 [errV p (chainV ps (sentV (ad k))),I k] (B true):=by
 have f0:Con Tryz.prog (zbf ad mo) 42 [errV p (chainV ps (sentV (ad k)))] (I k):=znM ad mo k hk (p::ps)
 have b0:(((k:Nat):Int)==0)=false:=by simp; omega
 generalize chainV ps (sentV (ad k))=X at*
 refine zaa Tryz.func29 rfl Tryz.call29 (by rw [Tryz.ntmps29]; simp) ?_
 rw [Tryz.ntmps29,Tryz.results29]
 have F:=b0
 repeat (first | refine st ?_ | refine cC f0 ?_)
 exact aR
end
section
open Go.RowKit
def rounds (P:Program) (env:Env) (nt:Nat) (c:Code) (Q:Exit->St->Prop):Nat->St->Prop
 | 0,_=>False
 | n+1,s=>awp P env nt c (zam (rounds P env nt c Q n) Q) s
section
variable {P:Program} {env:Env} {nt:Nat} {c:Code} {Q:Exit->St->Prop} {s:St}
structure Rnd (P:Program) (env:Env) (nt:Nat) (c:Code) (Q:Exit->St->Prop) (n:Nat) (s:St):Prop where
 out:rounds P env nt c Q n s
theorem zqm {Q':Exit->St->Prop} (hQ: ∀e s,Q e s->Q' e s) (h:awp P env nt c Q s):awp P env nt c Q' s:=fun ro x he hn a w m hS=>wpIn_mono (h ro x he hn a w m hS) (by
 rintro e a' w' ⟨s',m',h1,h2⟩
 exact⟨s',m',hQ _ _ h1,h2⟩)
theorem zaq {n:Nat} (h:awp P env nt c (zam (Rnd P env nt c Q n) Q) s):Rnd P env nt c Q (n+1) s:=⟨zqm (fun e s h=>by
 cases e
 case normal=>exact Rnd.out h
 all_goals exact h) h⟩
theorem zlB (n:Nat) (h:rounds P env nt c Q n s):awp P env nt (.loop c) Q s:=fun ro x he hn a w m hS=>by
 refine wpIn_loop_rounds n ?_
 induction n generalizing s a w m with
 | zero=>exact h.elim
 | succ n ih=>
   rw [roundsIn_succ]
   refine wpIn_mono (h ro x he hn a w m hS) ?_
   rintro e a' w' ⟨s',m',h1,h2⟩
   cases e with
   | normal=>exact ih h1 a' w' m' h2
   | _=>exact⟨s',m',h1,h2⟩
theorem zal (n:Nat) (h:Rnd P env nt c Q n s):awp P env nt (.loop c) Q s:=zlB n h.out
end
end
section
open Go.RowKit
def wakeM:ChD:=⟨[99],0,[],[⟨[97],1, -1, -1,[],[]⟩,⟨[98],1, -1, -1,[],[]⟩],[⟨0,[120],[],[],1⟩]⟩
def zod:List AV:=[Sg [99],I 0,nilS, .seq 6 [[Sg [97],I 1,I (-1),I (-1),nilS,nilS],[Sg [98],I 1,I (-1),I (-1),nilS,nilS]], .seq 5 [[I 0,Sg [120],nilS,nilS,I 1]]]
theorem zoo (n:List UInt8) (k p i:Int):Strs [Sg n,I k,I p,I i,nilS,nilS] (stAV ⟨n,k,p,i,[],[]⟩):= .cons (.refl _) (.cons (.refl _) (.cons (.refl _) (.cons (.refl _) (.cons (.nil 4) (.cons (.nil 4) .nil)))))
theorem zoa:Strs [.agg zod] [.agg (chAV wakeM)]:=by
 refine .one (.agg (.cons (.refl _) (.cons (.refl _) (.cons (.nil 2) (.cons (.seqs ?_) (.cons (.seqs ?_) .nil))))))
 ·exact .cons (zoo ..) (.cons (zoo ..) .nil)
 ·exact .cons (.cons (.refl _) (.cons (.refl _) (.cons (.nil 2) (.cons (.nil 4) (.cons (.refl _) .nil))))) .nil
theorem zob:zd9 wakeM:=by simp [zd9,zj4,zj3,wakeM,maxLen]
theorem zfY:chk wakeM=(0, -1):=by decide+kernel
theorem zfX:lgB wakeM [0]=true:=by decide+kernel
theorem zoc:zsn wakeM (-1)=[0]:=by decide+kernel
theorem zqK:evI wakeM [120]=0:=by decide+kernel
theorem zqL:tatL wakeM 0 0=[0]:=by decide+kernel
theorem zmK:zl8 wakeM [0] ⟨0,[120],[],[],1⟩=[0]:=by decide+kernel
theorem zqJ:upL wakeM 0=[-1]:=by decide+kernel
end
section
open Go.RowKit
theorem zkj (env:Env) (l:List Int) (p:Int->Bool) (g:FuncId) (G:Int) (te:TypeId) (hp: ∀d,Con Tryz.prog env g [I d, .ref 1 [[I G]] 0 0] (B (p d))) (hl:l.length<=4096):
 ConI Tryz.prog env 222 [1000,1001] (fun k=>k==1000) (fun vs=>[.row 1000 (vs 1000), .clo g [.loc 1001 (vs 1001) 0 0]]) (fun _=>[(1000,⟨1,l.map intAV,3,true⟩),(1001,⟨1,[[I G]],te,false⟩)]) (fun _=>[(1000,⟨1,(l.filter fun d=> !p d).map intAV,3,true⟩),(1001,⟨1,[[I G]],te,false⟩)]) (fun vs=> .row 1000 (vs 1000)):=by
 have f0:=(zgC env l p g [[I G]] hp hl).lend rfl
 cases hi:idxQ p l with
 | none=>
   rw [hi] at f0
   obtain⟨h1,_⟩:=zgF hi
   rw [h1]
   refine⟨Tryz.call222,_,_,Tryz.func222,rfl,(by intro _; rw [Tryz.ntmps222]; simp), ?_⟩
   intro vs esc hesc
   rw [Tryz.ntmps222,Tryz.results222]
   have e0:=hesc 1000 (by simp)
   have e1:=hesc 1001 (by simp)
   have F:=ai e0<|e1
   repeat (first | refine oO rfl (by simp only [go_sem,idxJ,F]; exact⟨rfl,rfl⟩) ?_ | refine gR ?_ | refine gO ?_ | refine oZ (zau ?_) | refine oZ ?_ | refine oS ?_ | refine gT ?_ | refine gD Tryz.mixed ?_ | refine oB ?_ | refine oK ?_ | (refine oX ?_; simp only [zam,zag, ↓reduceIte,Nat.reduceEqDiff,reduceCtorEq]) | refine oY (by simp only [go_sem,idxJ,F]; exact iR) ?_ | refine oN (by simp only [go_sem,idxJ,F]; exact iR) ?_)
   refine oL rfl (f0) (by simp only [go_sem,idxJ,F]; exact iR) (by simp only [go_sem,idxJ,F]; exact⟨rfl,rfl⟩) ?_
   repeat (first | refine oO rfl (by simp only [go_sem,idxJ,F]; exact⟨rfl,rfl⟩) ?_ | refine gR ?_ | refine gO ?_ | refine oZ (zau ?_) | refine oZ ?_ | refine oS ?_ | refine gT ?_ | refine gD Tryz.mixed ?_ | refine oB ?_ | refine oK ?_ | (refine oX ?_; simp only [zam,zag, ↓reduceIte,Nat.reduceEqDiff,reduceCtorEq]) | refine oY (by simp only [go_sem,idxJ,F]; exact iR) ?_ | refine oN (by simp only [go_sem,idxJ,F]; exact iR) ?_)
   (refine zae ?_; (try simp only [zam,zag, ↓reduceIte,Nat.reduceEqDiff,reduceCtorEq]); refine zb9 ?_ ?_<;>simp only [go_sem,idxJ,F,implies_true,and_self,imp_self,false_implies,AV.tuple.injEq,exists_eq_left',ne_eq])
 | some i0=>
   rw [hi] at f0
   obtain⟨h1,h2,d0,h3,h4⟩:=zgE hi
   have g0:((i0:Int) == -1)=false:=by simp
   have g1:=zab h1 (by omega)
   refine⟨Tryz.call222,_,_,Tryz.func222,rfl,(by intro _; rw [Tryz.ntmps222]; simp), ?_⟩
   intro vs esc hesc
   rw [Tryz.ntmps222,Tryz.results222]
   have e0:=hesc 1000 (by simp)
   have e1:=hesc 1001 (by simp)
   have F:=ai e0<|ai e1<|ai g0<|g1
   repeat (first | refine oO rfl (by simp only [go_sem,idxJ,F]; exact⟨rfl,rfl⟩) ?_ | refine gR ?_ | refine gO ?_ | refine oZ (zau ?_) | refine oZ ?_ | refine oS ?_ | refine gT ?_ | refine gD Tryz.mixed ?_ | refine oB ?_ | refine oK ?_ | (refine oX ?_; simp only [zam,zag, ↓reduceIte,Nat.reduceEqDiff,reduceCtorEq]) | refine oY (by simp only [go_sem,idxJ,F]; exact iR) ?_ | refine oN (by simp only [go_sem,idxJ,F]; exact iR) ?_)
   refine oL rfl (f0) (by simp only [go_sem,idxJ,F]; exact iR) (by simp only [go_sem,idxJ,F]; exact⟨rfl,rfl⟩) ?_
   repeat (first | refine oO rfl (by simp only [go_sem,idxJ,F]; exact⟨rfl,rfl⟩) ?_ | refine gR ?_ | refine gO ?_ | refine oZ (zau ?_) | refine oZ ?_ | refine oS ?_ | refine gT ?_ | refine gD Tryz.mixed ?_ | refine oB ?_ | refine oK ?_ | (refine oX ?_; simp only [zam,zag, ↓reduceIte,Nat.reduceEqDiff,reduceCtorEq]) | refine oY (by simp only [go_sem,idxJ,F]; exact iR) ?_ | refine oN (by simp only [go_sem,idxJ,F]; exact iR) ?_)
   refine zac (D:=Nat×List Int) (fun x vs'=>[(0, .row 1000 (vs' 1000)),(1, .clo g [.loc 1001 (vs' 1001) 0 0]),(5,I (((l.take x.1).filter fun d=> !p d).length:Int)),(6,I (x.1:Int))]) (fun x vs'=>[(1000,⟨1,x.2.map intAV,3,true⟩),(1001,⟨1,[[I G]],te,false⟩)]) (fun x vs' esc'=>(x.1<=l.length/\x.2.length=l.length/\((l.take x.1).filter fun d=> !p d).length<x.1/\x.2.take ((l.take x.1).filter fun d=> !p d).length=(l.take x.1).filter (fun d=> !p d)/\x.2.drop x.1=l.drop x.1)/\vs' 1001=vs 1001/\esc' 1000=false/\esc' 1001=false) (fun x=>l.length-x.1) (i0+1,l) ?_ ?_ ?_ ?_
   ·have hq:(l.take (i0+1)).filter (fun d=> !p d)=l.take i0:=by
     rw [zf5 h3,List.filter_append, <-h2]
     simp [h4]
    refine⟨⟨h1,rfl, ?_, ?_,rfl⟩,by simp only [go_sem],by simp only [go_sem,e0],by simp only [go_sem,e1]⟩
    ·rw [hq,List.length_take]; omega
    ·simp only
     rw [hq,List.length_take,Nat.min_eq_left (by omega)]
   ·have hq:((l.take (i0+1)).filter fun d=> !p d).length=i0:=by
     rw [zf5 h3,List.filter_append, <-h2]
     simp [h4]
     omega
    simp only [hq]
    (simp only [go_sem,idxJ,F])
   ·(simp only [go_sem,idxJ,F])
   try clear e0 e1 g0 g1 h1 h2 h3 h4 hi
   rintro⟨j,L⟩ ws es ⟨⟨hj,hL,hc,ht,hd⟩,v1,e0,e1⟩
   simp only at hj hL hc ht hd
   generalize hcn:((l.take j).filter fun d=> !p d).length=c at*
   by_cases hlt:j<l.length
   ·obtain⟨d,hx⟩: ∃x,l[j]? =some x:=⟨l[j],List.getElem?_eq_getElem hlt⟩
    have hxL:L[j]? =some d:=by
     have:=congrArg (fun q:List Int=>q[0]?) hd
     simpa [hx] using this
    have f1:=hp d
    have g1:(j:Int)< (L.length:Int):=by omega
    have g2:=zab hlt (by omega)
    have g3:=zf5 hx
    cases h1:p d
    ·rw [h1] at f1
     obtain⟨y,hy⟩: ∃x,L[c]? =some x:=⟨L[c]'(by omega),List.getElem?_eq_getElem (by omega)⟩
     have g4:(c:Int)< (L.length:Int):=by omega
     have g5:IntKind.i64.wrap ((c:Int)+1)=((c+1:Nat):Int):=zab (show c<l.length by omega) (by omega)
     have hq:((l.take (j+1)).filter fun d=> !p d)=(l.take j).filter (fun d=> !p d)++[d]:=by rw [g3,List.filter_append]; simp [h1]
     have hs:(L.map intAV).set c [I d]=(L.set c d).map intAV:=by rw [List.map_set]
     have F:=ai hxL<|ai hy<|ai e0<|ai e1<|ai g1<|ai g2<|ai g4<|ai g5<|hs
     repeat refine st ?_
     refine oL (zco rfl (by simp only [go_sem,F]; exact iR)) (f1.lend rfl) (by simp only [go_sem,F]; exact iR) (by simp only [go_sem,F]; exact⟨rfl,rfl⟩) ?_
     repeat refine st ?_
     refine⟨(j+1,L.set c d),⟨⟨hlt,by simpa using hL, ?_, ?_, ?_⟩, ?_, ?_, ?_⟩, ?_, ?_, ?_⟩
     ·simp only [hq,List.length_append,List.length_singleton,hcn]; omega
     ·simp only [hq,List.length_append,List.length_singleton,hcn]
      rw [<-ht]
      apply List.ext_getElem?
      intro k
      rw [List.getElem?_take,List.getElem?_set]
      by_cases hk:k<c
      ·rw [if_pos (by omega),if_neg (by omega),List.getElem?_append_left (by simp; omega),List.getElem?_take,if_pos hk]
      ·by_cases hk2:k=c
       ·subst hk2
        rw [if_pos (by omega),if_pos rfl,if_pos (by omega),List.getElem?_append_right (by rw [List.length_take]; omega),List.length_take,Nat.min_eq_left (by omega)]
        simp
       ·rw [if_neg (by omega),List.getElem?_eq_none (by rw [List.length_append,List.length_take,List.length_singleton]; omega)]
     ·simp only
      rw [List.drop_set_of_lt (by omega)]
      have:=congrArg (List.drop 1) hd
      simpa [List.drop_drop] using this
     ·simp only [go_sem,v1]
     ·simp only [go_sem,e0]
     ·simp only [go_sem,e1]
     ·have hq2:((l.take (j+1)).filter fun d=> !p d).length=c+1:=by rw [hq,List.length_append,hcn]; rfl
      simp only [hq2]
      (simp only [go_sem,F])
     ·(simp only [go_sem,F])
     ·simp only; omega
    ·rw [h1] at f1
     have hq:((l.take (j+1)).filter fun d=> !p d)=(l.take j).filter (fun d=> !p d):=by rw [g3,List.filter_append]; simp [h1]
     have F:=ai hxL<|ai e0<|ai e1<|ai g1<|g2
     repeat refine st ?_
     refine oL (zco rfl (by simp only [go_sem,F]; exact iR)) (f1.lend rfl) (by simp only [go_sem,F]; exact iR) (by simp only [go_sem,F]; exact⟨rfl,rfl⟩) ?_
     repeat refine st ?_
     refine⟨(j+1,L),⟨⟨hlt,hL, ?_, ?_, ?_⟩, ?_, ?_, ?_⟩, ?_, ?_, ?_⟩
     ·simp only [hq,hcn]; omega
     ·simp only [hq,hcn]; exact ht
     ·simp only
      have:=congrArg (List.drop 1) hd
      simpa [List.drop_drop] using this
     ·simp only [go_sem,v1]
     ·simp only [go_sem,e0]
     ·simp only [go_sem,e1]
     ·simp only [hq,hcn]
      (simp only [go_sem,F])
     ·(simp only [go_sem,F])
     ·simp only; omega
   ·have g1: ¬(j:Int)< (L.length:Int):=by omega
    have hjl:l.take j=l:=List.take_of_length_le (by omega)
    rw [hjl] at ht hcn
    have g4:(c:Int)<=(L.length:Int):=by omega
    have g5:c<=L.length:=by omega
    have g6: ∀X:List (List AV),((L.take c).map intAV++X).take c=(l.filter fun d=> !p d).map intAV:=fun X=>by
     rw [List.take_left' (by rw [List.length_map,List.length_take]; omega),ht]
    have g7:c+(L.length-c)=L.length:=by omega
    have g8:min c L.length=c:=by omega
    have F:=ai v1<|ai e0<|ai e1<|ai g1<|ai g4<|ai g5<|ai g6<|ai g7<|g8
    repeat (first | refine oO rfl (by simp only [go_sem,List.length_take,List.length_replicate,F]; exact⟨rfl,rfl⟩) ?_ | refine gR ?_ | refine gO ?_ | refine oZ (zau ?_) | refine oZ ?_ | refine oS ?_ | refine gT ?_ | refine gD Tryz.mixed ?_ | refine oB ?_ | refine oK ?_ | (refine oX ?_; simp only [zam,zag, ↓reduceIte,Nat.reduceEqDiff,reduceCtorEq]) | refine oY (by simp only [go_sem,List.length_take,List.length_replicate,F]; exact iR) ?_ | refine oN (by simp only [go_sem,List.length_take,List.length_replicate,F]; exact iR) ?_)
    (refine zae ?_; (try simp only [zam,zag, ↓reduceIte,Nat.reduceEqDiff,reduceCtorEq]); refine zb9 ?_ ?_<;>simp only [go_sem,List.length_take,List.length_replicate,F,implies_true,and_self,imp_self,false_implies,AV.tuple.injEq,exists_eq_left',ne_eq])
end

end Go.Proofs.YtnbjaghjdeicmaaGreatDoor