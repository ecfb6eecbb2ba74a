/- record.clock, states, vars. -/
import Derived.Test.YtnbjaghjdeicmaaGreatDoorG15
import Derived.Test.YtnbjaghjdeicmaaGreatDoorG10
import Derived.Test.YtnbjaghjdeicmaaGreatDoorG5
import Derived.Test.YtnbjaghjdeicmaaGreatDoorG18
import Derived.Test.YtnbjaghjdeicmaaGreatDoorG20
import Derived.Test.YtnbjaghjdeicmaaGreatDoorG17
import Derived.Test.YtnbjaghjdeicmaaGreatDoorG19
import Derived.Test.YtnbjaghjdeicmaaGreatDoorG8
set_option maxRecDepth 100000
set_option maxHeartbeats 16000000
set_option linter.unusedSimpArgs false
namespace Go.Proofs.YtnbjaghjdeicmaaGreatDoor
section
open Go.RowKit
def zdA (c:ChD) (x:Int):Bool:=match c.states[x.toNat]? with
 | some s=>decide (s.parent<0)&&(s.kind==3)
 | none=>false
def zjK (c:ChD) (act:List Int):Bool:=act.any (zdA c)
theorem zmQ {c:ChD} {act:List Int} {i:Nat} {x:Int} (ha:(act.take i).any (zdA c)=false) (hx:act[i]? =some x) (h:zdA c x=false):(act.take (i+1)).any (zdA c)=false:=by
 rw [List.take_add_one,hx,List.any_append,ha]
 simp [h]
theorem zqm {c:ChD} {act:List Int} {i:Nat} {x:Int} (hx:act[i]? =some x) (h:zdA c x=true):zjK c act=true:=List.any_eq_true.2 ⟨x,List.mem_of_getElem? hx,h⟩
theorem zqS (env:Env) (c:ChD) (act:List Int) (hl:act.length<=1000000) (hr: ∀x∈act,0<=x/\x<c.states.length):Con Tryz.prog env 91 [.agg (chAV c),ints34 act] (B (zjK c act)):=by
 refine zaa Tryz.func91 rfl Tryz.call91 (by rw [Tryz.ntmps91]; simp) ?_
 rw [Tryz.ntmps91,Tryz.results91]
 have F:=chAV.eq_1
 repeat refine st ?_
 refine zac (D:=Nat) (fun i vs=>[(2, .loc 2 (vs 2) 0 0),(7,ints34 act),(8,I act.length),(9,I i)]) (fun _ _=>[(2,⟨5,[chAV c],26,false⟩)]) (fun i _ _=>i<=act.length/\(act.take i).any (zdA c)=false) (fun i=>act.length-i) 0 ?_ ?_ ?_ ?_
 ·exact⟨Nat.zero_le _,rfl⟩
 ·(simp only [go_sem,F])
 ·have F:=chAV.eq_1
  (simp only [go_sem,F])
 rintro i vs esc ⟨hi,ha⟩
 by_cases hlt:i<act.length
 ·have g1:=nlt hlt
  have g2:=zab hlt (by omega)
  obtain⟨x,hx⟩: ∃x,act[i]? =some x:=⟨act[i],List.getElem?_eq_getElem hlt⟩
  obtain⟨h0,h1⟩:=hr x (List.mem_of_getElem? hx)
  obtain⟨k,rfl⟩:=Int.eq_ofNat_of_zero_le h0
  have hk:k<c.states.length:=by omega
  obtain⟨s,hs⟩: ∃s,c.states[k]? =some s:=⟨c.states[k],List.getElem?_eq_getElem hk⟩
  have g3:=nlt hk
  have ht:zdA c k=(decide (s.parent<0)&&(s.kind==3)):=by unfold zdA; rw [Int.toNat_natCast,hs]
  by_cases b1:s.parent<0
  ·by_cases b2:s.kind=3
   ·rw [zqm hx (by rw [ht,decide_eq_true b1,b2]; rfl)]
    have F:=ai chAV.eq_1<|ai stAV.eq_1<|ai g1<|ai g2<|ai g3<|ai hx<|ai hs<|ai b1<|b2
    repeat (first | refine oO rfl (by simp only [go_sem,intAV,F]; exact⟨rfl,rfl⟩) ?_ | refine gR ?_ | refine gO ?_ | refine oZ (zaA ?_) | refine oZ ?_ | refine oS ?_ | refine gT ?_ | refine gD Tryz.mixed ?_ | refine oB ?_ | refine oK ?_ | (refine oX ?_; simp only [zao,zag, ↓reduceIte,Nat.reduceEqDiff,reduceCtorEq]) | refine oY (by simp only [go_sem,intAV,F]; exact iR) ?_ | refine oN (by simp only [go_sem,intAV,F]; exact iR) ?_)
    (refine zah ?_; show (zaG _ _ _).run _=some _; simp only [go_sem,intAV,F])
   ·have b3:(s.kind==3)=false:=by simpa using b2
    have F:=ai chAV.eq_1<|ai stAV.eq_1<|ai g1<|ai g2<|ai g3<|ai hx<|ai hs<|ai b1<|b3
    repeat (first | refine oO rfl (by simp only [go_sem,intAV,F]; exact⟨rfl,rfl⟩) ?_ | refine gR ?_ | refine gO ?_ | refine oZ (zaA ?_) | refine oZ ?_ | refine oS ?_ | refine gT ?_ | refine gD Tryz.mixed ?_ | refine oB ?_ | refine oK ?_ | (refine oX ?_; simp only [zao,zag, ↓reduceIte,Nat.reduceEqDiff,reduceCtorEq]) | refine oY (by simp only [go_sem,intAV,F]; exact iR) ?_ | refine oN (by simp only [go_sem,intAV,F]; exact iR) ?_)
    refine⟨i+1,⟨hlt,zmQ ha hx (by rw [ht,b3,Bool.and_false])⟩, ?_, ?_,by omega⟩
    ·(simp only [go_sem,intAV,F])
    ·have F:=chAV.eq_1
     (simp only [go_sem,F])
  ·have F:=ai chAV.eq_1<|ai stAV.eq_1<|ai g1<|ai g2<|ai g3<|ai hx<|ai hs<|b1
   repeat (first | refine oO rfl (by simp only [go_sem,intAV,F]; exact⟨rfl,rfl⟩) ?_ | refine gR ?_ | refine gO ?_ | refine oZ (zaA ?_) | refine oZ ?_ | refine oS ?_ | refine gT ?_ | refine gD Tryz.mixed ?_ | refine oB ?_ | refine oK ?_ | (refine oX ?_; simp only [zao,zag, ↓reduceIte,Nat.reduceEqDiff,reduceCtorEq]) | refine oY (by simp only [go_sem,intAV,F]; exact iR) ?_ | refine oN (by simp only [go_sem,intAV,F]; exact iR) ?_)
   refine⟨i+1,⟨hlt,zmQ ha hx (by rw [ht,decide_eq_false b1,Bool.false_and])⟩, ?_, ?_,by omega⟩
   ·(simp only [go_sem,intAV,F])
   ·have F:=chAV.eq_1
    (simp only [go_sem,F])
 have g1: ¬(i:Int)< (act.length:Int):=by omega
 rw [show zjK c act=false from by rwa [List.take_of_length_le (by omega)] at ha]
 have F:=g1
 repeat refine st ?_
 exact aR
theorem zoF (env:Env) (c:ChD) (act:List Int) (hl:act.length<=1000000) (hr: ∀x∈act,0<=x/\x<c.states.length):Con Tryz.prog env 59 [.agg (chAV c),ints34 act] (B (zjK c act)):=by
 refine zaa Tryz.func59 rfl Tryz.call59 (by rw [Tryz.ntmps59]; simp) ?_
 rw [Tryz.ntmps59,Tryz.results59]
 have F:=chAV.eq_1
 repeat refine st ?_
 refine zac (D:=Nat) (fun i vs=>[(1,ints34 act),(2, .loc 2 (vs 2) 0 0),(5,I i)]) (fun _ _=>[(2,⟨5,[chAV c],26,false⟩)]) (fun i _ _=>i<=act.length/\(act.take i).any (zdA c)=false) (fun i=>act.length-i) 0 ?_ ?_ ?_ ?_
 ·exact⟨Nat.zero_le _,rfl⟩
 ·(simp only [go_sem,F])
 ·have F:=chAV.eq_1
  (simp only [go_sem,F])
 rintro i vs esc ⟨hi,ha⟩
 by_cases hlt:i<act.length
 ·have g1:=nlt hlt
  have g2:=zab hlt (by omega)
  obtain⟨x,hx⟩: ∃x,act[i]? =some x:=⟨act[i],List.getElem?_eq_getElem hlt⟩
  obtain⟨h0,h1⟩:=hr x (List.mem_of_getElem? hx)
  obtain⟨k,rfl⟩:=Int.eq_ofNat_of_zero_le h0
  have hk:k<c.states.length:=by omega
  obtain⟨s,hs⟩: ∃s,c.states[k]? =some s:=⟨c.states[k],List.getElem?_eq_getElem hk⟩
  have g3:=nlt hk
  have ht:zdA c k=(decide (s.parent<0)&&(s.kind==3)):=by unfold zdA; rw [Int.toNat_natCast,hs]
  by_cases b1:s.parent<0
  ·by_cases b2:s.kind=3
   ·rw [zqm hx (by rw [ht,decide_eq_true b1,b2]; rfl)]
    have F:=ai chAV.eq_1<|ai stAV.eq_1<|ai g1<|ai g2<|ai g3<|ai hx<|ai hs<|ai b1<|b2
    repeat (first | refine oO rfl (by simp only [go_sem,intAV,F]; exact⟨rfl,rfl⟩) ?_ | refine gR ?_ | refine gO ?_ | refine oZ (zaA ?_) | refine oZ ?_ | refine oS ?_ | refine gT ?_ | refine gD Tryz.mixed ?_ | refine oB ?_ | refine oK ?_ | (refine oX ?_; simp only [zao,zag, ↓reduceIte,Nat.reduceEqDiff,reduceCtorEq]) | refine oY (by simp only [go_sem,intAV,F]; exact iR) ?_ | refine oN (by simp only [go_sem,intAV,F]; exact iR) ?_)
    (refine zah ?_; show (zaG _ _ _).run _=some _; simp only [go_sem,intAV,F])
   ·have b3:(s.kind==3)=false:=by simpa using b2
    have F:=ai chAV.eq_1<|ai stAV.eq_1<|ai g1<|ai g2<|ai g3<|ai hx<|ai hs<|ai b1<|b3
    repeat (first | refine oO rfl (by simp only [go_sem,intAV,F]; exact⟨rfl,rfl⟩) ?_ | refine gR ?_ | refine gO ?_ | refine oZ (zaA ?_) | refine oZ ?_ | refine oS ?_ | refine gT ?_ | refine gD Tryz.mixed ?_ | refine oB ?_ | refine oK ?_ | (refine oX ?_; simp only [zao,zag, ↓reduceIte,Nat.reduceEqDiff,reduceCtorEq]) | refine oY (by simp only [go_sem,intAV,F]; exact iR) ?_ | refine oN (by simp only [go_sem,intAV,F]; exact iR) ?_)
    refine⟨i+1,⟨hlt,zmQ ha hx (by rw [ht,b3,Bool.and_false])⟩, ?_, ?_,by omega⟩
    ·(simp only [go_sem,intAV,F])
    ·have F:=chAV.eq_1
     (simp only [go_sem,F])
  ·have F:=ai chAV.eq_1<|ai stAV.eq_1<|ai g1<|ai g2<|ai g3<|ai hx<|ai hs<|b1
   repeat (first | refine oO rfl (by simp only [go_sem,intAV,F]; exact⟨rfl,rfl⟩) ?_ | refine gR ?_ | refine gO ?_ | refine oZ (zaA ?_) | refine oZ ?_ | refine oS ?_ | refine gT ?_ | refine gD Tryz.mixed ?_ | refine oB ?_ | refine oK ?_ | (refine oX ?_; simp only [zao,zag, ↓reduceIte,Nat.reduceEqDiff,reduceCtorEq]) | refine oY (by simp only [go_sem,intAV,F]; exact iR) ?_ | refine oN (by simp only [go_sem,intAV,F]; exact iR) ?_)
   refine⟨i+1,⟨hlt,zmQ ha hx (by rw [ht,decide_eq_false b1,Bool.false_and])⟩, ?_, ?_,by omega⟩
   ·(simp only [go_sem,intAV,F])
   ·have F:=chAV.eq_1
    (simp only [go_sem,F])
 have g1: ¬(i:Int)< (act.length:Int):=by omega
 rw [show zjK c act=false from by rwa [List.take_of_length_le (by omega)] at ha]
 have F:=g1
 repeat refine st ?_
 exact aR
theorem zqZ (env:Env) (l:List (List UInt8×Int)) (hl:l.length<=9223372036854775807) (hn: ∀t∈l,t.1.length<=9223372036854775807):Con Tryz.prog env 90 [.seq 2 (l.map tmAV)] (B (zaL l)):=by
 refine zaa Tryz.func90 rfl Tryz.call90 (by rw [Tryz.ntmps90]; simp) ?_
 rw [Tryz.ntmps90,Tryz.results90]
 repeat refine st0 ?_
 refine zac (D:=Nat) (fun i _=>[(0, .seq 2 (l.map tmAV)),(5, .seq 2 (l.map tmAV)),(6,I l.length),(7,I i)]) (fun _ _=>[]) (fun i _ _=>i<=l.length/\ ∀j,j<i->tmAt l j=true) (fun i=>l.length-i) 0 ?_ ?_ ?_ ?_
 ·exact⟨Nat.zero_le _,fun j hj=>by omega⟩
 ·(simp only [go_sem])
 ·(simp only [go_sem])
 rintro i vs esc ⟨hi,ha⟩
 by_cases hlt:i<l.length
 ·have g1:=nlt hlt
  have g2:=zab hlt (by omega)
  obtain⟨x,hx⟩: ∃x,l[i]? =some x:=⟨l[i],List.getElem?_eq_getElem hlt⟩
  have f1:=zbD env x.1 (hn x (zmg hx))
  have hnot:tmAt l i=false->zaL l=false:=fun h=>by rw [zaL,zav hlt h]; rfl
  cases a1:zaC x.1
  ·rw [hnot (by unfold tmAt; rw [zaq hx,a1]; rfl)]
   rw [a1] at f1
   have F:=ai g1<|ai g2<|ai hx<|tmAV.eq_1
   repeat (first | refine st ?_ | refine cC f1 ?_)
   exact aR
  rw [a1] at f1
  by_cases a2:x.2<0
  ·rw [hnot (by unfold tmAt clkB; rw [zaq hx,decide_eq_false (by omega),Bool.and_false]; rfl)]
   have F:=ai g1<|ai g2<|ai hx<|ai tmAV.eq_1<|a2
   repeat (first | refine st ?_ | refine cC f1 ?_)
   exact aR
  by_cases a3:1099511627776<x.2
  ·rw [hnot (by unfold tmAt clkB; rw [zaq hx,decide_eq_false (by omega),Bool.and_false]; rfl)]
   have F:=ai g1<|ai g2<|ai hx<|ai tmAV.eq_1<|ai a2<|a3
   repeat (first | refine st ?_ | refine cC f1 ?_)
   exact aR
  have a4:clkB x.2=true:=decide_eq_true ⟨by omega,by omega⟩
  by_cases h0:i=0
  ·have g3: ¬(0:Int)< (i:Int):=by omega
   have F:=ai g1<|ai g2<|ai hx<|ai tmAV.eq_1<|ai a2<|ai a3<|g3
   repeat (first | refine st ?_ | refine cC f1 ?_)
   refine⟨i+1,⟨hlt,zbx ha ?_⟩, ?_, ?_,by omega⟩
   ·unfold tmAt
    rw [zaq hx,a1,a4,decide_eq_true h0]
    rfl
   ·(simp only [go_sem,F])
   ·(simp only [go_sem,F])
  have g3:(0:Int)< (i:Int):=by omega
  have g4:IntKind.i64.wrap ((i:Int)-1)=((i-1:Nat):Int):=i64m i 1 (by omega) (by omega)
  have g5:((i-1:Nat):Int)< (l.length:Int):=by omega
  obtain⟨y,hy⟩: ∃y,l[i-1]? =some y:=⟨l[i-1],List.getElem?_eq_getElem (by omega)⟩
  have hv:tmAt l i= !(Op.bytesLess x.1 y.1||x.1==y.1):=by unfold tmAt; rw [zaq hx,zaq hy,a1,a4,decide_eq_false h0,zdU]; rfl
  by_cases hc:(Op.bytesLess x.1 y.1||x.1==y.1)=true
  ·rw [hnot (by rw [hv,hc]; rfl)]
   have F:=ai g1<|ai g2<|ai hx<|ai tmAV.eq_1<|ai a2<|ai a3<|ai g3<|ai g4<|ai g5<|ai hy<|hc
   repeat (first | refine st ?_ | refine cC f1 ?_)
   exact aR
  have hc:(Op.bytesLess x.1 y.1||x.1==y.1)=false:=by simpa using hc
  have F:=ai g1<|ai g2<|ai hx<|ai tmAV.eq_1<|ai a2<|ai a3<|ai g3<|ai g4<|ai g5<|ai hy<|hc
  repeat (first | refine st ?_ | refine cC f1 ?_)
  refine⟨i+1,⟨hlt,zbx ha (by rw [hv,hc]; rfl)⟩, ?_, ?_,by omega⟩
  ·(simp only [go_sem,F])
  ·(simp only [go_sem,F])
 have g1: ¬(i:Int)< (l.length:Int):=by omega
 have e:zaL l=decide ((l.length:Int)<=8):=by
  rw [zaL,zaZ (n:=l.length) fun j hj=>ha j (by omega),Bool.true_and]
  exact decide_eq_decide.2 (by omega)
 rw [e]
 have F:=g1
 repeat refine st ?_
 exact aR
theorem zo2 (env:Env) (a1 a8:Addr) (he:ChEnv env a1 a8) (s:List UInt8):Con Tryz.prog env 67 [Sg s] (errV (-1) (sentV a1)):=by
 have h1:=zhG he.e1
 have f1:=zb5 env s a1
 refine zaa Tryz.func67 rfl Tryz.call67 (by rw [Tryz.ntmps67]; simp) ?_
 rw [Tryz.ntmps67,Tryz.results67]
 have F:=h1
 repeat (first | refine st ?_ | refine cC f1 ?_)
 exact aR
structure LiteI (r:Rc):Prop where
 active:r.active.length<=1000000
 vars:r.vars.length<=1000000
 mem:r.mem.length<=1000000
 timers:r.timers.length<=9223372036854775807
theorem Lite.toI {r:Rc} (h:Lite r):LiteI r:=⟨h.active,h.vars,h.mem,by have:=h.timers; omega⟩
def zhI (l:List Int):Bool:=l.all zdw
def zcj (c:ChD) (r:Rc):Bool:=lgB c r.active&&ziM c r.mem&&(r.vars.length==c.vars.length)&&zaL r.timers&&(r.over==zjK c r.active)&&zhI r.vars
def znw (a1:Addr) (c:ChD) (r:Rc):AV:=if zcj c r=true then nilE else errV (-1) (sentV a1)
theorem zsT {c:ChD} {act:List Int} (h:lgB c act=true): ∀x∈act,0<=x/\x<c.states.length:=fun x hx=>by
 obtain⟨i,hi⟩:=List.mem_iff_getElem?.1 hx
 have h1:=(zsU.1 h).1 i (List.getElem?_eq_some_iff.1 hi).1
 rw [zls hi,Bool.and_eq_true] at h1
 have h2:=h1.2
 unfold fitI at_ at h2
 by_cases h0:0<=x
 ·rw [if_pos h0] at h2
  cases hs:c.states[x.toNat]? with
  | none=>rw [hs] at h2; cases h2
  | some s=>have:=(List.getElem?_eq_some_iff.1 hs).1; omega
 ·rw [if_neg h0] at h2
  cases h2
end
section
open Go.RowKit
theorem zpy {l:List Int} {i:Nat} {x:Int} (ha:(l.take i).all zdw=true) (hx:l[i]? =some x) (h:zdw x=true):(l.take (i+1)).all zdw=true:=by
 rw [List.take_add_one,hx,List.all_append,ha]
 simp [h]
theorem zpz {l:List Int} {i:Nat} {x:Int} (hx:l[i]? =some x) (h:zdw x=false):zhI l=false:=by
 unfold zhI
 rw [List.all_eq_false]
 exact⟨x,List.mem_of_getElem? hx,by rw [h]; exact Bool.false_ne_true⟩
theorem znv (env:Env) (a1 a8:Addr) (he:ChEnv env a1 a8) (c:ChD) (h:Full c) (hs:Small c) (r:Rc) (hl:LiteI r) (hn: ∀t∈r.timers,t.1.length<=9223372036854775807) (hF: ∀m∈r.mem,Fits m.2.length 8):Con Tryz.prog env 36 [zaU c, .agg (inAV r)] (znw a1 c r):=by
 have f1:=zca env c hs
 have f2:=zkB env a1 a8 he c h hs r.active hl.active
 have f3:=zqq env a1 a8 he c h hs r.mem hl.mem hF
 have f4:=zqZ env r.timers hl.timers hn
 have f6:=zo2 env a1 a8 he [109,105,99,114,111,46,67,104,101,99,107]
 have bad:zcj c r=false->znw a1 c r=errV (-1) (sentV a1):=fun h=>by unfold znw; rw [h]; rfl
 unfold chkE at f2
 unfold chkM at f3
 unfold chAV at f1
 unfold zaU at f1 f2 f3 |-
 cases b1:lgB c r.active
 ·rw [bad (by unfold zcj; rw [b1]; rfl)]
  rw [b1,if_neg Bool.false_ne_true] at f2
  refine zaa Tryz.func36 rfl Tryz.call36 (by rw [Tryz.ntmps36]; simp) ?_
  rw [Tryz.ntmps36,Tryz.results36]
  have F:=inAV.eq_1
  repeat (first | refine st ?_ | refine cC f1 ?_ | refine cC f2 ?_ | refine cC f6 ?_)
  exact aR
 rw [b1,if_pos rfl] at f2
 cases b2:ziM c r.mem
 ·rw [bad (by unfold zcj; rw [b2,Bool.and_false]; rfl)]
  rw [b2,if_neg Bool.false_ne_true] at f3
  refine zaa Tryz.func36 rfl Tryz.call36 (by rw [Tryz.ntmps36]; simp) ?_
  rw [Tryz.ntmps36,Tryz.results36]
  have F:=inAV.eq_1
  repeat (first | refine st ?_ | refine cC f1 ?_ | refine cC f2 ?_ | refine cC f3 ?_ | refine cC f6 ?_)
  exact aR
 rw [b2,if_pos rfl] at f3
 by_cases b3:r.vars.length=c.vars.length
 case neg=>
  rw [bad (by unfold zcj; rw [show (r.vars.length==c.vars.length)=false by simpa using b3,Bool.and_false]; rfl)]
  have b4:((r.vars.length:Int) != (c.vars.length:Int))=true:=by simp; omega
  refine zaa Tryz.func36 rfl Tryz.call36 (by rw [Tryz.ntmps36]; simp) ?_
  rw [Tryz.ntmps36,Tryz.results36]
  have F:=ai inAV.eq_1<|b4
  repeat (first | refine st ?_ | refine cC f1 ?_ | refine cC f2 ?_ | refine cC f3 ?_ | refine cC f6 ?_)
  exact aR
 have b4:((r.vars.length:Int) != (c.vars.length:Int))=false:=by simp [b3]
 cases b5:zaL r.timers
 ·rw [bad (by unfold zcj; rw [b5,Bool.and_false]; rfl)]
  rw [b5] at f4
  refine zaa Tryz.func36 rfl Tryz.call36 (by rw [Tryz.ntmps36]; simp) ?_
  rw [Tryz.ntmps36,Tryz.results36]
  have F:=ai inAV.eq_1<|b4
  repeat (first | refine st ?_ | refine cC f1 ?_ | refine cC f2 ?_ | refine cC f3 ?_ | refine cC f4 ?_ | refine cC f6 ?_)
  exact aR
 rw [b5] at f4
 have f5:=zqS env c r.active hl.active (zsT b1)
 unfold chAV at f5
 cases b6:(r.over==zjK c r.active)
 ·rw [bad (by unfold zcj; rw [b6,Bool.and_false]; rfl)]
  refine zaa Tryz.func36 rfl Tryz.call36 (by rw [Tryz.ntmps36]; simp) ?_
  rw [Tryz.ntmps36,Tryz.results36]
  have F:=ai inAV.eq_1<|ai b4<|b6
  repeat (first | refine st ?_ | refine cC f1 ?_ | refine cC f2 ?_ | refine cC f3 ?_ | refine cC f4 ?_ | refine cC f5 ?_ | refine cC f6 ?_)
  exact aR
 have hi:zcj c r=zhI r.vars:=by unfold zcj; rw [b1,b2,b5,b6,show (r.vars.length==c.vars.length)=true by simpa using b3]; rfl
 have hvl:=hl.vars
 refine zaa Tryz.func36 rfl Tryz.call36 (by rw [Tryz.ntmps36]; simp) ?_
 rw [Tryz.ntmps36,Tryz.results36]
 have F:=ai inAV.eq_1<|ai b4<|b6
 repeat (first | refine st ?_ | refine cC f1 ?_ | refine cC f2 ?_ | refine cC f3 ?_ | refine cC f4 ?_ | refine cC f5 ?_ | refine cC f6 ?_)
 try clear f1 f2 f3 f4 f5 b1 b2 b4 b5 b6
 refine zac (D:=Nat) (fun i _=>[(52,ints34 r.vars),(53,I r.vars.length),(54,I i)]) (fun _ _=>[]) (fun i _ _=>i<=r.vars.length/\(r.vars.take i).all zdw=true) (fun i=>r.vars.length-i) 0 ?_ ?_ ?_ ?_
 ·exact⟨Nat.zero_le _,rfl⟩
 ·(simp only [go_sem,F])
 ·(simp only [go_sem,F])
 rintro i vs esc ⟨hi2,ha⟩
 by_cases hlt:i<r.vars.length
 ·have g1:=nlt hlt
  have g2:=zab hlt (by omega)
  obtain⟨x,hx⟩: ∃x,r.vars[i]? =some x:=⟨r.vars[i],List.getElem?_eq_getElem hlt⟩
  have f7:=zjj env x
  cases b8:zdw x
  ·rw [b8] at f7
   rw [bad (by rw [hi]; exact zpz hx b8)]
   have F:=ai g1<|ai g2<|hx
   repeat (first | refine oO rfl (by simp only [go_sem,intAV,F]; exact⟨rfl,rfl⟩) ?_ | refine gR ?_ | refine gO ?_ | refine oC rfl (f6) (by simp only [go_sem,intAV,F]; exact iR) (by simp only [go_sem,intAV,F]; exact⟨rfl,rfl⟩) ?_ | refine oC rfl (f7) (by simp only [go_sem,intAV,F]; exact iR) (by simp only [go_sem,intAV,F]; exact⟨rfl,rfl⟩) ?_ | refine oZ (zaA ?_) | refine oZ ?_ | refine oS ?_ | refine gT ?_ | refine gD Tryz.mixed ?_ | refine oB ?_ | refine oK ?_ | (refine oX ?_; simp only [zao,zag, ↓reduceIte,Nat.reduceEqDiff,reduceCtorEq]) | refine oY (by simp only [go_sem,intAV,F]; exact iR) ?_ | refine oN (by simp only [go_sem,intAV,F]; exact iR) ?_)
   (refine zah ?_; show (zaG _ _ _).run _=some _; simp only [go_sem,intAV,F])
  ·rw [b8] at f7
   have F:=ai g1<|ai g2<|hx
   repeat (first | refine oO rfl (by simp only [go_sem,intAV,F]; exact⟨rfl,rfl⟩) ?_ | refine gR ?_ | refine gO ?_ | refine oC rfl (f6) (by simp only [go_sem,intAV,F]; exact iR) (by simp only [go_sem,intAV,F]; exact⟨rfl,rfl⟩) ?_ | refine oC rfl (f7) (by simp only [go_sem,intAV,F]; exact iR) (by simp only [go_sem,intAV,F]; exact⟨rfl,rfl⟩) ?_ | refine oZ (zaA ?_) | refine oZ ?_ | refine oS ?_ | refine gT ?_ | refine gD Tryz.mixed ?_ | refine oB ?_ | refine oK ?_ | (refine oX ?_; simp only [zao,zag, ↓reduceIte,Nat.reduceEqDiff,reduceCtorEq]) | refine oY (by simp only [go_sem,intAV,F]; exact iR) ?_ | refine oN (by simp only [go_sem,intAV,F]; exact iR) ?_)
   refine⟨i+1,⟨hlt,zpy ha hx b8⟩, ?_, ?_,by omega⟩
   ·(simp only [go_sem,intAV,F])
   ·(simp only [go_sem,intAV,F])
 have g1: ¬(i:Int)< (r.vars.length:Int):=by omega
 rw [show znw a1 c r=nilE from by unfold znw; rw [if_pos (by rw [hi]; unfold zhI; rwa [List.take_of_length_le (by omega)] at ha)]]
 have F:=g1
 repeat refine st ?_
 exact aR
theorem zkL (env:Env) (s:List UInt8):Con Tryz.prog env 44 [Sg s,nilE] nilE:=by
 refine zaa Tryz.func44 rfl Tryz.call44 (by rw [Tryz.ntmps44]; simp) ?_
 rw [Tryz.ntmps44,Tryz.results44]
 repeat refine st0 ?_
 exact aR0
def fitE (a1:Addr) (c:ChD) (r:Rc):AV:=if (zai r&&zcj c r)=true then nilE else errV (-1) (errV (-1) (sentV a1))
theorem znb (env:Env) (a1 a8:Addr) (he:ChEnv env a1 a8) (c:ChD) (h:Full c) (hs:Small c) (r:Rc) (hl:Lite r) (hn: ∀t∈r.timers,t.1.length<=9223372036854775807) (hF: ∀m∈r.mem,Fits m.2.length 8):Con Tryz.prog env 11 [zaU c, .agg (zaQ r)] (fitE a1 c r):=by
 have f1:=zfP env a1 a8 he r hl hn
 have f2:=znv env a1 a8 he c h hs r hl.toI hn hF
 have f3:=zlS env [114,101,99,111,114,100,46,70,105,116] (-1) (sentV a1)
 have f4:=zkL env [114,101,99,111,114,100,46,70,105,116]
 unfold recE at f1
 unfold znw at f2
 unfold zaU at f2 |-
 unfold inAV at f2
 unfold zaQ at f1
 cases b1:zai r
 ·rw [b1,if_neg Bool.false_ne_true] at f1
  rw [show fitE a1 c r=errV (-1) (errV (-1) (sentV a1)) from by unfold fitE; rw [b1]; rfl]
  refine zaa Tryz.func11 rfl Tryz.call11 (by rw [Tryz.ntmps11]; simp) ?_
  rw [Tryz.ntmps11,Tryz.results11]
  have F:=zaQ.eq_1
  repeat (first | refine st ?_ | refine cC f1 ?_ | refine cC f3 ?_)
  exact aR
 rw [b1,if_pos rfl] at f1
 cases b2:zcj c r
 ·rw [b2,if_neg Bool.false_ne_true] at f2
  rw [show fitE a1 c r=errV (-1) (errV (-1) (sentV a1)) from by unfold fitE; rw [b1,b2]; rfl]
  refine zaa Tryz.func11 rfl Tryz.call11 (by rw [Tryz.ntmps11]; simp) ?_
  rw [Tryz.ntmps11,Tryz.results11]
  have F:=zaQ.eq_1
  repeat (first | refine st ?_ | refine cC f1 ?_ | refine cC f2 ?_ | refine cC f3 ?_)
  exact aR
 rw [b2,if_pos rfl] at f2
 rw [show fitE a1 c r=nilE from by unfold fitE; rw [b1,b2]; rfl]
 refine zaa Tryz.func11 rfl Tryz.call11 (by rw [Tryz.ntmps11]; simp) ?_
 rw [Tryz.ntmps11,Tryz.results11]
 have F:=zaQ.eq_1
 repeat (first | refine st ?_ | refine cC f1 ?_ | refine cC f2 ?_ | refine cC f4 ?_)
 exact aR
theorem zjB (env:Env) (l:List Int) (hl:l.length<=1000000):Con Tryz.prog env 60 [.agg [ints34 l,I 0,nilS]] (B (zhI l)):=by
 refine zaa Tryz.func60 rfl Tryz.call60 (by rw [Tryz.ntmps60]; simp) ?_
 rw [Tryz.ntmps60,Tryz.results60]
 repeat refine st0 ?_
 refine zac (D:=Nat) (fun i vs=>[(1, .loc 1 (vs 1) 0 0),(3,I i)]) (fun _ _=>[(1,⟨3,[[ints34 l,I 0,nilS]],120,false⟩)]) (fun i _ _=>i<=l.length/\(l.take i).all zdw=true) (fun i=>l.length-i) 0 ?_ ?_ ?_ ?_
 ·exact⟨Nat.zero_le _,rfl⟩
 ·(simp only [go_sem])
 ·(simp only [go_sem])
 rintro i vs esc ⟨hi,ha⟩
 by_cases hlt:i<l.length
 ·have g1:=nlt hlt
  have g2:=zab hlt (by omega)
  obtain⟨x,hx⟩: ∃x,l[i]? =some x:=⟨l[i],List.getElem?_eq_getElem hlt⟩
  have f7:=zg1 env x
  cases b8:zdw x
  ·rw [b8] at f7
   rw [zpz hx b8]
   have F:=ai g1<|ai g2<|hx
   repeat (first | refine oO rfl (by simp only [go_sem,intAV,F]; exact⟨rfl,rfl⟩) ?_ | refine gR ?_ | refine gO ?_ | refine oC rfl (f7) (by simp only [go_sem,intAV,F]; exact iR) (by simp only [go_sem,intAV,F]; exact⟨rfl,rfl⟩) ?_ | refine oZ (zaA ?_) | refine oZ ?_ | refine oS ?_ | refine gT ?_ | refine gD Tryz.mixed ?_ | refine oB ?_ | refine oK ?_ | (refine oX ?_; simp only [zao,zag, ↓reduceIte,Nat.reduceEqDiff,reduceCtorEq]) | refine oY (by simp only [go_sem,intAV,F]; exact iR) ?_ | refine oN (by simp only [go_sem,intAV,F]; exact iR) ?_)
   (refine zah ?_; show (zaG _ _ _).run _=some _; simp only [go_sem,intAV,F])
  ·rw [b8] at f7
   have F:=ai g1<|ai g2<|hx
   repeat (first | refine oO rfl (by simp only [go_sem,intAV,F]; exact⟨rfl,rfl⟩) ?_ | refine gR ?_ | refine gO ?_ | refine oC rfl (f7) (by simp only [go_sem,intAV,F]; exact iR) (by simp only [go_sem,intAV,F]; exact⟨rfl,rfl⟩) ?_ | refine oZ (zaA ?_) | refine oZ ?_ | refine oS ?_ | refine gT ?_ | refine gD Tryz.mixed ?_ | refine oB ?_ | refine oK ?_ | (refine oX ?_; simp only [zao,zag, ↓reduceIte,Nat.reduceEqDiff,reduceCtorEq]) | refine oY (by simp only [go_sem,intAV,F]; exact iR) ?_ | refine oN (by simp only [go_sem,intAV,F]; exact iR) ?_)
   refine⟨i+1,⟨hlt,zpy ha hx b8⟩, ?_, ?_,by omega⟩
   ·(simp only [go_sem,intAV,F])
   ·(simp only [go_sem,intAV,F])
 have g1: ¬(i:Int)< (l.length:Int):=by omega
 have f7:=zg1 env 0
 rw [show zhI l=true from by unfold zhI; rwa [List.take_of_length_le (by omega)] at ha]
 rw [show zdw 0=true from rfl] at f7
 have F:=g1
 repeat (first | refine st ?_ | refine cC f7 ?_)
 exact aR
theorem zlc (env:Env) (c:ChD) (h:Full c) (act:List Int) (hl:act.length<=1000000):Con Tryz.prog env 28 [.agg (chAV c), .seq 1 (act.map intAV)] (B (lgB c act)):=by
 have f0:=ziI env c h act hl
 unfold lgB
 refine zaa Tryz.func28 rfl Tryz.call28 (by rw [Tryz.ntmps28]; simp) ?_
 rw [Tryz.ntmps28,Tryz.results28]
 have F:=chAV.eq_1
 repeat (first | refine st ?_ | refine cC f0 ?_)
 exact aR
theorem zjA (env:Env) (c:ChD) (h:Full c) (r:Rc) (hl:LiteI r) (hF: ∀m∈r.mem,Fits m.2.length 8):Con Tryz.prog env 17 [.agg (chAV c), .agg (inAV r)] (B (zcj c r)):=by
 have f2:=zlc env c h r.active hl.active
 have f3:=zjE env c h r.mem hl.mem hF
 have hll:=hl.timers
 unfold chAV at f2 f3
 cases b1:lgB c r.active
 ·rw [show zcj c r=false from by unfold zcj; rw [b1]; rfl]
  rw [b1] at f2
  refine zaa Tryz.func17 rfl Tryz.call17 (by rw [Tryz.ntmps17]; simp) ?_
  rw [Tryz.ntmps17,Tryz.results17]
  have F:=ai chAV.eq_1<|inAV.eq_1
  repeat (first | refine st ?_ | refine cC f2 ?_)
  exact aR
 rw [b1] at f2
 cases b2:ziM c r.mem
 ·rw [show zcj c r=false from by unfold zcj; rw [b2,Bool.and_false]; rfl]
  rw [b2] at f3
  refine zaa Tryz.func17 rfl Tryz.call17 (by rw [Tryz.ntmps17]; simp) ?_
  rw [Tryz.ntmps17,Tryz.results17]
  have F:=ai chAV.eq_1<|inAV.eq_1
  repeat (first | refine st ?_ | refine cC f2 ?_ | refine cC f3 ?_)
  exact aR
 rw [b2] at f3
 by_cases b3:r.vars.length=c.vars.length
 case neg=>
  rw [show zcj c r=false from by unfold zcj; rw [show (r.vars.length==c.vars.length)=false by simpa using b3,Bool.and_false]; rfl]
  have b4:((r.vars.length:Int) != (c.vars.length:Int))=true:=by simp; omega
  refine zaa Tryz.func17 rfl Tryz.call17 (by rw [Tryz.ntmps17]; simp) ?_
  rw [Tryz.ntmps17,Tryz.results17]
  have F:=ai chAV.eq_1<|ai inAV.eq_1<|b4
  repeat (first | refine st ?_ | refine cC f2 ?_ | refine cC f3 ?_)
  exact aR
 have b4:((r.vars.length:Int) != (c.vars.length:Int))=false:=by simp [b3]
 by_cases b5:8<r.timers.length
 ·have b6:(8:Int)< (r.timers.length:Int):=by omega
  rw [show zcj c r=false from by unfold zcj zaL; rw [decide_eq_false (show ¬r.timers.length<=8 by omega),Bool.and_false,Bool.and_false]; rfl]
  refine zaa Tryz.func17 rfl Tryz.call17 (by rw [Tryz.ntmps17]; simp) ?_
  rw [Tryz.ntmps17,Tryz.results17]
  have F:=ai chAV.eq_1<|ai inAV.eq_1<|ai b4<|b6
  repeat (first | refine st ?_ | refine cC f2 ?_ | refine cC f3 ?_)
  exact aR
 have b6: ¬(8:Int)< (r.timers.length:Int):=by omega
 have f5:=zoF env c r.active hl.active (zsT b1)
 unfold chAV at f5
 cases b7:(r.over==zjK c r.active)
 ·rw [show zcj c r=false from by unfold zcj; rw [b7,Bool.and_false]; rfl]
  refine zaa Tryz.func17 rfl Tryz.call17 (by rw [Tryz.ntmps17]; simp) ?_
  rw [Tryz.ntmps17,Tryz.results17]
  have F:=ai chAV.eq_1<|ai inAV.eq_1<|ai b4<|ai b6<|b7
  repeat (first | refine st ?_ | refine cC f2 ?_ | refine cC f3 ?_ | refine cC f5 ?_)
  exact aR
 have hi:zcj c r=(allB r.timers.length (tmAt r.timers)&&zhI r.vars):=by
  unfold zcj zaL
  rw [b1,b2,b7,show (r.vars.length==c.vars.length)=true by simpa using b3,decide_eq_true (show r.timers.length<=8 by omega),Bool.and_true]
  simp
 rw [hi]
 refine zaa Tryz.func17 rfl Tryz.call17 (by rw [Tryz.ntmps17]; simp) ?_
 rw [Tryz.ntmps17,Tryz.results17]
 have F:=ai chAV.eq_1<|ai inAV.eq_1<|ai b4<|ai b6<|b7
 repeat (first | refine st ?_ | refine cC f2 ?_ | refine cC f3 ?_ | refine cC f5 ?_)
 try clear f2 f3 f5 b1 b2 b4 b6 b7 hi
 have F:=inAV.eq_1
 refine zac (D:=Nat) (fun i vs=>[(3, .loc 3 (vs 3) 0 0),(5,I i)]) (fun _ _=>[(3,⟨5,[inAV r],31,false⟩)]) (fun i _ _=>i<=r.timers.length/\ ∀j,j<i->tmAt r.timers j=true) (fun i=>r.timers.length-i) 0 ?_ ?_ ?_ ?_
 ·exact⟨Nat.zero_le _,fun j hj=>by omega⟩
 ·(simp only [go_sem,F])
 ·(simp only [go_sem,F])
 rintro i vs esc ⟨hi,ha⟩
 by_cases hlt:i<r.timers.length
 ·have g1:=nlt hlt
  have g2:=zab hlt (by omega)
  obtain⟨x,hx⟩: ∃x,r.timers[i]? =some x:=⟨r.timers[i],List.getElem?_eq_getElem hlt⟩
  have f1:=zaX env x.1
  have hnot:tmAt r.timers i=false->(allB r.timers.length (tmAt r.timers)&&zhI r.vars)=false:=fun h=>by rw [zav hlt h]; rfl
  cases a1:zaC x.1
  ·rw [hnot (by unfold tmAt; rw [zaq hx,a1]; rfl)]
   rw [a1] at f1
   have F:=ai inAV.eq_1<|ai g1<|ai g2<|ai hx<|tmAV.eq_1
   repeat (first | refine st ?_ | refine cC f1 ?_)
   exact aR
  rw [a1] at f1
  by_cases a2:x.2<0
  ·rw [hnot (by unfold tmAt clkB; rw [zaq hx,decide_eq_false (by omega),Bool.and_false]; rfl)]
   have F:=ai inAV.eq_1<|ai g1<|ai g2<|ai hx<|ai tmAV.eq_1<|a2
   repeat (first | refine st ?_ | refine cC f1 ?_)
   exact aR
  by_cases a3:1099511627776<x.2
  ·rw [hnot (by unfold tmAt clkB; rw [zaq hx,decide_eq_false (by omega),Bool.and_false]; rfl)]
   have F:=ai inAV.eq_1<|ai g1<|ai g2<|ai hx<|ai tmAV.eq_1<|ai a2<|a3
   repeat (first | refine st ?_ | refine cC f1 ?_)
   exact aR
  have a4:clkB x.2=true:=decide_eq_true ⟨by omega,by omega⟩
  by_cases h0:i=0
  ·have g3: ¬(0:Int)< (i:Int):=by omega
   have F:=ai inAV.eq_1<|ai g1<|ai g2<|ai hx<|ai tmAV.eq_1<|ai a2<|ai a3<|g3
   repeat (first | refine st ?_ | refine cC f1 ?_)
   refine⟨i+1,⟨hlt,zbx ha ?_⟩, ?_, ?_,by omega⟩
   ·unfold tmAt
    rw [zaq hx,a1,a4,decide_eq_true h0]
    rfl
   ·(simp only [go_sem,F])
   ·have F:=inAV.eq_1
    (simp only [go_sem,F])
  have g3:(0:Int)< (i:Int):=by omega
  have g4:IntKind.i64.wrap ((i:Int)-1)=((i-1:Nat):Int):=i64m i 1 (by omega) (by omega)
  have g5:((i-1:Nat):Int)< (r.timers.length:Int):=by omega
  obtain⟨y,hy⟩: ∃y,r.timers[i-1]? =some y:=⟨r.timers[i-1],List.getElem?_eq_getElem (by omega)⟩
  have hv:tmAt r.timers i= !(Op.bytesLess x.1 y.1||x.1==y.1):=by unfold tmAt; rw [zaq hx,zaq hy,a1,a4,decide_eq_false h0,zdU]; rfl
  by_cases hc:(Op.bytesLess x.1 y.1||x.1==y.1)=true
  ·rw [hnot (by rw [hv,hc]; rfl)]
   have F:=ai inAV.eq_1<|ai g1<|ai g2<|ai hx<|ai tmAV.eq_1<|ai a2<|ai a3<|ai g3<|ai g4<|ai g5<|ai hy<|hc
   repeat (first | refine st ?_ | refine cC f1 ?_)
   exact aR
  have hc:(Op.bytesLess x.1 y.1||x.1==y.1)=false:=by simpa using hc
  have F:=ai inAV.eq_1<|ai g1<|ai g2<|ai hx<|ai tmAV.eq_1<|ai a2<|ai a3<|ai g3<|ai g4<|ai g5<|ai hy<|hc
  repeat (first | refine st ?_ | refine cC f1 ?_)
  refine⟨i+1,⟨hlt,zbx ha (by rw [hv,hc]; rfl)⟩, ?_, ?_,by omega⟩
  ·(simp only [go_sem,F])
  ·have F:=inAV.eq_1
   (simp only [go_sem,F])
 have g1: ¬(i:Int)< (r.timers.length:Int):=by omega
 have f4:=zjB env r.vars hl.vars
 rw [zaZ (n:=r.timers.length) fun j hj=>ha j (by omega),Bool.true_and]
 have F:=ai inAV.eq_1<|g1
 repeat (first | refine st ?_ | refine cC f4 ?_)
 exact aR
end
section
open Go.RowKit Go.ChangeShapes
def zbU (r:Rc):Bool:=decide (r.mem.length<=60)&&decide (r.active.length<=60)&&decide (r.vars.length<=60)&&decide (r.timers.length<=60)&&r.mem.all fun m=>decide (m.2.length<=60)
theorem zlq {r:Rc} (h:zbU r=true):Lite r/\ ∀m∈r.mem,Fits m.2.length 8:=by
 unfold zbU at h
 simp only [Bool.and_eq_true,decide_eq_true_eq,List.all_eq_true] at h
 obtain⟨⟨⟨⟨h1,h2⟩,h3⟩,h4⟩,h5⟩:=h
 exact⟨⟨by omega,by omega,by omega,by omega,fun m hm=>by have:=h5 m hm; omega⟩,fun m hm=>zar (by have:=h5 m hm; omega) (by omega)⟩
theorem zlr (env:Env) (r:Rc):Con Tryz.prog env 9 [.agg (zaQ r)] (B (zbU r)):=by
 by_cases b1:60<r.mem.length
 ·have c1:(60:Int)< (r.mem.length:Int):=by omega
  rw [show zbU r=false from by unfold zbU; rw [decide_eq_false (show ¬r.mem.length<=60 by omega)]; rfl]
  refine zaa Tryz.func9 rfl Tryz.call9 (by rw [Tryz.ntmps9]; simp) ?_
  rw [Tryz.ntmps9,Tryz.results9]
  have F:=ai zaQ.eq_1<|c1
  repeat refine st ?_
  exact aR
 have c1: ¬(60:Int)< (r.mem.length:Int):=by omega
 by_cases b2:60<r.active.length
 ·have c2:(60:Int)< (r.active.length:Int):=by omega
  rw [show zbU r=false from by unfold zbU; rw [decide_eq_false (show ¬r.active.length<=60 by omega),Bool.and_false]; rfl]
  refine zaa Tryz.func9 rfl Tryz.call9 (by rw [Tryz.ntmps9]; simp) ?_
  rw [Tryz.ntmps9,Tryz.results9]
  have F:=ai zaQ.eq_1<|ai c1<|c2
  repeat refine st ?_
  exact aR
 have c2: ¬(60:Int)< (r.active.length:Int):=by omega
 by_cases b3:60<r.vars.length
 ·have c3:(60:Int)< (r.vars.length:Int):=by omega
  rw [show zbU r=false from by unfold zbU; rw [decide_eq_false (show ¬r.vars.length<=60 by omega),Bool.and_false]; rfl]
  refine zaa Tryz.func9 rfl Tryz.call9 (by rw [Tryz.ntmps9]; simp) ?_
  rw [Tryz.ntmps9,Tryz.results9]
  have F:=ai zaQ.eq_1<|ai c1<|ai c2<|c3
  repeat refine st ?_
  exact aR
 have c3: ¬(60:Int)< (r.vars.length:Int):=by omega
 by_cases b4:60<r.timers.length
 ·have c4:(60:Int)< (r.timers.length:Int):=by omega
  rw [show zbU r=false from by unfold zbU; rw [decide_eq_false (show ¬r.timers.length<=60 by omega),Bool.and_false]; rfl]
  refine zaa Tryz.func9 rfl Tryz.call9 (by rw [Tryz.ntmps9]; simp) ?_
  rw [Tryz.ntmps9,Tryz.results9]
  have F:=ai zaQ.eq_1<|ai c1<|ai c2<|ai c3<|c4
  repeat refine st ?_
  exact aR
 have c4: ¬(60:Int)< (r.timers.length:Int):=by omega
 have hr:zbU r=r.mem.all fun m=>decide (m.2.length<=60):=by
  unfold zbU
  rw [decide_eq_true (show r.mem.length<=60 by omega),decide_eq_true (show r.active.length<=60 by omega),decide_eq_true (show r.vars.length<=60 by omega),decide_eq_true (show r.timers.length<=60 by omega)]
  rfl
 rw [hr]
 refine zaa Tryz.func9 rfl Tryz.call9 (by rw [Tryz.ntmps9]; simp) ?_
 rw [Tryz.ntmps9,Tryz.results9]
 have F:=ai zaQ.eq_1<|ai c1<|ai c2<|ai c3<|c4
 repeat refine st ?_
 try clear hr c1 c2 c3 c4
 refine zac (D:=Nat) (fun i vs=>[(1, .loc 1 (vs 1) 0 0),(3,I i)]) (fun _ _=>[(1,⟨8,[zaQ r],33,false⟩)]) (fun i _ _=>i<=r.mem.length/\((r.mem.take i).all fun m=>decide (m.2.length<=60))=true) (fun i=>r.mem.length-i) 0 ?_ ?_ ?_ ?_
 ·exact⟨Nat.zero_le _,rfl⟩
 ·(simp only [go_sem,F])
 ·have F:=zaQ.eq_1
  (simp only [go_sem,F])
 rintro i vs esc ⟨hi,ha⟩
 by_cases hlt:i<r.mem.length
 ·have g1:=nlt hlt
  have g2:=zab hlt (by omega)
  obtain⟨m,hm⟩: ∃m,r.mem[i]? =some m:=⟨r.mem[i],List.getElem?_eq_getElem hlt⟩
  by_cases b5:60<m.2.length
  ·have c5:(60:Int)< (m.2.length:Int):=by omega
   rw [show (r.mem.all fun m=>decide (m.2.length<=60))=false from by rw [List.all_eq_false]; exact⟨m,List.mem_of_getElem? hm,by simp; omega⟩]
   have F:=ai zaQ.eq_1<|ai mmAV.eq_1<|ai g1<|ai g2<|ai hm<|c5
   repeat refine st ?_
   exact aR
  ·have c5: ¬(60:Int)< (m.2.length:Int):=by omega
   have F:=ai zaQ.eq_1<|ai mmAV.eq_1<|ai g1<|ai g2<|ai hm<|c5
   repeat refine st ?_
   refine⟨i+1,⟨hlt, ?_⟩, ?_, ?_,by omega⟩
   ·rw [List.take_add_one,hm,List.all_append,ha]
    simp
    omega
   ·(simp only [go_sem,F])
   ·have F:=zaQ.eq_1
    (simp only [go_sem,F])
 have g1: ¬(i:Int)< (r.mem.length:Int):=by omega
 rw [show (r.mem.all fun m=>decide (m.2.length<=60))=true from by rwa [List.take_of_length_le (by omega)] at ha]
 have F:=ai zaQ.eq_1<|g1
 repeat refine st ?_
 exact aR
theorem zqW (env:Env) (r:Rc):Con Tryz.prog env 16 [.agg (zaQ r)] (.agg (zaQ r)):=by
 refine zaa Tryz.func16 rfl Tryz.call16 (by rw [Tryz.ntmps16]; simp) ?_
 rw [Tryz.ntmps16,Tryz.results16]
 have F:=zaQ.eq_1
 repeat refine st ?_
 exact aR
theorem znL (env:Env):Con Tryz.prog env 42 [nilE] (I 0):=
 zi5 Tryz.call42 fun w S vs hE hl hv=>by
  match vs,hl with
  | [v],_=>
    obtain rfl:=(hv 0 v _ rfl rfl).lit_inv
    refine(zru w).mono ?_
    rintro e w' ⟨rfl,rfl⟩
    exact⟨rfl,Below.refl _ _⟩
theorem zkR (env:Env):Con Tryz.prog env 10 [nilE,I 0] (B true):=by
 have f1:=znL env
 refine zaa Tryz.func10 rfl Tryz.call10 (by rw [Tryz.ntmps10]; simp) ?_
 rw [Tryz.ntmps10,Tryz.results10]
 repeat (first | refine st0 ?_ | refine cC0 f1 ?_)
 exact aR0
theorem zgJ (ad:Nat->Addr) (mo:More) (k:Nat) (hk:1<=k/\k<=9) (p:Int) (ps:List Int):Con Tryz.prog (zbP ad mo) 10 [errV p (chainV ps (sentV (ad k))),I k] (B true):=by
 have f0:Con Tryz.prog (zbP ad mo) 42 [errV p (chainV ps (sentV (ad k)))] (I k):=znK ad mo k hk (p::ps)
 have b0:(((k:Nat):Int)==0)=false:=by simp; omega
 generalize chainV ps (sentV (ad k))=X at*
 refine zaa Tryz.func10 rfl Tryz.call10 (by rw [Tryz.ntmps10]; simp) ?_
 rw [Tryz.ntmps10,Tryz.results10]
 have F:=b0
 repeat (first | refine st ?_ | refine cC f0 ?_)
 exact aR
def recF:Rc:=⟨1,0,0,[0],[],[],[],false⟩
def zoy:List AV:=[I 1,I 0,I 0, .seq 1 [[I 0]],nilS,nilS,nilS,B false]
theorem zqG:Strs [.lit (.pointer none), .agg zoy] [.lit (.pointer none), .agg (zaQ recF)]:=
 .cons (.refl _) (.one (.agg (.cons (.refl _) (.cons (.refl _) (.cons (.refl _) (.cons (.refl _) (.cons (.nil 1) (.cons (.nil 2) (.cons (.nil 2) (.cons (.refl _) .nil))))))))))
theorem ziS (env:Env) (a7:Addr) (h7:env 0=some (sentV a7)) (x:List AV) (hx:x.length=5) (hp:x.all AV.plain=true):Con Tryz.prog env 36 [.lit (.pointer none), .agg x] (errV (-1) (sentV a7)):=by
 have h1:=zhG h7
 have f1:=zb5 env [109,105,99,114,111,46,67,104,101,99,107] a7
 match x,hx with
 | [x0,x1,x2,x3,x4],_=>
   refine zaa Tryz.func36 rfl Tryz.call36 (by rw [Tryz.ntmps36]; simp) ?_
   rw [Tryz.ntmps36,Tryz.results36]
   have F:=h1
   repeat (first | refine st ?_ | refine cC f1 ?_)
   exact aR
theorem ziF (env:Env) (a1 a7 a8:Addr) (he:ChEnv env a1 a8) (h7:env 0=some (sentV a7)):Con Tryz.prog env 11 [.lit (.pointer none), .agg zoy] (errV (-1) (errV (-1) (sentV a7))):=by
 refine Con.args ?_ zqG
 have f1:=zfP env a1 a8 he recF ⟨by decide,by decide,by decide,by decide,by decide⟩ (by decide)
 have f2:=ziS env a7 h7 (inAV recF) rfl rfl
 have f3:=zlS env [114,101,99,111,114,100,46,70,105,116] (-1) (sentV a7)
 unfold recE at f1
 rw [if_pos (by decide+kernel)] at f1
 unfold zaQ at f1
 unfold inAV at f2
 refine zaa Tryz.func11 rfl Tryz.call11 (by rw [Tryz.ntmps11]; simp) ?_
 rw [Tryz.ntmps11,Tryz.results11]
 have F:=zaQ.eq_1
 repeat (first | refine st ?_ | refine cC f1 ?_ | refine cC f2 ?_ | refine cC f3 ?_)
 exact aR
theorem zlt (ad:Nat->Addr) (fa:Con Tryz.prog (zbP ad zbZ) 13 [] (B true)) (c:ChD) (hcf:zhj c) (r:Rc) (hn: ∀t∈r.timers,t.1.length<=9223372036854775807):Con Tryz.prog (zbP ad zbZ) 3 [.agg (chAV c), .agg (zaQ r)] (B true):=by
 have he:=zq1 ad
 have fl:=zlr (zbP ad zbZ) r
 have f0:=ziF (zbP ad zbZ) (ad 1) (ad 7) (ad 8) he rfl
 have f7:Con Tryz.prog (zbP ad zbZ) 10 [errV (-1) (errV (-1) (sentV (ad 7))),I 7] (B true):=zgJ ad zbZ 7 (by omega) (-1) [-1]
 cases b0:zbU r
 ·rw [b0] at fl
  unfold zaQ at fl |-
  refine zaa Tryz.func3 rfl Tryz.call3 (by rw [Tryz.ntmps3]; simp) ?_
  rw [Tryz.ntmps3,Tryz.results3]
  repeat (first | refine st0 ?_ | refine cC0 fl ?_ | refine cC0 fa ?_)
  exact aR0
 obtain⟨hl,hF⟩:=zlq b0
 rw [b0] at fl
 have fr:=zne (zbP ad zbZ) c
 unfold zoy at f0
 cases hg:zny c with
 | false=>
   unfold zny zlp at hg
   by_cases b1:(c.states.length:Int)<=40
   case neg=>
    have c1:(40:Int)< (c.states.length:Int):=by omega
    unfold zaQ at fl |-
    unfold chAV
    refine zaa Tryz.func3 rfl Tryz.call3 (by rw [Tryz.ntmps3]; simp) ?_
    rw [Tryz.ntmps3,Tryz.results3]
    have F:=c1
    repeat (first | refine st ?_ | refine cC fl ?_ | refine cC f0 ?_ | refine cC f7 ?_ | refine cC fa ?_)
    exact aR
   by_cases b2:(c.trans.length:Int)<=70
   case neg=>
    have c1: ¬(40:Int)< (c.states.length:Int):=by omega
    have c2:(70:Int)< (c.trans.length:Int):=by omega
    unfold zaQ at fl |-
    unfold chAV
    refine zaa Tryz.func3 rfl Tryz.call3 (by rw [Tryz.ntmps3]; simp) ?_
    rw [Tryz.ntmps3,Tryz.results3]
    have F:=ai c1<|c2
    repeat (first | refine st ?_ | refine cC fl ?_ | refine cC f0 ?_ | refine cC f7 ?_ | refine cC fa ?_)
    exact aR
   by_cases b3:(c.vars.length:Int)<=10
   case neg=>
    have c1: ¬(40:Int)< (c.states.length:Int):=by omega
    have c2: ¬(70:Int)< (c.trans.length:Int):=by omega
    have c3:(10:Int)< (c.vars.length:Int):=by omega
    unfold zaQ at fl |-
    unfold chAV
    refine zaa Tryz.func3 rfl Tryz.call3 (by rw [Tryz.ntmps3]; simp) ?_
    rw [Tryz.ntmps3,Tryz.results3]
    have F:=ai c1<|ai c2<|c3
    repeat (first | refine st ?_ | refine cC fl ?_ | refine cC f0 ?_ | refine cC f7 ?_ | refine cC fa ?_)
    exact aR
   have c1: ¬(40:Int)< (c.states.length:Int):=by omega
   have c2: ¬(70:Int)< (c.trans.length:Int):=by omega
   have c3: ¬(10:Int)< (c.vars.length:Int):=by omega
   rw [decide_eq_true b1,decide_eq_true b2,decide_eq_true b3,Bool.true_and,Bool.true_and,Bool.true_and] at hg
   rw [hg] at fr
   unfold chAV at fr |-
   unfold zaQ at fl |-
   refine zaa Tryz.func3 rfl Tryz.call3 (by rw [Tryz.ntmps3]; simp) ?_
   rw [Tryz.ntmps3,Tryz.results3]
   have F:=ai c1<|ai c2<|c3
   repeat (first | refine st ?_ | refine cC fl ?_ | refine cC f0 ?_ | refine cC f7 ?_ | refine cC fr ?_ | refine cC fa ?_)
   exact aR
 | true=>
   have h:=zpt hg
   have hgk:(chk c).1=0:=by
    have hg:=hg
    unfold zny at hg
    rw [Bool.and_eq_true,beq_iff_eq] at hg
    exact hg.2
   have hs:=zl1 hgk
   have ft:=zod (zbP ad zbZ) (ad 1) (ad 8) he (zpa ad) c (zs7 hgk) hcf
   have fo:=zqW (zbP ad zbZ) r
   have f1:=zji (zbP ad zbZ) r hl
   have f2:=zjA (zbP ad zbZ) c h r hl.toI hF
   have f3:=znb (zbP ad zbZ) (ad 1) (ad 8) he c h hs r hl hn hF
   have ft1:Con Tryz.prog (zbP ad zbZ) 10 [errV (-1) (errV (-1) (sentV (ad 1))),I 1] (B true):=zgJ ad zbZ 1 (by omega) (-1) [-1]
   have ft0:=zkR (zbP ad zbZ)
   unfold zny zlp at hg
   simp only [Bool.and_eq_true,decide_eq_true_eq,beq_iff_eq] at hg
   have c1: ¬(40:Int)< (c.states.length:Int):=by omega
   have c2: ¬(70:Int)< (c.trans.length:Int):=by omega
   have c3: ¬(10:Int)< (c.vars.length:Int):=by omega
   rw [hgk] at fr
   unfold fitE at f3
   unfold chAV zaU at ft
   unfold zaU at f3
   unfold chAV at fr f2 |-
   unfold inAV at f2
   unfold zaQ at fl fo f1 f3 |-
   cases b1:zai r
   ·rw [b1] at f1 f3
    rw [Bool.false_and,if_neg Bool.false_ne_true] at f3
    refine zaa Tryz.func3 rfl Tryz.call3 (by rw [Tryz.ntmps3]; simp) ?_
    rw [Tryz.ntmps3,Tryz.results3]
    have F:=ai c1<|ai c2<|c3
    repeat (first | refine st ?_ | refine cC fl ?_ | refine cC f0 ?_ | refine cC f7 ?_ | refine cC fr ?_ | refine cC ft ?_ | refine cC fo ?_ | refine cC f1 ?_ | refine cC f3 ?_ | refine cC ft1 ?_ | refine cC fa ?_)
    exact aR
   cases b2:zcj c r
   ·rw [b1] at f1
    rw [b2] at f2
    rw [b1,b2,Bool.and_false,if_neg Bool.false_ne_true] at f3
    refine zaa Tryz.func3 rfl Tryz.call3 (by rw [Tryz.ntmps3]; simp) ?_
    rw [Tryz.ntmps3,Tryz.results3]
    have F:=ai c1<|ai c2<|c3
    repeat (first | refine st ?_ | refine cC fl ?_ | refine cC f0 ?_ | refine cC f7 ?_ | refine cC fr ?_ | refine cC ft ?_ | refine cC fo ?_ | refine cC f1 ?_ | refine cC f2 ?_ | refine cC f3 ?_ | refine cC ft1 ?_ | refine cC fa ?_)
    exact aR
   rw [b1] at f1
   rw [b2] at f2
   rw [b1,b2,Bool.and_true,if_pos rfl] at f3
   refine zaa Tryz.func3 rfl Tryz.call3 (by rw [Tryz.ntmps3]; simp) ?_
   rw [Tryz.ntmps3,Tryz.results3]
   have F:=ai c1<|ai c2<|c3
   repeat (first | refine st ?_ | refine cC fl ?_ | refine cC f0 ?_ | refine cC f7 ?_ | refine cC fr ?_ | refine cC ft ?_ | refine cC fo ?_ | refine cC f1 ?_ | refine cC f2 ?_ | refine cC f3 ?_ | refine cC ft0 ?_ | refine cC fa ?_)
   exact aR
end
section
open Go.RowKit
theorem zdc (n:Int) (w:World):Calls Tryz.prog 106 #[.int .i64 n] w fun e w'=>e= .returned (.bool (clkB n))/\w=w':=by
 by_cases h:0<=n
 all_goals
  go_enter Tryz.func106,Tryz.ntmps106
  go_wp2
  go_ret
  exact⟨by simp [clkB,h]<;>omega,rfl⟩
theorem ints_at {w:World} {B n:Nat} {A:Option Addr} {l:List Int} (h:Reads w B 1 A n (l.map (Value.int .i64))) (hn:l.length=n) (k:Nat) (hk:k<n):
 ∃b off,A=some ⟨b,off,none⟩/\b<B/\ ∀j,j<n->w.cell? ⟨b,off+j,none⟩=some (.int .i64 (l.getD j 0)):=by
 obtain⟨b,off,e,hb,hc⟩:=h.2 (by omega)
 refine⟨b,off,e,hb,fun j hj=>hc j _ ?_⟩
 rw [List.getElem?_map,List.getElem?_eq_getElem (by omega),zaR l j 0 (by omega)]
 rfl
theorem zcY (v:Value) (l:List Int) (B:Nat) (w:World) (h:zau w B 1 intR v l):
 Calls Tryz.prog 107 #[v] w fun e w'=>e= .returned (.bool (zak l))/\w=w':=by
 obtain⟨A,c,rfl,hlc,hcm,hr⟩:=h.one
 unfold maxLen at hcm
 have HR:=Lib.hid hr
 try clear h hr
 go_enter Tryz.func107,Tryz.ntmps107
 go_wp2
 go_loop [7] (fun i=> ∃k:Nat,k<=l.length/\i= .int .i64 k/\ ∀j,j<k->stAt l j=true) (fun i=>l.length-(intOf i).toNat)
 case atStart=>exact⟨0,by omega,rfl,fun j hj=>by omega⟩
 case round=>
  obtain⟨k,hk,rfl,hall⟩:=hrel
  have HA:=Lib.hid hall
  try clear hall
  by_cases hlt:k<l.length
  ·obtain⟨b,off,rfl,_,hc⟩:=ints_at HR.out rfl k hlt
   have hck:=hc k hlt
   have HS:Hid (stAt l k=(decide (0<=l.getD k 0)&&decide (l.getD k 0<=31)&&(decide (k=0)||decide (l.getD (k-1) 0<l.getD k 0)))):=Lib.hid rfl
   have fin:Hid (stAt l k=true-> ∀j,j<k+1->stAt l j=true):=Lib.hid (fun hb j hj=>by
    rcases Nat.lt_or_ge j k with h | h
    ·exact HA.out j h
    ·obtain rfl:j=k:=by omega
     exact hb)
   have bad:Hid (stAt l k=false->zak l=false):=Lib.hid (fun h=>by rw [zak,zav hlt h]; rfl)
   cases k with
   | zero=>
     rw [Nat.add_zero] at hck
     try clear hc
     generalize l.getD 0 0=x at*
     by_cases h1:0<=x
     ·by_cases h2:x<=31
      ·have kn:=Lib.hid (fin.out (by rw [HS.out]; simp [h1,h2]))
       go_wp2
       go_round
       case rel=>exact⟨1,by omega,rfl,kn.out⟩
       case measure=>simp [intOf]; omega
      ·have kn:=Lib.hid (bad.out (by rw [HS.out]; simp [h2]))
       go_wp2
       go_ret
       rw [kn.out]
       exact⟨rfl,rfl⟩
     ·have kn:=Lib.hid (bad.out (by rw [HS.out]; simp [h1]))
      go_wp2
      go_ret
      rw [kn.out]
      exact⟨rfl,rfl⟩
   | succ k=>
     have hcp:=hc k (by omega)
     rw [Nat.add_sub_cancel] at HS
     try clear hc
     generalize l.getD (k+1) 0=x at*
     generalize l.getD k 0=y at*
     by_cases h1:0<=x
     ·by_cases h2:x<=31
      ·by_cases h3:y<x
       ·have kn:=Lib.hid (fin.out (by rw [HS.out]; simp [h1,h2,h3]))
        go_wp2
        go_round
        case rel=>exact⟨k+1+1,by omega,by go_num,kn.out⟩
        case measure=>simp [intOf]; omega
       ·have kn:=Lib.hid (bad.out (by rw [HS.out]; simp [h3]))
        go_wp2
        go_ret
        rw [kn.out]
        exact⟨rfl,rfl⟩
      ·have kn:=Lib.hid (bad.out (by rw [HS.out]; simp [h2]))
       go_wp2
       go_ret
       rw [kn.out]
       exact⟨rfl,rfl⟩
     ·have kn:=Lib.hid (bad.out (by rw [HS.out]; simp [h1]))
      go_wp2
      go_ret
      rw [kn.out]
      exact⟨rfl,rfl⟩
  ·obtain rfl:k=l.length:=by omega
   have e:Hid (zak l=decide (0<l.length)):=Lib.hid (by rw [zak,zaZ HA.out]; rfl)
   go_wp2
   go_ret
   rw [e.out]
   refine⟨?_,rfl⟩
   first | rfl | (congr 2; simp; omega)
theorem zlW (v:Value) (l:List Int) (B:Nat) (w:World) (h:zau w B 1 intR v l):
 Calls Tryz.prog 108 #[v] w fun e w'=>e= .returned (.bool (zdy l))/\w=w':=by
 obtain⟨A,c,rfl,hlc,hcm,hr⟩:=h.one
 unfold maxLen at hcm
 have HR:=Lib.hid hr
 try clear h hr
 go_enter Tryz.func108,Tryz.ntmps108
 go_wp2
 go_loop [7] (fun i=> ∃k:Nat,k<=l.length/\i= .int .i64 k/\ ∀j,j<k->zdu l j=true) (fun i=>l.length-(intOf i).toNat)
 case atStart=>exact⟨0,by omega,rfl,fun j hj=>by omega⟩
 case round=>
  obtain⟨k,hk,rfl,hall⟩:=hrel
  have HA:=Lib.hid hall
  try clear hall
  by_cases hlt:k<l.length
  ·obtain⟨b,off,rfl,_,hc⟩:=ints_at HR.out rfl k hlt
   have hck:=hc k hlt
   have HS:Hid (zdu l k=(decide (-2147483647<=l.getD k 0)&&decide (l.getD k 0<=2147483647))):=Lib.hid rfl
   try clear hc
   have bad:Hid (zdu l k=false->zdy l=false):=Lib.hid (fun h=>by rw [zdy,zav hlt h]; rfl)
   have fin:Hid (zdu l k=true-> ∀j,j<k+1->zdu l j=true):=Lib.hid (fun hb j hj=>by
    rcases Nat.lt_or_ge j k with h | h
    ·exact HA.out j h
    ·obtain rfl:j=k:=by omega
     exact hb)
   generalize l.getD k 0=x at*
   by_cases h1: -2147483647<=x
   ·by_cases h2:x<=2147483647
    ·have kn:=Lib.hid (fin.out (by rw [HS.out]; simp [h1,h2]))
     go_wp2
     go_round
     case rel=>exact⟨k+1,by omega,by go_num,kn.out⟩
     case measure=>simp [intOf]; omega
    ·have kn:=Lib.hid (bad.out (by rw [HS.out]; simp [h2]))
     go_wp2
     go_ret
     rw [kn.out]
     exact⟨rfl,rfl⟩
   ·have kn:=Lib.hid (bad.out (by rw [HS.out]; simp [h1]))
    go_wp2
    go_ret
    rw [kn.out]
    exact⟨rfl,rfl⟩
  ·obtain rfl:k=l.length:=by omega
   have e:Hid (zdy l=decide (l.length<=8)):=Lib.hid (by rw [zdy,zaZ HA.out]; rfl)
   go_wp2
   go_ret
   refine⟨?_,rfl⟩
   rw [e.out]
   first | rfl | (congr 2; simp; omega)
end

end Go.Proofs.YtnbjaghjdeicmaaGreatDoor