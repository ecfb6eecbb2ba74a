/- Walking without memory: a row that a slot holds, seen as a list, at a round's end; ways that meet again. No program is named here. -/
import Derived.Test.YtnbjaghjdeicmaaGreatDoorK16
import Derived.Test.YtnbjaghjdeicmaaGreatDoorK10
import Derived.Test.YtnbjaghjdeicmaaGreatDoorK5
import Derived.Test.YtnbjaghjdeicmaaGreatDoorK13
import Derived.Test.YtnbjaghjdeicmaaGreatDoorK14
set_option maxRecDepth 100000
set_option maxHeartbeats 8000000
set_option linter.unusedSimpArgs false
namespace Go.Proofs.YtnbjaghjdeicmaaGreatDoor
open Go.RowKit
section
theorem zgM (env:Env) (c:ChD) (hc:c.states.length<=4000) (act:List Int) (hl:act.length<=1000000):Con Tryz.prog env 171 [zaj c, .seq 1 (act.map intAV)] (.own 4 1 (flagA c.states.length act)):=by
 have f0:=zaN env c
 have f1:=zlN env c
 have hz:=zpE c.states.length
 have m1: ¬(16777216:Int)< (c.states.length:Int):=by omega
 have m2: ¬(281474976710656:Int)<1*(c.states.length:Int):=by omega
 have m3: ¬(c.states.length:Int)<0:=by omega
 have m4: ¬(281474976710656:Int)< (c.states.length:Int):=by omega
 unfold zao at f0 f1
 unfold zaj at f0 |-
 refine zaa Tryz.func171 rfl Tryz.call171 (by rw [Tryz.ntmps171]; simp) ?_
 rw [Tryz.ntmps171,Tryz.results171]
 have F:=ai m1<|ai m2<|ai m3<|m4
 repeat (first | refine st ?_ | refine cC f0 ?_ | refine cC f1 ?_)
 refine zac (D:=Nat) (fun j vs=>[(5, .row 11 (vs 11)),(12, .seq 1 (act.map intAV)),(13,I act.length),(14,I j)]) (fun j _=>[(11,⟨1,flagA c.states.length (act.take j),4,true⟩)]) (fun j _ esc=>j<=act.length/\esc 11=false) (fun j=>act.length-j) 0 ?_ ?_ ?_ ?_
 ·exact⟨Nat.zero_le _,rfl⟩
 ·(simp only [go_sem,F])
 ·have F:=hz
  (simp only [go_sem,F])
 rintro j ws esc ⟨hj,e0⟩
 by_cases hlt:j<act.length
 ·obtain⟨x,hx⟩: ∃x,act[j]? =some x:=⟨act[j],List.getElem?_eq_getElem hlt⟩
  have q1:=nlt hlt
  have q2:=zab hlt (by omega)
  have ht:act.take (j+1)=act.take j++[x]:=by rw [List.take_add_one,hx]; rfl
  have hfl:=zda c.states.length (act.take j)
  by_cases h0:0<=x
  ·obtain⟨k,rfl⟩:=zd8 h0
   by_cases h1:k<c.states.length
   ·have q3:=nlt h1
    have hs:=zrq (act:=act.take j) h1
    have hat:=zgN (act:=act.take j) h1
    rw [<-ht] at hs
    have F:=ai hx<|ai q1<|ai q2<|ai q3<|ai hat<|ai hs<|ai hfl<|e0
    repeat refine st ?_
    refine⟨j+1,⟨hlt,by simp only [go_sem,e0]⟩, ?_, ?_,by omega⟩
    ·(simp only [go_sem,F])
    ·(simp only [go_sem,F])
   ·have q3: ¬(k:Int)< (c.states.length:Int):=by omega
    have hs:=zmg (n:=c.states.length) (act:=act.take j) (i:=(k:Int)) (fun m hm=>by omega)
    rw [<-ht] at hs
    have F:=ai hx<|ai q1<|ai q2<|ai q3<|ai hfl<|e0
    repeat refine st ?_
    refine⟨j+1,⟨hlt,by simp only [go_sem,e0]⟩, ?_, ?_,by omega⟩
    ·(simp only [go_sem,F])
    ·have F:=hs
     (simp only [go_sem,F])
  ·have hs:=zmg (n:=c.states.length) (act:=act.take j) (i:=x) (fun m hm=>by omega)
   rw [<-ht] at hs
   have F:=ai hx<|ai q1<|ai q2<|ai h0<|ai hfl<|e0
   repeat refine st ?_
   refine⟨j+1,⟨hlt,by simp only [go_sem,e0]⟩, ?_, ?_,by omega⟩
   ·(simp only [go_sem,F])
   ·have F:=hs
    (simp only [go_sem,F])
 ·obtain rfl:j=act.length:=by omega
  have q1: ¬(act.length:Int)< (act.length:Int):=by omega
  have hta:act.take act.length=act:=List.take_length
  have F:=ai q1<|ai hta<|e0
  repeat refine st ?_
  exact aR
theorem ziE (env:Env) (n:Nat) (act:List Int) (ks:List Nat) (_hn:n<=4000) (hl:ks.length<=4000) (hk: ∀k∈ks,k<n):Con Tryz.prog env 174 [.seq 1 (flagA n act), .seq 1 (ks.map zaf)] (I (manyI act ks:Nat)):=by
 have hfl:=zda n act
 have z0:manyI act []=0:=rfl
 refine zaa Tryz.func174 rfl Tryz.call174 (by rw [Tryz.ntmps174]; simp) ?_
 rw [Tryz.ntmps174,Tryz.results174]
 repeat refine st0 ?_
 refine zac (D:=Nat) (fun j _=>[(0, .seq 1 (flagA n act)),(5,I (manyI act (ks.take j):Nat)),(8, .seq 1 (ks.map zaf)),(9,I ks.length),(10,I j)]) (fun _ _=>[]) (fun j _ _=>j<=ks.length) (fun j=>ks.length-j) 0 ?_ ?_ ?_ ?_
 ·exact Nat.zero_le _
 ·have F:=z0
  (simp only [go_sem,F])
 ·(simp only [go_sem,z0])
 rintro j ws esc hj
 by_cases hlt:j<ks.length
 ·obtain⟨k,hk2⟩: ∃k,ks[j]? =some k:=⟨ks[j],List.getElem?_eq_getElem hlt⟩
  have hkn:=hk k (List.mem_of_getElem? hk2)
  have q1:=nlt hlt
  have q2:=zab hlt (by omega)
  have q3:=nlt hkn
  have hat:=zgN (act:=act) hkn
  have hm:=zld (act:=act) hk2
  have hle:=zlf act (ks.take j)
  rw [List.length_take] at hle
  have q4:=zab (show manyI act (ks.take j)<ks.length by omega) (by omega)
  cases hb:act.contains (k:Int) with
  | true=>
    rw [hb] at hat hm
    rw [if_pos rfl] at hm
    have F:=ai zaf.eq_1<|ai hk2<|ai q1<|ai q2<|ai q3<|ai q4<|ai hat<|hfl
    repeat refine st ?_
    refine⟨j+1,hlt, ?_, ?_,by omega⟩
    ·have F:=hm
     (simp only [go_sem,F])
    ·(simp only [go_sem,hm])
  | false=>
    rw [hb] at hat hm
    rw [if_neg Bool.false_ne_true,Nat.add_zero] at hm
    have F:=ai zaf.eq_1<|ai hk2<|ai q1<|ai q2<|ai q3<|ai hat<|hfl
    repeat refine st ?_
    refine⟨j+1,hlt, ?_, ?_,by omega⟩
    ·have F:=hm
     (simp only [go_sem,F])
    ·(simp only [go_sem,hm])
 ·obtain rfl:j=ks.length:=by omega
  have q1: ¬(ks.length:Int)< (ks.length:Int):=by omega
  have hta:ks.take ks.length=ks:=List.take_length
  have F:=ai q1<|hta
  repeat refine st ?_
  exact aR
theorem zoP {c:ChD} (h:Right c) {k:Nat} {s:StD} (hs:c.states[k]? =some s) (act:List Int):(s.parent<0/\decide (s.parent<0)=true)\/(¬s.parent<0/\decide (s.parent<0)=false/\0<=s.parent/\s.parent< (c.states.length:Int)/\(flagA c.states.length act)[s.parent.toNat]? =some [B (act.contains s.parent)]):=by
 have hi:=(List.getElem?_eq_some_iff.1 hs).1
 have h2:=(h.par k s hs).2
 by_cases e:s.parent<0
 ·exact .inl ⟨e,decide_eq_true e⟩
 ·refine .inr ⟨e,decide_eq_false e,by omega,by omega, ?_⟩
  rw [zgN (by omega)]
  rw [show ((s.parent.toNat:Nat):Int)=s.parent by omega]
theorem zrr (env:Env) (c:ChD) (h:Full c) (act:List Int) (k:Nat) (s:StD) (hs:c.states[k]? =some s):Con Tryz.prog env 172 [.agg (chAV c),zaj c, .seq 1 (flagA c.states.length act),I k] (B (fitB c act k s)):=by
 have hlen:=h.few
 have hi:=(List.getElem?_eq_some_iff.1 hs).1
 have q0:((k:Nat):Int)< (c.states.length:Int):=by omega
 have f0:=zaX env c h k
 rw [if_pos (.inr (zaR.2 hi))] at f0
 have hK:=za8 h.toRight k true
 have hKm: ∀j∈kidsL c k true,j<c.states.length:=fun j hj=>by have:=za9 h.toRight (zaV hj).1; omega
 have f1:=ziE env c.states.length act (kidsL c k true) (by omega) (by omega) hKm
 have hfl:=zda c.states.length act
 have hp:=zoP h.toRight hs act
 have hF:fitB c act k s=(!zay s&&(decide (s.parent<0)||act.contains s.parent)&&(if s.kind=1/\kidsL c k true≠[] then manyI act (kidsL c k true)==1 else if s.kind=2 then manyI act (kidsL c k true)==(kidsL c k true).length else true)):=rfl
 rw [hF]
 try clear hF
 generalize kidsL c k true=K at*
 unfold zaj at f0 |-
 by_cases e4:s.kind=4
 ·have b4:(s.kind==4)=true:=by simpa using e4
  have hm:zay s=true:=by unfold zay; rw [b4]; rfl
  rw [hm]
  refine zaa Tryz.func172 rfl Tryz.call172 (by rw [Tryz.ntmps172]; simp) ?_
  rw [Tryz.ntmps172,Tryz.results172]
  have F:=ai chAV.eq_1<|ai stAV.eq_1<|ai hs<|ai q0<|b4
  repeat (first | refine st ?_ | refine cC f0 ?_)
  exact aR
 have b4:(s.kind==4)=false:=by simpa using e4
 by_cases e5:s.kind=5
 ·have b5:(s.kind==5)=true:=by simpa using e5
  have hm:zay s=true:=by unfold zay; rw [b5,Bool.or_true]
  rw [hm]
  refine zaa Tryz.func172 rfl Tryz.call172 (by rw [Tryz.ntmps172]; simp) ?_
  rw [Tryz.ntmps172,Tryz.results172]
  have F:=ai chAV.eq_1<|ai stAV.eq_1<|ai hs<|ai q0<|ai b4<|b5
  repeat (first | refine st ?_ | refine cC f0 ?_)
  exact aR
 have b5:(s.kind==5)=false:=by simpa using e5
 have hm:zay s=false:=by unfold zay; rw [b4,b5]; rfl
 rw [hm]
 by_cases e1:s.kind=1
 ·have b1:(s.kind==1)=true:=by simpa using e1
  by_cases hk0:K=[]
  ·rw [if_neg (by simp [hk0]),if_neg (by omega)]
   have q1: ¬(0:Int)< (K.length:Int):=by rw [hk0]; simp
   rcases hp with⟨g0,g1⟩ | ⟨g0,g1,g2,g3,g4⟩
   ·refine zaa Tryz.func172 rfl Tryz.call172 (by rw [Tryz.ntmps172]; simp) ?_
    rw [Tryz.ntmps172,Tryz.results172]
    have F:=ai chAV.eq_1<|ai stAV.eq_1<|ai hs<|ai q0<|ai b4<|ai b5<|ai b1<|ai q1<|ai g0<|g1
    repeat (first | refine st ?_ | refine cC f0 ?_)
    exact aR
   ·refine zaa Tryz.func172 rfl Tryz.call172 (by rw [Tryz.ntmps172]; simp) ?_
    rw [Tryz.ntmps172,Tryz.results172]
    have F:=ai chAV.eq_1<|ai stAV.eq_1<|ai hs<|ai q0<|ai b4<|ai b5<|ai b1<|ai q1<|ai g0<|ai g1<|ai g2<|ai g3<|ai g4<|hfl
    repeat (first | refine st ?_ | refine cC f0 ?_)
    exact aR
  ·rw [if_pos ⟨e1,hk0⟩]
   have q1:(0:Int)< (K.length:Int):=by have:=List.length_pos_iff.2 hk0; omega
   by_cases hm1:manyI act K=1
   ·have hmi:((manyI act K:Nat):Int)=1:=by omega
    rw [hm1]
    rcases hp with⟨g0,g1⟩ | ⟨g0,g1,g2,g3,g4⟩
    ·refine zaa Tryz.func172 rfl Tryz.call172 (by rw [Tryz.ntmps172]; simp) ?_
     rw [Tryz.ntmps172,Tryz.results172]
     have F:=ai chAV.eq_1<|ai stAV.eq_1<|ai hs<|ai q0<|ai b4<|ai b5<|ai b1<|ai q1<|ai hmi<|ai g0<|g1
     repeat (first | refine st ?_ | refine cC f0 ?_ | refine cC f1 ?_)
     exact aR
    ·refine zaa Tryz.func172 rfl Tryz.call172 (by rw [Tryz.ntmps172]; simp) ?_
     rw [Tryz.ntmps172,Tryz.results172]
     have F:=ai chAV.eq_1<|ai stAV.eq_1<|ai hs<|ai q0<|ai b4<|ai b5<|ai b1<|ai q1<|ai hmi<|ai g0<|ai g1<|ai g2<|ai g3<|ai g4<|hfl
     repeat (first | refine st ?_ | refine cC f0 ?_ | refine cC f1 ?_)
     exact aR
   ·have hmi:(((manyI act K:Nat):Int) != 1)=true:=by simp; omega
    have hmb:(manyI act K==1)=false:=by simpa using hm1
    rw [hmb]
    refine zaa Tryz.func172 rfl Tryz.call172 (by rw [Tryz.ntmps172]; simp) ?_
    rw [Tryz.ntmps172,Tryz.results172]
    have F:=ai chAV.eq_1<|ai stAV.eq_1<|ai hs<|ai q0<|ai b4<|ai b5<|ai b1<|ai q1<|hmi
    repeat (first | refine st ?_ | refine cC f0 ?_ | refine cC f1 ?_)
    exact aR
 have b1:(s.kind==1)=false:=by simpa using e1
 rw [if_neg (fun e=>e1 e.1)]
 by_cases e2:s.kind=2
 ·have b2:(s.kind==2)=true:=by simpa using e2
  rw [if_pos e2]
  by_cases hm1:manyI act K=K.length
  ·have hmi:(((manyI act K:Nat):Int) != (K.length:Int))=false:=by simp; omega
   rw [hm1]
   rcases hp with⟨g0,g1⟩ | ⟨g0,g1,g2,g3,g4⟩
   ·refine zaa Tryz.func172 rfl Tryz.call172 (by rw [Tryz.ntmps172]; simp) ?_
    rw [Tryz.ntmps172,Tryz.results172]
    have F:=ai chAV.eq_1<|ai stAV.eq_1<|ai hs<|ai q0<|ai b4<|ai b5<|ai b1<|ai b2<|ai hmi<|ai g0<|g1
    repeat (first | refine st ?_ | refine cC f0 ?_ | refine cC f1 ?_)
    exact aR
   ·refine zaa Tryz.func172 rfl Tryz.call172 (by rw [Tryz.ntmps172]; simp) ?_
    rw [Tryz.ntmps172,Tryz.results172]
    have F:=ai chAV.eq_1<|ai stAV.eq_1<|ai hs<|ai q0<|ai b4<|ai b5<|ai b1<|ai b2<|ai hmi<|ai g0<|ai g1<|ai g2<|ai g3<|ai g4<|hfl
    repeat (first | refine st ?_ | refine cC f0 ?_ | refine cC f1 ?_)
    exact aR
  ·have hmi:(((manyI act K:Nat):Int) != (K.length:Int))=true:=by simp; omega
   have hmb:(manyI act K==K.length)=false:=by simpa using hm1
   rw [hmb]
   refine zaa Tryz.func172 rfl Tryz.call172 (by rw [Tryz.ntmps172]; simp) ?_
   rw [Tryz.ntmps172,Tryz.results172]
   have F:=ai chAV.eq_1<|ai stAV.eq_1<|ai hs<|ai q0<|ai b4<|ai b5<|ai b1<|ai b2<|hmi
   repeat (first | refine st ?_ | refine cC f0 ?_ | refine cC f1 ?_)
   exact aR
 ·have b2:(s.kind==2)=false:=by simpa using e2
  rw [if_neg e2]
  rcases hp with⟨g0,g1⟩ | ⟨g0,g1,g2,g3,g4⟩
  ·refine zaa Tryz.func172 rfl Tryz.call172 (by rw [Tryz.ntmps172]; simp) ?_
   rw [Tryz.ntmps172,Tryz.results172]
   have F:=ai chAV.eq_1<|ai stAV.eq_1<|ai hs<|ai q0<|ai b4<|ai b5<|ai b1<|ai b2<|ai g0<|g1
   repeat (first | refine st ?_ | refine cC f0 ?_)
   exact aR
  ·refine zaa Tryz.func172 rfl Tryz.call172 (by rw [Tryz.ntmps172]; simp) ?_
   rw [Tryz.ntmps172,Tryz.results172]
   have F:=ai chAV.eq_1<|ai stAV.eq_1<|ai hs<|ai q0<|ai b4<|ai b5<|ai b1<|ai b2<|ai g0<|ai g1<|ai g2<|ai g3<|ai g4<|hfl
   repeat (first | refine st ?_ | refine cC f0 ?_)
   exact aR
theorem zqk (env:Env) (a1 a8:Addr) (he:ChEnv env a1 a8) (p:Int) (hp: -1<=p):Con Tryz.prog env 173 [I p] (errV p (sentV a1)):=by
 have g1:=ziL he.e1
 have f0:=zpO env [108,101,103,97,108,46,67,104,101,99,107] p a1 hp
 refine zaa Tryz.func173 rfl Tryz.call173 (by rw [Tryz.ntmps173]; simp) ?_
 rw [Tryz.ntmps173,Tryz.results173]
 have F:=g1
 repeat (first | refine st ?_ | refine cC f0 ?_)
 exact aR
def chkE (a1:Addr) (c:ChD) (act:List Int):AV:=if lgB c act=true then nilE else errV (zeD c act).2 (sentV a1)
theorem zmv {a1:Addr} {c:ChD} {act:List Int} {p:Int} (h:zeD c act=(1,p)):chkE a1 c act=errV p (sentV a1):=by
 unfold chkE lgB
 rw [h]
 rfl
theorem zsM {a1:Addr} {c:ChD} {act:List Int} {p:Int} (h:zeD c act=(0,p)):chkE a1 c act=nilE:=by
 unfold chkE lgB
 rw [h]
 rfl
theorem zlg {c:ChD} {act:List Int} {j:Nat} {x:Int} (hx:act[j]? =some x):lgAt c act j=((j==0||decide (act.getD (j-1) 0<x))&&fitI c act x):=by unfold lgAt; rw [hx]
theorem zmi {c:ChD} {act:List Int} {k:Nat} {s:StD} (hs:c.states[k]? =some s):fitI c act (k:Int)=fitB c act k s:=by
 unfold fitI
 rw [zbL,hs]
 rfl
theorem ziP {c:ChD} {act:List Int} {x:Int} (hz:inZ c x=false):fitI c act x=false:=by
 unfold fitI at_
 unfold inZ at hz
 by_cases h0:0<=x
 ·rw [if_pos h0]
  rw [decide_eq_true h0,Bool.true_and,decide_eq_false_iff_not] at hz
  rw [List.getElem?_eq_none (by omega)]
 ·rw [if_neg h0]
end
section
theorem zoI {act:List Int} {j:Nat} (h0:0<j) (hj:j<act.length):act[j-1]? =some (act.getD (j-1) 0):=by
 rw [List.getD_eq_getElem?_getD,List.getElem?_eq_getElem (show j-1<act.length by omega)]
 rfl
theorem litEs_int (l:List Int):zaW (l.map intC)=l.map intAV:=by
 unfold zaW
 rw [List.map_map]
 rfl
end
section
theorem zp9 {act:List Int} {j:Nat} {x v:Int} (hx:act[j]? =some x) (hn:(act.take j).contains v=false) (he:x≠v):(act.take (j+1)).contains v=false:=by
 rw [List.take_add_one,hx]
 simp at hn |-
 exact⟨hn,fun q=>he q.symm⟩
theorem zey (env:Env) (act:List Int) (v:Int) (hl:act.length<=1000000):Con Tryz.prog env 27 [.seq 1 (act.map intAV),I v] (B (act.contains v)):=by
 refine zaa Tryz.func27 rfl Tryz.call27 (by rw [Tryz.ntmps27]; simp) ?_
 rw [Tryz.ntmps27,Tryz.results27]
 repeat refine st0 ?_
 refine zac (D:=Nat) (fun j _=>[(0, .seq 1 (act.map intAV)),(1,I v),(5,I j)]) (fun _ _=>[]) (fun j _ _=>j<=act.length/\(act.take j).contains v=false) (fun j=>act.length-j) 0 ?_ ?_ ?_ ?_
 ·exact⟨Nat.zero_le _,rfl⟩
 ·(simp only [go_sem])
 ·(simp only [go_sem])
 rintro j ws esc ⟨hj,hno⟩
 by_cases hlt:j<act.length
 ·obtain⟨x,hx⟩: ∃x,act[j]? =some x:=⟨act[j],List.getElem?_eq_getElem hlt⟩
  have q1:=nlt hlt
  have q2:=zab hlt (by omega)
  by_cases e:x=v
  ·have hr:act.contains v=true:=by rw [List.contains_iff_mem, <-e]; exact List.mem_of_getElem? hx
   rw [hr]
   have q3:(x==v)=true:=by simpa using e
   have F:=ai hx<|ai q1<|q3
   repeat refine st ?_
   exact aR
  ·have q3:(x==v)=false:=by simpa using e
   have F:=ai hx<|ai q1<|ai q2<|q3
   repeat refine st ?_
   refine⟨j+1,⟨hlt,zp9 hx hno e⟩, ?_, ?_,by omega⟩
   ·(simp only [go_sem,F])
   ·(simp only [go_sem,F])
 ·obtain rfl:j=act.length:=by omega
  have q1: ¬(act.length:Int)< (act.length:Int):=by omega
  rw [List.take_length] at hno
  rw [hno]
  have F:=q1
  repeat refine st ?_
  exact aR
theorem zgn (env:Env) (act:List Int) (ks:List Nat) (hl:act.length<=1000000) (hk:ks.length<=4000):Con Tryz.prog env 153 [.seq 1 (act.map intAV), .seq 1 (ks.map zaf)] (I (manyI act ks:Nat)):=by
 have z0:manyI act []=0:=rfl
 refine zaa Tryz.func153 rfl Tryz.call153 (by rw [Tryz.ntmps153]; simp) ?_
 rw [Tryz.ntmps153,Tryz.results153]
 repeat refine st0 ?_
 refine zac (D:=Nat) (fun j _=>[(0, .seq 1 (act.map intAV)),(1, .seq 1 (ks.map zaf)),(5,I (manyI act (ks.take j):Nat)),(6,I j)]) (fun _ _=>[]) (fun j _ _=>j<=ks.length) (fun j=>ks.length-j) 0 ?_ ?_ ?_ ?_
 ·exact Nat.zero_le _
 ·have F:=z0
  (simp only [go_sem,F])
 ·(simp only [go_sem,z0])
 rintro j ws esc hj
 by_cases hlt:j<ks.length
 ·obtain⟨k,hk2⟩: ∃k,ks[j]? =some k:=⟨ks[j],List.getElem?_eq_getElem hlt⟩
  have q1:=nlt hlt
  have q2:=zab hlt (by omega)
  have f0:=zey env act k hl
  have hm:=zld (act:=act) hk2
  have hle:=zlf act (ks.take j)
  rw [List.length_take] at hle
  have q4:=zab (show manyI act (ks.take j)<ks.length by omega) (by omega)
  cases hb:act.contains (k:Int) with
  | true=>
    rw [hb] at f0 hm
    rw [if_pos rfl] at hm
    have F:=ai zaf.eq_1<|ai hk2<|ai q1<|ai q2<|q4
    repeat (first | refine st ?_ | refine cC f0 ?_)
    refine⟨j+1,hlt, ?_, ?_,by omega⟩
    ·have F:=hm
     (simp only [go_sem,F])
    ·(simp only [go_sem,hm])
  | false=>
    rw [hb] at f0 hm
    rw [if_neg Bool.false_ne_true,Nat.add_zero] at hm
    have F:=ai zaf.eq_1<|ai hk2<|ai q1<|q2
    repeat (first | refine st ?_ | refine cC f0 ?_)
    refine⟨j+1,hlt, ?_, ?_,by omega⟩
    ·have F:=hm
     (simp only [go_sem,F])
    ·(simp only [go_sem,hm])
 ·obtain rfl:j=ks.length:=by omega
  have q1: ¬(ks.length:Int)< (ks.length:Int):=by omega
  have hta:ks.take ks.length=ks:=List.take_length
  have F:=ai q1<|hta
  repeat refine st ?_
  exact aR
theorem zk4 (env:Env) (c:ChD) (h:Full c) (act:List Int) (hl:act.length<=1000000) (k:Nat) (s:StD) (hs:c.states[k]? =some s):Con Tryz.prog env 152 [.agg (chAV c), .seq 1 (act.map intAV),I k] (B (fitB c act k s)):=by
 have hlen:=h.few
 have hi:=(List.getElem?_eq_some_iff.1 hs).1
 have q0:((k:Nat):Int)< (c.states.length:Int):=by omega
 have f0:=zbH env c k true (by omega)
 have hK:=za8 h.toRight k true
 have f1:=zgn env act (kidsL c k true) hl (by omega)
 have f2:=zbc env s
 have f3:=zey env act s.parent hl
 have hF:fitB c act k s=(!zay s&&(decide (s.parent<0)||act.contains s.parent)&&(if s.kind=1/\kidsL c k true≠[] then manyI act (kidsL c k true)==1 else if s.kind=2 then manyI act (kidsL c k true)==(kidsL c k true).length else true)):=rfl
 rw [hF]
 try clear hF
 generalize kidsL c k true=K at*
 cases hm:zay s with
 | true=>
   rw [hm] at f2
   refine zaa Tryz.func152 rfl Tryz.call152 (by rw [Tryz.ntmps152]; simp) ?_
   rw [Tryz.ntmps152,Tryz.results152]
   have F:=ai chAV.eq_1<|ai stAV.eq_1<|ai hs<|q0
   repeat (first | refine st ?_ | refine cC f2 ?_)
   exact aR
 | false=>
   rw [hm] at f2
   by_cases hp:s.parent<0
   ·have g0: ¬0<=s.parent:=by omega
    rw [decide_eq_true hp]
    by_cases e1:s.kind=1/\K≠[]
    ·have b1:(s.kind==1)=true:=by simpa using e1.1
     have q1:(0:Int)< (K.length:Int):=by have:=List.length_pos_iff.2 e1.2; omega
     have q2:(((manyI act K:Nat):Int)==1)=(manyI act K==1):=by rw [Bool.eq_iff_iff,beq_iff_eq,beq_iff_eq]; omega
     rw [if_pos e1]
     refine zaa Tryz.func152 rfl Tryz.call152 (by rw [Tryz.ntmps152]; simp) ?_
     rw [Tryz.ntmps152,Tryz.results152]
     have F:=ai chAV.eq_1<|ai stAV.eq_1<|ai hs<|ai q0<|ai g0<|ai b1<|ai q1<|q2
     repeat (first | refine st ?_ | refine cC f0 ?_ | refine cC f1 ?_ | refine cC f2 ?_)
     exact aR
    ·rw [if_neg e1]
     have q2:(((manyI act K:Nat):Int)==(K.length:Int))=(manyI act K==K.length):=by rw [Bool.eq_iff_iff,beq_iff_eq,beq_iff_eq]; omega
     by_cases e2:s.kind=2
     ·have b1:(s.kind==1)=false:=by simp [e2]
      have b2:(s.kind != 2)=false:=by simp [e2]
      rw [if_pos e2]
      refine zaa Tryz.func152 rfl Tryz.call152 (by rw [Tryz.ntmps152]; simp) ?_
      rw [Tryz.ntmps152,Tryz.results152]
      have F:=ai chAV.eq_1<|ai stAV.eq_1<|ai hs<|ai q0<|ai g0<|ai b1<|ai b2<|q2
      repeat (first | refine st ?_ | refine cC f0 ?_ | refine cC f1 ?_ | refine cC f2 ?_)
      exact aR
     ·have b2:(s.kind != 2)=true:=by simpa using e2
      rw [if_neg e2]
      by_cases e3:s.kind=1
      ·have b1:(s.kind==1)=true:=by simpa using e3
       have q1: ¬(0:Int)< (K.length:Int):=by
        have:K=[]:=Classical.byContradiction fun q=>e1 ⟨e3,q⟩
        rw [this]; simp
       refine zaa Tryz.func152 rfl Tryz.call152 (by rw [Tryz.ntmps152]; simp) ?_
       rw [Tryz.ntmps152,Tryz.results152]
       have F:=ai chAV.eq_1<|ai stAV.eq_1<|ai hs<|ai q0<|ai g0<|ai b1<|ai b2<|q1
       repeat (first | refine st ?_ | refine cC f0 ?_ | refine cC f1 ?_ | refine cC f2 ?_)
       exact aR
      ·have b1:(s.kind==1)=false:=by simpa using e3
       refine zaa Tryz.func152 rfl Tryz.call152 (by rw [Tryz.ntmps152]; simp) ?_
       rw [Tryz.ntmps152,Tryz.results152]
       have F:=ai chAV.eq_1<|ai stAV.eq_1<|ai hs<|ai q0<|ai g0<|ai b1<|b2
       repeat (first | refine st ?_ | refine cC f0 ?_ | refine cC f1 ?_ | refine cC f2 ?_)
       exact aR
   ·have g0:0<=s.parent:=by omega
    rw [decide_eq_false hp]
    cases hin:act.contains s.parent with
    | false=>
      rw [hin] at f3
      refine zaa Tryz.func152 rfl Tryz.call152 (by rw [Tryz.ntmps152]; simp) ?_
      rw [Tryz.ntmps152,Tryz.results152]
      have F:=ai chAV.eq_1<|ai stAV.eq_1<|ai hs<|ai q0<|g0
      repeat (first | refine st ?_ | refine cC f0 ?_ | refine cC f1 ?_ | refine cC f2 ?_ | refine cC f3 ?_)
      exact aR
    | true=>
      rw [hin] at f3
      by_cases e1:s.kind=1/\K≠[]
      ·have b1:(s.kind==1)=true:=by simpa using e1.1
       have q1:(0:Int)< (K.length:Int):=by have:=List.length_pos_iff.2 e1.2; omega
       have q2:(((manyI act K:Nat):Int)==1)=(manyI act K==1):=by rw [Bool.eq_iff_iff,beq_iff_eq,beq_iff_eq]; omega
       rw [if_pos e1]
       refine zaa Tryz.func152 rfl Tryz.call152 (by rw [Tryz.ntmps152]; simp) ?_
       rw [Tryz.ntmps152,Tryz.results152]
       have F:=ai chAV.eq_1<|ai stAV.eq_1<|ai hs<|ai q0<|ai g0<|ai b1<|ai q1<|q2
       repeat (first | refine st ?_ | refine cC f0 ?_ | refine cC f1 ?_ | refine cC f2 ?_ | refine cC f3 ?_)
       exact aR
      ·rw [if_neg e1]
       have q2:(((manyI act K:Nat):Int)==(K.length:Int))=(manyI act K==K.length):=by rw [Bool.eq_iff_iff,beq_iff_eq,beq_iff_eq]; omega
       by_cases e2:s.kind=2
       ·have b1:(s.kind==1)=false:=by simp [e2]
        have b2:(s.kind != 2)=false:=by simp [e2]
        rw [if_pos e2]
        refine zaa Tryz.func152 rfl Tryz.call152 (by rw [Tryz.ntmps152]; simp) ?_
        rw [Tryz.ntmps152,Tryz.results152]
        have F:=ai chAV.eq_1<|ai stAV.eq_1<|ai hs<|ai q0<|ai g0<|ai b1<|ai b2<|q2
        repeat (first | refine st ?_ | refine cC f0 ?_ | refine cC f1 ?_ | refine cC f2 ?_ | refine cC f3 ?_)
        exact aR
       ·have b2:(s.kind != 2)=true:=by simpa using e2
        rw [if_neg e2]
        by_cases e3:s.kind=1
        ·have b1:(s.kind==1)=true:=by simpa using e3
         have q1: ¬(0:Int)< (K.length:Int):=by
          have:K=[]:=Classical.byContradiction fun q=>e1 ⟨e3,q⟩
          rw [this]; simp
         refine zaa Tryz.func152 rfl Tryz.call152 (by rw [Tryz.ntmps152]; simp) ?_
         rw [Tryz.ntmps152,Tryz.results152]
         have F:=ai chAV.eq_1<|ai stAV.eq_1<|ai hs<|ai q0<|ai g0<|ai b1<|ai b2<|q1
         repeat (first | refine st ?_ | refine cC f0 ?_ | refine cC f1 ?_ | refine cC f2 ?_ | refine cC f3 ?_)
         exact aR
        ·have b1:(s.kind==1)=false:=by simpa using e3
         refine zaa Tryz.func152 rfl Tryz.call152 (by rw [Tryz.ntmps152]; simp) ?_
         rw [Tryz.ntmps152,Tryz.results152]
         have F:=ai chAV.eq_1<|ai stAV.eq_1<|ai hs<|ai q0<|ai g0<|ai b1<|b2
         repeat (first | refine st ?_ | refine cC f0 ?_ | refine cC f1 ?_ | refine cC f2 ?_ | refine cC f3 ?_)
         exact aR
end
section
def chainV (ps:List Int) (e:AV):AV:=ps.foldr (fun p x=>errV p x) e
theorem zmx {S:Nat->Nat->Prop} {w:World} {a:Addr} (ha:Lies w a): ∀(ps:List Int) (v:Value),RV S w v (chainV ps (sentV a))->zb7 w a ps.length v
 | [],v,h=>⟨h.lit_inv,ha⟩
 | p::ps,v,h=>by
   have h:RV S w v (.iface 159 (.ref 3 [[.any,I p,chainV ps (sentV a)]] 0 0)):=h
   cases h with
   | iface t v c h=>
     cases h with
     | ref sz es i off b o u hz hc hr=>
       have h2:=hc 0 2 (chainV ps (sentV a)) rfl
       have h3:=hr 0 2 (chainV ps (sentV a)) rfl
       refine⟨b,o+(0*3+0),u 0 2,rfl, ?_,zmx ha ps _ h3⟩
       have:=h2.2.1
       simpa using this
theorem znM (ad:Nat->Addr) (mo:More) (k:Nat) (hk:1<=k/\k<=9) (ps:List Int):Con Tryz.prog (zbf ad mo) 42 [chainV ps (sentV (ad k))] (I k):=
 zlu Tryz.call42 fun w S vs hE hl hv=>by
  match vs,hl with
  | [v],_=>
    have hS:Sents w ad:=hE.inv.1
    refine(zrH hS k hk ps.length v (zmx (zm1 hS k hk) ps v (hv 0 v _ rfl rfl))).mono ?_
    rintro e w' ⟨rfl,rfl⟩
    exact⟨rfl,Below.refl _ _⟩
theorem zrv (env:Env) (s:List UInt8) (p:Int) (a:Addr):Con Tryz.prog env 227 [Sg s,I p,sentV a] (errV (max p (-1)) (sentV a)):=by
 refine Con.args (cs:=[Sg s,I p, .iface 379 (.lit (.pointer (some a)))]) ?_ (.cons (.refl _) (.cons (.refl _) (.cons (.ifl _ _) .nil)))
 by_cases h1:p< -1
 ·rw [show max p (-1)= -1 by omega]
  refine zap Tryz.func227 rfl Tryz.call227 (by rw [Tryz.ntmps227]; simp) ?_
  rw [Tryz.ntmps227,Tryz.results227]
  have F:=h1
  repeat refine st ?_
  (refine zae ?_; refine⟨_,(by show (zar _ _ _).run _=some _; simp only [go_sem,F]; rfl), ?_⟩)
  exact zgX _ _ _ rfl _ _ (.lfi _ _)
 ·rw [show max p (-1)=p by omega]
  refine zap Tryz.func227 rfl Tryz.call227 (by rw [Tryz.ntmps227]; simp) ?_
  rw [Tryz.ntmps227,Tryz.results227]
  have F:=h1
  repeat refine st ?_
  (refine zae ?_; refine⟨_,(by show (zar _ _ _).run _=some _; simp only [go_sem,F]; rfl), ?_⟩)
  exact zgX _ _ _ rfl _ _ (.lfi _ _)
theorem znY (env:Env) (a1 a8:Addr) (he:ChEnv env a1 a8) (p:Int):Con Tryz.prog env 173 [I p] (errV (max p (-1)) (sentV a1)):=by
 have g1:=ziL he.e1
 have f0:=zrv env [108,101,103,97,108,46,67,104,101,99,107] p a1
 refine zaa Tryz.func173 rfl Tryz.call173 (by rw [Tryz.ntmps173]; simp) ?_
 rw [Tryz.ntmps173,Tryz.results173]
 have F:=g1
 repeat (first | refine st ?_ | refine cC f0 ?_)
 exact aR
theorem zhG {c:ChD} {act:List Int} {j:Nat} {x:Int} (hx:act[j]? =some x) (hall: ∀m,m<j->lgAt c act m=true) (hb:lgAt c act j=false):zeD c act=(1,max x (-1)):=by
 have hj:=(List.getElem?_eq_some_iff.1 hx).1
 unfold zeD
 rw [zbu hj hall hb]
 simp only [List.getD_eq_getElem?_getD,hx,Option.getD_some]
theorem zcL (env:Env) (a1 a8:Addr) (he:ChEnv env a1 a8) (c:ChD) (h:Full c) (hsm:Small c) (act:List Int) (hl:act.length<=1000000):Con Tryz.prog env 88 [zaj c, .seq 1 (act.map intAV)] (chkE a1 c act):=by
 have hlen:=h.few
 have f0:=zaA env c hsm
 have f1:=zgM env c (by omega) act hl
 have f2:=fun(k:Nat) (s:StD) (hs:c.states[k]? =some s)=>zrr env c h act k s hs
 have f3:=zaX env c h (-1)
 rw [if_pos (.inl rfl)] at f3
 have hK:=za8 h.toRight (-1) true
 have hKm: ∀j∈kidsL c (-1) true,j<c.states.length:=fun j hj=>by have:=za9 h.toRight (zaV hj).1; omega
 have f4:=ziE env c.states.length act (kidsL c (-1) true) (by omega) (by omega) hKm
 have fb:=zqk env a1 a8 he (-1) (by omega)
 have hfl:=zda c.states.length act
 unfold zaj at f0 f1 f2 f3 |-
 refine zaa Tryz.func88 rfl Tryz.call88 (by rw [Tryz.ntmps88]; simp) ?_
 rw [Tryz.ntmps88,Tryz.results88]
 have F:=chAV.eq_1
 repeat (first | refine st ?_ | refine cC f0 ?_ | refine cC f1 ?_)
 refine zac (D:=Nat) (fun j vs=>[(0, .ref 9 [tabCells c] 0 0),(1, .seq 1 (act.map intAV)),(5, .loc 5 (vs 5) 0 0),(6, .row 17 (vs 17)),(18, .seq 1 (act.map intAV)),(19,I act.length),(20,I j)]) (fun _ _=>[(5,⟨5,[chAV c],26,false⟩),(17,⟨1,flagA c.states.length act,4,true⟩)]) (fun j _ _=>j<=act.length/\ ∀m,m<j->lgAt c act m=true) (fun j=>act.length-j) 0 ?_ ?_ ?_ ?_
 ·exact⟨Nat.zero_le _,fun m hm=>absurd hm (by omega)⟩
 ·(simp only [go_sem,F])
 ·have F:=chAV.eq_1
  (simp only [go_sem,F])
  try rfl
 rintro j ws esc ⟨hj,hall⟩
 by_cases hlt:j<act.length
 ·obtain⟨x,hx⟩: ∃x,act[j]? =some x:=⟨act[j],List.getElem?_eq_getElem hlt⟩
  have q1:=nlt hlt
  have q2:=zab hlt (by omega)
  have hat:=zlg (c:=c) hx
  have fx:=znY env a1 a8 he x
  have bad:lgAt c act j=false->chkE a1 c act=errV (max x (-1)) (sentV a1):=fun hb=>zmv (zhG hx hall hb)
  by_cases h0:x<0
  ·rw [bad (by rw [hat,ziP (by unfold inZ; rw [decide_eq_false (by omega)]; rfl),Bool.and_false])]
   have F:=ai hx<|ai q1<|h0
   repeat (first | refine st ?_ | refine cC fx ?_)
   exact aR
  obtain⟨k,rfl⟩:=zd8 (show 0<=x by omega)
  by_cases h1:(c.states.length:Int)<=k
  ·rw [bad (by rw [hat,ziP (by unfold inZ; rw [decide_eq_false (p:=(k:Int)<_) (by omega),Bool.and_false]),Bool.and_false])]
   have F:=ai hx<|ai q1<|ai h0<|ai h1<|hfl
   repeat (first | refine st ?_ | refine cC fx ?_)
   exact aR
  obtain⟨s,hs⟩: ∃s,c.states[k]? =some s:=⟨c.states[k]'(by omega),List.getElem?_eq_getElem _⟩
  have f2:=f2 k s hs
  rw [zmi hs] at hat
  by_cases hj0:0<j
  ·have q3:(0:Int)< (j:Int):=by omega
   have q4:IntKind.i64.wrap ((j:Int)-1)=((j-1:Nat):Int):=by rw [zbn (by omega) (by omega)]; omega
   have hy:=zoI hj0 hlt
   have q5:((j-1:Nat):Int)< (act.length:Int):=by omega
   have b0:(j==0)=false:=by simp; omega
   generalize act.getD (j-1) 0=y at*
   by_cases h2:(k:Int)<=y
   ·rw [bad (by rw [hat,b0,decide_eq_false (by omega)]; rfl)]
    have F:=ai hx<|ai q1<|ai h0<|ai h1<|ai hfl<|ai q3<|ai q4<|ai q5<|ai hy<|h2
    repeat (first | refine st ?_ | refine cC fx ?_)
    exact aR
   cases hb:fitB c act k s with
   | false=>
     rw [hb] at f2 hat
     rw [bad (by rw [hat,Bool.and_false])]
     have F:=ai chAV.eq_1<|ai hx<|ai q1<|ai h0<|ai h1<|ai hfl<|ai q3<|ai q4<|ai q5<|ai hy<|h2
     repeat (first | refine st ?_ | refine cC f2 ?_ | refine cC fx ?_)
     exact aR
   | true=>
     rw [hb,b0,decide_eq_true (show y< (k:Int) by omega)] at hat
     rw [hb] at f2
     have F:=ai chAV.eq_1<|ai hx<|ai q1<|ai q2<|ai h0<|ai h1<|ai hfl<|ai q3<|ai q4<|ai q5<|ai hy<|h2
     repeat (first | refine st ?_ | refine cC f2 ?_)
     refine⟨j+1,⟨hlt,fun m hm=>by rcases Nat.lt_succ_iff_lt_or_eq.1 hm with e | e; exact hall m e; rw [e]; exact hat⟩, ?_, ?_,by omega⟩
     ·(simp only [go_sem,F])
     ·have F:=chAV.eq_1
      (simp only [go_sem,F])
  ·have q3: ¬(0:Int)< (j:Int):=by omega
   have b0:(j==0)=true:=by simp; omega
   cases hb:fitB c act k s with
   | false=>
     rw [hb,b0] at hat
     rw [hb] at f2
     rw [bad (by rw [hat,Bool.and_false])]
     have F:=ai chAV.eq_1<|ai hx<|ai q1<|ai h0<|ai h1<|ai hfl<|q3
     repeat (first | refine st ?_ | refine cC f2 ?_ | refine cC fx ?_)
     exact aR
   | true=>
     rw [hb,b0] at hat
     rw [hb] at f2
     have F:=ai chAV.eq_1<|ai hx<|ai q1<|ai q2<|ai h0<|ai h1<|ai hfl<|q3
     repeat (first | refine st ?_ | refine cC f2 ?_)
     refine⟨j+1,⟨hlt,fun m hm=>by rcases Nat.lt_succ_iff_lt_or_eq.1 hm with e | e; exact hall m e; rw [e]; exact hat⟩, ?_, ?_,by omega⟩
     ·(simp only [go_sem,F])
     ·have F:=chAV.eq_1
      (simp only [go_sem,F])
 ·obtain rfl:j=act.length:=by omega
  have q1: ¬(act.length:Int)< (act.length:Int):=by omega
  have hc1:zeD c act=if manyI act (kidsL c (-1) true)=1 then(0, -1) else(1, -1):=by
   unfold zeD
   rw [zaD hall]
  by_cases hm:manyI act (kidsL c (-1) true)=1
  ·rw [if_pos hm] at hc1
   rw [zsM hc1]
   have hmi:((manyI act (kidsL c (-1) true):Nat):Int)=1:=by omega
   have F:=ai q1<|hmi
   repeat (first | refine st ?_ | refine cC f3 ?_ | refine cC f4 ?_)
   exact aR
  ·rw [if_neg hm] at hc1
   rw [zmv hc1]
   have hmi:(((manyI act (kidsL c (-1) true):Nat):Int) != 1)=true:=by simp; omega
   have F:=ai q1<|hmi
   repeat (first | refine st ?_ | refine cC f3 ?_ | refine cC f4 ?_ | refine cC fb ?_)
   exact aR
theorem ziu (env:Env) (c:ChD) (h:Full c) (act:List Int) (hl:act.length<=1000000):Con Tryz.prog env 75 [.agg (chAV c), .seq 1 (act.map intAV)] (.tuple [I (zeD c act).1,I (zeD c act).2]):=by
 have hlen:=h.few
 have f3:=zbH env c (-1) true (by omega)
 have hK:=za8 h.toRight (-1) true
 have f4:=zgn env act (kidsL c (-1) true) hl (by omega)
 refine zaa Tryz.func75 rfl Tryz.call75 (by rw [Tryz.ntmps75]; simp) ?_
 rw [Tryz.ntmps75,Tryz.results75]
 have F:=chAV.eq_1
 repeat refine st ?_
 refine zac (D:=Nat) (fun j vs=>[(1, .seq 1 (act.map intAV)),(2, .loc 2 (vs 2) 0 0),(6,I j)]) (fun _ _=>[(2,⟨5,[chAV c],26,false⟩)]) (fun j _ _=>j<=act.length/\ ∀m,m<j->lgAt c act m=true) (fun j=>act.length-j) 0 ?_ ?_ ?_ ?_
 ·exact⟨Nat.zero_le _,fun m hm=>absurd hm (by omega)⟩
 ·(simp only [go_sem,F])
 ·have F:=chAV.eq_1
  (simp only [go_sem,F])
  try rfl
 rintro j ws esc ⟨hj,hall⟩
 by_cases hlt:j<act.length
 ·obtain⟨x,hx⟩: ∃x,act[j]? =some x:=⟨act[j],List.getElem?_eq_getElem hlt⟩
  have q1:=nlt hlt
  have q2:=zab hlt (by omega)
  have q6:max x (-1)=if x< -1 then -1 else x:=by split<;>omega
  have hat:=zlg (c:=c) hx
  have f0:=zk2 env c x
  have bad:lgAt c act j=false->zeD c act=(1,max x (-1)):=fun hb=>zhG hx hall hb
  cases hz:inZ c x with
  | false=>
    rw [hz] at f0
    rw [bad (by rw [hat,ziP hz,Bool.and_false])]
    have F:=ai chAV.eq_1<|ai hx<|ai q1<|q6
    repeat (first | refine st ?_ | refine cC f0 ?_)
    exact aR
  | true=>
    rw [hz] at f0
    obtain⟨k,s,rfl,hs,ha⟩:=zcD hz
    have f2:=zk4 env c h act hl k s hs
    rw [zmi hs] at hat
    by_cases hj0:0<j
    ·have q3:(0:Int)< (j:Int):=by omega
     have q4:IntKind.i64.wrap ((j:Int)-1)=((j-1:Nat):Int):=by rw [zbn (by omega) (by omega)]; omega
     have hy:=zoI hj0 hlt
     have q5:((j-1:Nat):Int)< (act.length:Int):=by omega
     have b0:(j==0)=false:=by simp; omega
     generalize act.getD (j-1) 0=y at*
     by_cases h2:(k:Int)<=y
     ·rw [bad (by rw [hat,b0,decide_eq_false (by omega)]; rfl)]
      have F:=ai chAV.eq_1<|ai hx<|ai q1<|ai q3<|ai q4<|ai q5<|ai q6<|ai hy<|h2
      repeat (first | refine st ?_ | refine cC f0 ?_)
      exact aR
     cases hb:fitB c act k s with
     | false=>
       rw [hb] at f2 hat
       rw [bad (by rw [hat,Bool.and_false])]
       have F:=ai chAV.eq_1<|ai hx<|ai q1<|ai q3<|ai q4<|ai q5<|ai q6<|ai hy<|h2
       repeat (first | refine st ?_ | refine cC f0 ?_ | refine cC f2 ?_)
       exact aR
     | true=>
       rw [hb,b0,decide_eq_true (show y< (k:Int) by omega)] at hat
       rw [hb] at f2
       have F:=ai chAV.eq_1<|ai hx<|ai q1<|ai q2<|ai q3<|ai q4<|ai q5<|ai hy<|h2
       repeat (first | refine st ?_ | refine cC f0 ?_ | refine cC f2 ?_)
       refine⟨j+1,⟨hlt,fun m hm=>by rcases Nat.lt_succ_iff_lt_or_eq.1 hm with e | e; exact hall m e; rw [e]; exact hat⟩, ?_, ?_,by omega⟩
       ·(simp only [go_sem,F])
       ·have F:=chAV.eq_1
        (simp only [go_sem,F])
    ·have q3: ¬(0:Int)< (j:Int):=by omega
     have b0:(j==0)=true:=by simp; omega
     cases hb:fitB c act k s with
     | false=>
       rw [hb,b0] at hat
       rw [hb] at f2
       rw [bad (by rw [hat,Bool.and_false])]
       have F:=ai chAV.eq_1<|ai hx<|ai q1<|ai q3<|q6
       repeat (first | refine st ?_ | refine cC f0 ?_ | refine cC f2 ?_)
       exact aR
     | true=>
       rw [hb,b0] at hat
       rw [hb] at f2
       have F:=ai chAV.eq_1<|ai hx<|ai q1<|ai q2<|q3
       repeat (first | refine st ?_ | refine cC f0 ?_ | refine cC f2 ?_)
       refine⟨j+1,⟨hlt,fun m hm=>by rcases Nat.lt_succ_iff_lt_or_eq.1 hm with e | e; exact hall m e; rw [e]; exact hat⟩, ?_, ?_,by omega⟩
       ·(simp only [go_sem,F])
       ·have F:=chAV.eq_1
        (simp only [go_sem,F])
 ·obtain rfl:j=act.length:=by omega
  have q1: ¬(act.length:Int)< (act.length:Int):=by omega
  have hc1:zeD c act=if manyI act (kidsL c (-1) true)=1 then(0, -1) else(1, -1):=by
   unfold zeD
   rw [zaD hall]
  rw [hc1]
  by_cases hm:manyI act (kidsL c (-1) true)=1
  ·rw [if_pos hm]
   have hmi:((manyI act (kidsL c (-1) true):Nat):Int)=1:=by omega
   have F:=ai chAV.eq_1<|ai q1<|hmi
   repeat (first | refine st ?_ | refine cC f3 ?_ | refine cC f4 ?_)
   exact aR
  ·rw [if_neg hm]
   have hmi:(((manyI act (kidsL c (-1) true):Nat):Int) != 1)=true:=by simp; omega
   have F:=ai chAV.eq_1<|ai q1<|hmi
   repeat (first | refine st ?_ | refine cC f3 ?_ | refine cC f4 ?_)
   exact aR
end
section
theorem Turned.frozen {s:St} (r t:Nat) (row:Row) (hp:row.pure=true) (hrz:row.sz≠0) (hr:s.rows r=some row) (ht:s.f t= .row r (s.vs r)):Turned s ((s.show r).put (some t) (.seq row.sz row.es)):=fun x a w m hS=>by
 obtain⟨S',q1,q2,q3⟩:=hS.show r row hr hrz hp
 have hv:=hS.slot t
 rw [ht] at hv
 have hv1:a.tmps.getD t undef=m.ρ r:=hv.row_.2 rfl row hr
 exact⟨_,q1.tell t (.seq row.sz row.es) (by rw [hv1]; exact .val q3)⟩
theorem Turned.nil {s:St} (t sz:Nat) (ht:s.f t= .lit (.slice none 0 0)):Turned s (s.put (some t) (.seq sz [])):=fun x a w m hS=>by
 have hv:=hS.slot t
 rw [ht] at hv
 have hv1:=hv.lit_
 exact⟨_,hS.tell t (.seq sz []) (by rw [hv1]; exact .val (Str.nil sz _ _ _ (.lit _)))⟩
section
variable {P:Program} {env:Env} {nt:Nat} {s:St}
theorem zsS {c rest:Code} {Q':Exit->St->Prop} {D:Type} (F:D->(Nat->Nat)->List (Nat×AV)) (R:D->(Nat->Nat)->List (Nat×Row)) (inv:D->(Nat->Nat)->(Nat->Bool)->Prop)
 (h1:awp P env nt c (zam (fun s=> ∃d,inv d s.vs s.esc/\zdK s (F d s.vs)/\zdf s (R d s.vs)) Q') s) (h2: ∀d vs esc,inv d vs esc->awp P env nt rest Q' (head (F d vs) (R d vs) vs esc)):
 awp P env nt c (zam (awp P env nt rest Q') Q') s:=
 zmD h1 fun e s hq=>by
  cases e with
  | normal=>
    obtain⟨d,q1,q2,q3⟩:=hq
    exact zeQ _ _ q2 q3 (h2 d _ _ q1)
  | _=>exact hq
end
def zsw (Q:Exit->St->Prop):Exit->St->Prop
 | .goto _,_=>False
 | e,s=>Q e s
theorem zbx {P:Program} {b:Frame} {a:Act} {k:List Item} {cs:List Frame} {w:World} {c:Code} :step P (lone (b.atR a (.code (.scope c)::k)) cs w)= .next (lone (b.atR a (.code c:: .inScope c::k)) cs w):=
 step_lone_go (by simp [stepG,stepG.exec,Frame.atR])
theorem zg7 {P:Program} {b:Frame} {a:Act} {k:List Item} {cs:List Frame} {w:World} {c:Code} :step P (lone (b.atR a (.inScope c::k)) cs w)= .next (lone (b.atR a k) cs w):=
 step_lone_go (by simp [stepG,stepG.exec,Frame.atR])
theorem zkC {F:Fence} {n:Nat} {P:Program} {Q:Exit->Act->World->Prop} {a:Act} {w:World} {c:Code} (h:c.wpIn F n P (Exit.noGoto Q) a w):(Code.scope c).wpIn F n P Q a w:=by
 intro b k cs hro hb hr
 have h0:(lone (b.atR a (.code (.scope c)::k)) cs w).fenced P F:=fenced_calm hb hr rfl
 obtain⟨e,a₁,w₁,hq,harr⟩:=h b (.inScope c::k) cs hro hb hr
 cases e with
 | normal=>exact⟨.normal,a₁,w₁,hq, .head h0 zbx (StepsIn.trans harr (.one (fenced_calm hb hr rfl) zg7))⟩
 | exit id=>
   have hx:exitTo id (.inScope c::k)=exitTo id k:=by simp [exitTo]
   exact⟨.exit id,a₁,w₁,hq,fun k' hk=> .head h0 zbx (harr.1 k' (by rw [hx]; exact hk)),
    fun hr' hk=>let ⟨k₁,h1,h2⟩:=harr.2 hr' (by rw [hx]; exact hk); ⟨k₁,h1, .head h0 zbx h2⟩⟩
 | goto l=>exact hq.elim
 | ret=>exact⟨_,a₁,w₁,hq, .of_steps (.one h0 zbx) harr⟩
 | panic ch=>exact⟨_,a₁,w₁,hq, .of_steps (.one h0 zbx) harr⟩
 | outgrown=>exact⟨_,a₁,w₁,hq, .of_steps (.one h0 zbx) harr⟩
theorem zql {P:Program} {env:Env} {nt:Nat} {Q:Exit->St->Prop} {s:St} {c:Code} (h:awp P env nt c (zsw Q) s):awp P env nt (.scope c) Q s:=fun ro x he hn a w m hS=>
 zkC (wpIn_mono (h ro x he hn a w m hS) fun e a' w' ⟨s',m',q,hs⟩=>by
  cases e with
  | goto l=>exact q.elim
  | _=>exact⟨s',m',q,hs⟩)
end

end Go.Proofs.YtnbjaghjdeicmaaGreatDoor