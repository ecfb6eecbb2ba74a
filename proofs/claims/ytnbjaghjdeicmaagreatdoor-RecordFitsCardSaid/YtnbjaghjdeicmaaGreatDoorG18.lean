/- Above, transitions and their domains: the program's and the document's words. -/
import Derived.Test.YtnbjaghjdeicmaaGreatDoorG17
import Derived.Test.YtnbjaghjdeicmaaGreatDoorG10
import Derived.Test.YtnbjaghjdeicmaaGreatDoorG5
import Derived.Test.YtnbjaghjdeicmaaGreatDoorG13
import Derived.Test.YtnbjaghjdeicmaaGreatDoorG15
import Derived.Test.YtnbjaghjdeicmaaGreatDoorG14
set_option maxRecDepth 100000
set_option maxHeartbeats 8000000
set_option linter.unusedSimpArgs false
namespace Go.Proofs.YtnbjaghjdeicmaaGreatDoor
open Go.RowKit
section
theorem zpw (env:Env) (c:ChD) (hc:c.states.length<=4000) (act:List Int) (hl:act.length<=1000000):Con Tryz.prog env 171 [zaU c, .seq 1 (act.map intAV)] (.own 4 1 (zdv c.states.length act)):=by
 have f0:=zew env c
 have f1:=zlZ env c
 have hz:=zpx c.states.length
 have m1: ¬(16777216:Int)< (c.states.length:Int):=by omega
 have m2: ¬(281474976710656:Int)<1*(c.states.length:Int):=by omega
 have m3: ¬(c.states.length:Int)<0:=by omega
 have m4: ¬(281474976710656:Int)< (c.states.length:Int):=by omega
 unfold zaw at f0 f1
 unfold zaU at f0 |-
 refine zaa Tryz.func171 rfl Tryz.call171 (by rw [Tryz.ntmps171]; simp) ?_
 rw [Tryz.ntmps171,Tryz.results171]
 have F:=ai m1<|ai m2<|ai m3<|m4
 repeat (first | refine st ?_ | refine cC f0 ?_ | refine cC f1 ?_)
 refine zac (D:=Nat) (fun j vs=>[(5, .row 11 (vs 11)),(12, .seq 1 (act.map intAV)),(13,I act.length),(14,I j)]) (fun j _=>[(11,⟨1,zdv c.states.length (act.take j),4,true⟩)]) (fun j _ esc=>j<=act.length/\esc 11=false) (fun j=>act.length-j) 0 ?_ ?_ ?_ ?_
 ·exact⟨Nat.zero_le _,rfl⟩
 ·(simp only [go_sem,F])
 ·have F:=hz
  (simp only [go_sem,F])
 rintro j ws esc ⟨hj,e0⟩
 by_cases hlt:j<act.length
 ·obtain⟨x,hx⟩: ∃x,act[j]? =some x:=⟨act[j],List.getElem?_eq_getElem hlt⟩
  have q1:=nlt hlt
  have q2:=zab hlt (by omega)
  have ht:act.take (j+1)=act.take j++[x]:=by rw [List.take_add_one,hx]; rfl
  have hfl:=zdk c.states.length (act.take j)
  by_cases h0:0<=x
  ·obtain⟨k,rfl⟩:=zeq h0
   by_cases h1:k<c.states.length
   ·have q3:=nlt h1
    have hs:=zre (act:=act.take j) h1
    have hat:=zhg (act:=act.take j) h1
    rw [<-ht] at hs
    have F:=ai hx<|ai q1<|ai q2<|ai q3<|ai hat<|ai hs<|ai hfl<|e0
    repeat refine st ?_
    refine⟨j+1,⟨hlt,by simp only [go_sem,e0]⟩, ?_, ?_,by omega⟩
    ·(simp only [go_sem,F])
    ·(simp only [go_sem,F])
   ·have q3: ¬(k:Int)< (c.states.length:Int):=by omega
    have hs:=zmr (n:=c.states.length) (act:=act.take j) (i:=(k:Int)) (fun m hm=>by omega)
    rw [<-ht] at hs
    have F:=ai hx<|ai q1<|ai q2<|ai q3<|ai hfl<|e0
    repeat refine st ?_
    refine⟨j+1,⟨hlt,by simp only [go_sem,e0]⟩, ?_, ?_,by omega⟩
    ·(simp only [go_sem,F])
    ·have F:=hs
     (simp only [go_sem,F])
  ·have hs:=zmr (n:=c.states.length) (act:=act.take j) (i:=x) (fun m hm=>by omega)
   rw [<-ht] at hs
   have F:=ai hx<|ai q1<|ai q2<|ai h0<|ai hfl<|e0
   repeat refine st ?_
   refine⟨j+1,⟨hlt,by simp only [go_sem,e0]⟩, ?_, ?_,by omega⟩
   ·(simp only [go_sem,F])
   ·have F:=hs
    (simp only [go_sem,F])
 ·obtain rfl:j=act.length:=by omega
  have q1: ¬(act.length:Int)< (act.length:Int):=by omega
  have hta:act.take act.length=act:=List.take_length
  have F:=ai q1<|ai hta<|e0
  repeat refine st ?_
  exact aR
theorem zmh (env:Env) (n:Nat) (act:List Int) (ks:List Nat) (_hn:n<=4000) (hl:ks.length<=4000) (hk: ∀k∈ks,k<n):Con Tryz.prog env 174 [.seq 1 (zdv n act), .seq 1 (ks.map zaj)] (I (manyI act ks:Nat)):=by
 have hfl:=zdk n act
 have z0:manyI act []=0:=rfl
 refine zaa Tryz.func174 rfl Tryz.call174 (by rw [Tryz.ntmps174]; simp) ?_
 rw [Tryz.ntmps174,Tryz.results174]
 repeat refine st0 ?_
 refine zac (D:=Nat) (fun j _=>[(0, .seq 1 (zdv n act)),(5,I (manyI act (ks.take j):Nat)),(8, .seq 1 (ks.map zaj)),(9,I ks.length),(10,I j)]) (fun _ _=>[]) (fun j _ _=>j<=ks.length) (fun j=>ks.length-j) 0 ?_ ?_ ?_ ?_
 ·exact Nat.zero_le _
 ·have F:=z0
  (simp only [go_sem,F])
 ·(simp only [go_sem,z0])
 rintro j ws esc hj
 by_cases hlt:j<ks.length
 ·obtain⟨k,hk2⟩: ∃k,ks[j]? =some k:=⟨ks[j],List.getElem?_eq_getElem hlt⟩
  have hkn:=hk k (List.mem_of_getElem? hk2)
  have q1:=nlt hlt
  have q2:=zab hlt (by omega)
  have q3:=nlt hkn
  have hat:=zhg (act:=act) hkn
  have hm:=zln (act:=act) hk2
  have hle:=zlo act (ks.take j)
  rw [List.length_take] at hle
  have q4:=zab (show manyI act (ks.take j)<ks.length by omega) (by omega)
  cases hb:act.contains (k:Int) with
  | true=>
    rw [hb] at hat hm
    rw [if_pos rfl] at hm
    have F:=ai zaj.eq_1<|ai hk2<|ai q1<|ai q2<|ai q3<|ai q4<|ai hat<|hfl
    repeat refine st ?_
    refine⟨j+1,hlt, ?_, ?_,by omega⟩
    ·have F:=hm
     (simp only [go_sem,F])
    ·(simp only [go_sem,hm])
  | false=>
    rw [hb] at hat hm
    rw [if_neg Bool.false_ne_true,Nat.add_zero] at hm
    have F:=ai zaj.eq_1<|ai hk2<|ai q1<|ai q2<|ai q3<|ai hat<|hfl
    repeat refine st ?_
    refine⟨j+1,hlt, ?_, ?_,by omega⟩
    ·have F:=hm
     (simp only [go_sem,F])
    ·(simp only [go_sem,hm])
 ·obtain rfl:j=ks.length:=by omega
  have q1: ¬(ks.length:Int)< (ks.length:Int):=by omega
  have hta:ks.take ks.length=ks:=List.take_length
  have F:=ai q1<|hta
  repeat refine st ?_
  exact aR
theorem zoQ {c:ChD} (h:Right c) {k:Nat} {s:StD} (hs:c.states[k]? =some s) (act:List Int):(s.parent<0/\decide (s.parent<0)=true)\/(¬s.parent<0/\decide (s.parent<0)=false/\0<=s.parent/\s.parent< (c.states.length:Int)/\(zdv c.states.length act)[s.parent.toNat]? =some [B (act.contains s.parent)]):=by
 have hi:=(List.getElem?_eq_some_iff.1 hs).1
 have h2:=(h.par k s hs).2
 by_cases e:s.parent<0
 ·exact .inl ⟨e,decide_eq_true e⟩
 ·refine .inr ⟨e,decide_eq_false e,by omega,by omega, ?_⟩
  rw [zhg (by omega)]
  rw [show ((s.parent.toNat:Nat):Int)=s.parent by omega]
theorem zrf (env:Env) (c:ChD) (h:Full c) (act:List Int) (k:Nat) (s:StD) (hs:c.states[k]? =some s):Con Tryz.prog env 172 [.agg (chAV c),zaU c, .seq 1 (zdv c.states.length act),I k] (B (fitB c act k s)):=by
 have hlen:=h.few
 have hi:=(List.getElem?_eq_some_iff.1 hs).1
 have q0:((k:Nat):Int)< (c.states.length:Int):=by omega
 have f0:=zb0 env c h k
 rw [if_pos (.inr (zbF.2 hi))] at f0
 have hK:=zcr h.toRight k true
 have hKm: ∀j∈kidsL c k true,j<c.states.length:=fun j hj=>by have:=zbm h.toRight (za5 hj).1; omega
 have f1:=zmh env c.states.length act (kidsL c k true) (by omega) (by omega) hKm
 have hfl:=zdk c.states.length act
 have hp:=zoQ h.toRight hs act
 have hF:fitB c act k s=(!zbh s&&(decide (s.parent<0)||act.contains s.parent)&&(if s.kind=1/\kidsL c k true≠[] then manyI act (kidsL c k true)==1 else if s.kind=2 then manyI act (kidsL c k true)==(kidsL c k true).length else true)):=rfl
 rw [hF]
 try clear hF
 generalize kidsL c k true=K at*
 unfold zaU at f0 |-
 by_cases e4:s.kind=4
 ·have b4:(s.kind==4)=true:=by simpa using e4
  have hm:zbh s=true:=by unfold zbh; rw [b4]; rfl
  rw [hm]
  refine zaa Tryz.func172 rfl Tryz.call172 (by rw [Tryz.ntmps172]; simp) ?_
  rw [Tryz.ntmps172,Tryz.results172]
  have F:=ai chAV.eq_1<|ai stAV.eq_1<|ai hs<|ai q0<|b4
  repeat (first | refine st ?_ | refine cC f0 ?_)
  exact aR
 have b4:(s.kind==4)=false:=by simpa using e4
 by_cases e5:s.kind=5
 ·have b5:(s.kind==5)=true:=by simpa using e5
  have hm:zbh s=true:=by unfold zbh; rw [b5,Bool.or_true]
  rw [hm]
  refine zaa Tryz.func172 rfl Tryz.call172 (by rw [Tryz.ntmps172]; simp) ?_
  rw [Tryz.ntmps172,Tryz.results172]
  have F:=ai chAV.eq_1<|ai stAV.eq_1<|ai hs<|ai q0<|ai b4<|b5
  repeat (first | refine st ?_ | refine cC f0 ?_)
  exact aR
 have b5:(s.kind==5)=false:=by simpa using e5
 have hm:zbh s=false:=by unfold zbh; rw [b4,b5]; rfl
 rw [hm]
 by_cases e1:s.kind=1
 ·have b1:(s.kind==1)=true:=by simpa using e1
  by_cases hk0:K=[]
  ·rw [if_neg (by simp [hk0]),if_neg (by omega)]
   have q1: ¬(0:Int)< (K.length:Int):=by rw [hk0]; simp
   rcases hp with⟨g0,g1⟩ | ⟨g0,g1,g2,g3,g4⟩
   ·refine zaa Tryz.func172 rfl Tryz.call172 (by rw [Tryz.ntmps172]; simp) ?_
    rw [Tryz.ntmps172,Tryz.results172]
    have F:=ai chAV.eq_1<|ai stAV.eq_1<|ai hs<|ai q0<|ai b4<|ai b5<|ai b1<|ai q1<|ai g0<|g1
    repeat (first | refine st ?_ | refine cC f0 ?_)
    exact aR
   ·refine zaa Tryz.func172 rfl Tryz.call172 (by rw [Tryz.ntmps172]; simp) ?_
    rw [Tryz.ntmps172,Tryz.results172]
    have F:=ai chAV.eq_1<|ai stAV.eq_1<|ai hs<|ai q0<|ai b4<|ai b5<|ai b1<|ai q1<|ai g0<|ai g1<|ai g2<|ai g3<|ai g4<|hfl
    repeat (first | refine st ?_ | refine cC f0 ?_)
    exact aR
  ·rw [if_pos ⟨e1,hk0⟩]
   have q1:(0:Int)< (K.length:Int):=by have:=List.length_pos_iff.2 hk0; omega
   by_cases hm1:manyI act K=1
   ·have hmi:((manyI act K:Nat):Int)=1:=by omega
    rw [hm1]
    rcases hp with⟨g0,g1⟩ | ⟨g0,g1,g2,g3,g4⟩
    ·refine zaa Tryz.func172 rfl Tryz.call172 (by rw [Tryz.ntmps172]; simp) ?_
     rw [Tryz.ntmps172,Tryz.results172]
     have F:=ai chAV.eq_1<|ai stAV.eq_1<|ai hs<|ai q0<|ai b4<|ai b5<|ai b1<|ai q1<|ai hmi<|ai g0<|g1
     repeat (first | refine st ?_ | refine cC f0 ?_ | refine cC f1 ?_)
     exact aR
    ·refine zaa Tryz.func172 rfl Tryz.call172 (by rw [Tryz.ntmps172]; simp) ?_
     rw [Tryz.ntmps172,Tryz.results172]
     have F:=ai chAV.eq_1<|ai stAV.eq_1<|ai hs<|ai q0<|ai b4<|ai b5<|ai b1<|ai q1<|ai hmi<|ai g0<|ai g1<|ai g2<|ai g3<|ai g4<|hfl
     repeat (first | refine st ?_ | refine cC f0 ?_ | refine cC f1 ?_)
     exact aR
   ·have hmi:(((manyI act K:Nat):Int) != 1)=true:=by simp; omega
    have hmb:(manyI act K==1)=false:=by simpa using hm1
    rw [hmb]
    refine zaa Tryz.func172 rfl Tryz.call172 (by rw [Tryz.ntmps172]; simp) ?_
    rw [Tryz.ntmps172,Tryz.results172]
    have F:=ai chAV.eq_1<|ai stAV.eq_1<|ai hs<|ai q0<|ai b4<|ai b5<|ai b1<|ai q1<|hmi
    repeat (first | refine st ?_ | refine cC f0 ?_ | refine cC f1 ?_)
    exact aR
 have b1:(s.kind==1)=false:=by simpa using e1
 rw [if_neg (fun e=>e1 e.1)]
 by_cases e2:s.kind=2
 ·have b2:(s.kind==2)=true:=by simpa using e2
  rw [if_pos e2]
  by_cases hm1:manyI act K=K.length
  ·have hmi:(((manyI act K:Nat):Int) != (K.length:Int))=false:=by simp; omega
   rw [hm1]
   rcases hp with⟨g0,g1⟩ | ⟨g0,g1,g2,g3,g4⟩
   ·refine zaa Tryz.func172 rfl Tryz.call172 (by rw [Tryz.ntmps172]; simp) ?_
    rw [Tryz.ntmps172,Tryz.results172]
    have F:=ai chAV.eq_1<|ai stAV.eq_1<|ai hs<|ai q0<|ai b4<|ai b5<|ai b1<|ai b2<|ai hmi<|ai g0<|g1
    repeat (first | refine st ?_ | refine cC f0 ?_ | refine cC f1 ?_)
    exact aR
   ·refine zaa Tryz.func172 rfl Tryz.call172 (by rw [Tryz.ntmps172]; simp) ?_
    rw [Tryz.ntmps172,Tryz.results172]
    have F:=ai chAV.eq_1<|ai stAV.eq_1<|ai hs<|ai q0<|ai b4<|ai b5<|ai b1<|ai b2<|ai hmi<|ai g0<|ai g1<|ai g2<|ai g3<|ai g4<|hfl
    repeat (first | refine st ?_ | refine cC f0 ?_ | refine cC f1 ?_)
    exact aR
  ·have hmi:(((manyI act K:Nat):Int) != (K.length:Int))=true:=by simp; omega
   have hmb:(manyI act K==K.length)=false:=by simpa using hm1
   rw [hmb]
   refine zaa Tryz.func172 rfl Tryz.call172 (by rw [Tryz.ntmps172]; simp) ?_
   rw [Tryz.ntmps172,Tryz.results172]
   have F:=ai chAV.eq_1<|ai stAV.eq_1<|ai hs<|ai q0<|ai b4<|ai b5<|ai b1<|ai b2<|hmi
   repeat (first | refine st ?_ | refine cC f0 ?_ | refine cC f1 ?_)
   exact aR
 ·have b2:(s.kind==2)=false:=by simpa using e2
  rw [if_neg e2]
  rcases hp with⟨g0,g1⟩ | ⟨g0,g1,g2,g3,g4⟩
  ·refine zaa Tryz.func172 rfl Tryz.call172 (by rw [Tryz.ntmps172]; simp) ?_
   rw [Tryz.ntmps172,Tryz.results172]
   have F:=ai chAV.eq_1<|ai stAV.eq_1<|ai hs<|ai q0<|ai b4<|ai b5<|ai b1<|ai b2<|ai g0<|g1
   repeat (first | refine st ?_ | refine cC f0 ?_)
   exact aR
  ·refine zaa Tryz.func172 rfl Tryz.call172 (by rw [Tryz.ntmps172]; simp) ?_
   rw [Tryz.ntmps172,Tryz.results172]
   have F:=ai chAV.eq_1<|ai stAV.eq_1<|ai hs<|ai q0<|ai b4<|ai b5<|ai b1<|ai b2<|ai g0<|ai g1<|ai g2<|ai g3<|ai g4<|hfl
   repeat (first | refine st ?_ | refine cC f0 ?_)
   exact aR
theorem zqc (env:Env) (a1 a8:Addr) (he:ChEnv env a1 a8) (p:Int) (hp: -1<=p):Con Tryz.prog env 173 [I p] (errV p (sentV a1)):=by
 have g1:=zhG he.e1
 have f0:=zpF env [108,101,103,97,108,46,67,104,101,99,107] p a1 hp
 refine zaa Tryz.func173 rfl Tryz.call173 (by rw [Tryz.ntmps173]; simp) ?_
 rw [Tryz.ntmps173,Tryz.results173]
 have F:=g1
 repeat (first | refine st ?_ | refine cC f0 ?_)
 exact aR
def chkE (a1:Addr) (c:ChD) (act:List Int):AV:=if lgB c act=true then nilE else errV (ze1 c act).2 (sentV a1)
theorem zmG {a1:Addr} {c:ChD} {act:List Int} {p:Int} (h:ze1 c act=(1,p)):chkE a1 c act=errV p (sentV a1):=by
 unfold chkE lgB
 rw [h]
 rfl
theorem zsu {a1:Addr} {c:ChD} {act:List Int} {p:Int} (h:ze1 c act=(0,p)):chkE a1 c act=nilE:=by
 unfold chkE lgB
 rw [h]
 rfl
theorem zls {c:ChD} {act:List Int} {j:Nat} {x:Int} (hx:act[j]? =some x):lgAt c act j=((j==0||decide (act.getD (j-1) 0<x))&&fitI c act x):=by unfold lgAt; rw [hx]
theorem zms {c:ChD} {act:List Int} {k:Nat} {s:StD} (hs:c.states[k]? =some s):fitI c act (k:Int)=fitB c act k s:=by
 unfold fitI
 rw [zce,hs]
 rfl
theorem zi1 {c:ChD} {act:List Int} {x:Int} (hz:inZ c x=false):fitI c act x=false:=by
 unfold fitI at_
 unfold inZ at hz
 by_cases h0:0<=x
 ·rw [if_pos h0]
  rw [decide_eq_true h0,Bool.true_and,decide_eq_false_iff_not] at hz
  rw [List.getElem?_eq_none (by omega)]
 ·rw [if_neg h0]
end
section
theorem zoJ {act:List Int} {j:Nat} (h0:0<j) (hj:j<act.length):act[j-1]? =some (act.getD (j-1) 0):=by
 rw [List.getD_eq_getElem?_getD,List.getElem?_eq_getElem (show j-1<act.length by omega)]
 rfl
theorem ze0 (l:List Int):za9 (l.map intC)=l.map intAV:=by
 unfold za9
 rw [List.map_map]
 rfl
end
section
theorem zp2 {act:List Int} {j:Nat} {x v:Int} (hx:act[j]? =some x) (hn:(act.take j).contains v=false) (he:x≠v):(act.take (j+1)).contains v=false:=by
 rw [List.take_add_one,hx]
 simp at hn |-
 exact⟨hn,fun q=>he q.symm⟩
theorem zeR (env:Env) (act:List Int) (v:Int) (hl:act.length<=1000000):Con Tryz.prog env 27 [.seq 1 (act.map intAV),I v] (B (act.contains v)):=by
 refine zaa Tryz.func27 rfl Tryz.call27 (by rw [Tryz.ntmps27]; simp) ?_
 rw [Tryz.ntmps27,Tryz.results27]
 repeat refine st0 ?_
 refine zac (D:=Nat) (fun j _=>[(0, .seq 1 (act.map intAV)),(1,I v),(5,I j)]) (fun _ _=>[]) (fun j _ _=>j<=act.length/\(act.take j).contains v=false) (fun j=>act.length-j) 0 ?_ ?_ ?_ ?_
 ·exact⟨Nat.zero_le _,rfl⟩
 ·(simp only [go_sem])
 ·(simp only [go_sem])
 rintro j ws esc ⟨hj,hno⟩
 by_cases hlt:j<act.length
 ·obtain⟨x,hx⟩: ∃x,act[j]? =some x:=⟨act[j],List.getElem?_eq_getElem hlt⟩
  have q1:=nlt hlt
  have q2:=zab hlt (by omega)
  by_cases e:x=v
  ·have hr:act.contains v=true:=by rw [List.contains_iff_mem, <-e]; exact List.mem_of_getElem? hx
   rw [hr]
   have q3:(x==v)=true:=by simpa using e
   have F:=ai hx<|ai q1<|q3
   repeat refine st ?_
   exact aR
  ·have q3:(x==v)=false:=by simpa using e
   have F:=ai hx<|ai q1<|ai q2<|q3
   repeat refine st ?_
   refine⟨j+1,⟨hlt,zp2 hx hno e⟩, ?_, ?_,by omega⟩
   ·(simp only [go_sem,F])
   ·(simp only [go_sem,F])
 ·obtain rfl:j=act.length:=by omega
  have q1: ¬(act.length:Int)< (act.length:Int):=by omega
  rw [List.take_length] at hno
  rw [hno]
  have F:=q1
  repeat refine st ?_
  exact aR
theorem zg0 (env:Env) (act:List Int) (ks:List Nat) (hl:act.length<=1000000) (hk:ks.length<=4000):Con Tryz.prog env 153 [.seq 1 (act.map intAV), .seq 1 (ks.map zaj)] (I (manyI act ks:Nat)):=by
 have z0:manyI act []=0:=rfl
 refine zaa Tryz.func153 rfl Tryz.call153 (by rw [Tryz.ntmps153]; simp) ?_
 rw [Tryz.ntmps153,Tryz.results153]
 repeat refine st0 ?_
 refine zac (D:=Nat) (fun j _=>[(0, .seq 1 (act.map intAV)),(1, .seq 1 (ks.map zaj)),(5,I (manyI act (ks.take j):Nat)),(6,I j)]) (fun _ _=>[]) (fun j _ _=>j<=ks.length) (fun j=>ks.length-j) 0 ?_ ?_ ?_ ?_
 ·exact Nat.zero_le _
 ·have F:=z0
  (simp only [go_sem,F])
 ·(simp only [go_sem,z0])
 rintro j ws esc hj
 by_cases hlt:j<ks.length
 ·obtain⟨k,hk2⟩: ∃k,ks[j]? =some k:=⟨ks[j],List.getElem?_eq_getElem hlt⟩
  have q1:=nlt hlt
  have q2:=zab hlt (by omega)
  have f0:=zeR env act k hl
  have hm:=zln (act:=act) hk2
  have hle:=zlo act (ks.take j)
  rw [List.length_take] at hle
  have q4:=zab (show manyI act (ks.take j)<ks.length by omega) (by omega)
  cases hb:act.contains (k:Int) with
  | true=>
    rw [hb] at f0 hm
    rw [if_pos rfl] at hm
    have F:=ai zaj.eq_1<|ai hk2<|ai q1<|ai q2<|q4
    repeat (first | refine st ?_ | refine cC f0 ?_)
    refine⟨j+1,hlt, ?_, ?_,by omega⟩
    ·have F:=hm
     (simp only [go_sem,F])
    ·(simp only [go_sem,hm])
  | false=>
    rw [hb] at f0 hm
    rw [if_neg Bool.false_ne_true,Nat.add_zero] at hm
    have F:=ai zaj.eq_1<|ai hk2<|ai q1<|q2
    repeat (first | refine st ?_ | refine cC f0 ?_)
    refine⟨j+1,hlt, ?_, ?_,by omega⟩
    ·have F:=hm
     (simp only [go_sem,F])
    ·(simp only [go_sem,hm])
 ·obtain rfl:j=ks.length:=by omega
  have q1: ¬(ks.length:Int)< (ks.length:Int):=by omega
  have hta:ks.take ks.length=ks:=List.take_length
  have F:=ai q1<|hta
  repeat refine st ?_
  exact aR
theorem zlf (env:Env) (c:ChD) (h:Full c) (act:List Int) (hl:act.length<=1000000) (k:Nat) (s:StD) (hs:c.states[k]? =some s):Con Tryz.prog env 152 [.agg (chAV c), .seq 1 (act.map intAV),I k] (B (fitB c act k s)):=by
 have hlen:=h.few
 have hi:=(List.getElem?_eq_some_iff.1 hs).1
 have q0:((k:Nat):Int)< (c.states.length:Int):=by omega
 have f0:=zbS env c k true (by omega)
 have hK:=zcr h.toRight k true
 have f1:=zg0 env act (kidsL c k true) hl (by omega)
 have f2:=zbi env s
 have f3:=zeR env act s.parent hl
 have hF:fitB c act k s=(!zbh s&&(decide (s.parent<0)||act.contains s.parent)&&(if s.kind=1/\kidsL c k true≠[] then manyI act (kidsL c k true)==1 else if s.kind=2 then manyI act (kidsL c k true)==(kidsL c k true).length else true)):=rfl
 rw [hF]
 try clear hF
 generalize kidsL c k true=K at*
 cases hm:zbh s with
 | true=>
   rw [hm] at f2
   refine zaa Tryz.func152 rfl Tryz.call152 (by rw [Tryz.ntmps152]; simp) ?_
   rw [Tryz.ntmps152,Tryz.results152]
   have F:=ai chAV.eq_1<|ai stAV.eq_1<|ai hs<|q0
   repeat (first | refine st ?_ | refine cC f2 ?_)
   exact aR
 | false=>
   rw [hm] at f2
   by_cases hp:s.parent<0
   ·have g0: ¬0<=s.parent:=by omega
    rw [decide_eq_true hp]
    by_cases e1:s.kind=1/\K≠[]
    ·have b1:(s.kind==1)=true:=by simpa using e1.1
     have q1:(0:Int)< (K.length:Int):=by have:=List.length_pos_iff.2 e1.2; omega
     have q2:(((manyI act K:Nat):Int)==1)=(manyI act K==1):=by rw [Bool.eq_iff_iff,beq_iff_eq,beq_iff_eq]; omega
     rw [if_pos e1]
     refine zaa Tryz.func152 rfl Tryz.call152 (by rw [Tryz.ntmps152]; simp) ?_
     rw [Tryz.ntmps152,Tryz.results152]
     have F:=ai chAV.eq_1<|ai stAV.eq_1<|ai hs<|ai q0<|ai g0<|ai b1<|ai q1<|q2
     repeat (first | refine st ?_ | refine cC f0 ?_ | refine cC f1 ?_ | refine cC f2 ?_)
     exact aR
    ·rw [if_neg e1]
     have q2:(((manyI act K:Nat):Int)==(K.length:Int))=(manyI act K==K.length):=by rw [Bool.eq_iff_iff,beq_iff_eq,beq_iff_eq]; omega
     by_cases e2:s.kind=2
     ·have b1:(s.kind==1)=false:=by simp [e2]
      have b2:(s.kind != 2)=false:=by simp [e2]
      rw [if_pos e2]
      refine zaa Tryz.func152 rfl Tryz.call152 (by rw [Tryz.ntmps152]; simp) ?_
      rw [Tryz.ntmps152,Tryz.results152]
      have F:=ai chAV.eq_1<|ai stAV.eq_1<|ai hs<|ai q0<|ai g0<|ai b1<|ai b2<|q2
      repeat (first | refine st ?_ | refine cC f0 ?_ | refine cC f1 ?_ | refine cC f2 ?_)
      exact aR
     ·have b2:(s.kind != 2)=true:=by simpa using e2
      rw [if_neg e2]
      by_cases e3:s.kind=1
      ·have b1:(s.kind==1)=true:=by simpa using e3
       have q1: ¬(0:Int)< (K.length:Int):=by
        have:K=[]:=Classical.byContradiction fun q=>e1 ⟨e3,q⟩
        rw [this]; simp
       refine zaa Tryz.func152 rfl Tryz.call152 (by rw [Tryz.ntmps152]; simp) ?_
       rw [Tryz.ntmps152,Tryz.results152]
       have F:=ai chAV.eq_1<|ai stAV.eq_1<|ai hs<|ai q0<|ai g0<|ai b1<|ai b2<|q1
       repeat (first | refine st ?_ | refine cC f0 ?_ | refine cC f1 ?_ | refine cC f2 ?_)
       exact aR
      ·have b1:(s.kind==1)=false:=by simpa using e3
       refine zaa Tryz.func152 rfl Tryz.call152 (by rw [Tryz.ntmps152]; simp) ?_
       rw [Tryz.ntmps152,Tryz.results152]
       have F:=ai chAV.eq_1<|ai stAV.eq_1<|ai hs<|ai q0<|ai g0<|ai b1<|b2
       repeat (first | refine st ?_ | refine cC f0 ?_ | refine cC f1 ?_ | refine cC f2 ?_)
       exact aR
   ·have g0:0<=s.parent:=by omega
    rw [decide_eq_false hp]
    cases hin:act.contains s.parent with
    | false=>
      rw [hin] at f3
      refine zaa Tryz.func152 rfl Tryz.call152 (by rw [Tryz.ntmps152]; simp) ?_
      rw [Tryz.ntmps152,Tryz.results152]
      have F:=ai chAV.eq_1<|ai stAV.eq_1<|ai hs<|ai q0<|g0
      repeat (first | refine st ?_ | refine cC f0 ?_ | refine cC f1 ?_ | refine cC f2 ?_ | refine cC f3 ?_)
      exact aR
    | true=>
      rw [hin] at f3
      by_cases e1:s.kind=1/\K≠[]
      ·have b1:(s.kind==1)=true:=by simpa using e1.1
       have q1:(0:Int)< (K.length:Int):=by have:=List.length_pos_iff.2 e1.2; omega
       have q2:(((manyI act K:Nat):Int)==1)=(manyI act K==1):=by rw [Bool.eq_iff_iff,beq_iff_eq,beq_iff_eq]; omega
       rw [if_pos e1]
       refine zaa Tryz.func152 rfl Tryz.call152 (by rw [Tryz.ntmps152]; simp) ?_
       rw [Tryz.ntmps152,Tryz.results152]
       have F:=ai chAV.eq_1<|ai stAV.eq_1<|ai hs<|ai q0<|ai g0<|ai b1<|ai q1<|q2
       repeat (first | refine st ?_ | refine cC f0 ?_ | refine cC f1 ?_ | refine cC f2 ?_ | refine cC f3 ?_)
       exact aR
      ·rw [if_neg e1]
       have q2:(((manyI act K:Nat):Int)==(K.length:Int))=(manyI act K==K.length):=by rw [Bool.eq_iff_iff,beq_iff_eq,beq_iff_eq]; omega
       by_cases e2:s.kind=2
       ·have b1:(s.kind==1)=false:=by simp [e2]
        have b2:(s.kind != 2)=false:=by simp [e2]
        rw [if_pos e2]
        refine zaa Tryz.func152 rfl Tryz.call152 (by rw [Tryz.ntmps152]; simp) ?_
        rw [Tryz.ntmps152,Tryz.results152]
        have F:=ai chAV.eq_1<|ai stAV.eq_1<|ai hs<|ai q0<|ai g0<|ai b1<|ai b2<|q2
        repeat (first | refine st ?_ | refine cC f0 ?_ | refine cC f1 ?_ | refine cC f2 ?_ | refine cC f3 ?_)
        exact aR
       ·have b2:(s.kind != 2)=true:=by simpa using e2
        rw [if_neg e2]
        by_cases e3:s.kind=1
        ·have b1:(s.kind==1)=true:=by simpa using e3
         have q1: ¬(0:Int)< (K.length:Int):=by
          have:K=[]:=Classical.byContradiction fun q=>e1 ⟨e3,q⟩
          rw [this]; simp
         refine zaa Tryz.func152 rfl Tryz.call152 (by rw [Tryz.ntmps152]; simp) ?_
         rw [Tryz.ntmps152,Tryz.results152]
         have F:=ai chAV.eq_1<|ai stAV.eq_1<|ai hs<|ai q0<|ai g0<|ai b1<|ai b2<|q1
         repeat (first | refine st ?_ | refine cC f0 ?_ | refine cC f1 ?_ | refine cC f2 ?_ | refine cC f3 ?_)
         exact aR
        ·have b1:(s.kind==1)=false:=by simpa using e3
         refine zaa Tryz.func152 rfl Tryz.call152 (by rw [Tryz.ntmps152]; simp) ?_
         rw [Tryz.ntmps152,Tryz.results152]
         have F:=ai chAV.eq_1<|ai stAV.eq_1<|ai hs<|ai q0<|ai g0<|ai b1<|b2
         repeat (first | refine st ?_ | refine cC f0 ?_ | refine cC f1 ?_ | refine cC f2 ?_ | refine cC f3 ?_)
         exact aR
end
section
def chainV (ps:List Int) (e:AV):AV:=ps.foldr (fun p x=>errV p x) e
theorem zmH {S:Nat->Nat->Prop} {w:World} {a:Addr} (ha:Lies w a): ∀(ps:List Int) (v:Value),RV S w v (chainV ps (sentV a))->za1 w a ps.length v
 | [],v,h=>⟨h.lit_inv,ha⟩
 | p::ps,v,h=>by
   have h:RV S w v (.iface 159 (.ref 3 [[.any,I p,chainV ps (sentV a)]] 0 0)):=h
   cases h with
   | iface t v c h=>
     cases h with
     | ref sz es i off b o u hz hc hr=>
       have h2:=hc 0 2 (chainV ps (sentV a)) rfl
       have h3:=hr 0 2 (chainV ps (sentV a)) rfl
       refine⟨b,o+(0*3+0),u 0 2,rfl, ?_,zmH ha ps _ h3⟩
       have:=h2.2.1
       simpa using this
theorem znK (ad:Nat->Addr) (mo:More) (k:Nat) (hk:1<=k/\k<=9) (ps:List Int):Con Tryz.prog (zbP ad mo) 42 [chainV ps (sentV (ad k))] (I k):=
 zi5 Tryz.call42 fun w S vs hE hl hv=>by
  match vs,hl with
  | [v],_=>
    have hS:Sents w ad:=hE.inv.1
    refine(zrv hS k hk ps.length v (zmH (zm8 hS k hk) ps v (hv 0 v _ rfl rfl))).mono ?_
    rintro e w' ⟨rfl,rfl⟩
    exact⟨rfl,Below.refl _ _⟩
theorem zlS (env:Env) (s:List UInt8) (p:Int) (e:AV):Con Tryz.prog env 44 [Sg s,errV p e] (errV (-1) (errV p e)):=by
 refine zaK Tryz.func44 rfl Tryz.call44 (by rw [Tryz.ntmps44]; simp) ?_
 rw [Tryz.ntmps44,Tryz.results44]
 repeat refine st0 ?_
 (refine zah ?_; refine⟨_,(by show (zaG _ _ _).run _=some _; simp only [go_sem]; rfl), ?_⟩)
 exact zfb _ _ _ rfl _ _ (.refl _)
theorem zri (env:Env) (s:List UInt8) (p:Int) (a:Addr):Con Tryz.prog env 227 [Sg s,I p,sentV a] (errV (max p (-1)) (sentV a)):=by
 refine Con.args (cs:=[Sg s,I p, .iface 379 (.lit (.pointer (some a)))]) ?_ (.cons (.refl _) (.cons (.refl _) (.cons (.ifl _ _) .nil)))
 by_cases h1:p< -1
 ·rw [show max p (-1)= -1 by omega]
  refine zaK Tryz.func227 rfl Tryz.call227 (by rw [Tryz.ntmps227]; simp) ?_
  rw [Tryz.ntmps227,Tryz.results227]
  have F:=h1
  repeat refine st ?_
  (refine zah ?_; refine⟨_,(by show (zaG _ _ _).run _=some _; simp only [go_sem,F]; rfl), ?_⟩)
  exact zfb _ _ _ rfl _ _ (.lfi _ _)
 ·rw [show max p (-1)=p by omega]
  refine zaK Tryz.func227 rfl Tryz.call227 (by rw [Tryz.ntmps227]; simp) ?_
  rw [Tryz.ntmps227,Tryz.results227]
  have F:=h1
  repeat refine st ?_
  (refine zah ?_; refine⟨_,(by show (zaG _ _ _).run _=some _; simp only [go_sem,F]; rfl), ?_⟩)
  exact zfb _ _ _ rfl _ _ (.lfi _ _)
theorem znV (env:Env) (a1 a8:Addr) (he:ChEnv env a1 a8) (p:Int):Con Tryz.prog env 173 [I p] (errV (max p (-1)) (sentV a1)):=by
 have g1:=zhG he.e1
 have f0:=zri env [108,101,103,97,108,46,67,104,101,99,107] p a1
 refine zaa Tryz.func173 rfl Tryz.call173 (by rw [Tryz.ntmps173]; simp) ?_
 rw [Tryz.ntmps173,Tryz.results173]
 have F:=g1
 repeat (first | refine st ?_ | refine cC f0 ?_)
 exact aR
theorem zh5 {c:ChD} {act:List Int} {j:Nat} {x:Int} (hx:act[j]? =some x) (hall: ∀m,m<j->lgAt c act m=true) (hb:lgAt c act j=false):ze1 c act=(1,max x (-1)):=by
 have hj:=(List.getElem?_eq_some_iff.1 hx).1
 unfold ze1
 rw [zbG hj hall hb]
 simp only [List.getD_eq_getElem?_getD,hx,Option.getD_some]
theorem zkB (env:Env) (a1 a8:Addr) (he:ChEnv env a1 a8) (c:ChD) (h:Full c) (hsm:Small c) (act:List Int) (hl:act.length<=1000000):Con Tryz.prog env 88 [zaU c, .seq 1 (act.map intAV)] (chkE a1 c act):=by
 have hlen:=h.few
 have f0:=zca env c hsm
 have f1:=zpw env c (by omega) act hl
 have f2:=fun(k:Nat) (s:StD) (hs:c.states[k]? =some s)=>zrf env c h act k s hs
 have f3:=zb0 env c h (-1)
 rw [if_pos (.inl rfl)] at f3
 have hK:=zcr h.toRight (-1) true
 have hKm: ∀j∈kidsL c (-1) true,j<c.states.length:=fun j hj=>by have:=zbm h.toRight (za5 hj).1; omega
 have f4:=zmh env c.states.length act (kidsL c (-1) true) (by omega) (by omega) hKm
 have fb:=zqc env a1 a8 he (-1) (by omega)
 have hfl:=zdk c.states.length act
 unfold zaU at f0 f1 f2 f3 |-
 refine zaa Tryz.func88 rfl Tryz.call88 (by rw [Tryz.ntmps88]; simp) ?_
 rw [Tryz.ntmps88,Tryz.results88]
 have F:=chAV.eq_1
 repeat (first | refine st ?_ | refine cC f0 ?_ | refine cC f1 ?_)
 refine zac (D:=Nat) (fun j vs=>[(0, .ref 9 [zaF c] 0 0),(1, .seq 1 (act.map intAV)),(5, .loc 5 (vs 5) 0 0),(6, .row 17 (vs 17)),(18, .seq 1 (act.map intAV)),(19,I act.length),(20,I j)]) (fun _ _=>[(5,⟨5,[chAV c],26,false⟩),(17,⟨1,zdv c.states.length act,4,true⟩)]) (fun j _ _=>j<=act.length/\ ∀m,m<j->lgAt c act m=true) (fun j=>act.length-j) 0 ?_ ?_ ?_ ?_
 ·exact⟨Nat.zero_le _,fun m hm=>absurd hm (by omega)⟩
 ·(simp only [go_sem,F])
 ·have F:=chAV.eq_1
  (simp only [go_sem,F])
  try rfl
 rintro j ws esc ⟨hj,hall⟩
 by_cases hlt:j<act.length
 ·obtain⟨x,hx⟩: ∃x,act[j]? =some x:=⟨act[j],List.getElem?_eq_getElem hlt⟩
  have q1:=nlt hlt
  have q2:=zab hlt (by omega)
  have hat:=zls (c:=c) hx
  have fx:=znV env a1 a8 he x
  have bad:lgAt c act j=false->chkE a1 c act=errV (max x (-1)) (sentV a1):=fun hb=>zmG (zh5 hx hall hb)
  by_cases h0:x<0
  ·rw [bad (by rw [hat,zi1 (by unfold inZ; rw [decide_eq_false (by omega)]; rfl),Bool.and_false])]
   have F:=ai hx<|ai q1<|h0
   repeat (first | refine st ?_ | refine cC fx ?_)
   exact aR
  obtain⟨k,rfl⟩:=zeq (show 0<=x by omega)
  by_cases h1:(c.states.length:Int)<=k
  ·rw [bad (by rw [hat,zi1 (by unfold inZ; rw [decide_eq_false (p:=(k:Int)<_) (by omega),Bool.and_false]),Bool.and_false])]
   have F:=ai hx<|ai q1<|ai h0<|ai h1<|hfl
   repeat (first | refine st ?_ | refine cC fx ?_)
   exact aR
  obtain⟨s,hs⟩: ∃s,c.states[k]? =some s:=⟨c.states[k]'(by omega),List.getElem?_eq_getElem _⟩
  have f2:=f2 k s hs
  rw [zms hs] at hat
  by_cases hj0:0<j
  ·have q3:(0:Int)< (j:Int):=by omega
   have q4:IntKind.i64.wrap ((j:Int)-1)=((j-1:Nat):Int):=by rw [zbQ (by omega) (by omega)]; omega
   have hy:=zoJ hj0 hlt
   have q5:((j-1:Nat):Int)< (act.length:Int):=by omega
   have b0:(j==0)=false:=by simp; omega
   generalize act.getD (j-1) 0=y at*
   by_cases h2:(k:Int)<=y
   ·rw [bad (by rw [hat,b0,decide_eq_false (by omega)]; rfl)]
    have F:=ai hx<|ai q1<|ai h0<|ai h1<|ai hfl<|ai q3<|ai q4<|ai q5<|ai hy<|h2
    repeat (first | refine st ?_ | refine cC fx ?_)
    exact aR
   cases hb:fitB c act k s with
   | false=>
     rw [hb] at f2 hat
     rw [bad (by rw [hat,Bool.and_false])]
     have F:=ai chAV.eq_1<|ai hx<|ai q1<|ai h0<|ai h1<|ai hfl<|ai q3<|ai q4<|ai q5<|ai hy<|h2
     repeat (first | refine st ?_ | refine cC f2 ?_ | refine cC fx ?_)
     exact aR
   | true=>
     rw [hb,b0,decide_eq_true (show y< (k:Int) by omega)] at hat
     rw [hb] at f2
     have F:=ai chAV.eq_1<|ai hx<|ai q1<|ai q2<|ai h0<|ai h1<|ai hfl<|ai q3<|ai q4<|ai q5<|ai hy<|h2
     repeat (first | refine st ?_ | refine cC f2 ?_)
     refine⟨j+1,⟨hlt,fun m hm=>by rcases Nat.lt_succ_iff_lt_or_eq.1 hm with e | e; exact hall m e; rw [e]; exact hat⟩, ?_, ?_,by omega⟩
     ·(simp only [go_sem,F])
     ·have F:=chAV.eq_1
      (simp only [go_sem,F])
  ·have q3: ¬(0:Int)< (j:Int):=by omega
   have b0:(j==0)=true:=by simp; omega
   cases hb:fitB c act k s with
   | false=>
     rw [hb,b0] at hat
     rw [hb] at f2
     rw [bad (by rw [hat,Bool.and_false])]
     have F:=ai chAV.eq_1<|ai hx<|ai q1<|ai h0<|ai h1<|ai hfl<|q3
     repeat (first | refine st ?_ | refine cC f2 ?_ | refine cC fx ?_)
     exact aR
   | true=>
     rw [hb,b0] at hat
     rw [hb] at f2
     have F:=ai chAV.eq_1<|ai hx<|ai q1<|ai q2<|ai h0<|ai h1<|ai hfl<|q3
     repeat (first | refine st ?_ | refine cC f2 ?_)
     refine⟨j+1,⟨hlt,fun m hm=>by rcases Nat.lt_succ_iff_lt_or_eq.1 hm with e | e; exact hall m e; rw [e]; exact hat⟩, ?_, ?_,by omega⟩
     ·(simp only [go_sem,F])
     ·have F:=chAV.eq_1
      (simp only [go_sem,F])
 ·obtain rfl:j=act.length:=by omega
  have q1: ¬(act.length:Int)< (act.length:Int):=by omega
  have hc1:ze1 c act=if manyI act (kidsL c (-1) true)=1 then(0, -1) else(1, -1):=by
   unfold ze1
   rw [zaI hall]
  by_cases hm:manyI act (kidsL c (-1) true)=1
  ·rw [if_pos hm] at hc1
   rw [zsu hc1]
   have hmi:((manyI act (kidsL c (-1) true):Nat):Int)=1:=by omega
   have F:=ai q1<|hmi
   repeat (first | refine st ?_ | refine cC f3 ?_ | refine cC f4 ?_)
   exact aR
  ·rw [if_neg hm] at hc1
   rw [zmG hc1]
   have hmi:(((manyI act (kidsL c (-1) true):Nat):Int) != 1)=true:=by simp; omega
   have F:=ai q1<|hmi
   repeat (first | refine st ?_ | refine cC f3 ?_ | refine cC f4 ?_ | refine cC fb ?_)
   exact aR
theorem ziI (env:Env) (c:ChD) (h:Full c) (act:List Int) (hl:act.length<=1000000):Con Tryz.prog env 75 [.agg (chAV c), .seq 1 (act.map intAV)] (.tuple [I (ze1 c act).1,I (ze1 c act).2]):=by
 have hlen:=h.few
 have f3:=zbS env c (-1) true (by omega)
 have hK:=zcr h.toRight (-1) true
 have f4:=zg0 env act (kidsL c (-1) true) hl (by omega)
 refine zaa Tryz.func75 rfl Tryz.call75 (by rw [Tryz.ntmps75]; simp) ?_
 rw [Tryz.ntmps75,Tryz.results75]
 have F:=chAV.eq_1
 repeat refine st ?_
 refine zac (D:=Nat) (fun j vs=>[(1, .seq 1 (act.map intAV)),(2, .loc 2 (vs 2) 0 0),(6,I j)]) (fun _ _=>[(2,⟨5,[chAV c],26,false⟩)]) (fun j _ _=>j<=act.length/\ ∀m,m<j->lgAt c act m=true) (fun j=>act.length-j) 0 ?_ ?_ ?_ ?_
 ·exact⟨Nat.zero_le _,fun m hm=>absurd hm (by omega)⟩
 ·(simp only [go_sem,F])
 ·have F:=chAV.eq_1
  (simp only [go_sem,F])
  try rfl
 rintro j ws esc ⟨hj,hall⟩
 by_cases hlt:j<act.length
 ·obtain⟨x,hx⟩: ∃x,act[j]? =some x:=⟨act[j],List.getElem?_eq_getElem hlt⟩
  have q1:=nlt hlt
  have q2:=zab hlt (by omega)
  have q6:max x (-1)=if x< -1 then -1 else x:=by split<;>omega
  have hat:=zls (c:=c) hx
  have f0:=zld env c x
  have bad:lgAt c act j=false->ze1 c act=(1,max x (-1)):=fun hb=>zh5 hx hall hb
  cases hz:inZ c x with
  | false=>
    rw [hz] at f0
    rw [bad (by rw [hat,zi1 hz,Bool.and_false])]
    have F:=ai chAV.eq_1<|ai hx<|ai q1<|q6
    repeat (first | refine st ?_ | refine cC f0 ?_)
    exact aR
  | true=>
    rw [hz] at f0
    obtain⟨k,s,rfl,hs,ha⟩:=zfh hz
    have f2:=zlf env c h act hl k s hs
    rw [zms hs] at hat
    by_cases hj0:0<j
    ·have q3:(0:Int)< (j:Int):=by omega
     have q4:IntKind.i64.wrap ((j:Int)-1)=((j-1:Nat):Int):=by rw [zbQ (by omega) (by omega)]; omega
     have hy:=zoJ hj0 hlt
     have q5:((j-1:Nat):Int)< (act.length:Int):=by omega
     have b0:(j==0)=false:=by simp; omega
     generalize act.getD (j-1) 0=y at*
     by_cases h2:(k:Int)<=y
     ·rw [bad (by rw [hat,b0,decide_eq_false (by omega)]; rfl)]
      have F:=ai chAV.eq_1<|ai hx<|ai q1<|ai q3<|ai q4<|ai q5<|ai q6<|ai hy<|h2
      repeat (first | refine st ?_ | refine cC f0 ?_)
      exact aR
     cases hb:fitB c act k s with
     | false=>
       rw [hb] at f2 hat
       rw [bad (by rw [hat,Bool.and_false])]
       have F:=ai chAV.eq_1<|ai hx<|ai q1<|ai q3<|ai q4<|ai q5<|ai q6<|ai hy<|h2
       repeat (first | refine st ?_ | refine cC f0 ?_ | refine cC f2 ?_)
       exact aR
     | true=>
       rw [hb,b0,decide_eq_true (show y< (k:Int) by omega)] at hat
       rw [hb] at f2
       have F:=ai chAV.eq_1<|ai hx<|ai q1<|ai q2<|ai q3<|ai q4<|ai q5<|ai hy<|h2
       repeat (first | refine st ?_ | refine cC f0 ?_ | refine cC f2 ?_)
       refine⟨j+1,⟨hlt,fun m hm=>by rcases Nat.lt_succ_iff_lt_or_eq.1 hm with e | e; exact hall m e; rw [e]; exact hat⟩, ?_, ?_,by omega⟩
       ·(simp only [go_sem,F])
       ·have F:=chAV.eq_1
        (simp only [go_sem,F])
    ·have q3: ¬(0:Int)< (j:Int):=by omega
     have b0:(j==0)=true:=by simp; omega
     cases hb:fitB c act k s with
     | false=>
       rw [hb,b0] at hat
       rw [hb] at f2
       rw [bad (by rw [hat,Bool.and_false])]
       have F:=ai chAV.eq_1<|ai hx<|ai q1<|ai q3<|q6
       repeat (first | refine st ?_ | refine cC f0 ?_ | refine cC f2 ?_)
       exact aR
     | true=>
       rw [hb,b0] at hat
       rw [hb] at f2
       have F:=ai chAV.eq_1<|ai hx<|ai q1<|ai q2<|q3
       repeat (first | refine st ?_ | refine cC f0 ?_ | refine cC f2 ?_)
       refine⟨j+1,⟨hlt,fun m hm=>by rcases Nat.lt_succ_iff_lt_or_eq.1 hm with e | e; exact hall m e; rw [e]; exact hat⟩, ?_, ?_,by omega⟩
       ·(simp only [go_sem,F])
       ·have F:=chAV.eq_1
        (simp only [go_sem,F])
 ·obtain rfl:j=act.length:=by omega
  have q1: ¬(act.length:Int)< (act.length:Int):=by omega
  have hc1:ze1 c act=if manyI act (kidsL c (-1) true)=1 then(0, -1) else(1, -1):=by
   unfold ze1
   rw [zaI hall]
  rw [hc1]
  by_cases hm:manyI act (kidsL c (-1) true)=1
  ·rw [if_pos hm]
   have hmi:((manyI act (kidsL c (-1) true):Nat):Int)=1:=by omega
   have F:=ai chAV.eq_1<|ai q1<|hmi
   repeat (first | refine st ?_ | refine cC f3 ?_ | refine cC f4 ?_)
   exact aR
  ·rw [if_neg hm]
   have hmi:(((manyI act (kidsL c (-1) true):Nat):Int) != 1)=true:=by simp; omega
   have F:=ai chAV.eq_1<|ai q1<|hmi
   repeat (first | refine st ?_ | refine cC f3 ?_ | refine cC f4 ?_)
   exact aR
end
section
theorem Turned.frozen {s:St} (r t:Nat) (row:Row) (hp:row.pure=true) (hrz:row.sz≠0) (hr:s.rows r=some row) (ht:s.f t= .row r (s.vs r)):Turned s ((s.show r).put (some t) (.seq row.sz row.es)):=fun x a w m hS=>by
 obtain⟨S',q1,q2,q3⟩:=hS.show r row hr hrz hp
 have hv:=hS.slot t
 rw [ht] at hv
 have hv1:a.tmps.getD t undef=m.ρ r:=hv.row_.2 rfl row hr
 exact⟨_,q1.tell t (.seq row.sz row.es) (by rw [hv1]; exact .val q3)⟩
theorem Turned.nil {s:St} (t sz:Nat) (ht:s.f t= .lit (.slice none 0 0)):Turned s (s.put (some t) (.seq sz [])):=fun x a w m hS=>by
 have hv:=hS.slot t
 rw [ht] at hv
 have hv1:=hv.lit_
 exact⟨_,hS.tell t (.seq sz []) (by rw [hv1]; exact .val (Str.nil sz _ _ _ (.lit _)))⟩
section
variable {P:Program} {env:Env} {nt:Nat} {s:St}
theorem zsz {c rest:Code} {Q':Exit->St->Prop} {D:Type} (F:D->(Nat->Nat)->List (Nat×AV)) (R:D->(Nat->Nat)->List (Nat×Row)) (inv:D->(Nat->Nat)->(Nat->Bool)->Prop)
 (h1:awp P env nt c (zao (fun s=> ∃d,inv d s.vs s.esc/\zd2 s (F d s.vs)/\zdo s (R d s.vs)) Q') s) (h2: ∀d vs esc,inv d vs esc->awp P env nt rest Q' (head (F d vs) (R d vs) vs esc)):
 awp P env nt c (zao (awp P env nt rest Q') Q') s:=
 zmN h1 fun e s hq=>by
  cases e with
  | normal=>
    obtain⟨d,q1,q2,q3⟩:=hq
    exact zgC _ _ q2 q3 (h2 d _ _ q1)
  | _=>exact hq
end
def zsj (Q:Exit->St->Prop):Exit->St->Prop
 | .goto _,_=>False
 | e,s=>Q e s
theorem zbJ {P:Program} {b:Frame} {a:Act} {k:List Item} {cs:List Frame} {w:World} {c:Code} :step P (lone (b.atR a (.code (.scope c)::k)) cs w)= .next (lone (b.atR a (.code c:: .inScope c::k)) cs w):=
 step_lone_go (by simp [stepG,stepG.exec,Frame.atR])
theorem zhz {P:Program} {b:Frame} {a:Act} {k:List Item} {cs:List Frame} {w:World} {c:Code} :step P (lone (b.atR a (.inScope c::k)) cs w)= .next (lone (b.atR a k) cs w):=
 step_lone_go (by simp [stepG,stepG.exec,Frame.atR])
theorem zkM {F:Fence} {n:Nat} {P:Program} {Q:Exit->Act->World->Prop} {a:Act} {w:World} {c:Code} (h:c.wpIn F n P (Exit.noGoto Q) a w):(Code.scope c).wpIn F n P Q a w:=by
 intro b k cs hro hb hr
 have h0:(lone (b.atR a (.code (.scope c)::k)) cs w).fenced P F:=fenced_calm hb hr rfl
 obtain⟨e,a₁,w₁,hq,harr⟩:=h b (.inScope c::k) cs hro hb hr
 cases e with
 | normal=>exact⟨.normal,a₁,w₁,hq, .head h0 zbJ (StepsIn.trans harr (.one (fenced_calm hb hr rfl) zhz))⟩
 | exit id=>
   have hx:exitTo id (.inScope c::k)=exitTo id k:=by simp [exitTo]
   exact⟨.exit id,a₁,w₁,hq,fun k' hk=> .head h0 zbJ (harr.1 k' (by rw [hx]; exact hk)),
    fun hr' hk=>let ⟨k₁,h1,h2⟩:=harr.2 hr' (by rw [hx]; exact hk); ⟨k₁,h1, .head h0 zbJ h2⟩⟩
 | goto l=>exact hq.elim
 | ret=>exact⟨_,a₁,w₁,hq, .of_steps (.one h0 zbJ) harr⟩
 | panic ch=>exact⟨_,a₁,w₁,hq, .of_steps (.one h0 zbJ) harr⟩
 | outgrown=>exact⟨_,a₁,w₁,hq, .of_steps (.one h0 zbJ) harr⟩
theorem zqd {P:Program} {env:Env} {nt:Nat} {Q:Exit->St->Prop} {s:St} {c:Code} (h:awp P env nt c (zsj Q) s):awp P env nt (.scope c) Q s:=fun ro x he hn a w m hS=>
 zkM (wpIn_mono (h ro x he hn a w m hS) fun e a' w' ⟨s',m',q,hs⟩=>by
  cases e with
  | goto l=>exact q.elim
  | _=>exact⟨s',m',q,hs⟩)
end
section
theorem zoC (env:Env) (c:ChD) (hc:Right c) (i:Int):Con Tryz.prog env 74 [.agg (chAV c),I i] (.own 3 1 ((upL c i).map intAV)):=by
 have hlen:=hc.few
 have hul:(upL c i).length<=40:=zjk 40 i
 refine zaa Tryz.func74 rfl Tryz.call74 (by rw [Tryz.ntmps74]; simp) ?_
 rw [Tryz.ntmps74,Tryz.results74]
 have F:=chAV.eq_1
 repeat refine st ?_
 refine zac (D:=Int×List Int) (fun d vs=>[(1,I d.1),(2, .loc 2 (vs 2) 0 0),(5, .row 7 (vs 7)),(6,I d.2.length)]) (fun d _=>[(2,⟨5,[chAV c],26,false⟩),(7,⟨1,d.2.map intAV,3,true⟩)]) (fun d _ esc=>upL c i=d.2++upL c d.1/\esc 7=false/\(d.2=[]\/d.2.length<40-(d.1+1).toNat\/d.1<40)) (fun d=>(d.1+1).toNat) (i,[]) ?_ ?_ ?_ ?_
 ·exact⟨rfl,rfl, .inl rfl⟩
 ·(simp only [go_sem,F])
  try rfl
 ·have F:=chAV.eq_1
  (simp only [go_sem,F])
  try rfl
 rintro⟨d,l⟩ ws esc ⟨hu,e0, -⟩
 simp only at hu
 have f0:=zld env c d
 have hll:l.length<=40:=by have:=congrArg List.length hu; rw [List.length_append] at this; omega
 cases hz:inZ c d with
 | false=>
   rw [hz] at f0
   rw [zcw hz,List.append_nil] at hu
   by_cases h40:l.length<40
   ·have q1:(l.length:Int)<40:=by omega
    have F:=ai chAV.eq_1<|ai q1<|ai hu<|e0
    repeat (first | refine st ?_ | refine cC f0 ?_)
    exact aR
   ·have q1: ¬(l.length:Int)<40:=by omega
    have F:=ai chAV.eq_1<|ai q1<|ai hu<|e0
    repeat (first | refine st ?_ | refine cC f0 ?_)
    exact aR
 | true=>
   rw [hz] at f0
   obtain⟨k,s,rfl,hs,ha⟩:=zfh hz
   have hp:=zdN hs
   have hlt:=zcn hc hz
   rw [hp] at hlt
   rw [zit hc hz,hp] at hu
   have hl:l.length+1<=40:=by
    have:=congrArg List.length hu
    rw [List.length_append,List.length_cons] at this
    omega
   have q1:(l.length:Int)<40:=by omega
   have q2:((k:Nat):Int)< (c.states.length:Int):=by have:=(zan.1 hz).2; omega
   have q3:IntKind.i64.wrap ((l.length:Int)+1)=((l.length+1:Nat):Int):=zab (Nat.lt_succ_self _) (by omega)
   have hf:Fits (l.length+1) 8:=⟨by omega,by omega⟩
   have F:=ai chAV.eq_1<|ai stAV.eq_1<|ai q1<|ai q2<|ai q3<|ai hs<|ai hf<|e0
   repeat (first | refine st ?_ | refine cC f0 ?_)
   refine⟨(s.parent,l++[s.parent]),⟨?_,by simp only [go_sem,e0], ?_⟩, ?_, ?_, ?_⟩
   ·show upL c i=(l++[s.parent])++upL c s.parent
    rw [hu,List.append_assoc]
    rfl
   ·exact .inr (.inr (by show s.parent<40; omega))
   ·simp only [List.length_append,List.length_singleton]
    (simp only [go_sem,F])
   ·have F:=chAV.eq_1
    (simp only [go_sem,List.map_append,F])
   ·show (s.parent+1).toNat< ((k:Int)+1).toNat
    omega
theorem zfR (env:Env) (c:ChD) (hc:Right c) (k i:Int):Con Tryz.prog env 25 [.agg (chAV c),I k,I i] (B (zax c k i)):=by
 have hul:(upL c i).length<=40:=zjk 40 i
 have f0:=zoC env c hc i
 have f1:=zeR env (upL c i) k (by omega)
 unfold chAV at f0
 unfold zax
 refine zaa Tryz.func25 rfl Tryz.call25 (by rw [Tryz.ntmps25]; simp) ?_
 rw [Tryz.ntmps25,Tryz.results25]
 have F:=chAV.eq_1
 repeat (first | refine st ?_ | refine cC f0 ?_ | refine cC f1 ?_)
 exact aR
theorem znY {c:ChD} (hc:Right c) {k i:Nat} (_hi:i<c.states.length):(mask c i).testBit k=zax c k i:=by
 unfold zax upL mask
 rw [ziQ hc,Bool.eq_iff_iff,decide_eq_true_eq,List.contains_iff_mem]
theorem zhO (env:Env) (c:ChD) (hc:Right c) (k i:Int):Con Tryz.prog env 150 [zaw c,I k,I i] (B (zax c k i)):=by
 have hlen:=hc.few
 have f0:=ziu env c i
 cases hz:inZ c i with
 | false=>
   rw [hz] at f0
   have:zax c k i=false:=by unfold zax; rw [zcw hz]; rfl
   rw [this]
   refine zaa Tryz.func150 rfl Tryz.call150 (by rw [Tryz.ntmps150]; simp) ?_
   rw [Tryz.ntmps150,Tryz.results150]
   repeat (first | refine st0 ?_ | refine cC0 f0 ?_)
   exact aR0
 | true=>
   rw [hz] at f0
   obtain⟨m,s,rfl,hs,ha⟩:=zfh hz
   have hm:=(List.getElem?_eq_some_iff.1 hs).1
   by_cases e:k= -1
   ·subst e
    have:zax c (-1) m=true:=by unfold zax; rw [List.contains_iff_mem]; exact zkN hc (m+1) m hz (by omega)
    rw [this]
    refine zaa Tryz.func150 rfl Tryz.call150 (by rw [Tryz.ntmps150]; simp) ?_
    rw [Tryz.ntmps150,Tryz.results150]
    repeat (first | refine st0 ?_ | refine cC0 f0 ?_)
    exact aR0
   ·have e1:(k == -1)=false:=by simpa using e
    have f1:=ziu env c k
    cases hk:inZ c k with
    | false=>
      rw [hk] at f1
      have:zax c k m=false:=by
       cases hb:zax c k m with
       | false=>rfl
       | true=>
         unfold zax at hb
         have h1:=zgG hc 40 _ _ (List.contains_iff_mem.1 hb)
         rw [zan.2 ⟨by omega,by omega⟩] at hk
         cases hk
      rw [this]
      refine zaa Tryz.func150 rfl Tryz.call150 (by rw [Tryz.ntmps150]; simp) ?_
      rw [Tryz.ntmps150,Tryz.results150]
      have F:=e1
      repeat (first | refine st ?_ | refine cC f0 ?_ | refine cC f1 ?_)
      exact aR
    | true=>
      rw [hk] at f1
      obtain⟨p,sp,rfl,hps,_⟩:=zfh hk
      have hpl:=(List.getElem?_eq_some_iff.1 hps).1
      have hml:mask c m<4294967296:=zfr hc (by omega)
      have f2:=zl0 env (mask c m) hml p (by omega)
      rw [znY hc hm] at f2
      have g1:(mkTo c c.states.length)[m]? =some (mask c m):=by rw [zeD hm,if_pos hm]
      have g2:((m:Nat):Int)< (c.states.length:Int):=by omega
      have g3:=zbT c c.states.length
      refine zaa Tryz.func150 rfl Tryz.call150 (by rw [Tryz.ntmps150]; simp) ?_
      rw [Tryz.ntmps150,Tryz.results150]
      have F:=ai zaw.eq_1<|ai umAV.eq_1<|ai e1<|ai g1<|ai g2<|g3
      repeat (first | refine st ?_ | refine cC f0 ?_ | refine cC f1 ?_ | refine cC f2 ?_)
      exact aR
def za6:List Int->Int->Nat->Int
 | [],_,_=> -1
 | x::l,v,k=>if x=v then k else za6 l v (k+1)
theorem zpk {l:List Int} {v:Int} {k:Nat} {x:Int} (h:l[k]? =some x) (hn:za6 l v 0=za6 (l.drop k) v k):(x=v->za6 l v 0=k)/\(x≠v->za6 l v 0=za6 (l.drop (k+1)) v (k+1)):=by
 obtain⟨hk,rfl⟩:=List.getElem?_eq_some_iff.1 h
 rw [List.drop_eq_getElem_cons hk] at hn
 simp only [za6] at hn
 exact⟨fun e=>by rw [hn,if_pos e],fun e=>by rw [hn,if_neg e]⟩
theorem zpl (v:Int): ∀(l:List Int) (k:Nat),decide (0<=za6 l v k)=l.contains v
 | [],k=>rfl
 | x::l,k=>by
   have ih:=zpl v l (k+1)
   by_cases e:x=v
   ·have e1:za6 (x::l) v k=k:=if_pos e
    rw [e1,Bool.eq_iff_iff,decide_eq_true_eq,List.contains_iff_mem]
    exact⟨fun _=>by rw [e]; exact List.mem_cons_self ..,fun _=>by omega⟩
   ·have e1:za6 (x::l) v k=za6 l v (k+1):=if_neg e
    rw [e1,ih,Bool.eq_iff_iff,List.contains_iff_mem,List.contains_iff_mem,List.mem_cons]
    exact⟨.inr,fun h=>h.resolve_left fun h=>e h.symm⟩
theorem znx (env:Env) (l:List Int) (v:Int) (hl:l.length<=1000000):Con Tryz.prog env 149 [.seq 1 (l.map intAV),I v] (I (za6 l v 0)):=by
 refine zaa Tryz.func149 rfl Tryz.call149 (by rw [Tryz.ntmps149]; simp) ?_
 rw [Tryz.ntmps149,Tryz.results149]
 repeat refine st0 ?_
 refine zac (D:=Nat) (fun k _=>[(0, .seq 1 (l.map intAV)),(1,I v),(7,I l.length),(8,I k)]) (fun _ _=>[]) (fun k _ _=>k<=l.length/\za6 l v 0=za6 (l.drop k) v k) (fun k=>l.length-k) 0 ?_ ?_ ?_ ?_
 ·exact⟨Nat.zero_le _,rfl⟩
 ·(simp only [go_sem])
 ·(simp only [go_sem])
 rintro k ws esc ⟨hk,hi⟩
 by_cases hlt:k<l.length
 ·obtain⟨x,hx,_⟩:=zap hlt
  obtain⟨yes,no⟩:=zpk hx hi
  have k1:=nlt hlt
  have k2:=zab hlt (by omega)
  by_cases e:x=v
  ·rw [yes e]
   have k3:(v==x)=true:=by simp [e]
   have F:=ai k1<|ai k2<|ai k3<|hx
   repeat refine st ?_
   exact aR
  ·have k3:(v==x)=false:=by simpa using fun h=>e h.symm
   have F:=ai k1<|ai k2<|ai k3<|hx
   repeat refine st ?_
   refine⟨k+1,⟨hlt,no e⟩, ?_, ?_, ?_⟩
   ·(simp only [go_sem,F])
   ·(simp only [go_sem,F])
   ·omega
 ·have k1: ¬(k:Int)< (l.length:Int):=by omega
  rw [hi,List.drop_of_length_le (by omega),show za6 [] v k= -1 from rfl]
  have F:=k1
  repeat refine st ?_
  exact aR
theorem zdm (env:Env) (l:List Int) (v:Int) (hl:l.length<=1000000):Con Tryz.prog env 72 [.seq 1 (l.map intAV),I v] (B (l.contains v)):=by
 have h:=zpl v l 0
 refine zaa Tryz.func72 rfl Tryz.call72 (by rw [Tryz.ntmps72]; simp) ?_
 rw [Tryz.ntmps72,Tryz.results72]
 repeat (first | refine st0 ?_ | refine cC0 (znx env l v hl) ?_)
 (refine zah ?_; show (zaG _ _ _).run _=some _; simp only [go_sem])
 exact congrArg B h
theorem zqL {c:ChD} {k:Nat} {s:StD} (hs:c.states[k]? =some s):zds c k=(s.kind==1):=by unfold zds; rw [zce,hs]
theorem Full.src {c:ChD} (h:Full c) {k:Nat} {t:TrD} (ht:c.trans[k]? =some t):inZ c t.src=true/\(t.target= -1\/inZ c t.target=true):=by
 have:=h.tr k t ht
 unfold zcM at this
 simp only [Bool.and_eq_true,Bool.or_eq_true,beq_iff_eq,decide_eq_true_eq] at this
 refine⟨?_,this.2.imp id fun q=>zan.2 q⟩
 have h1:=this.1.1.1.1
 unfold zaM at h1
 split at h1
 ·rename_i s hs
  unfold at_ at hs
  split at hs
  ·rename_i h0
   have:=(List.getElem?_eq_some_iff.1 hs).1
   exact zan.2 ⟨h0,by omega⟩
  ·cases hs
 ·cases h1
end

end Go.Proofs.YtnbjaghjdeicmaaGreatDoor