/- tree.New, of a right chart. -/
import Derived.Test.YtnbjaghjdeicmaaGreatDoorD12
import Derived.Test.YtnbjaghjdeicmaaGreatDoorD6
import Derived.Test.YtnbjaghjdeicmaaGreatDoorD11
import Derived.Test.YtnbjaghjdeicmaaGreatDoorD10
import Derived.LaidHandle
import Derived.Test.YtnbjaghjdeicmaaGreatDoorD9
import Derived.Test.YtnbjaghjdeicmaaGreatDoorD8
set_option maxRecDepth 100000
set_option maxHeartbeats 8000000
set_option linter.unusedSimpArgs false
namespace Go.Proofs.YtnbjaghjdeicmaaGreatDoor
section
open Go.RowKit
theorem zhL {n:Nat} (h:n<=maxLen):n<=9223372036854775807:=by unfold maxLen at h; omega
theorem zer {l:List ActD} (h:l.length<=maxLen/\ ∀y∈l,zd2 y):l.length<=9223372036854775807/\ ∀a∈l,a.name.length<=9223372036854775807:=⟨zhL h.1,fun a ha=>zhL (h.2 a ha).1⟩
theorem zom (env:Env) (a1 a8:Addr) (he:ChEnv env a1 a8) (c:ChD) (hn:c.states.length<=1000000) (i:Nat) (s:StD) (hs:c.states[i]? =some s) (hf:zkQ s):Con Tryz.prog env 200 [.agg (chAV c),I i] (B (zay c i s)):=by
 have hi:i<c.states.length:=(List.getElem?_eq_some_iff.1 hs).1
 have k0:=nlt hi
 have f1:=zb1 env s.name (zhL hf.1)
 have f2:=zqa env c s.name hn
 have f3:=zlV env c i s hs
 have f5:=zgZ env a1 a8 he c s.inn (zer hf.2.1).1 (zer hf.2.1).2
 have f6:=zgZ env a1 a8 he c s.out (zer hf.2.2).1 (zer hf.2.2).2
 unfold zay
 refine zaa Tryz.func200 rfl Tryz.call200 (by rw [Tryz.ntmps200]; simp) ?_
 rw [Tryz.ntmps200,Tryz.results200]
 cases e1:zaJ s.name
 ·have F:=ai chAV.eq_1<|ai k0<|ai hs<|ai stAV.eq_1<|e1
  repeat (first | refine st ?_ | refine cC f1 ?_ | refine cC f2 ?_ | refine cC f3 ?_)
  exact aR
 cases e2:(zhP c s.name==(i:Int))
 ·have F:=ai chAV.eq_1<|ai k0<|ai hs<|ai stAV.eq_1<|ai e1<|e2
  repeat (first | refine st ?_ | refine cC f1 ?_ | refine cC f2 ?_ | refine cC f3 ?_)
  exact aR
 cases e3:zaR c i s
 ·have F:=ai chAV.eq_1<|ai k0<|ai hs<|ai stAV.eq_1<|ai e1<|ai e2<|e3
  repeat (first | refine st ?_ | refine cC f1 ?_ | refine cC f2 ?_ | refine cC f3 ?_)
  exact aR
 have f4:=zon env c i s hs hn (zp7 hi e3) (zhL hf.2.1.1) (zhL hf.2.2.1)
 cases e4:zav c i s
 ·have F:=ai chAV.eq_1<|ai k0<|ai hs<|ai stAV.eq_1<|ai e1<|ai e2<|ai e3<|e4
  repeat (first | refine st ?_ | refine cC f1 ?_ | refine cC f2 ?_ | refine cC f3 ?_ | refine cC f4 ?_)
  exact aR
 cases e5:zbY c.vars.length c.states.length s.inn
 ·have F:=ai chAV.eq_1<|ai k0<|ai hs<|ai stAV.eq_1<|ai e1<|ai e2<|ai e3<|ai e4<|e5
  repeat (first | refine st ?_ | refine cC f1 ?_ | refine cC f2 ?_ | refine cC f3 ?_ | refine cC f4 ?_ | refine cC f5 ?_)
  exact aR
 ·have F:=ai chAV.eq_1<|ai k0<|ai hs<|ai stAV.eq_1<|ai e1<|ai e2<|ai e3<|ai e4<|e5
  repeat (first | refine st ?_ | refine cC f1 ?_ | refine cC f2 ?_ | refine cC f3 ?_ | refine cC f4 ?_ | refine cC f5 ?_ | refine cC f6 ?_)
  exact aR
theorem zg0 {c:ChD} {nm:List UInt8} {j:Nat} {x:VarD} (h:newVar c nm j=true) (hx:c.vars[j]? =some x) (e:(x.name==nm)=false):newVar c nm (j+1)=true:=by
 unfold newVar at h |-
 exact zbW h hx (by rw [e]; rfl)
theorem zse (env:Env) (c:ChD) (hn:c.vars.length<=1000000) (i:Nat) (v:VarD) (hv:c.vars[i]? =some v) (hf:zhn v):Con Tryz.prog env 199 [.agg (chAV c),I i] (B (varB c i v)):=by
 have hi:i<c.vars.length:=(List.getElem?_eq_some_iff.1 hv).1
 have k0:=nlt hi
 have k9:(i:Int)<=(c.vars.length:Int):=by omega
 have f1:=zb1 env v.name (zhL hf)
 have f2:=za2 env v.start
 have hlen:(c.vars.take i).length=i:=by rw [List.length_take]; omega
 refine zaa Tryz.func199 rfl Tryz.call199 (by rw [Tryz.ntmps199]; simp) ?_
 rw [Tryz.ntmps199,Tryz.results199]
 have F:=ai chAV.eq_1<|ai k0<|ai k9<|ai hv<|ai zcO.eq_1<|hlen
 repeat (first | refine oO rfl (by simp only [go_sem,Nat.sub_zero,F]; exact⟨rfl,rfl⟩) ?_ | refine gR ?_ | refine gO ?_ | refine oZ (zas ?_) | refine oZ ?_ | refine oS ?_ | refine gT ?_ | refine gD Tryz.mixed ?_ | refine oB ?_ | refine oK ?_ | (refine oX ?_; simp only [zal,zah, ↓reduceIte,Nat.reduceEqDiff,reduceCtorEq]) | refine oY (by simp only [go_sem,Nat.sub_zero,F]; exact iR) ?_ | refine oN (by simp only [go_sem,Nat.sub_zero,F]; exact iR) ?_)
 refine zac (D:=Nat) (fun j vs=>[(5, .loc 5 (vs 5) 0 0),(16,varsAV (c.vars.take i)),(17,I i),(18,I j)]) (fun _ _=>[(5,⟨2,[zcO v],145,false⟩)]) (fun j _ _=>j<=i/\newVar c v.name j=true) (fun j=>i-j) 0 ?_ ?_ ?_ ?_
 ·exact⟨Nat.zero_le _,rfl⟩
 ·(simp only [go_sem,Nat.sub_zero,F])
 ·(simp only [go_sem,Nat.sub_zero,F])
 rintro j ws esc ⟨hj,hall⟩
 by_cases hlt:j<i
 ·obtain⟨x,hx,_⟩:=zat (show j<c.vars.length by omega)
  have hx':(c.vars.take i)[j]? =some x:=by rw [List.getElem?_take,if_pos hlt]; exact hx
  have k1:=nlt hlt
  have k2:=zab hlt (by omega)
  cases e:(x.name==v.name)
  ·have F:=ai k1<|ai k2<|ai hx'<|ai hlen<|ai zcO.eq_1<|e
   repeat refine st ?_
   refine⟨j+1,⟨hlt,zg0 hall hx e⟩, ?_, ?_, ?_⟩
   ·(simp only [go_sem,F])
   ·(simp only [go_sem,F])
   ·omega
  ·rw [show varB c i v=false by unfold varB newVar; rw [zfS (p:=fun x:VarD=> !(x.name==v.name)) hx' (by rw [e]; rfl)]; rfl]
   have F:=ai k1<|ai k2<|ai hx'<|ai hlen<|ai zcO.eq_1<|e
   repeat refine st ?_
   exact aR
 ·have k1: ¬(j:Int)< (i:Int):=by omega
  obtain rfl:j=i:=by omega
  have hr:varB c j v=(zaJ v.name&& !(v.name == [100,97,116,97])&& !(v.name == [105,110])&&zau v.start):=by
   unfold varB zau
   rw [hall]
   simp only [Bool.true_and,Bool.and_assoc]
  rw [hr]
  cases e1:zaJ v.name
  ·have F:=ai k1<|ai zcO.eq_1<|e1
   repeat (first | refine st ?_ | refine cC f1 ?_ | refine cC f2 ?_)
   exact aR
  cases e2:(v.name == [100,97,116,97])
  ·cases e3:(v.name == [105,110])
   ·have F:=ai k1<|ai zcO.eq_1<|ai e1<|ai e2<|e3
    repeat (first | refine st ?_ | refine cC f1 ?_ | refine cC f2 ?_)
    exact aR
   ·have F:=ai k1<|ai zcO.eq_1<|ai e1<|ai e2<|e3
    repeat (first | refine st ?_ | refine cC f1 ?_ | refine cC f2 ?_)
    exact aR
  ·have F:=ai k1<|ai zcO.eq_1<|ai e1<|e2
   repeat (first | refine st ?_ | refine cC f1 ?_ | refine cC f2 ?_)
   exact aR
end
section
open Go.RowKit
theorem zp9 (env:Env) (a1 a8:Addr) (he:ChEnv env a1 a8) (c:ChD) (t:TrD) (hf:zkP t):Con Tryz.prog env 203 [.agg (chAV c), .agg (trAV t)] (B (zcx c t)):=by
 have f1:=zlW env c t.src
 have f3:=zb1 env t.event (zhL hf.1)
 have f4:=zkd env a1 a8 he c t.guard
 have f5:=zgZ env a1 a8 he c t.acts (zer hf.2.2).1 (zer hf.2.2).2
 have f6:=zlW env c t.target
 have z1:=zb3 t.guard
 by_cases h1:0<=t.src
 case neg=>
  rw [show zcx c t=false by unfold zcx zaA at_; rw [if_neg h1]; rfl]
  refine zaa Tryz.func203 rfl Tryz.call203 (by rw [Tryz.ntmps203]; simp) ?_
  rw [Tryz.ntmps203,Tryz.results203]
  have F:=ai chAV.eq_1<|ai trAV.eq_1<|h1
  repeat (first | refine st ?_ | refine cC f1 ?_)
  exact aR
 obtain⟨m,hm⟩:=zcU h1
 by_cases h2:(m:Int)< (c.states.length:Int)
 case neg=>
  rw [show zcx c t=false by unfold zcx zaA; rw [hm,zbV,List.getElem?_eq_none (by omega)]; rfl]
  have hm':(t.src< (c.states.length:Int))=False:=by rw [hm]; simpa using h2
  refine zaa Tryz.func203 rfl Tryz.call203 (by rw [Tryz.ntmps203]; simp) ?_
  rw [Tryz.ntmps203,Tryz.results203]
  have F:=ai chAV.eq_1<|ai trAV.eq_1<|ai h1<|hm'
  repeat (first | refine st ?_ | refine cC f1 ?_)
  exact aR
 obtain⟨q,hq,_⟩:=zat (show m<c.states.length by omega)
 have f2:=zdo env q
 have hr:zcx c t=(zcc q&&((t.event == [])||zaJ t.event)&&((t.guard == [])||zaH t.guard c.vars.length c.states.length)&&zbY c.vars.length c.states.length t.acts&&((t.target == -1)||(decide (0<=t.target)&&decide (t.target<c.states.length)))):=by unfold zcx; rw [hm,zel hq]
 rw [hr]
 rw [hm] at f1
 cases e1:zcc q
 ·rw [Bool.false_and,Bool.false_and,Bool.false_and,Bool.false_and]
  refine zaa Tryz.func203 rfl Tryz.call203 (by rw [Tryz.ntmps203]; simp) ?_
  rw [Tryz.ntmps203,Tryz.results203]
  have F:=ai chAV.eq_1<|ai trAV.eq_1<|ai stAV.eq_1<|ai hm<|ai h2<|ai hq<|e1
  repeat (first | refine st ?_ | refine cC f1 ?_ | refine cC f2 ?_)
  exact aR
 have body:((t.event == [])||zaJ t.event)=true->Con Tryz.prog env 203 [.agg (chAV c), .agg (trAV t)] (B (((t.guard == [])||zaH t.guard c.vars.length c.states.length)&&zbY c.vars.length c.states.length t.acts&&((t.target == -1)||(decide (0<=t.target)&&decide (t.target<c.states.length))))):=fun hev=>by
  have go: ∀ {b1 b2:Bool},(t.event == [])=b1->(b1=false->zaJ t.event=b2)->(b1||b2)=true->Con Tryz.prog env 203 [.agg (chAV c), .agg (trAV t)] (B (((t.guard == [])||zaH t.guard c.vars.length c.states.length)&&zbY c.vars.length c.states.length t.acts&&((t.target == -1)||(decide (0<=t.target)&&decide (t.target<c.states.length))))):=fun {b1 b2} g1 g2 g3=>by
   refine zaa Tryz.func203 rfl Tryz.call203 (by rw [Tryz.ntmps203]; simp) ?_
   rw [Tryz.ntmps203,Tryz.results203]
   cases b1 with
   | true=>
     cases e4:(t.guard == []) with
     | true=>
       cases e6:zbY c.vars.length c.states.length t.acts with
       | false=>
         have F:=ai chAV.eq_1<|ai trAV.eq_1<|ai stAV.eq_1<|ai hm<|ai h2<|ai hq<|ai e1<|ai g1<|ai z1<|ai e4<|e6
         repeat (first | refine st ?_ | refine cC f1 ?_ | refine cC f2 ?_ | refine cC f3 ?_ | refine cC f4 ?_ | refine cC f5 ?_ | refine cC f6 ?_)
         exact aR
       | true=>
         cases e7:(t.target == -1) with
         | false=>
           have F:=ai chAV.eq_1<|ai trAV.eq_1<|ai stAV.eq_1<|ai hm<|ai h2<|ai hq<|ai e1<|ai g1<|ai z1<|ai e4<|ai e6<|e7
           repeat (first | refine st ?_ | refine cC f1 ?_ | refine cC f2 ?_ | refine cC f3 ?_ | refine cC f4 ?_ | refine cC f5 ?_ | refine cC f6 ?_)
           exact aR
         | true=>
           have F:=ai chAV.eq_1<|ai trAV.eq_1<|ai stAV.eq_1<|ai hm<|ai h2<|ai hq<|ai e1<|ai g1<|ai z1<|ai e4<|ai e6<|e7
           repeat (first | refine st ?_ | refine cC f1 ?_ | refine cC f2 ?_ | refine cC f3 ?_ | refine cC f4 ?_ | refine cC f5 ?_ | refine cC f6 ?_)
           exact aR
     | false=>
       cases e5:zaH t.guard c.vars.length c.states.length with
       | false=>
         have F:=ai chAV.eq_1<|ai trAV.eq_1<|ai stAV.eq_1<|ai hm<|ai h2<|ai hq<|ai e1<|ai g1<|ai z1<|ai e4<|e5
         repeat (first | refine st ?_ | refine cC f1 ?_ | refine cC f2 ?_ | refine cC f3 ?_ | refine cC f4 ?_ | refine cC f5 ?_ | refine cC f6 ?_)
         exact aR
       | true=>
         cases e6:zbY c.vars.length c.states.length t.acts with
         | false=>
           have F:=ai chAV.eq_1<|ai trAV.eq_1<|ai stAV.eq_1<|ai hm<|ai h2<|ai hq<|ai e1<|ai g1<|ai z1<|ai e4<|ai e5<|e6
           repeat (first | refine st ?_ | refine cC f1 ?_ | refine cC f2 ?_ | refine cC f3 ?_ | refine cC f4 ?_ | refine cC f5 ?_ | refine cC f6 ?_)
           exact aR
         | true=>
           cases e7:(t.target == -1) with
           | false=>
             have F:=ai chAV.eq_1<|ai trAV.eq_1<|ai stAV.eq_1<|ai hm<|ai h2<|ai hq<|ai e1<|ai g1<|ai z1<|ai e4<|ai e5<|ai e6<|e7
             repeat (first | refine st ?_ | refine cC f1 ?_ | refine cC f2 ?_ | refine cC f3 ?_ | refine cC f4 ?_ | refine cC f5 ?_ | refine cC f6 ?_)
             exact aR
           | true=>
             have F:=ai chAV.eq_1<|ai trAV.eq_1<|ai stAV.eq_1<|ai hm<|ai h2<|ai hq<|ai e1<|ai g1<|ai z1<|ai e4<|ai e5<|ai e6<|e7
             repeat (first | refine st ?_ | refine cC f1 ?_ | refine cC f2 ?_ | refine cC f3 ?_ | refine cC f4 ?_ | refine cC f5 ?_ | refine cC f6 ?_)
             exact aR
   | false=>
     have g2:=g2 rfl
     obtain rfl:b2=true:=by simpa using g3
     cases e4:(t.guard == []) with
     | true=>
       cases e6:zbY c.vars.length c.states.length t.acts with
       | false=>
         have F:=ai chAV.eq_1<|ai trAV.eq_1<|ai stAV.eq_1<|ai hm<|ai h2<|ai hq<|ai e1<|ai g1<|ai g2<|ai z1<|ai e4<|e6
         repeat (first | refine st ?_ | refine cC f1 ?_ | refine cC f2 ?_ | refine cC f3 ?_ | refine cC f4 ?_ | refine cC f5 ?_ | refine cC f6 ?_)
         exact aR
       | true=>
         cases e7:(t.target == -1) with
         | false=>
           have F:=ai chAV.eq_1<|ai trAV.eq_1<|ai stAV.eq_1<|ai hm<|ai h2<|ai hq<|ai e1<|ai g1<|ai g2<|ai z1<|ai e4<|ai e6<|e7
           repeat (first | refine st ?_ | refine cC f1 ?_ | refine cC f2 ?_ | refine cC f3 ?_ | refine cC f4 ?_ | refine cC f5 ?_ | refine cC f6 ?_)
           exact aR
         | true=>
           have F:=ai chAV.eq_1<|ai trAV.eq_1<|ai stAV.eq_1<|ai hm<|ai h2<|ai hq<|ai e1<|ai g1<|ai g2<|ai z1<|ai e4<|ai e6<|e7
           repeat (first | refine st ?_ | refine cC f1 ?_ | refine cC f2 ?_ | refine cC f3 ?_ | refine cC f4 ?_ | refine cC f5 ?_ | refine cC f6 ?_)
           exact aR
     | false=>
       cases e5:zaH t.guard c.vars.length c.states.length with
       | false=>
         have F:=ai chAV.eq_1<|ai trAV.eq_1<|ai stAV.eq_1<|ai hm<|ai h2<|ai hq<|ai e1<|ai g1<|ai g2<|ai z1<|ai e4<|e5
         repeat (first | refine st ?_ | refine cC f1 ?_ | refine cC f2 ?_ | refine cC f3 ?_ | refine cC f4 ?_ | refine cC f5 ?_ | refine cC f6 ?_)
         exact aR
       | true=>
         cases e6:zbY c.vars.length c.states.length t.acts with
         | false=>
           have F:=ai chAV.eq_1<|ai trAV.eq_1<|ai stAV.eq_1<|ai hm<|ai h2<|ai hq<|ai e1<|ai g1<|ai g2<|ai z1<|ai e4<|ai e5<|e6
           repeat (first | refine st ?_ | refine cC f1 ?_ | refine cC f2 ?_ | refine cC f3 ?_ | refine cC f4 ?_ | refine cC f5 ?_ | refine cC f6 ?_)
           exact aR
         | true=>
           cases e7:(t.target == -1) with
           | false=>
             have F:=ai chAV.eq_1<|ai trAV.eq_1<|ai stAV.eq_1<|ai hm<|ai h2<|ai hq<|ai e1<|ai g1<|ai g2<|ai z1<|ai e4<|ai e5<|ai e6<|e7
             repeat (first | refine st ?_ | refine cC f1 ?_ | refine cC f2 ?_ | refine cC f3 ?_ | refine cC f4 ?_ | refine cC f5 ?_ | refine cC f6 ?_)
             exact aR
           | true=>
             have F:=ai chAV.eq_1<|ai trAV.eq_1<|ai stAV.eq_1<|ai hm<|ai h2<|ai hq<|ai e1<|ai g1<|ai g2<|ai z1<|ai e4<|ai e5<|ai e6<|e7
             repeat (first | refine st ?_ | refine cC f1 ?_ | refine cC f2 ?_ | refine cC f3 ?_ | refine cC f4 ?_ | refine cC f5 ?_ | refine cC f6 ?_)
             exact aR
  exact go (b1:=(t.event == [])) (b2:=zaJ t.event) rfl (fun _=>rfl) hev
 cases e2:(t.event == [])
 ·cases e3:zaJ t.event
  ·rw [Bool.or_false,Bool.and_false,Bool.false_and,Bool.false_and,Bool.false_and]
   refine zaa Tryz.func203 rfl Tryz.call203 (by rw [Tryz.ntmps203]; simp) ?_
   rw [Tryz.ntmps203,Tryz.results203]
   have F:=ai chAV.eq_1<|ai trAV.eq_1<|ai stAV.eq_1<|ai hm<|ai h2<|ai hq<|ai e1<|ai e2<|e3
   repeat (first | refine st ?_ | refine cC f1 ?_ | refine cC f2 ?_ | refine cC f3 ?_)
   exact aR
  ·simp only [Bool.or_true,Bool.true_and]
   exact body (by rw [e2,e3]; rfl)
 ·simp only [Bool.true_or,Bool.true_and]
  exact body (by rw [e2]; rfl)
end
section
open Go.RowKit
end
section
open Go.RowKit Go.ChangeShapes
theorem zop (env:Env) (a1 a8:Addr) (he:ChEnv env a1 a8) (c:ChD) (hc:zeA c):Con Tryz.prog env 123 [.agg (chAV c)] (zjt a1 a8 c):=
 zqb env a1 a8 he c hc (fun hn i v hv=>zse env c (by omega) i v hv (hc.2.1.2 v (List.mem_of_getElem? hv))) (fun hn i s hs=>zom env a1 a8 he c (by omega) i s hs (hc.2.2.1.2 s (List.mem_of_getElem? hs))) (fun t ht=>zp9 env a1 a8 he c t (hc.2.2.2.2 t ht))
end
section
open Go.RowKit
def rankAll:List Nat->Nat->List Nat->List Nat
 | [],_,rk=>rk
 | k::l,n,rk=>rankAll l (n+1) (rk.set k n)
theorem zgU: ∀(l:List Nat) (n:Nat) (rk:List Nat),(rankAll l n rk).length=rk.length
 | [],_,_=>rfl
 | k::l,n,rk=>by unfold rankAll; rw [zgU,List.length_set]
theorem zgV: ∀(l1 l2:List Nat) (n:Nat) (rk:List Nat),rankAll (l1++l2) n rk=rankAll l2 (n+l1.length) (rankAll l1 n rk)
 | [],_,_,_=>rfl
 | k::l1,l2,n,rk=>by
   show rankAll (l1++l2) (n+1) (rk.set k n)=rankAll l2 (n+(l1.length+1)) (rankAll l1 (n+1) (rk.set k n))
   rw [zgV,Nat.add_assoc,Nat.add_comm 1]
def TR (ps ks ms bs:List (List AV)) (lf:Value) (g:Nat->Nat) (rk l:List Nat):List (Nat×Row):=
 [(1000,⟨7,[[.seq 1 ps, .seq 1 ks, .seq 1 ms, .seq 1 bs, .row 1001 (g 1001), .row 1002 (g 1002), .lit lf]],190,false⟩),(1001,⟨1,rk.map zad,3,true⟩),(1002,⟨1,l.map zad,3,true⟩)]
def wkTo (c:ChD) (K:List Nat) (j:Nat):List Nat:=(K.take j).flatMap fun k=>k::walkL c k
theorem zph {c:ChD} {K:List Nat} {j k:Nat} (h:K[j]? =some k):wkTo c K (j+1)=wkTo c K j++k::walkL c k:=by
 unfold wkTo
 rw [List.take_add_one,h,List.flatMap_append]
 simp
theorem zrT {c:ChD} (K:List Nat):wkTo c K K.length=K.flatMap fun k=>k::walkL c k:=by
 unfold wkTo
 rw [List.take_length]
theorem ztC {c:ChD} (K:List Nat) (j:Nat):(wkTo c K j).length<=(K.flatMap fun k=>k::walkL c k).length:=by
 conv=>rhs; rw [<-List.take_append_drop j K,List.flatMap_append,List.length_append]
 exact Nat.le_add_right _ _
def zo9 (P:Program) (env:Env) (f:FuncId) (c:ChD) (ps ks ms bs:List (List AV)) (lf:Value) (i:Int) (l rk:List Nat):Prop:=
 ConI P env f [1000,1001,1002] (fun k=>k==1002) (fun g=>[.loc 1000 (g 1000) 0 0, .agg (chAV c),I i]) (fun g=>TR ps ks ms bs lf g rk l) (fun g=>TR ps ks ms bs lf g (rankAll (walkL c i) l.length rk) (l++walkL c i)) (fun _=> .lit (.tuple #[]))
theorem zjH (env:Env) (c:ChD) (hc:Right c) (ps ks ms bs:List (List AV)) (lf:Value) (i:Int) (l rk:List Nat) (hi: -1<=i) (hrk:rk.length=c.states.length) (hfew:l.length+(walkL c i).length<=1000000)
 (ih: ∀k∈kidsL c i false,∀l rk,rk.length=c.states.length->l.length+(walkL c k).length<=1000000->zo9 Tryz.prog env 126 c ps ks ms bs lf k l rk):zo9 Tryz.prog env 126 c ps ks ms bs lf i l rk:=by
 unfold zo9 at*
 ·have hlen:=hc.few
  have f0:=zgX env c i (by omega)
  rw [walk_eq hc hi] at hfew |-
  have hK32:(kidsL c i false).length<=32:=Nat.le_trans (za9 c i false _) hlen
  generalize hK:kidsL c i false=K at*
  refine⟨Tryz.call126,_,_,Tryz.func126,rfl,(by intro _; rw [Tryz.ntmps126]; simp), ?_⟩
  intro vs esc hesc
  rw [Tryz.ntmps126,Tryz.results126]
  have e0:=hesc 1000 (by simp)
  have e1:=hesc 1001 (by simp)
  have e2:=hesc 1002 (by simp)
  have F:=ai e0<|ai e1<|ai e2<|chAV.eq_1
  repeat (first | refine oO rfl (by simp only [go_sem,TR,F]; exact⟨rfl,rfl⟩) ?_ | refine gR ?_ | refine gO ?_ | refine oC rfl (f0) (by simp only [go_sem,TR,F]; exact iR) (by simp only [go_sem,TR,F]; exact⟨rfl,rfl⟩) ?_ | refine oZ (zas ?_) | refine oZ ?_ | refine oS ?_ | refine gT ?_ | refine gD Tryz.mixed ?_ | refine oB ?_ | refine oK ?_ | (refine oX ?_; simp only [zal,zah, ↓reduceIte,Nat.reduceEqDiff,reduceCtorEq]) | refine oY (by simp only [go_sem,TR,F]; exact iR) ?_ | refine oN (by simp only [go_sem,TR,F]; exact iR) ?_)
  refine zac (D:=Nat) (fun j vs'=>[(0, .loc 1000 (vs' 1000) 0 0),(4, .loc 4 (vs' 4) 0 0),(10, .row 10 (vs' 10)),(11,I K.length),(12,I j)]) (fun j vs'=>TR ps ks ms bs lf vs' (rankAll (wkTo c K j) l.length rk) (l++wkTo c K j)++[(4,⟨5,[chAV c],26,false⟩),(10,⟨1,K.map zad,3,true⟩)]) (fun j vs' esc'=>(j<=K.length/\vs' 1000=vs 1000/\vs' 1001=vs 1001)/\esc' 1000=false/\esc' 1001=false/\esc' 1002=false) (fun j=>K.length-j) 0 ?_ ?_ ?_ ?_
  ·exact⟨⟨Nat.zero_le _,by simp only [go_sem],by simp only [go_sem]⟩,by simp only [go_sem,e0],by simp only [go_sem,e1],by simp only [go_sem,e2]⟩
  ·(simp only [go_sem,TR,F])
  ·have F:=chAV.eq_1
   (simp only [go_sem,TR,F])
   refine⟨rfl, ?_⟩
   show _=(⟨1,List.map zad (l++[]),3,true⟩:Row)
   rw [List.append_nil]
  try clear e0 e1 e2
  rintro j ws esc' ⟨⟨hj,v0,v1⟩,e0,e1,e2⟩
  by_cases hlt:j<K.length
  ·obtain⟨k,hk⟩: ∃k,K[j]? =some k:=⟨K[j],List.getElem?_eq_getElem hlt⟩
   have hkm:k∈kidsL c i false:=by rw [hK]; exact List.mem_of_getElem? hk
   have hg:=za5 hc hkm
   have hnext:=zph (c:=c) hk
   have hle:=ztC (c:=c) K (j+1)
   have hrl:=zgU (wkTo c K j) l.length rk
   have hra:=zgV (wkTo c K j) (k::walkL c k) l.length rk
   rw [hnext] at hle
   rw [List.length_append,List.length_cons] at hle
   generalize rankAll (wkTo c K j) l.length rk=rk1 at*
   have f1:=ih k (List.mem_of_getElem? hk) (l++wkTo c K j++[k]) (rk1.set k (l++wkTo c K j).length) (by rw [List.length_set,hrl,hrk]) (by simp only [List.length_append,List.length_cons,List.length_nil]; omega)
   have k1:=nlt hlt
   have k2:=zab hlt (by omega)
   have k3:((k:Nat):Int)< (rk1.length:Int):=by rw [hrl,hrk]; omega
   obtain⟨r0,hr0⟩: ∃r0,rk1[k]? =some r0:=⟨rk1[k]'(by omega),List.getElem?_eq_getElem _⟩
   have hf:Fits (l.length+(wkTo c K j).length+1) 8:=⟨by omega,by omega⟩
   have F:=ai e0<|ai e1<|ai e2<|ai chAV.eq_1<|ai k1<|ai k2<|ai k3<|ai hk<|ai hf<|ai zad.eq_1<|hr0
   have hra2:rankAll (wkTo c K (j+1)) l.length rk=rankAll (walkL c k) (l.length+(wkTo c K j).length+1) (rk1.set k (l.length+(wkTo c K j).length)):=by rw [hnext,hra]; rfl
   repeat (first | refine oO rfl (by simp only [go_sem,TR,List.map_append,List.map_set,F]; exact⟨rfl,rfl⟩) ?_ | refine gR ?_ | refine gO ?_ | refine oZ (zas ?_) | refine oZ ?_ | refine oS ?_ | refine gT ?_ | refine gD Tryz.mixed ?_ | refine oB ?_ | refine oK ?_ | (refine oX ?_; simp only [zal,zah, ↓reduceIte,Nat.reduceEqDiff,reduceCtorEq]) | refine oY (by simp only [go_sem,TR,List.map_append,List.map_set,F]; exact iR) ?_ | refine oN (by simp only [go_sem,TR,List.map_append,List.map_set,F]; exact iR) ?_)
   refine zaV [(1000,1000),(1001,1001),(1002,1002)] rfl (f1) (by decide) (by decide) (by simp only [go_sem,TR,List.map_append,List.map_set,F]<;>rfl) (by simp only [go_sem,TR,List.map_append,List.map_set,F,and_self]<;>trivial) (by simp only [go_sem,TR,List.map_append,List.map_set,F,and_self]<;>trivial) (by intro o; simp only [go_sem,TR,List.map_append,List.map_set,F,behind,and_self]<;>trivial) (by intro o; simp only [go_sem,TR,List.map_append,List.map_set,F]<;>rfl) (by simp only [go_sem,TR,List.map_append,List.map_set,F,behind]; exact iR) (by simp only [go_sem,TR,List.map_append,List.map_set,F,behind]; exact iR) ?_
   repeat (first | refine oO rfl (by simp only [go_sem,TR,List.map_append,List.map_set,F]; exact⟨rfl,rfl⟩) ?_ | refine gR ?_ | refine gO ?_ | refine oZ (zas ?_) | refine oZ ?_ | refine oS ?_ | refine gT ?_ | refine gD Tryz.mixed ?_ | refine oB ?_ | refine oK ?_ | (refine oX ?_; simp only [zal,zah, ↓reduceIte,Nat.reduceEqDiff,reduceCtorEq]) | refine oY (by simp only [go_sem,TR,List.map_append,List.map_set,F]; exact iR) ?_ | refine oN (by simp only [go_sem,TR,List.map_append,List.map_set,F]; exact iR) ?_)
   refine⟨j+1,⟨⟨hlt, ?_, ?_⟩, ?_, ?_, ?_⟩, ?_, ?_,by omega⟩
   ·simp only [go_sem]
    exact v0
   ·simp only [go_sem]
    exact v1
   ·simp only [go_sem,e0]
   ·simp only [go_sem,e1]
   ·simp only [go_sem,e2]
   ·(simp only [go_sem,TR,List.map_append,List.map_set,F])
   ·have F:=ai chAV.eq_1<|ai zad.eq_1<|ai hra2<|hnext
    (simp only [go_sem,TR,List.map_append,List.map_set,List.append_assoc,F])
    rw [hra]
    rfl
  ·obtain rfl:j=K.length:=by omega
   have k1: ¬(K.length:Int)< (K.length:Int):=by omega
   have hall:=zrT (c:=c) K
   have F:=ai e0<|ai e1<|ai e2<|ai chAV.eq_1<|ai k1<|ai hall<|ai v0<|v1
   repeat (first | refine oO rfl (by simp only [go_sem,TR,F]; exact⟨rfl,rfl⟩) ?_ | refine gR ?_ | refine gO ?_ | refine oZ (zas ?_) | refine oZ ?_ | refine oS ?_ | refine gT ?_ | refine gD Tryz.mixed ?_ | refine oB ?_ | refine oK ?_ | (refine oX ?_; simp only [zal,zah, ↓reduceIte,Nat.reduceEqDiff,reduceCtorEq]) | refine oY (by simp only [go_sem,TR,F]; exact iR) ?_ | refine oN (by simp only [go_sem,TR,F]; exact iR) ?_)
   (refine ziT ?_ ?_<;>simp only [go_sem,TR,F,implies_true,and_self,imp_self,false_implies,AV.tuple.injEq,exists_eq_left',ne_eq])
theorem zmK (env:Env) (c:ChD) (hc:Right c) (ps ks ms bs:List (List AV)) (lf:Value): ∀(n:Nat) (i:Int) (l rk:List Nat), -1<=i->(c.states.length:Int)<=i+n->rk.length=c.states.length->l.length+(walkL c i).length<=1000000->zo9 Tryz.prog env 126 c ps ks ms bs lf i l rk
 | 0,i,l,rk,hi,hn,hrk,hfew=>zjH env c hc ps ks ms bs lf i l rk hi hrk hfew fun k hk=>by have:=za5 hc hk; omega
 | n+1,i,l,rk,hi,hn,hrk,hfew=>zjH env c hc ps ks ms bs lf i l rk hi hrk hfew fun k hk l rk h1 h2=>by have:=za5 hc hk; exact zmK env c hc ps ks ms bs lf n k l rk (by omega) (by omega) h1 h2
end
section
open Go.RowKit
def umAV (m:Nat):List AV:=[.lit (.int .u32 m)]
def mkTo (c:ChD) (i:Nat):List Nat:=(List.range c.states.length).map fun j=>if j<i then mask c j else 0
def zqx (c:ChD) (i:Nat) (s:StD):Bool:=s.kind != 4&&s.kind != 5&&(((kidsL c i true).length:Int)==0)
def zbo (c:ChD):Nat->Nat
 | 0=>0
 | i+1=>match c.states[i]? with
   | some s=>if zqx c i s then zbo c i||| 2^i else zbo c i
   | none=>zbo c i
theorem zkj (c:ChD):(mkTo c 0).map umAV=List.replicate c.states.length [.lit (.int .u32 0)]:=by
 unfold mkTo
 rw [List.map_map]
 have: ∀n:Nat,(List.range n).map (umAV ∘ fun(j:Nat)=>if j<0 then mask c j else 0)=List.replicate n [.lit (.int .u32 0)]:=fun n=>by
  rw [List.eq_replicate_iff]
  refine⟨by simp,fun b hb=> ?_⟩
  obtain⟨j,_,rfl⟩:=List.mem_map.1 hb
  rfl
 exact this _
theorem zeH {c:ChD} {i j:Nat} (hj:j<c.states.length):(mkTo c i)[j]? =some (if j<i then mask c j else 0):=by
 unfold mkTo
 rw [List.getElem?_map,List.getElem?_range hj]
 rfl
theorem zbT (c:ChD) (i:Nat):(mkTo c i).length=c.states.length:=by simp [mkTo]
theorem zm3 {c:ChD} {i:Nat} (hi:i<c.states.length):(mkTo c i).set i (mask c i)=mkTo c (i+1):=by
 apply List.ext_getElem?
 intro k
 by_cases hk:k<c.states.length
 ·rw [zeH hk,List.getElem?_set,zbT]
  by_cases e:i=k
  ·subst e; simp [hi]
  ·rw [if_neg e,zeH hk]
   by_cases e2:k<i
   ·rw [if_pos e2,if_pos (by omega)]
   ·rw [if_neg e2,if_neg (by omega)]
 ·rw [List.getElem?_eq_none (by rw [List.length_set,zbT]; omega),List.getElem?_eq_none (by rw [zbT]; omega)]
theorem zqk {c:ChD} {i:Nat} (hi:i<c.states.length) (h0:mask c i=0):mkTo c i=mkTo c (i+1):=by
 rw [<-zm3 hi,h0]
 apply List.ext_getElem?
 intro k
 rw [List.getElem?_set,zbT]
 by_cases e:i=k
 ·subst e
  rw [zeH hi]
  simp [hi]
 ·rw [if_neg e]
theorem zmZ {a b:Nat} (ha:a<4294967296) (hb:b<4294967296):bitV .or .u32 (a:Int) (b:Int)=((a||| b:Nat):Int):=by
 have hx:a||| b<2^32:=Nat.or_lt_two_pow (by omega) (by omega)
 show IntKind.u32.wrap ((BitVec.ofInt 32 (a:Int)||| BitVec.ofInt 32 (b:Int)).toNat:Int)=_
 rw [BitVec.toNat_or,ofInt_u32 a ha,ofInt_u32 b hb,IntKind.wrap_u32]
 omega
theorem ziP {p:Nat} (hp:p<32):IntKind.u32.wrap (1*2^min p 32)=((2^p:Nat):Int):=by
 have h:=zdL p hp
 have key: ∀q:Nat,q<4294967296->(q:Int)%4294967296=q:=fun q h=>by omega
 rw [show min p 32=p by omega,IntKind.wrap_u32,Int.one_mul,show ((2:Int)^p)=((2^p:Nat):Int) by rw [Int.natCast_pow]; rfl]
 exact key _ h
theorem zf3 {c:ChD} : ∀ {i:Nat},i<=32->zbo c i<4294967296
 | 0,_=>by show 0<4294967296; decide
 | i+1,h=>by
   have ih:=zf3 (c:=c) (i:=i) (by omega)
   have h2:=zdL i (by omega)
   unfold zbo
   split
   ·split
    ·exact Nat.or_lt_two_pow (n:=32) ih h2
    ·exact ih
   ·exact ih
/-! What is beneath -/
def bitL (m:Nat):List Nat:=(List.range 32).filter fun(b:Nat)=>m/2^b%2==1
theorem zhV (m:Nat):setOf m=(bitL m).map fun(b:Nat)=>(b:Int):=rfl
theorem zrx (m b:Nat):(m/2^b%2==1)=m.testBit b:=by
 rw [Nat.testBit_eq_decide_div_mod_eq]
 rfl
theorem zjv {m b:Nat} :b∈bitL m↔b<32/\m.testBit b=true:=by
 unfold bitL
 rw [List.mem_filter,List.mem_range,zrx]
theorem zo1 (m:Nat):(bitL m).Nodup:=List.Nodup.sublist List.filter_sublist List.nodup_range
def benN (c:ChD):Nat->Nat->Nat
 | 0,_=>0
 | i+1,j=>if (mask c i).testBit j then benN c i j||| 2^i else benN c i j
theorem zis {c:ChD} : ∀ {i:Nat} (j:Nat),i<=32->benN c i j<4294967296
 | 0,_,_=>by show 0<4294967296; decide
 | i+1,j,h=>by
   have ih:=zis (c:=c) (i:=i) j (by omega)
   have h2:=zdL i (by omega)
   unfold benN
   split
   ·exact Nat.or_lt_two_pow (n:=32) ih h2
   ·exact ih
def bnTo (c:ChD) (i:Nat):List Nat:=(List.range c.states.length).map (benN c i)
def zgi (c:ChD) (i m:Nat):List Nat:=(List.range c.states.length).map fun(j:Nat)=>if j∈(bitL (mask c i)).take m then benN c i j||| 2^i else benN c i j
theorem zfp (c:ChD) (i m:Nat):(zgi c i m).length=c.states.length:=by simp [zgi]
theorem zo0 (c:ChD) (i:Nat):zgi c i 0=bnTo c i:=by
 unfold zgi bnTo
 apply List.map_congr_left
 intro j _
 simp
theorem zrw {c:ChD} (h:c.states.length<=32) (i:Nat):zgi c i (bitL (mask c i)).length=bnTo c (i+1):=by
 unfold zgi bnTo
 apply List.map_congr_left
 intro j hj
 have hj:=List.mem_range.1 hj
 rw [List.take_length]
 show _=if (mask c i).testBit j then benN c i j||| 2^i else benN c i j
 by_cases hb:(mask c i).testBit j=true
 ·rw [if_pos (zjv.2 ⟨by omega,hb⟩),if_pos hb]
 ·rw [if_neg (fun hm=>hb (zjv.1 hm).2),if_neg hb]
theorem zsW {c:ChD} {i m k:Nat} (hk:(bitL (mask c i))[m]? =some k) (hn:k<c.states.length):(zgi c i m)[k]? =some (benN c i k):=by
 unfold zgi
 rw [List.getElem?_map,List.getElem?_range hn]
 simp only [Option.map_some,Option.some.injEq]
 rw [if_neg]
 intro hm
 obtain⟨q,hq⟩:=List.mem_iff_getElem?.1 hm
 rw [List.getElem?_take] at hq
 split at hq
 ·rename_i hlt
  obtain⟨h1,h2⟩:=List.getElem?_eq_some_iff.1 hk
  obtain⟨h3,h4⟩:=List.getElem?_eq_some_iff.1 hq
  exact(List.pairwise_iff_getElem.1 (zo1 (mask c i))) q m h3 h1 hlt (h4.trans h2.symm)
 ·cases hq
theorem zrv {c:ChD} {i m k:Nat} (hk:(bitL (mask c i))[m]? =some k) (hn:k<c.states.length):(zgi c i m).set k (benN c i k||| 2^i)=zgi c i (m+1):=by
 apply List.ext_getElem?
 intro j
 rw [List.getElem?_set,zfp]
 by_cases hj:j<c.states.length
 ·unfold zgi
  rw [List.getElem?_map,List.getElem?_range hj,List.getElem?_map,List.getElem?_range hj,List.take_add_one,hk]
  simp only [Option.map_some,Option.toList_some,List.mem_append,List.mem_singleton]
  by_cases e:k=j
  ·subst e
   simp [hn]
  ·rw [if_neg e]
   simp [Ne.symm e]
 ·rw [List.getElem?_eq_none (by rw [zfp]; omega),List.getElem?_eq_none (by rw [zfp]; omega)]
  by_cases e:k=j
  ·omega
  ·rw [if_neg e]
theorem zru (c:ChD):(bnTo c 0).map umAV=List.replicate c.states.length [.lit (.int .u32 0)]:=by
 rw [<-zkj]
 unfold bnTo mkTo
 congr 1
theorem zo2 {c:ChD} (h:Right c) {i m k:Nat} (hk:(bitL (mask c i))[m]? =some k):k<i:=by
 have:=(zjv.1 (List.mem_of_getElem? hk)).2
 rw [zi8 h,decide_eq_true_eq] at this
 have:=zfs h 40 _ _ this
 omega
theorem zmJ {c:ChD} (h:Right c):(walkL c (-1)).length<=c.states.length:=by
 have:=(zea h 40 (-1) (by omega) (by have:=h.few; omega)).length_le_of_subset (l₂:=List.range c.states.length) fun m hm=>List.mem_range.2 ((zdh h m).1 hm)
 simpa using this
def zmT (c:ChD):List Nat:=rankAll (walkL c (-1)) 0 (List.replicate c.states.length 0)
def zaq (c:ChD):AV:= .ref 7 [[.seq 1 (c.states.map fun s=>[I s.parent]), .seq 1 (c.states.map fun s=>[I s.kind]), .seq 1 ((mkTo c c.states.length).map umAV), .seq 1 ((bnTo c c.states.length).map umAV), .seq 1 ((zmT c).map zad), .seq 1 ((walkL c (-1)).map zad), .lit (.int .u32 (zbo c c.states.length))]] 0 0
end
section
open Go.RowKit
theorem zr1 (env:Env) (a1 a8:Addr) (he:ChEnv env a1 a8) (hT: ∀W,env.inv W->TabAt W) (c:ChD) (hc:Right c) (hch:zjt a1 a8 c= .lit .nilIface) (hcf:zeA c):Con Tryz.prog env 49 [.agg (chAV c)] (.tuple [zaq c, .lit .nilIface]):=by
 have hlen:=hc.few
 have f0:=zop env a1 a8 he c hcf
 rw [hch] at f0
 refine zlb Tryz.func49 rfl Tryz.call49 (by rw [Tryz.ntmps49]; simp) ?_
 rw [Tryz.ntmps49,Tryz.results49]
 have F:=chAV.eq_1
 refine za6 ?_
 repeat (first | refine st ?_ | refine cC f0 ?_)
 refine za6 ?_
 repeat (first | refine st ?_ | refine cC f0 ?_)
 refine za6 ?_
 repeat (first | refine st ?_ | refine cC f0 ?_)
 have m0: ¬(c.states.length:Int)<0:=by omega
 have m1: ¬(16777216:Int)< (c.states.length:Int):=by omega
 have m2: ¬(281474976710656:Int)<4*(c.states.length:Int):=by omega
 have m3: ¬(281474976710656:Int)<8*(c.states.length:Int):=by omega
 have F:=ai chAV.eq_1<|ai m0<|ai m1<|ai m2<|m3
 refine za6 ?_
 repeat (first | refine st ?_ | refine cC f0 ?_)
 refine za6 ?_
 repeat (first | refine st ?_ | refine cC f0 ?_)
 refine zaN 28 9000 0 0 ⟨7,[[nilS,nilS, .row 22 1, .row 24 1, .row 26 1,nilS, .lit (.int .u32 0)]],190,false⟩ [nilS,nilS, .row 22 1, .row 24 1, .row 26 1,nilS, .lit (.int .u32 0)] 3 1 (by decide) (by decide) (Nat.succ_ne_zero 6) rfl rfl rfl (by simp only [go_sem,F]; exact iR) (by simp only [go_sem,F]; exact iR) ?_
 refine zaN 28 9001 0 1 ⟨7,[[.row 9000 1,nilS, .row 22 1, .row 24 1, .row 26 1,nilS, .lit (.int .u32 0)]],190,false⟩ [.row 9000 1,nilS, .row 22 1, .row 24 1, .row 26 1,nilS, .lit (.int .u32 0)] 3 1 (by decide) (by decide) (Nat.succ_ne_zero 6) rfl rfl rfl (by simp only [go_sem,F]; exact iR) (by simp only [go_sem,F]; exact iR) ?_
 refine zac (D:=Nat) (fun i vs'=>[(1, .loc 1 (vs' 1) 0 0),(6, .loc 6 (vs' 6) 0 0),(30,stsAV c.states),(31,I c.states.length),(32,I i)])
  (fun i vs'=>[(1,⟨5,[chAV c],26,false⟩),(6,⟨1,[[.loc 28 (vs' 28) 0 0]],96,false⟩),(28,⟨7,[[.row 9000 (vs' 9000), .row 9001 (vs' 9001), .row 22 (vs' 22), .row 24 (vs' 24), .row 26 (vs' 26),nilS, .lit (.int .u32 (zbo c i))]],190,false⟩),
   (22,⟨1,(mkTo c i).map umAV,188,true⟩),(24,⟨1,List.replicate c.states.length [.lit (.int .u32 0)],188,true⟩),(26,⟨1,List.replicate c.states.length [I 0],3,true⟩),
   (9000,⟨1,(c.states.take i).map fun s=>[I s.parent],3,true⟩),(9001,⟨1,(c.states.take i).map fun s=>[I s.kind],3,true⟩)])
  (fun i vs' esc'=>i<=c.states.length/\esc' 22=false/\esc' 24=false/\esc' 26=false/\esc' 28=false/\esc' 9000=false/\esc' 9001=false) (fun i=>c.states.length-i) 0 ?_ ?_ ?_ ?_
 ·refine⟨Nat.zero_le _, ?_, ?_, ?_, ?_, ?_, ?_⟩<;>simp only [go_sem]
 ·(simp only [go_sem,F])
 ·have F:=ai chAV.eq_1<|zbo.eq_1
  (simp only [go_sem,F])
  rw [zkj]
 rintro i ws esc ⟨hi,e0,e1,e2,e3,e4,e5⟩
 by_cases hlt:i<c.states.length
 ·obtain⟨s,hs,_⟩:=zat hlt
  have g1:=nlt hlt
  have g2:=zab hlt (by omega)
  have f1:=zc9 env c i (by omega)
  have hpar:=hc.par i s hs
  have hf:Fits (i+1) 8:=⟨by omega,by omega⟩
  have hti:(c.states.take i).length=i:=by rw [List.length_take]; omega
  have htk:c.states.take (i+1)=c.states.take i++[s]:=by rw [List.take_add_one,hs]; rfl
  have hmi:=zeH (c:=c) (i:=i) hlt
  rw [if_neg (Nat.lt_irrefl i)] at hmi
  have hl:zbo c (i+1)=if zqx c i s then zbo c i||| 2^i else zbo c i:=by
   show (match c.states[i]? with | some s=>if zqx c i s then zbo c i||| 2^i else zbo c i | none=>zbo c i)=_
   rw [hs]
  have g6:=zmZ (a:=zbo c i) (b:=2^i) (zf3 (by omega)) (zdL i (by omega))
  have g7:=ziP (p:=i) (by omega)
  by_cases hp:0<=s.parent
  ·obtain⟨p,hp⟩: ∃p:Nat,s.parent=p:=⟨s.parent.toNat,by omega⟩
   have hmp:=zeH (c:=c) (i:=i) (j:=p) (by omega)
   rw [if_pos (by omega)] at hmp
   have g3:((p:Nat):Int)< (c.states.length:Int):=by omega
   have g4:=ziP (p:=p) (by omega)
   have hnx:mask c i=mask c p||| 2^p:=by
    have:=zkm hc (zaS.2 hlt)
    rw [zc1 hs,hp] at this
    rw [this,if_pos (by omega),Int.toNat_natCast]
   have g5:=zmZ (a:=mask c p) (b:=2^p) (zfE hc (by omega)) (zdL p (by omega))
   rw [<-hnx] at g5
   have hms:=zm3 (c:=c) hlt
   cases q4:(s.kind != 4)<;>cases q5:(s.kind != 5)<;>cases q0:(((kidsL c i true).length:Int)==0)
   all_goals have F:=ai chAV.eq_1<|ai stAV.eq_1<|ai g1<|ai g2<|ai g6<|ai g7<|ai hs<|ai hp<|ai hf<|ai hti<|ai hmi<|ai @zbT<|ai umAV.eq_1<|ai q4<|ai q5<|ai q0<|ai e0<|ai e1<|ai e2<|ai e3<|ai e4<|ai e5<|ai g3<|ai g4<|ai g5<|hmp
   all_goals (repeat (first | refine st ?_ | refine cC f1 ?_))
   all_goals (refine⟨i+1,⟨hlt, ?_, ?_, ?_, ?_, ?_, ?_⟩, ?_, ?_,by omega⟩)
   all_goals (first | (show _=false; simp only [go_sem,e0,e1,e2,e3,e4,e5]; done) | skip)
   all_goals have F:=ai chAV.eq_1<|ai stAV.eq_1<|ai g1<|ai g2<|ai g6<|ai g7<|ai hs<|ai hp<|ai hf<|ai hti<|ai hmi<|ai @zbT<|ai umAV.eq_1<|ai q4<|ai q5<|ai q0<|ai e0<|ai e1<|ai e2<|ai e3<|ai e4<|ai e5<|ai g3<|ai g4<|ai g5<|ai hmp<|ai hl<|htk
   all_goals ((simp only [go_sem,zqx,List.map_append, <-hms,List.map_set,F]))
  ·have hp:s.parent= -1:=by omega
   have hm0:mask c i=0:=by
    have:=zkm hc (zaS.2 hlt)
    rw [zc1 hs,hp] at this
    rw [this,if_neg (by omega)]
   have hms:=zqk hlt hm0
   cases q4:(s.kind != 4)<;>cases q5:(s.kind != 5)<;>cases q0:(((kidsL c i true).length:Int)==0)
   all_goals have F:=ai chAV.eq_1<|ai stAV.eq_1<|ai g1<|ai g2<|ai g6<|ai g7<|ai hs<|ai hp<|ai hf<|ai hti<|ai hmi<|ai @zbT<|ai umAV.eq_1<|ai q4<|ai q5<|ai q0<|ai e0<|ai e1<|ai e2<|ai e3<|ai e4<|e5
   all_goals (repeat (first | refine st ?_ | refine cC f1 ?_))
   all_goals (refine⟨i+1,⟨hlt, ?_, ?_, ?_, ?_, ?_, ?_⟩, ?_, ?_,by omega⟩)
   all_goals (first | (show _=false; simp only [go_sem,e0,e1,e2,e3,e4,e5]; done) | skip)
   all_goals have F:=ai chAV.eq_1<|ai stAV.eq_1<|ai g1<|ai g2<|ai g6<|ai g7<|ai hs<|ai hp<|ai hf<|ai hti<|ai hmi<|ai @zbT<|ai umAV.eq_1<|ai q4<|ai q5<|ai q0<|ai e0<|ai e1<|ai e2<|ai e3<|ai e4<|ai e5<|ai hl<|ai htk<|hms
   all_goals ((simp only [go_sem,zqx,List.map_append,F]))
 obtain rfl:i=c.states.length:=by omega
 have g1: ¬(c.states.length:Int)< (c.states.length:Int):=by omega
 have hta:c.states.take c.states.length=c.states:=List.take_length
 have F:=ai chAV.eq_1<|ai g1<|ai e0<|ai e1<|ai e2<|ai e3<|ai e4<|ai e5<|hta
 repeat (first | refine st ?_ | refine cC f0 ?_)
 refine zjy ?_
 refine za6 ?_
 repeat (first | refine st ?_ | refine cC f0 ?_)
 refine zfP ?_
 refine zrD (D:=Nat) (fun i vs'=>[(1, .loc 1 (vs' 1) 0 0),(6, .loc 6 (vs' 6) 0 0),(108, .row 22 (vs' 22)),(109,I c.states.length),(110,I i)])
  (fun i vs'=>[(1,⟨5,[chAV c],26,false⟩),(6,⟨1,[[.loc 28 (vs' 28) 0 0]],96,false⟩),(28,⟨7,[[.row 9000 (vs' 9000), .row 9001 (vs' 9001), .row 22 (vs' 22), .row 24 (vs' 24), .row 26 (vs' 26),nilS, .lit (.int .u32 (zbo c c.states.length))]],190,false⟩),
   (22,⟨1,(mkTo c c.states.length).map umAV,188,true⟩),(24,⟨1,(bnTo c i).map umAV,188,true⟩),(26,⟨1,List.replicate c.states.length [I 0],3,true⟩),
   (9000,⟨1,c.states.map fun s=>[I s.parent],3,true⟩),(9001,⟨1,c.states.map fun s=>[I s.kind],3,true⟩)])
  (fun i vs' esc'=>i<=c.states.length/\esc' 22=false/\esc' 24=false/\esc' 26=false/\esc' 28=false/\esc' 9000=false/\esc' 9001=false) (fun i=>c.states.length-i) 0 ?_ ?_ ?_ ?_
 ·refine⟨Nat.zero_le _, ?_, ?_, ?_, ?_, ?_, ?_⟩<;>simp only [go_sem,e0,e1,e2,e3,e4,e5]
 ·have F:=@zbT
  (simp only [go_sem,F])
 ·have F:=ai chAV.eq_1<|hta
  (simp only [go_sem,F])
  rw [zru]
 try clear e0 e1 e2 e3 e4 e5
 rintro i ws esc ⟨hi,e0,e1,e2,e3,e4,e5⟩
 by_cases hlt:i<c.states.length
 ·have g1:=nlt hlt
  have g2:=zab hlt (by omega)
  have hm:=zeH (c:=c) (i:=c.states.length) hlt
  rw [if_pos hlt] at hm
  have F:=ai chAV.eq_1<|ai g1<|ai g2<|ai hm<|ai @zbT<|ai umAV.eq_1<|ai e0<|ai e1<|ai e2<|ai e3<|ai e4<|e5
  refine za6 ?_
  repeat (first | refine st ?_ | refine cC f0 ?_)
  refine za6 ?_
  repeat (first | refine st ?_ | refine cC f0 ?_)
  refine zjy ?_
  refine zfP ?_
  refine za6 ?_
  repeat (first | refine st ?_ | refine cC f0 ?_)
  refine za6 ?_
  repeat (first | refine st ?_ | refine cC f0 ?_)
  refine zfP ?_
  refine zo6 (D:=Unit) (f:=125) (first:= #[.int .u32 (mask c i)]) (ks:=(setOf (mask c i)).map (Value.int .i64))
   (fun m _ vs'=>[(1,⟨5,[chAV c],26,false⟩),(6,⟨1,[[.loc 28 (vs' 28) 0 0]],96,false⟩),(9,⟨1,[[I i]],3,false⟩),(28,⟨7,[[.row 9000 (vs' 9000), .row 9001 (vs' 9001), .row 22 (vs' 22), .row 24 (vs' 24), .row 26 (vs' 26),nilS, .lit (.int .u32 (zbo c c.states.length))]],190,false⟩),
    (22,⟨1,(mkTo c c.states.length).map umAV,188,true⟩),(24,⟨1,(zgi c i m).map umAV,188,true⟩),(26,⟨1,List.replicate c.states.length [I 0],3,true⟩),
    (9000,⟨1,c.states.map fun s=>[I s.parent],3,true⟩),(9001,⟨1,c.states.map fun s=>[I s.kind],3,true⟩)])
   (fun m _ vs' esc'=>(vs' 1=ws 1/\vs' 6=ws 6/\vs' 22=ws 22/\vs' 9=ws 9+1)/\esc' 22=false/\esc' 24=false/\esc' 26=false/\esc' 28=false/\esc' 9000=false/\esc' 9001=false) ()
   (by simp only [go_sem,hm,umAV]) (by decide) ((zoQ (mask c i) (zfE hc (by omega))).mono hT) ?_ ?_ ?_ ?_
  ·refine⟨⟨?_, ?_, ?_, ?_⟩, ?_, ?_, ?_, ?_, ?_, ?_⟩<;>simp only [go_sem,e0,e1,e2,e3,e4,e5]
  ·(simp only [go_sem,F])
   rw [zo0]
  ·rintro m _ v vs' esc' -⟨⟨q1,q2,q3,q4⟩,e0,e1,e2,e3,e4,e5⟩ hk
   obtain⟨k,hkL,rfl⟩: ∃k,(bitL (mask c i))[m]? =some k/\v= .int .i64 (k:Nat):=by
    rw [zhV,List.map_map,List.getElem?_map] at hk
    obtain⟨k,h1,h2⟩:=Option.map_eq_some_iff.1 hk
    exact⟨k,h1,h2.symm⟩
   have hki:=zo2 hc hkL
   have g3:((k:Nat):Int)< (c.states.length:Int):=by omega
   have hb:=zsW hkL (by omega)
   have hs:=zrv hkL (by omega)
   have g4:=ziP (p:=i) (by omega)
   have g5:=zmZ (a:=benN c i k) (b:=2^i) (zis k (by omega)) (zdL i (by omega))
   have F:=ai chAV.eq_1<|ai q1<|ai q2<|ai q3<|ai q4<|ai g3<|ai g4<|ai g5<|ai hb<|ai @zfp<|ai umAV.eq_1<|ai e0<|ai e1<|ai e2<|ai e3<|ai e4<|e5
   repeat refine st ?_
   refine⟨(),⟨⟨?_, ?_, ?_, ?_⟩, ?_, ?_, ?_, ?_, ?_, ?_⟩, ?_⟩
   all_goals (first | (simp only [go_sem,q1,q2,q3,q4,e0,e1,e2,e3,e4,e5]; done) | skip)
   have F:=ai chAV.eq_1<|ai q1<|ai q2<|ai q3<|ai q4<|umAV.eq_1
   (simp only [go_sem, <-hs,List.map_set,F])
  ·rintro _ vs' esc' -⟨⟨q1,q2,q3,q4⟩,e0,e1,e2,e3,e4,e5⟩
   have hks:(setOf (mask c i)).length=(bitL (mask c i)).length:=by rw [zhV,List.length_map]
   have hall:=zrw (c:=c) hlen i
   refine zmz ?_
   have F:=ai chAV.eq_1<|ai q1<|ai q2<|ai q3<|ai q4<|ai g1<|g2
   repeat refine st ?_
   refine⟨i+1,⟨hlt, ?_, ?_, ?_, ?_, ?_, ?_⟩, ?_, ?_,by omega⟩
   all_goals (first | (show _=false; simp only [go_sem,e0,e1,e2,e3,e4,e5]; done) | skip)
   ·have F:=ai chAV.eq_1<|ai q1<|ai q2<|ai q3<|q4
    (simp only [go_sem,F])
   ·have F:=ai chAV.eq_1<|ai q1<|ai q2<|ai q3<|ai q4<|ai hks<|hall
    (simp only [go_sem,F])
 ·obtain rfl:i=c.states.length:=by omega
  have g1: ¬(c.states.length:Int)< (c.states.length:Int):=by omega
  have F:=ai chAV.eq_1<|ai g1<|ai e0<|ai e1<|ai e2<|ai e3<|ai e4<|e5
  refine za6 ?_
  repeat refine st ?_
  refine za6 ?_
  repeat refine st ?_
  refine zmz ?_
  refine zaN 28 9002 0 5 ⟨7,[[.row 9000 (ws 9000), .row 9001 (ws 9001), .row 22 (ws 22), .row 24 (ws 24), .row 26 (ws 26),nilS, .lit (.int .u32 (zbo c c.states.length))]],190,false⟩ [.row 9000 (ws 9000), .row 9001 (ws 9001), .row 22 (ws 22), .row 24 (ws 24), .row 26 (ws 26),nilS, .lit (.int .u32 (zbo c c.states.length))] 3 1 (by decide) (by decide) (Nat.succ_ne_zero 6) rfl rfl rfl (by simp only [go_sem,F]; exact iR) (by simp only [go_sem,F]; exact iR) ?_
  refine zdg [(9000,⟨1,c.states.map fun s=>[I s.parent],3,true⟩),(9001,⟨1,c.states.map fun s=>[I s.kind],3,true⟩),(22,⟨1,(mkTo c c.states.length).map umAV,188,true⟩),(24,⟨1,(bnTo c c.states.length).map umAV,188,true⟩)] ?_ ?_
  ·(simp only [go_sem,F])
  refine zfq [(1, .loc 1 (ws 1) 0 0),(6, .loc 6 (ws 6) 0 0)] [(1,⟨5,[chAV c],26,false⟩),(6,⟨1,[[.loc 28 (ws 28) 0 0]],96,false⟩),(28,⟨7,[[.seq 1 (c.states.map fun s=>[I s.parent]), .seq 1 (c.states.map fun s=>[I s.kind]), .seq 1 ((mkTo c c.states.length).map umAV), .seq 1 ((bnTo c c.states.length).map umAV), .row 26 (ws 26), .row 9002 (ws 9002+1), .lit (.int .u32 (zbo c c.states.length))]],190,false⟩),
   (26,⟨1,List.replicate c.states.length [I 0],3,true⟩),(9002,⟨1,[],3,true⟩)] ?_ ?_ ?_
  ·(simp only [go_sem,seenSt,seesR,zcq,Row.see,AV.see,AV.see.seeL,Option.getD_none])
  ·have F:=chAV.eq_1
   (simp only [go_sem,seenSt,seesR,zcq,Row.see,AV.see,AV.see.seeL,Option.getD_none,F])
  have hwl:=zmJ hc
  have f1:zo9 Tryz.prog env 126 c (c.states.map fun s=>[I s.parent]) (c.states.map fun s=>[I s.kind]) ((mkTo c c.states.length).map umAV) ((bnTo c c.states.length).map umAV) (.int .u32 (zbo c c.states.length)) (-1) [] (List.replicate c.states.length 0):=
   zmK env c hc _ _ _ _ _ 40 (-1) [] (List.replicate c.states.length 0) (by omega) (by omega) (by simp) (by simp; omega)
  unfold zo9 at f1
  have F:=ai chAV.eq_1<|ai zad.eq_1<|ai e0<|ai e1<|ai e2<|ai e3<|ai e4<|e5
  repeat (first | refine oO rfl (by simp only [go_sem,TR,List.map_replicate,seenSt,seesR,F]; exact⟨rfl,rfl⟩) ?_ | refine gR ?_ | refine gO ?_ | refine oZ (zas ?_) | refine oZ ?_ | refine oS ?_ | refine gT ?_ | refine gD Tryz.mixed ?_ | refine oB ?_ | refine oK ?_ | (refine oX ?_; simp only [zal,zah, ↓reduceIte,Nat.reduceEqDiff,reduceCtorEq]) | refine oY (by simp only [go_sem,TR,List.map_replicate,seenSt,seesR,F]; exact iR) ?_ | refine oN (by simp only [go_sem,TR,List.map_replicate,seenSt,seesR,F]; exact iR) ?_)
  refine zaV [(1000,28),(1001,26),(1002,9002)] rfl (f1) (by decide) (by decide) (by simp only [go_sem,TR,List.map_replicate,seenSt,seesR,F]<;>rfl) (by simp only [go_sem,TR,List.map_replicate,seenSt,seesR,F,and_self]<;>trivial) (by simp only [go_sem,TR,List.map_replicate,seenSt,seesR,F,and_self]<;>trivial) (by intro o; simp only [go_sem,TR,List.map_replicate,seenSt,seesR,F,behind,and_self]<;>trivial) (by intro o; simp only [go_sem,TR,List.map_replicate,seenSt,seesR,F]<;>rfl) (by simp only [go_sem,TR,List.map_replicate,seenSt,seesR,F,behind]; exact iR) (by simp only [go_sem,TR,List.map_replicate,seenSt,seesR,F,behind]; exact iR) ?_
  repeat (first | refine oO rfl (by simp only [go_sem,TR,List.map_replicate,seenSt,seesR,F]; exact⟨rfl,rfl⟩) ?_ | refine gR ?_ | refine gO ?_ | refine oZ (zas ?_) | refine oZ ?_ | refine oS ?_ | refine gT ?_ | refine gD Tryz.mixed ?_ | refine oB ?_ | refine oK ?_ | (refine oX ?_; simp only [zal,zah, ↓reduceIte,Nat.reduceEqDiff,reduceCtorEq]) | refine oY (by simp only [go_sem,TR,List.map_replicate,seenSt,seesR,F]; exact iR) ?_ | refine oN (by simp only [go_sem,TR,List.map_replicate,seenSt,seesR,F]; exact iR) ?_)
  refine zdg [(26,⟨1,(zmT c).map zad,3,true⟩),(9002,⟨1,(walkL c (-1)).map zad,3,true⟩)] ?_ ?_
  ·(simp only [go_sem,zmT])
  refine zfq [(2, .loc 28 (ws 28) 0 0),(3, .lit .nilIface)] [(28,⟨7,[[.seq 1 (c.states.map fun s=>[I s.parent]), .seq 1 (c.states.map fun s=>[I s.kind]), .seq 1 ((mkTo c c.states.length).map umAV), .seq 1 ((bnTo c c.states.length).map umAV), .seq 1 ((zmT c).map zad), .seq 1 ((walkL c (-1)).map zad), .lit (.int .u32 (zbo c c.states.length))]],190,false⟩)] ?_ ?_ ?_
  ·(simp only [go_sem,seenSt,seesR,zcq,Row.see,AV.see,AV.see.seeL,Option.getD_none])
  ·have F:=chAV.eq_1
   (simp only [go_sem,seenSt,seesR,zcq,Row.see,AV.see,AV.see.seeL,Option.getD_none,F])
  (refine zaf ?_; refine⟨_,(by show (zao _ _ _).run _=some _; simp only [go_sem,seenSt,seesR]; rfl), ?_⟩)
  exact RStr.refl _
end

end Go.Proofs.YtnbjaghjdeicmaaGreatDoor