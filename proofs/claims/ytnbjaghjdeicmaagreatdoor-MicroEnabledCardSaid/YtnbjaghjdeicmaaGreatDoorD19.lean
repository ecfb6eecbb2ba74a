/- What is remembered when states are left, plain: as the program says and as the document says. No program is named here. -/
import Derived.Test.YtnbjaghjdeicmaaGreatDoorD18
import Derived.Test.YtnbjaghjdeicmaaGreatDoorD8
import Derived.Test.YtnbjaghjdeicmaaGreatDoorD6
import Derived.Test.YtnbjaghjdeicmaaGreatDoorD15
import Derived.Test.YtnbjaghjdeicmaaGreatDoorD17
import Derived.Test.YtnbjaghjdeicmaaGreatDoorD14
import Derived.Shelf.Slices.Reverse
import Derived.Shelf.Slices.CompactI
set_option linter.unusedSimpArgs false
namespace Go.Proofs.YtnbjaghjdeicmaaGreatDoor
open Go.RowKit
set_option maxRecDepth 100000
set_option maxHeartbeats 8000000
def chainV (ps:List Int) (e:AV):AV:=ps.foldr (fun p x=>errV p x) e
theorem znE {S:Nat->Nat->Prop} {w:World} {a:Addr} (ha:Lies w a): ∀(ps:List Int) (v:Value),RV S w v (chainV ps (sentV a))->zch w a ps.length v
 | [],v,h=>⟨h.lit_inv,ha⟩
 | p::ps,v,h=>by
   have h:RV S w v (.iface 159 (.ref 3 [[.any,I p,chainV ps (sentV a)]] 0 0)):=h
   cases h with
   | iface t v c h=>
     cases h with
     | ref sz es i off b o u hz hc hr=>
       have h2:=hc 0 2 (chainV ps (sentV a)) rfl
       have h3:=hr 0 2 (chainV ps (sentV a)) rfl
       refine⟨b,o+(0*3+0),u 0 2,rfl, ?_,znE ha ps _ h3⟩
       have:=h2.2.1
       simpa using this
theorem zmI (env:Env) (s:List UInt8) (p:Int) (e:AV):Con Tryz.prog env 44 [Sg s,errV p e] (errV (-1) (errV p e)):=by
 refine zan Tryz.func44 rfl Tryz.call44 (by rw [Tryz.ntmps44]; simp) ?_
 rw [Tryz.ntmps44,Tryz.results44]
 repeat refine st0 ?_
 (refine zaf ?_; refine⟨_,(by show (zao _ _ _).run _=some _; simp only [go_sem]; rfl), ?_⟩)
 exact zfl _ _ _ rfl _ _ (.refl _)
theorem zsG (env:Env) (s:List UInt8) (p:Int) (a:Addr):Con Tryz.prog env 227 [Sg s,I p,sentV a] (errV (max p (-1)) (sentV a)):=by
 refine Con.args (cs:=[Sg s,I p, .iface 379 (.lit (.pointer (some a)))]) ?_ (.cons (.refl _) (.cons (.refl _) (.cons (.ifl _ _) .nil)))
 by_cases h1:p< -1
 ·rw [show max p (-1)= -1 by omega]
  refine zan Tryz.func227 rfl Tryz.call227 (by rw [Tryz.ntmps227]; simp) ?_
  rw [Tryz.ntmps227,Tryz.results227]
  have F:=h1
  repeat refine st ?_
  (refine zaf ?_; refine⟨_,(by show (zao _ _ _).run _=some _; simp only [go_sem,F]; rfl), ?_⟩)
  exact zfl _ _ _ rfl _ _ (.lfi _ _)
 ·rw [show max p (-1)=p by omega]
  refine zan Tryz.func227 rfl Tryz.call227 (by rw [Tryz.ntmps227]; simp) ?_
  rw [Tryz.ntmps227,Tryz.results227]
  have F:=h1
  repeat refine st ?_
  (refine zaf ?_; refine⟨_,(by show (zao _ _ _).run _=some _; simp only [go_sem,F]; rfl), ?_⟩)
  exact zfl _ _ _ rfl _ _ (.lfi _ _)
theorem zo5 (env:Env) (a1 a8:Addr) (he:ChEnv env a1 a8) (p:Int):Con Tryz.prog env 173 [I p] (errV (max p (-1)) (sentV a1)):=by
 have g1:=zhf he.e1
 have f0:=zsG env [108,101,103,97,108,46,67,104,101,99,107] p a1
 refine zaa Tryz.func173 rfl Tryz.call173 (by rw [Tryz.ntmps173]; simp) ?_
 rw [Tryz.ntmps173,Tryz.results173]
 have F:=g1
 repeat (first | refine st ?_ | refine cC f0 ?_)
 exact aR
theorem zh6 {c:ChD} {act:List Int} {j:Nat} {x:Int} (hx:act[j]? =some x) (hall: ∀m,m<j->lgAt c act m=true) (hb:lgAt c act j=false):zfa c act=(1,max x (-1)):=by
 have hj:=(List.getElem?_eq_some_iff.1 hx).1
 unfold zfa
 rw [zbC hj hall hb]
 simp only [List.getD_eq_getElem?_getD,hx,Option.getD_some]
theorem zcf (env:Env) (a1 a8:Addr) (he:ChEnv env a1 a8) (c:ChD) (h:Full c) (hsm:Small c) (act:List Int) (hl:act.length<=1000000):Con Tryz.prog env 88 [zaj c, .seq 1 (act.map intAV)] (chkE a1 c act):=by
 have hlen:=h.few
 have f0:=zax env c hsm
 have f1:=zfh env c (by omega) act hl
 have f2:=fun(k:Nat) (s:StD) (hs:c.states[k]? =some s)=>zsB env c h act k s hs
 have f3:=zbA env c h (-1)
 rw [if_pos (.inl rfl)] at f3
 have hK:=zbb h.toRight (-1) true
 have hKm: ∀j∈kidsL c (-1) true,j<c.states.length:=fun j hj=>by have:=za5 h.toRight (zaW hj).1; omega
 have f4:=zi9 env c.states.length act (kidsL c (-1) true) (by omega) (by omega) hKm
 have fb:=zry env a1 a8 he (-1) (by omega)
 have hfl:=zdr c.states.length act
 unfold zaj at f0 f1 f2 f3 |-
 refine zaa Tryz.func88 rfl Tryz.call88 (by rw [Tryz.ntmps88]; simp) ?_
 rw [Tryz.ntmps88,Tryz.results88]
 have F:=chAV.eq_1
 repeat (first | refine st ?_ | refine cC f0 ?_ | refine cC f1 ?_)
 refine zac (D:=Nat) (fun j vs=>[(0, .ref 9 [tabCells c] 0 0),(1, .seq 1 (act.map intAV)),(5, .loc 5 (vs 5) 0 0),(6, .row 17 (vs 17)),(18, .seq 1 (act.map intAV)),(19,I act.length),(20,I j)]) (fun _ _=>[(5,⟨5,[chAV c],26,false⟩),(17,⟨1,flagA c.states.length act,4,true⟩)]) (fun j _ _=>j<=act.length/\ ∀m,m<j->lgAt c act m=true) (fun j=>act.length-j) 0 ?_ ?_ ?_ ?_
 ·exact⟨Nat.zero_le _,fun m hm=>absurd hm (by omega)⟩
 ·(simp only [go_sem,F])
 ·have F:=chAV.eq_1
  (simp only [go_sem,F])
  try rfl
 rintro j ws esc ⟨hj,hall⟩
 by_cases hlt:j<act.length
 ·obtain⟨x,hx⟩: ∃x,act[j]? =some x:=⟨act[j],List.getElem?_eq_getElem hlt⟩
  have q1:=nlt hlt
  have q2:=zab hlt (by omega)
  have hat:=zja (c:=c) hx
  have fx:=zo5 env a1 a8 he x
  have bad:lgAt c act j=false->chkE a1 c act=errV (max x (-1)) (sentV a1):=fun hb=>znC (zh6 hx hall hb)
  by_cases h0:x<0
  ·rw [bad (by rw [hat,zgs (by unfold inZ; rw [decide_eq_false (by omega)]; rfl),Bool.and_false])]
   have F:=ai hx<|ai q1<|h0
   repeat (first | refine st ?_ | refine cC fx ?_)
   exact aR
  obtain⟨k,rfl⟩:=zcU (show 0<=x by omega)
  by_cases h1:(c.states.length:Int)<=k
  ·rw [bad (by rw [hat,zgs (by unfold inZ; rw [decide_eq_false (p:=(k:Int)<_) (by omega),Bool.and_false]),Bool.and_false])]
   have F:=ai hx<|ai q1<|ai h0<|ai h1<|hfl
   repeat (first | refine st ?_ | refine cC fx ?_)
   exact aR
  obtain⟨s,hs⟩: ∃s,c.states[k]? =some s:=⟨c.states[k]'(by omega),List.getElem?_eq_getElem _⟩
  have f2:=f2 k s hs
  rw [znj hs] at hat
  by_cases hj0:0<j
  ·have q3:(0:Int)< (j:Int):=by omega
   have q4:IntKind.i64.wrap ((j:Int)-1)=((j-1:Nat):Int):=by rw [zaC (by omega) (by omega)]; omega
   have hy:=zp3 hj0 hlt
   have q5:((j-1:Nat):Int)< (act.length:Int):=by omega
   have b0:(j==0)=false:=by simp; omega
   generalize act.getD (j-1) 0=y at*
   by_cases h2:(k:Int)<=y
   ·rw [bad (by rw [hat,b0,decide_eq_false (by omega)]; rfl)]
    have F:=ai hx<|ai q1<|ai h0<|ai h1<|ai hfl<|ai q3<|ai q4<|ai q5<|ai hy<|h2
    repeat (first | refine st ?_ | refine cC fx ?_)
    exact aR
   cases hb:fitB c act k s with
   | false=>
     rw [hb] at f2 hat
     rw [bad (by rw [hat,Bool.and_false])]
     have F:=ai chAV.eq_1<|ai hx<|ai q1<|ai h0<|ai h1<|ai hfl<|ai q3<|ai q4<|ai q5<|ai hy<|h2
     repeat (first | refine st ?_ | refine cC f2 ?_ | refine cC fx ?_)
     exact aR
   | true=>
     rw [hb,b0,decide_eq_true (show y< (k:Int) by omega)] at hat
     rw [hb] at f2
     have F:=ai chAV.eq_1<|ai hx<|ai q1<|ai q2<|ai h0<|ai h1<|ai hfl<|ai q3<|ai q4<|ai q5<|ai hy<|h2
     repeat (first | refine st ?_ | refine cC f2 ?_)
     refine⟨j+1,⟨hlt,fun m hm=>by rcases Nat.lt_succ_iff_lt_or_eq.1 hm with e | e; exact hall m e; rw [e]; exact hat⟩, ?_, ?_,by omega⟩
     ·(simp only [go_sem,F])
     ·have F:=chAV.eq_1
      (simp only [go_sem,F])
  ·have q3: ¬(0:Int)< (j:Int):=by omega
   have b0:(j==0)=true:=by simp; omega
   cases hb:fitB c act k s with
   | false=>
     rw [hb,b0] at hat
     rw [hb] at f2
     rw [bad (by rw [hat,Bool.and_false])]
     have F:=ai chAV.eq_1<|ai hx<|ai q1<|ai h0<|ai h1<|ai hfl<|q3
     repeat (first | refine st ?_ | refine cC f2 ?_ | refine cC fx ?_)
     exact aR
   | true=>
     rw [hb,b0] at hat
     rw [hb] at f2
     have F:=ai chAV.eq_1<|ai hx<|ai q1<|ai q2<|ai h0<|ai h1<|ai hfl<|q3
     repeat (first | refine st ?_ | refine cC f2 ?_)
     refine⟨j+1,⟨hlt,fun m hm=>by rcases Nat.lt_succ_iff_lt_or_eq.1 hm with e | e; exact hall m e; rw [e]; exact hat⟩, ?_, ?_,by omega⟩
     ·(simp only [go_sem,F])
     ·have F:=chAV.eq_1
      (simp only [go_sem,F])
 ·obtain rfl:j=act.length:=by omega
  have q1: ¬(act.length:Int)< (act.length:Int):=by omega
  have hc1:zfa c act=if manyI act (kidsL c (-1) true)=1 then(0, -1) else(1, -1):=by
   unfold zfa
   rw [zaF hall]
  by_cases hm:manyI act (kidsL c (-1) true)=1
  ·rw [if_pos hm] at hc1
   rw [zt5 hc1]
   have hmi:((manyI act (kidsL c (-1) true):Nat):Int)=1:=by omega
   have F:=ai q1<|hmi
   repeat (first | refine st ?_ | refine cC f3 ?_ | refine cC f4 ?_)
   exact aR
  ·rw [if_neg hm] at hc1
   rw [znC hc1]
   have hmi:(((manyI act (kidsL c (-1) true):Nat):Int) != 1)=true:=by simp; omega
   have F:=ai q1<|hmi
   repeat (first | refine st ?_ | refine cC f3 ?_ | refine cC f4 ?_ | refine cC fb ?_)
   exact aR
theorem zi2 (env:Env) (c:ChD) (h:Full c) (act:List Int) (hl:act.length<=1000000):Con Tryz.prog env 75 [.agg (chAV c), .seq 1 (act.map intAV)] (.tuple [I (zfa c act).1,I (zfa c act).2]):=by
 have hlen:=h.few
 have f3:=zbf env c (-1) true (by omega)
 have hK:=zbb h.toRight (-1) true
 have f4:=zdQ env act (kidsL c (-1) true) hl (by omega)
 refine zaa Tryz.func75 rfl Tryz.call75 (by rw [Tryz.ntmps75]; simp) ?_
 rw [Tryz.ntmps75,Tryz.results75]
 have F:=chAV.eq_1
 repeat refine st ?_
 refine zac (D:=Nat) (fun j vs=>[(1, .seq 1 (act.map intAV)),(2, .loc 2 (vs 2) 0 0),(6,I j)]) (fun _ _=>[(2,⟨5,[chAV c],26,false⟩)]) (fun j _ _=>j<=act.length/\ ∀m,m<j->lgAt c act m=true) (fun j=>act.length-j) 0 ?_ ?_ ?_ ?_
 ·exact⟨Nat.zero_le _,fun m hm=>absurd hm (by omega)⟩
 ·(simp only [go_sem,F])
 ·have F:=chAV.eq_1
  (simp only [go_sem,F])
  try rfl
 rintro j ws esc ⟨hj,hall⟩
 by_cases hlt:j<act.length
 ·obtain⟨x,hx⟩: ∃x,act[j]? =some x:=⟨act[j],List.getElem?_eq_getElem hlt⟩
  have q1:=nlt hlt
  have q2:=zab hlt (by omega)
  have q6:max x (-1)=if x< -1 then -1 else x:=by split<;>omega
  have hat:=zja (c:=c) hx
  have f0:=ziZ env c x
  have bad:lgAt c act j=false->zfa c act=(1,max x (-1)):=fun hb=>zh6 hx hall hb
  cases hz:inZ c x with
  | false=>
    rw [hz] at f0
    rw [bad (by rw [hat,zgs hz,Bool.and_false])]
    have F:=ai chAV.eq_1<|ai hx<|ai q1<|q6
    repeat (first | refine st ?_ | refine cC f0 ?_)
    exact aR
  | true=>
    rw [hz] at f0
    obtain⟨k,s,rfl,hs,ha⟩:=zcL hz
    have f2:=zlQ env c h act hl k s hs
    rw [znj hs] at hat
    by_cases hj0:0<j
    ·have q3:(0:Int)< (j:Int):=by omega
     have q4:IntKind.i64.wrap ((j:Int)-1)=((j-1:Nat):Int):=by rw [zaC (by omega) (by omega)]; omega
     have hy:=zp3 hj0 hlt
     have q5:((j-1:Nat):Int)< (act.length:Int):=by omega
     have b0:(j==0)=false:=by simp; omega
     generalize act.getD (j-1) 0=y at*
     by_cases h2:(k:Int)<=y
     ·rw [bad (by rw [hat,b0,decide_eq_false (by omega)]; rfl)]
      have F:=ai chAV.eq_1<|ai hx<|ai q1<|ai q3<|ai q4<|ai q5<|ai q6<|ai hy<|h2
      repeat (first | refine st ?_ | refine cC f0 ?_)
      exact aR
     cases hb:fitB c act k s with
     | false=>
       rw [hb] at f2 hat
       rw [bad (by rw [hat,Bool.and_false])]
       have F:=ai chAV.eq_1<|ai hx<|ai q1<|ai q3<|ai q4<|ai q5<|ai q6<|ai hy<|h2
       repeat (first | refine st ?_ | refine cC f0 ?_ | refine cC f2 ?_)
       exact aR
     | true=>
       rw [hb,b0,decide_eq_true (show y< (k:Int) by omega)] at hat
       rw [hb] at f2
       have F:=ai chAV.eq_1<|ai hx<|ai q1<|ai q2<|ai q3<|ai q4<|ai q5<|ai hy<|h2
       repeat (first | refine st ?_ | refine cC f0 ?_ | refine cC f2 ?_)
       refine⟨j+1,⟨hlt,fun m hm=>by rcases Nat.lt_succ_iff_lt_or_eq.1 hm with e | e; exact hall m e; rw [e]; exact hat⟩, ?_, ?_,by omega⟩
       ·(simp only [go_sem,F])
       ·have F:=chAV.eq_1
        (simp only [go_sem,F])
    ·have q3: ¬(0:Int)< (j:Int):=by omega
     have b0:(j==0)=true:=by simp; omega
     cases hb:fitB c act k s with
     | false=>
       rw [hb,b0] at hat
       rw [hb] at f2
       rw [bad (by rw [hat,Bool.and_false])]
       have F:=ai chAV.eq_1<|ai hx<|ai q1<|ai q3<|q6
       repeat (first | refine st ?_ | refine cC f0 ?_ | refine cC f2 ?_)
       exact aR
     | true=>
       rw [hb,b0] at hat
       rw [hb] at f2
       have F:=ai chAV.eq_1<|ai hx<|ai q1<|ai q2<|q3
       repeat (first | refine st ?_ | refine cC f0 ?_ | refine cC f2 ?_)
       refine⟨j+1,⟨hlt,fun m hm=>by rcases Nat.lt_succ_iff_lt_or_eq.1 hm with e | e; exact hall m e; rw [e]; exact hat⟩, ?_, ?_,by omega⟩
       ·(simp only [go_sem,F])
       ·have F:=chAV.eq_1
        (simp only [go_sem,F])
 ·obtain rfl:j=act.length:=by omega
  have q1: ¬(act.length:Int)< (act.length:Int):=by omega
  have hc1:zfa c act=if manyI act (kidsL c (-1) true)=1 then(0, -1) else(1, -1):=by
   unfold zfa
   rw [zaF hall]
  rw [hc1]
  by_cases hm:manyI act (kidsL c (-1) true)=1
  ·rw [if_pos hm]
   have hmi:((manyI act (kidsL c (-1) true):Nat):Int)=1:=by omega
   have F:=ai chAV.eq_1<|ai q1<|hmi
   repeat (first | refine st ?_ | refine cC f3 ?_ | refine cC f4 ?_)
   exact aR
  ·rw [if_neg hm]
   have hmi:(((manyI act (kidsL c (-1) true):Nat):Int) != 1)=true:=by simp; omega
   have F:=ai chAV.eq_1<|ai q1<|hmi
   repeat (first | refine st ?_ | refine cC f3 ?_ | refine cC f4 ?_)
   exact aR
end Go.Proofs.YtnbjaghjdeicmaaGreatDoor
namespace Go.Proofs.YtnbjaghjdeicmaaGreatDoor
open Go.RowKit
theorem Turned.frozen {s:St} (r t:Nat) (row:Row) (hp:row.pure=true) (hrz:row.sz≠0) (hr:s.rows r=some row) (ht:s.f t= .row r (s.vs r)):Turned s ((s.show r).put (some t) (.seq row.sz row.es)):=fun x a w m hS=>by
 obtain⟨S',q1,q2,q3⟩:=hS.show r row hr hrz hp
 have hv:=hS.slot t
 rw [ht] at hv
 have hv1:a.tmps.getD t undef=m.ρ r:=hv.row_.2 rfl row hr
 exact⟨_,q1.tell t (.seq row.sz row.es) (by rw [hv1]; exact .val q3)⟩
theorem Turned.nil {s:St} (t sz:Nat) (ht:s.f t= .lit (.slice none 0 0)):Turned s (s.put (some t) (.seq sz [])):=fun x a w m hS=>by
 have hv:=hS.slot t
 rw [ht] at hv
 have hv1:=hv.lit_
 exact⟨_,hS.tell t (.seq sz []) (by rw [hv1]; exact .val (Str.nil sz _ _ _ (.lit _)))⟩
section
variable {P:Program} {env:Env} {nt:Nat} {s:St}
theorem zub {c rest:Code} {Q':Exit->St->Prop} {D:Type} (F:D->(Nat->Nat)->List (Nat×AV)) (R:D->(Nat->Nat)->List (Nat×Row)) (inv:D->(Nat->Nat)->(Nat->Bool)->Prop)
 (h1:awp P env nt c (zal (fun s=> ∃d,inv d s.vs s.esc/\zd8 s (F d s.vs)/\zdv s (R d s.vs)) Q') s) (h2: ∀d vs esc,inv d vs esc->awp P env nt rest Q' (head (F d vs) (R d vs) vs esc)):
 awp P env nt c (zal (awp P env nt rest Q') Q') s:=
 znJ h1 fun e s hq=>by
  cases e with
  | normal=>
    obtain⟨d,q1,q2,q3⟩:=hq
    exact zfq _ _ q2 q3 (h2 d _ _ q1)
  | _=>exact hq
end
def ztP (Q:Exit->St->Prop):Exit->St->Prop
 | .goto _,_=>False
 | e,s=>Q e s
theorem zbF {P:Program} {b:Frame} {a:Act} {k:List Item} {cs:List Frame} {w:World} {c:Code} :step P (lone (b.atR a (.code (.scope c)::k)) cs w)= .next (lone (b.atR a (.code c:: .inScope c::k)) cs w):=
 step_lone_go (by simp [stepG,stepG.exec,Frame.atR])
theorem zhD {P:Program} {b:Frame} {a:Act} {k:List Item} {cs:List Frame} {w:World} {c:Code} :step P (lone (b.atR a (.inScope c::k)) cs w)= .next (lone (b.atR a k) cs w):=
 step_lone_go (by simp [stepG,stepG.exec,Frame.atR])
theorem zlq {F:Fence} {n:Nat} {P:Program} {Q:Exit->Act->World->Prop} {a:Act} {w:World} {c:Code} (h:c.wpIn F n P (Exit.noGoto Q) a w):(Code.scope c).wpIn F n P Q a w:=by
 intro b k cs hro hb hr
 have h0:(lone (b.atR a (.code (.scope c)::k)) cs w).fenced P F:=fenced_calm hb hr rfl
 obtain⟨e,a₁,w₁,hq,harr⟩:=h b (.inScope c::k) cs hro hb hr
 cases e with
 | normal=>exact⟨.normal,a₁,w₁,hq, .head h0 zbF (StepsIn.trans harr (.one (fenced_calm hb hr rfl) zhD))⟩
 | exit id=>
   have hx:exitTo id (.inScope c::k)=exitTo id k:=by simp [exitTo]
   exact⟨.exit id,a₁,w₁,hq,fun k' hk=> .head h0 zbF (harr.1 k' (by rw [hx]; exact hk)),
    fun hr' hk=>let ⟨k₁,h1,h2⟩:=harr.2 hr' (by rw [hx]; exact hk); ⟨k₁,h1, .head h0 zbF h2⟩⟩
 | goto l=>exact hq.elim
 | ret=>exact⟨_,a₁,w₁,hq, .of_steps (.one h0 zbF) harr⟩
 | panic ch=>exact⟨_,a₁,w₁,hq, .of_steps (.one h0 zbF) harr⟩
 | outgrown=>exact⟨_,a₁,w₁,hq, .of_steps (.one h0 zbF) harr⟩
theorem zrz {P:Program} {env:Env} {nt:Nat} {Q:Exit->St->Prop} {s:St} {c:Code} (h:awp P env nt c (ztP Q) s):awp P env nt (.scope c) Q s:=fun ro x he hn a w m hS=>
 zlq (wpIn_mono (h ro x he hn a w m hS) fun e a' w' ⟨s',m',q,hs⟩=>by
  cases e with
  | goto l=>exact q.elim
  | _=>exact⟨s',m',q,hs⟩)
end Go.Proofs.YtnbjaghjdeicmaaGreatDoor
set_option linter.unusedSimpArgs false
namespace Go.Proofs.YtnbjaghjdeicmaaGreatDoor
open Go.RowKit
set_option maxRecDepth 100000
set_option maxHeartbeats 8000000
theorem zgW (env:Env) (c:ChD) (hc:Right c) (i:Int):Con Tryz.prog env 74 [.agg (chAV c),I i] (.own 3 1 ((upL c i).map intAV)):=by
 have hlen:=hc.few
 have hul:(upL c i).length<=40:=zeU 40 i
 refine zaa Tryz.func74 rfl Tryz.call74 (by rw [Tryz.ntmps74]; simp) ?_
 rw [Tryz.ntmps74,Tryz.results74]
 have F:=chAV.eq_1
 repeat refine st ?_
 refine zac (D:=Int×List Int) (fun d vs=>[(1,I d.1),(2, .loc 2 (vs 2) 0 0),(5, .row 7 (vs 7)),(6,I d.2.length)]) (fun d _=>[(2,⟨5,[chAV c],26,false⟩),(7,⟨1,d.2.map intAV,3,true⟩)]) (fun d _ esc=>upL c i=d.2++upL c d.1/\esc 7=false/\(d.2=[]\/d.2.length<40-(d.1+1).toNat\/d.1<40)) (fun d=>(d.1+1).toNat) (i,[]) ?_ ?_ ?_ ?_
 ·exact⟨rfl,rfl, .inl rfl⟩
 ·(simp only [go_sem,F])
  try rfl
 ·have F:=chAV.eq_1
  (simp only [go_sem,F])
  try rfl
 rintro⟨d,l⟩ ws esc ⟨hu,e0, -⟩
 simp only at hu
 have f0:=ziZ env c d
 have hll:l.length<=40:=by have:=congrArg List.length hu; rw [List.length_append] at this; omega
 cases hz:inZ c d with
 | false=>
   rw [hz] at f0
   rw [zbM hz,List.append_nil] at hu
   by_cases h40:l.length<40
   ·have q1:(l.length:Int)<40:=by omega
    have F:=ai chAV.eq_1<|ai q1<|ai hu<|e0
    repeat (first | refine st ?_ | refine cC f0 ?_)
    exact aR
   ·have q1: ¬(l.length:Int)<40:=by omega
    have F:=ai chAV.eq_1<|ai q1<|ai hu<|e0
    repeat (first | refine st ?_ | refine cC f0 ?_)
    exact aR
 | true=>
   rw [hz] at f0
   obtain⟨k,s,rfl,hs,ha⟩:=zcL hz
   have hp:=zc1 hs
   have hlt:=zbZ hc hz
   rw [hp] at hlt
   rw [ziD hc hz,hp] at hu
   have hl:l.length+1<=40:=by
    have:=congrArg List.length hu
    rw [List.length_append,List.length_cons] at this
    omega
   have q1:(l.length:Int)<40:=by omega
   have q2:((k:Nat):Int)< (c.states.length:Int):=by have:=(zak.1 hz).2; omega
   have q3:IntKind.i64.wrap ((l.length:Int)+1)=((l.length+1:Nat):Int):=zab (Nat.lt_succ_self _) (by omega)
   have hf:Fits (l.length+1) 8:=⟨by omega,by omega⟩
   have F:=ai chAV.eq_1<|ai stAV.eq_1<|ai q1<|ai q2<|ai q3<|ai hs<|ai hf<|e0
   repeat (first | refine st ?_ | refine cC f0 ?_)
   refine⟨(s.parent,l++[s.parent]),⟨?_,by simp only [go_sem,e0], ?_⟩, ?_, ?_, ?_⟩
   ·show upL c i=(l++[s.parent])++upL c s.parent
    rw [hu,List.append_assoc]
    rfl
   ·exact .inr (.inr (by show s.parent<40; omega))
   ·simp only [List.length_append,List.length_singleton]
    (simp only [go_sem,F])
   ·have F:=chAV.eq_1
    (simp only [go_sem,List.map_append,F])
   ·show (s.parent+1).toNat< ((k:Int)+1).toNat
    omega
theorem zcb (env:Env) (c:ChD) (hc:Right c) (k i:Int):Con Tryz.prog env 25 [.agg (chAV c),I k,I i] (B (aboveB c k i)):=by
 have hul:(upL c i).length<=40:=zeU 40 i
 have f0:=zgW env c hc i
 have f1:=zcT env (upL c i) k (by omega)
 unfold chAV at f0
 unfold aboveB
 refine zaa Tryz.func25 rfl Tryz.call25 (by rw [Tryz.ntmps25]; simp) ?_
 rw [Tryz.ntmps25,Tryz.results25]
 have F:=chAV.eq_1
 repeat (first | refine st ?_ | refine cC f0 ?_ | refine cC f1 ?_)
 exact aR
theorem zo8 {c:ChD} (hc:Right c) {k i:Nat} (_hi:i<c.states.length):(mask c i).testBit k=aboveB c k i:=by
 unfold aboveB upL mask
 rw [zi7 hc,Bool.eq_iff_iff,decide_eq_true_eq,List.contains_iff_mem]
theorem zc3 (env:Env) (c:ChD) (hc:Right c) (k i:Int):Con Tryz.prog env 150 [zaq c,I k,I i] (B (aboveB c k i)):=by
 have hlen:=hc.few
 have f0:=ziG env c i
 cases hz:inZ c i with
 | false=>
   rw [hz] at f0
   have:aboveB c k i=false:=by unfold aboveB; rw [zbM hz]; rfl
   rw [this]
   refine zaa Tryz.func150 rfl Tryz.call150 (by rw [Tryz.ntmps150]; simp) ?_
   rw [Tryz.ntmps150,Tryz.results150]
   repeat (first | refine st0 ?_ | refine cC0 f0 ?_)
   exact aR0
 | true=>
   rw [hz] at f0
   obtain⟨m,s,rfl,hs,ha⟩:=zcL hz
   have hm:=(List.getElem?_eq_some_iff.1 hs).1
   by_cases e:k= -1
   ·subst e
    have:aboveB c (-1) m=true:=by unfold aboveB; rw [List.contains_iff_mem]; exact ziB hc (m+1) m hz (by omega)
    rw [this]
    refine zaa Tryz.func150 rfl Tryz.call150 (by rw [Tryz.ntmps150]; simp) ?_
    rw [Tryz.ntmps150,Tryz.results150]
    repeat (first | refine st0 ?_ | refine cC0 f0 ?_)
    exact aR0
   ·have e1:(k == -1)=false:=by simpa using e
    have f1:=ziG env c k
    cases hk:inZ c k with
    | false=>
      rw [hk] at f1
      have:aboveB c k m=false:=by
       cases hb:aboveB c k m with
       | false=>rfl
       | true=>
         unfold aboveB at hb
         have h1:=zfs hc 40 _ _ (List.contains_iff_mem.1 hb)
         rw [zak.2 ⟨by omega,by omega⟩] at hk
         cases hk
      rw [this]
      refine zaa Tryz.func150 rfl Tryz.call150 (by rw [Tryz.ntmps150]; simp) ?_
      rw [Tryz.ntmps150,Tryz.results150]
      have F:=e1
      repeat (first | refine st ?_ | refine cC f0 ?_ | refine cC f1 ?_)
      exact aR
    | true=>
      rw [hk] at f1
      obtain⟨p,sp,rfl,hps,_⟩:=zcL hk
      have hpl:=(List.getElem?_eq_some_iff.1 hps).1
      have hml:mask c m<4294967296:=zfE hc (by omega)
      have f2:=zmN env (mask c m) hml p (by omega)
      rw [zo8 hc hm] at f2
      have g1:(mkTo c c.states.length)[m]? =some (mask c m):=by rw [zeH hm,if_pos hm]
      have g2:((m:Nat):Int)< (c.states.length:Int):=by omega
      have g3:=zbT c c.states.length
      refine zaa Tryz.func150 rfl Tryz.call150 (by rw [Tryz.ntmps150]; simp) ?_
      rw [Tryz.ntmps150,Tryz.results150]
      have F:=ai zaq.eq_1<|ai umAV.eq_1<|ai e1<|ai g1<|ai g2<|g3
      repeat (first | refine st ?_ | refine cC f0 ?_ | refine cC f1 ?_ | refine cC f2 ?_)
      exact aR
def za1:List Int->Int->Nat->Int
 | [],_,_=> -1
 | x::l,v,k=>if x=v then k else za1 l v (k+1)
theorem zqH {l:List Int} {v:Int} {k:Nat} {x:Int} (h:l[k]? =some x) (hn:za1 l v 0=za1 (l.drop k) v k):(x=v->za1 l v 0=k)/\(x≠v->za1 l v 0=za1 (l.drop (k+1)) v (k+1)):=by
 obtain⟨hk,rfl⟩:=List.getElem?_eq_some_iff.1 h
 rw [List.drop_eq_getElem_cons hk] at hn
 simp only [za1] at hn
 exact⟨fun e=>by rw [hn,if_pos e],fun e=>by rw [hn,if_neg e]⟩
theorem zqI (v:Int): ∀(l:List Int) (k:Nat),decide (0<=za1 l v k)=l.contains v
 | [],k=>rfl
 | x::l,k=>by
   have ih:=zqI v l (k+1)
   by_cases e:x=v
   ·have e1:za1 (x::l) v k=k:=if_pos e
    rw [e1,Bool.eq_iff_iff,decide_eq_true_eq,List.contains_iff_mem]
    exact⟨fun _=>by rw [e]; exact List.mem_cons_self ..,fun _=>by omega⟩
   ·have e1:za1 (x::l) v k=za1 l v (k+1):=if_neg e
    rw [e1,ih,Bool.eq_iff_iff,List.contains_iff_mem,List.contains_iff_mem,List.mem_cons]
    exact⟨.inr,fun h=>h.resolve_left fun h=>e h.symm⟩
theorem zoI (env:Env) (l:List Int) (v:Int) (hl:l.length<=1000000):Con Tryz.prog env 149 [.seq 1 (l.map intAV),I v] (I (za1 l v 0)):=by
 refine zaa Tryz.func149 rfl Tryz.call149 (by rw [Tryz.ntmps149]; simp) ?_
 rw [Tryz.ntmps149,Tryz.results149]
 repeat refine st0 ?_
 refine zac (D:=Nat) (fun k _=>[(0, .seq 1 (l.map intAV)),(1,I v),(7,I l.length),(8,I k)]) (fun _ _=>[]) (fun k _ _=>k<=l.length/\za1 l v 0=za1 (l.drop k) v k) (fun k=>l.length-k) 0 ?_ ?_ ?_ ?_
 ·exact⟨Nat.zero_le _,rfl⟩
 ·(simp only [go_sem])
 ·(simp only [go_sem])
 rintro k ws esc ⟨hk,hi⟩
 by_cases hlt:k<l.length
 ·obtain⟨x,hx,_⟩:=zat hlt
  obtain⟨yes,no⟩:=zqH hx hi
  have k1:=nlt hlt
  have k2:=zab hlt (by omega)
  by_cases e:x=v
  ·rw [yes e]
   have k3:(v==x)=true:=by simp [e]
   have F:=ai k1<|ai k2<|ai k3<|hx
   repeat refine st ?_
   exact aR
  ·have k3:(v==x)=false:=by simpa using fun h=>e h.symm
   have F:=ai k1<|ai k2<|ai k3<|hx
   repeat refine st ?_
   refine⟨k+1,⟨hlt,no e⟩, ?_, ?_, ?_⟩
   ·(simp only [go_sem,F])
   ·(simp only [go_sem,F])
   ·omega
 ·have k1: ¬(k:Int)< (l.length:Int):=by omega
  rw [hi,List.drop_of_length_le (by omega),show za1 [] v k= -1 from rfl]
  have F:=k1
  repeat refine st ?_
  exact aR
theorem zaO (env:Env) (l:List Int) (v:Int) (hl:l.length<=1000000):Con Tryz.prog env 72 [.seq 1 (l.map intAV),I v] (B (l.contains v)):=by
 have h:=zqI v l 0
 refine zaa Tryz.func72 rfl Tryz.call72 (by rw [Tryz.ntmps72]; simp) ?_
 rw [Tryz.ntmps72,Tryz.results72]
 repeat (first | refine st0 ?_ | refine cC0 (zoI env l v hl) ?_)
 (refine zaf ?_; show (zao _ _ _).run _=some _; simp only [go_sem])
 exact congrArg B h
def isT (c:ChD) (n:Int):Bool:=decide (0<=n)&&decide (n<c.trans.length)
theorem ziF (env:Env) (c:ChD) (hs:Small c) (k:Nat) (t:TrD) (ht:c.trans[k]? =some t):Con Tryz.prog env 216 [zaj c,I k] (.tuple [.agg (trAV t),B true]):=by
 have f0:=zax env c hs
 have hk:=(List.getElem?_eq_some_iff.1 ht).1
 have g1:((k:Nat):Int)< (c.trans.length:Int):=by omega
 have g2: ¬(c.trans.length:Int)<=(k:Int):=by omega
 have g3: ¬((k:Nat):Int)<0:=by omega
 refine zaa Tryz.func216 rfl Tryz.call216 (by rw [Tryz.ntmps216]; simp) ?_
 rw [Tryz.ntmps216,Tryz.results216]
 have F:=ai chAV.eq_1<|ai trAV.eq_1<|ai g1<|ai g2<|ai g3<|ht
 repeat (first | refine st ?_ | refine cC f0 ?_)
 exact aR
theorem zi3 {c:ChD} {k:Nat} {s:StD} (hs:c.states[k]? =some s):zbu c k=(s.kind==1):=by unfold zbu; rw [zbV,hs]
theorem zfL (env:Env) (c:ChD) (hc:Right c) (hs:Small c) (t:TrD) (_hsrc:inZ c t.src=true):Con Tryz.prog env 218 [zaj c, .agg (trAV t)] (I (domE c t.src t.target)):=by
 have hlen:=hc.few
 have f0:=zax env c hs
 have f1:=zaL env c
 have f2:=ziE env c hc t.src
 have hul:(upL c t.src).length<=40:=zeU 40 t.src
 have hrange: ∀x∈upL c t.src,x<0\/inZ c x=true:=fun x hx=>by
  rcases Int.lt_or_le x 0 with h | h
  ·exact .inl h
  ·exact .inr (zcZ hc hx h).1
 unfold domE
 generalize upL c t.src=U at*
 unfold zaj at f0 f1 |-
 refine zaa Tryz.func218 rfl Tryz.call218 (by rw [Tryz.ntmps218]; simp) ?_
 rw [Tryz.ntmps218,Tryz.results218]
 have F:=trAV.eq_1
 repeat (first | refine st ?_ | refine cC f0 ?_ | refine cC f1 ?_ | refine cC f2 ?_)
 refine zac (D:=Nat) (fun j vs=>[(0, .ref 9 [tabCells c] 0 0),(3, .loc 3 (vs 3) 0 0),(5, .loc 5 (vs 5) 0 0),(14, .row 14 (vs 14)),(15,I U.length),(16,I j)]) (fun j _=>[(3,⟨5,[trAV t],65,false⟩),(5,⟨5,[chAV c],26,false⟩),(14,⟨1,U.map intAV,3,true⟩)]) (fun j _ _=>j<=U.length/\U.find? (domP c t.target)=(U.drop j).find? (domP c t.target)) (fun j=>U.length-j) 0 ?_ ?_ ?_ ?_
 ·exact⟨Nat.zero_le _,rfl⟩
 ·have F:=ai trAV.eq_1<|chAV.eq_1
  (simp only [go_sem,F])
  try rfl
 ·have F:=ai trAV.eq_1<|chAV.eq_1
  (simp only [go_sem,F])
  try rfl
 rintro j ws esc ⟨hj,hf⟩
 by_cases hlt:j<U.length
 ·obtain⟨x,hx⟩: ∃x,U[j]? =some x:=⟨U[j],List.getElem?_eq_getElem hlt⟩
  have q1:=nlt hlt
  have q2:=zab hlt (by omega)
  rw [zhl hx] at hf
  rcases hrange x (List.mem_of_getElem? hx) with h0 | hz
  ·have hd:domP c t.target x=true:=by unfold domP; rw [decide_eq_true h0]; rfl
   rw [hd] at hf
   simp only [if_true] at hf
   rw [hf,Option.getD_some]
   have F:=ai hx<|q1
   repeat (first | refine oO rfl (by simp only [go_sem,h0,F]; exact⟨rfl,rfl⟩) ?_ | refine gR ?_ | refine gO ?_ | refine oZ (zas ?_) | refine oZ ?_ | refine oS ?_ | refine gT ?_ | refine gD Tryz.mixed ?_ | refine oB ?_ | refine oK ?_ | (refine oX ?_; simp only [zal,zah, ↓reduceIte,Nat.reduceEqDiff,reduceCtorEq]) | refine oY (by simp only [go_sem,h0,F]; exact iR) ?_ | refine oN (by simp only [go_sem,h0,F]; exact iR) ?_)
   (refine zaf ?_; show (zao _ _ _).run _=some _; simp only [go_sem,h0,F])
  ·obtain⟨k,s,rfl,hsk,_⟩:=zcL hz
   have hk:=(List.getElem?_eq_some_iff.1 hsk).1
   have h0: ¬((k:Nat):Int)<0:=by omega
   have q3:((k:Nat):Int)< (c.states.length:Int):=by omega
   have hdp:domP c t.target (k:Int)=(zbu c (k:Int)&&aboveB c (k:Int) t.target):=by unfold domP; rw [decide_eq_false h0,Bool.false_or]
   have hpl:=zi3 hsk
   have f3:=zc3 env c hc k t.target
   cases hk1:(s.kind==1) with
   | false=>
     rw [hdp,hpl,hk1,Bool.false_and] at hf
     simp only [Bool.false_eq_true,if_false] at hf
     have F:=ai trAV.eq_1<|ai chAV.eq_1<|ai stAV.eq_1<|ai hx<|ai hsk<|ai q1<|ai q2<|ai q3<|ai h0<|hk1
     repeat (first | refine st ?_ | refine cC f1 ?_)
     refine⟨j+1,⟨hlt,hf⟩, ?_, ?_,by omega⟩
     ·(simp only [go_sem,F])
     ·have F:=ai trAV.eq_1<|chAV.eq_1
      (simp only [go_sem,F])
   | true=>
     rw [hdp,hpl,hk1,Bool.true_and] at hf
     cases hab:aboveB c (k:Int) t.target with
     | false=>
       rw [hab] at hf f3
       simp only [Bool.false_eq_true,if_false] at hf
       unfold zaq at f1 f3
       have F:=ai trAV.eq_1<|ai chAV.eq_1<|ai stAV.eq_1<|ai hx<|ai hsk<|ai q1<|ai q2<|ai q3<|ai h0<|hk1
       repeat (first | refine st ?_ | refine cC f1 ?_ | refine cC f3 ?_)
       refine⟨j+1,⟨hlt,hf⟩, ?_, ?_,by omega⟩
       ·(simp only [go_sem,F])
       ·have F:=ai trAV.eq_1<|chAV.eq_1
        (simp only [go_sem,F])
     | true=>
       rw [hab] at hf f3
       simp only [if_true] at hf
       rw [hf,Option.getD_some]
       unfold zaq at f1 f3
       have F:=ai trAV.eq_1<|ai chAV.eq_1<|ai stAV.eq_1<|ai hx<|ai hsk<|ai q1<|ai q2<|ai q3<|ai h0<|hk1
       repeat (first | refine st ?_ | refine cC f1 ?_ | refine cC f3 ?_)
       exact aR
 ·obtain rfl:j=U.length:=by omega
  have q1: ¬(U.length:Int)< (U.length:Int):=by omega
  rw [List.drop_length] at hf
  rw [hf]
  simp only [List.find?_nil,Option.getD_none]
  have F:=q1
  repeat refine st ?_
  exact aR
theorem Full.src {c:ChD} (h:Full c) {k:Nat} {t:TrD} (ht:c.trans[k]? =some t):inZ c t.src=true/\(t.target= -1\/inZ c t.target=true):=by
 have:=h.tr k t ht
 unfold zcx at this
 simp only [Bool.and_eq_true,Bool.or_eq_true,beq_iff_eq,decide_eq_true_eq] at this
 refine⟨?_,this.2.imp id fun q=>zak.2 q⟩
 have h1:=this.1.1.1.1
 unfold zaA at h1
 split at h1
 ·rename_i s hs
  unfold at_ at hs
  split at hs
  ·rename_i h0
   have:=(List.getElem?_eq_some_iff.1 hs).1
   exact zak.2 ⟨h0,by omega⟩
  ·cases hs
 ·cases h1
theorem zp0 (env:Env) (c:ChD) (n:Int):Con Tryz.prog env 103 [.agg (chAV c),I n] (B (isT c n)):=by
 unfold isT
 by_cases h0:0<=n
 ·by_cases h1:n< (c.trans.length:Int)
  ·refine zaa Tryz.func103 rfl Tryz.call103 (by rw [Tryz.ntmps103]; simp) ?_
   rw [Tryz.ntmps103,Tryz.results103]
   have F:=ai chAV.eq_1<|ai h0<|h1
   repeat refine st ?_
   exact aR
  ·refine zaa Tryz.func103 rfl Tryz.call103 (by rw [Tryz.ntmps103]; simp) ?_
   rw [Tryz.ntmps103,Tryz.results103]
   have F:=ai chAV.eq_1<|ai h0<|h1
   repeat refine st ?_
   exact aR
 ·refine zaa Tryz.func103 rfl Tryz.call103 (by rw [Tryz.ntmps103]; simp) ?_
  rw [Tryz.ntmps103,Tryz.results103]
  have F:=ai chAV.eq_1<|h0
  repeat refine st ?_
  exact aR
theorem zi1 (env:Env) (c:ChD) (hc:Right c) (t:TrD) (_hsrc:inZ c t.src=true):Con Tryz.prog env 26 [.agg (chAV c), .agg (trAV t)] (I (domE c t.src t.target)):=by
 have hlen:=hc.few
 have f2:=zgW env c hc t.src
 have hul:(upL c t.src).length<=40:=zeU 40 t.src
 have hrange: ∀x∈upL c t.src,x= -1\/inZ c x=true:=fun x hx=>by
  rcases Int.lt_or_le x 0 with h | h
  ·have:=(zfs hc 40 _ _ hx).1
   exact .inl (by omega)
  ·exact .inr (zcZ hc hx h).1
 unfold domE
 generalize upL c t.src=U at*
 unfold chAV at f2
 refine zaa Tryz.func26 rfl Tryz.call26 (by rw [Tryz.ntmps26]; simp) ?_
 rw [Tryz.ntmps26,Tryz.results26]
 have F:=ai trAV.eq_1<|chAV.eq_1
 repeat (first | refine st ?_ | refine cC f2 ?_)
 refine zac (D:=Nat) (fun j vs=>[(2, .loc 2 (vs 2) 0 0),(3, .loc 3 (vs 3) 0 0),(5, .row 10 (vs 10)),(6,I j)]) (fun j _=>[(2,⟨5,[chAV c],26,false⟩),(3,⟨5,[trAV t],65,false⟩),(10,⟨1,U.map intAV,3,true⟩)]) (fun j _ _=>j<=U.length/\U.find? (domP c t.target)=(U.drop j).find? (domP c t.target)) (fun j=>U.length-j) 0 ?_ ?_ ?_ ?_
 ·exact⟨Nat.zero_le _,rfl⟩
 ·have F:=ai trAV.eq_1<|chAV.eq_1
  (simp only [go_sem,F])
  try rfl
 ·have F:=ai trAV.eq_1<|chAV.eq_1
  (simp only [go_sem,F])
  try rfl
 rintro j ws esc ⟨hj,hf⟩
 by_cases hlt:j<U.length
 ·obtain⟨x,hx⟩: ∃x,U[j]? =some x:=⟨U[j],List.getElem?_eq_getElem hlt⟩
  have q1:=nlt hlt
  have q2:=zab hlt (by omega)
  rw [zhl hx] at hf
  rcases hrange x (List.mem_of_getElem? hx) with rfl | hz
  ·have hd:domP c t.target (-1)=true:=by unfold domP; rw [decide_eq_true (by omega)]; rfl
   rw [hd] at hf
   simp only [if_true] at hf
   rw [hf,Option.getD_some]
   have F:=ai hx<|q1
   repeat refine st ?_
   exact aR
  ·obtain⟨k,s,rfl,hsk,_⟩:=zcL hz
   have hk:=(List.getElem?_eq_some_iff.1 hsk).1
   have h0:(((k:Nat):Int) == -1)=false:=by simp
   have q3:((k:Nat):Int)< (c.states.length:Int):=by omega
   have hdp:domP c t.target (k:Int)=(zbu c (k:Int)&&aboveB c (k:Int) t.target):=by unfold domP; rw [decide_eq_false (by omega),Bool.false_or]
   have hpl:=zi3 hsk
   have f3:=zcb env c hc k t.target
   unfold chAV at f3
   cases hk1:(s.kind==1) with
   | false=>
     rw [hdp,hpl,hk1,Bool.false_and] at hf
     simp only [Bool.false_eq_true,if_false] at hf
     have F:=ai trAV.eq_1<|ai chAV.eq_1<|ai stAV.eq_1<|ai hx<|ai hsk<|ai q1<|ai q2<|ai q3<|ai h0<|hk1
     repeat (first | refine st ?_ | refine cC f3 ?_)
     refine⟨j+1,⟨hlt,hf⟩, ?_, ?_,by omega⟩
     ·(simp only [go_sem,F])
     ·have F:=ai trAV.eq_1<|chAV.eq_1
      (simp only [go_sem,F])
   | true=>
     rw [hdp,hpl,hk1,Bool.true_and] at hf
     cases hab:aboveB c (k:Int) t.target with
     | false=>
       rw [hab] at hf f3
       simp only [Bool.false_eq_true,if_false] at hf
       have F:=ai trAV.eq_1<|ai chAV.eq_1<|ai stAV.eq_1<|ai hx<|ai hsk<|ai q1<|ai q2<|ai q3<|ai h0<|hk1
       repeat (first | refine st ?_ | refine cC f3 ?_)
       refine⟨j+1,⟨hlt,hf⟩, ?_, ?_,by omega⟩
       ·(simp only [go_sem,F])
       ·have F:=ai trAV.eq_1<|chAV.eq_1
        (simp only [go_sem,F])
     | true=>
       rw [hab] at hf f3
       simp only [if_true] at hf
       rw [hf,Option.getD_some]
       have F:=ai trAV.eq_1<|ai chAV.eq_1<|ai stAV.eq_1<|ai hx<|ai hsk<|ai q1<|ai q2<|ai q3<|ai h0<|hk1
       repeat (first | refine st ?_ | refine cC f3 ?_)
       exact aR
 ·obtain rfl:j=U.length:=by omega
  have q1: ¬(U.length:Int)< (U.length:Int):=by omega
  rw [List.drop_length] at hf
  rw [hf]
  simp only [List.find?_nil,Option.getD_none]
  have F:=q1
  repeat refine st ?_
  exact aR
end Go.Proofs.YtnbjaghjdeicmaaGreatDoor
namespace Go.Proofs
def Tryz.revI_ren:Go.Shelf.Ren:=⟨fun | 112=>221 | n=>n,fun | 28=>27 | 3=>3 | 4=>4 | 0=>0 | n=>n,fun | n=>n⟩
theorem Tryz.revI:Go.Proofs.Lays.n112 Tryz.prog Tryz.revI_ren:={
 mixed:=by kernel_rfl
 f112:=Tryz.func221.trans (congrArg some (by kernel_rfl))
 t0:=Tryz.underlying0
 a0:=Tryz.isAgg0
 z0:=Tryz.sizeOf0
 v0:=Tryz.zeroValue0
 t3:=Tryz.underlying3
 a3:=Tryz.isAgg3
 z3:=Tryz.sizeOf3
 v3:=Tryz.zeroValue3
 t4:=Tryz.underlying4
 a4:=Tryz.isAgg4
 z4:=Tryz.sizeOf4
 v4:=Tryz.zeroValue4
 t28:=Tryz.underlying27
 a28:=Tryz.isAgg27
 z28:=Tryz.sizeOf27
 v28:=Tryz.zeroValue27 }
def Tryz.compI_ren:Go.Shelf.Ren:=⟨fun | 20=>285 | n=>n,fun | 22=>27 | 3=>3 | 4=>4 | 0=>0 | n=>n,fun | n=>n⟩
theorem Tryz.compI:Go.Proofs.Lays2.n20 Tryz.prog Tryz.compI_ren:={
 mixed:=by kernel_rfl
 f20:=Tryz.func285.trans (congrArg some (by kernel_rfl))
 t0:=Tryz.underlying0
 a0:=Tryz.isAgg0
 z0:=Tryz.sizeOf0
 v0:=Tryz.zeroValue0
 t3:=Tryz.underlying3
 a3:=Tryz.isAgg3
 z3:=Tryz.sizeOf3
 v3:=Tryz.zeroValue3
 t4:=Tryz.underlying4
 a4:=Tryz.isAgg4
 z4:=Tryz.sizeOf4
 v4:=Tryz.zeroValue4
 t22:=Tryz.underlying27
 a22:=Tryz.isAgg27
 z22:=Tryz.sizeOf27
 v22:=Tryz.zeroValue27
 i3:=by kernel_rfl }
end Go.Proofs
namespace Go.Proofs.YtnbjaghjdeicmaaGreatDoor
open Go.RowKit Go.Sort Go.Shelf Go.Lib
theorem Tryz.revIEnter: ∀(args:Array Value) (w:World),(callFunc 221 args).run Tryz.prog w= .ok (.enter 221 args) w:=enters_of Tryz.func221 (by kernel_rfl) rfl
theorem Tryz.compIEnter: ∀(args:Array Value) (w:World),(callFunc 285 args).run Tryz.prog w= .ok (.enter 285 args) w:=enters_of Tryz.func285 (by kernel_rfl) rfl
theorem zhW (l:List Int) (hl:l.length<=9223372036854775807):Turns Tryz.prog 221 [] 3 1 (l.map intC) (l.reverse.map intC):=by
 by_cases h0:l=[]
 ·subst h0
  exact zfu Tryz.revIEnter fun p cap w=>Any.slices_Reverse_int_empty Tryz.revI p cap w
 ·refine zfv (by rw [List.length_map]; exact List.length_pos_iff.2 h0) Tryz.revIEnter (by simp) (fun x hx=> ?_) (fun x hx=> ?_) fun w g cap hH hg=> ?_
  ·obtain⟨y,_,rfl⟩:=List.mem_map.1 hx; rfl
  ·obtain⟨y,_,rfl⟩:=List.mem_map.1 hx
   exact⟨rfl,fun u hu=>by rw [List.mem_singleton.1 hu]; rfl⟩
  ·have hH:Holds id w g 0 (l.map (Value.int .i64)).toArray:=by rw [<-zbU]; exact hH
   have:=Any.slices_Reverse_int Tryz.revI g 0 cap l w (zh9 hH) hl
   rw [List.length_map]
   refine(show Calls Tryz.prog 221 #[.slice (some ⟨g,0,none⟩) l.length cap] w _ from this).mono ?_
   rintro ex w' ⟨rfl,n,rfl⟩
   refine⟨rfl,n, #[], ?_⟩
   have hgr: ∀W:World,grow W #[]=W:=fun W=>by simp [grow]
   rw [hgr,zdS,show (l.reverse.map intC).flatten=l.reverse.map (Value.int .i64) from zbU (Value.int .i64) _]
   simp
theorem zoU (l:List Int) (hl:l.length<=9223372036854775807):Cuts Tryz.prog 285 3 1 (l.map intC) ((Lib.compact l).map intC):=by
 refine⟨Tryz.compIEnter,fun x hx=> ?_,fun w base v ho=> ?_⟩
 ·obtain⟨y,_,rfl⟩:=List.mem_map.1 hx
  exact⟨rfl,fun u hu=>by rw [List.mem_singleton.1 hu]; rfl⟩
 rw [show (l.map intC).flatten=l.map (Value.int .i64) from zbU (Value.int .i64) _,List.length_map] at ho
 rw [show ((Lib.compact l).map intC).flatten=(Lib.compact l).map (Value.int .i64) from zbU (Value.int .i64) _,List.length_map]
 by_cases h0:l=[]
 ·subst h0
  obtain⟨p,cap,rfl⟩: ∃p cap,v= .slice p 0 cap:=by
   rcases ho.2 with⟨rfl,_⟩ | ⟨g,cap,cur,rfl,_⟩
   ·exact⟨_,_,rfl⟩
   ·exact⟨_,_,rfl⟩
  refine(show Calls Tryz.prog 285 #[.slice p 0 cap] w _ from Any.slices_Compact_int_empty Tryz.compI p cap w).mono ?_
  rintro ex w' ⟨rfl,rfl⟩
  exact⟨_,rfl,rfl,⟨rfl,rfl,rfl,Nat.le_refl _,fun _ _ _=>rfl⟩,fun _ h=>h,ho⟩
 ·rcases ho.2 with⟨_,h⟩ | ⟨g,cap,cur,rfl,hbase,hb,h1,h2,h3,h4⟩
  ·exact absurd (List.eq_nil_of_length_eq_zero h) h0
  have hg:g<w.heap.size:=(Array.getElem?_eq_some_iff.1 hb).1
  have hH:Holds (Value.int .i64) w g 0 l.toArray:=fun j hj=>by
   have hj':j<l.length:=by simpa using hj
   have e1:(cur.toList.take (l.length*1))[j]? =(l.map (Value.int .i64))[j]? :=by rw [h4]
   rw [List.getElem?_take_of_lt (by omega),List.getElem?_map,List.getElem?_eq_getElem hj'] at e1
   refine⟨?_,by simp [World.frozen?,hb]⟩
   simp only [World.cell?,hb,Nat.zero_add,Option.isSome_none,Bool.false_eq_true,if_false]
   rw [<-Array.getElem?_toList,e1,getElem!_pos _ j hj]
   rfl
  have hcl:(Lib.compact l).length<=l.length:=by
   unfold Lib.compact Lib.compactUpTo
   rw [List.length_map]
   exact Nat.le_trans (List.length_filter_le ..) (by simp)
  refine(show Calls Tryz.prog 285 #[.slice (some ⟨g,0,none⟩) l.length cap] w _ from Any.slices_Compact_int Tryz.compI g 0 cap l w hH hl h1).mono ?_
  rintro ex w' ⟨rfl,q,rfl⟩
  rw [zdS]
  generalize hF:((Lib.compact l++List.replicate (l.length-(Lib.compact l).length) 0).toArray.map (Value.int .i64))=F
  have hFs:F.size=l.length:=by rw [<-hF]; simp; omega
  have hgr: ∀W:World,grow W #[]=W:=fun W=>by simp [grow]
  have e2:=heap_put (n:=q) (os:= #[]) F hb
  have e3:=zeM (w:=w) (g:=g) (n:=q) (os:= #[]) F
  rw [hgr] at e2 e3
  refine⟨_,rfl,rfl,e3,fun _ h=>h,⟨by rw [List.length_map,Nat.mul_one], .inr ⟨g,cap,_,rfl,hbase,e2,Nat.le_trans hcl h1,h2,by simp [putCells,h3], ?_⟩⟩⟩
  have ht:=ziJ cur F (by rw [hFs,h3]; omega)
  rw [Nat.mul_one]
  have:((putCells id 0 F cur).toList.take (Lib.compact l).length)=(F.toList).take (Lib.compact l).length:=by
   rw [<-ht,List.take_take,Nat.min_eq_left (by omega)]
  rw [this, <-hF]
  simp
end Go.Proofs.YtnbjaghjdeicmaaGreatDoor
namespace Go.Proofs.YtnbjaghjdeicmaaGreatDoor
open Go.RowKit
/-! Legal states -/
theorem zsj {l:List Int} (h: ∀j,0<j->j<l.length->l.getD (j-1) 0<l.getD j 0):l.Pairwise (· < ·):=by
 rw [List.pairwise_iff_getElem]
 intro i j hi hj hij
 have key: ∀d,i+d+1<l.length->l.getD i 0<l.getD (i+d+1) 0:=fun d=>by
  induction d with
  | zero=>intro hd; simpa using h (i+1) (by omega) (by omega)
  | succ d ih=>
    intro hd
    have h1:=ih (by omega)
    have h2:=h (i+d+1+1) (by omega) (by omega)
    have e:i+(d+1)+1=i+d+1+1:=by omega
    rw [e]
    simp only [Nat.add_sub_cancel] at h2
    omega
 have:=key (j-i-1) (by omega)
 rw [show i+(j-i-1)+1=j by omega] at this
 simpa [List.getD_eq_getElem?_getD,List.getElem?_eq_getElem hi,List.getElem?_eq_getElem hj] using this
structure Lg (c:ChD) (act:List Int):Prop where
 rise:act.Pairwise (· < ·)
 fit: ∀x∈act,∃s,at_ c x=some s/\fitB c act x.toNat s=true
 top:manyI act (kidsL c (-1) true)=1
theorem zth {c:ChD} {act:List Int} (h:lgB c act=true):Lg c act:=by
 obtain⟨h1,h2⟩:=zqu.1 h
 have h3: ∀j (hj:j<act.length),(j==0||decide (act.getD (j-1) 0<act[j]))=true/\fitI c act act[j]=true:=fun j hj=>by
  have:=h1 j hj
  unfold lgAt at this
  rw [List.getElem?_eq_getElem hj] at this
  simpa only [Bool.and_eq_true] using this
 refine⟨zsj fun j h0 hj=> ?_,fun x hx=> ?_,h2⟩
 ·have:=(h3 j hj).1
  have hne:(j==0)=false:=by simp; omega
  rw [hne,Bool.false_or,decide_eq_true_eq] at this
  simpa [List.getD_eq_getElem?_getD,List.getElem?_eq_getElem hj] using this
 ·obtain⟨j,hj,rfl⟩:=List.mem_iff_getElem.1 hx
  have:=(h3 j hj).2
  unfold fitI at this
  split at this
  ·rename_i s hs; exact⟨s,hs,this⟩
  ·cases this
theorem Lg.of {c:ChD} {act:List Int} (h:Lg c act) {x:Int} (hx:x∈act): ∃s,at_ c x=some s/\inZ c x=true/\zaD s=false/\(parZ c x<0\/parZ c x∈act)/\(s.kind=1->kidsL c x true≠[]->manyI act (kidsL c x true)=1)/\(s.kind=2->manyI act (kidsL c x true)=(kidsL c x true).length):=by
 obtain⟨s,hs,hf⟩:=h.fit x hx
 have h0:0<=x/\c.states[x.toNat]? =some s:=by
  unfold at_ at hs
  split at hs
  ·exact⟨by assumption,hs⟩
  ·cases hs
 obtain⟨k,rfl⟩: ∃k:Nat,x=k:=⟨x.toNat,by omega⟩
 have hk:=(List.getElem?_eq_some_iff.1 h0.2).1
 have hp:parZ c (k:Int)=s.parent:=by unfold parZ; rw [hs]
 unfold fitB at hf
 rw [Int.toNat_natCast,Bool.and_eq_true,Bool.and_eq_true] at hf
 obtain⟨⟨f1,f2⟩,f3⟩:=hf
 refine⟨s,hs,zak.2 ⟨by omega,by simpa using hk⟩,by simpa using f1, ?_,fun e hne=> ?_,fun e=> ?_⟩
 ·rw [hp]
  rw [Bool.or_eq_true,decide_eq_true_eq] at f2
  exact f2.imp id fun f2=>by simpa using f2
 ·rw [if_pos ⟨e,hne⟩] at f3
  simpa using f3
 ·rw [if_neg (fun q=>by omega),if_pos e] at f3
  simpa using f3
theorem Lg.real {c:ChD} {act:List Int} (h:Lg c act) {x:Int} (hx:x∈act) {s:StD} (hs:at_ c x=some s):s.kind≠4/\s.kind≠5:=by
 obtain⟨s',e,_,hm,_⟩:=h.of hx
 rw [hs] at e
 cases e
 unfold zaD at hm
 simpa using hm
theorem Lg.up {c:ChD} (hr:Right c) {act:List Int} (h:Lg c act): ∀(n:Nat) (x k:Int),x<n->x∈act->k∈upL c x->0<=k->k∈act
 | 0,x,k,hn,hx,hk,h0=>by
   obtain⟨_,_,hz,_⟩:=h.of hx
   have:=zak.1 hz
   omega
 | n+1,x,k,hn,hx,hk,h0=>by
   obtain⟨_,_,hz,_,hp,_⟩:=h.of hx
   rw [zbN hr hz] at hk
   have:=zbZ hr hz
   rcases hk with rfl | hk
   ·exact hp.resolve_left (by omega)
   ·rcases hp with hp | hp
    ·rw [zbM (by unfold inZ; rw [decide_eq_false (by omega),Bool.false_and])] at hk
     simp at hk
    ·exact Lg.up hr h n _ k (by omega) hp hk h0
theorem zpJ {c:ChD} (hr:Right c) {l:List Int} (hl: ∀x∈l,inZ c x=true) {x:Int} :x∈zL (sortL c l)↔x∈l:=by
 have ha:l.all (inZ c)=true:=List.all_eq_true.2 hl
 unfold sortL
 rw [if_pos ha]
 constructor
 ·intro hx
  obtain⟨k,hk,rfl⟩:=List.mem_map.1 hx
  simpa using (List.mem_filter.1 hk).2
 ·intro hx
  have hz:=zak.1 (hl x hx)
  refine List.mem_map.2 ⟨x.toNat,List.mem_filter.2 ⟨?_, ?_⟩,by omega⟩
  ·exact(zdh hr _).2 (by omega)
  ·have e:((x.toNat:Nat):Int)=x:=by omega
   rw [e]
   simpa using hx
/-! Memories in their order -/
abbrev Srt (l:List MemD):Prop:=l.Pairwise fun a b=>a.1<b.1
/-! What is remembered -/
/-! As the document says -/
theorem zlY {c:ChD} {mem:List MemD} (h:zeI c mem=true):Srt mem/\ ∀m∈mem,memB c m=true:=by
 have h1: ∀j (hj:j<mem.length),memB c mem[j]=true/\(j=0\/(mem.getD (j-1) (0,[])).1<mem[j].1):=fun j hj=>by
  have:=List.all_eq_true.1 h j (List.mem_range.2 hj)
  unfold zhK at this
  rw [List.getElem?_eq_getElem hj,Bool.and_eq_true,Bool.or_eq_true,decide_eq_true_eq] at this
  exact⟨this.1,this.2.imp (by simp) id⟩
 refine⟨List.pairwise_iff_getElem.2 ?_,fun m hm=> ?_⟩
 ·intro i j hi hj hij
  have key: ∀d (hd:i+d+1<mem.length),mem[i].1<mem[i+d+1].1:=fun d=>by
   induction d with
   | zero=>
     intro hd
     have:=(h1 (i+1) hd).2.resolve_left (by omega)
     simpa [List.getD_eq_getElem?_getD,List.getElem?_eq_getElem hi] using this
   | succ d ih=>
     intro hd
     have a:=ih (by omega)
     have b:=(h1 (i+d+1+1) (by omega)).2.resolve_left (by omega)
     simp only [Nat.add_sub_cancel,List.getD_eq_getElem?_getD,List.getElem?_eq_getElem (show i+d+1<mem.length by omega),Option.getD_some] at b
     have e:i+(d+1)+1=i+d+1+1:=by omega
     simp only [e]
     omega
  have:=key (j-i-1) (by omega)
  simpa [show i+(j-i-1)+1=j by omega] using this
 ·obtain⟨j,hj,rfl⟩:=List.mem_iff_getElem.1 hm
  exact(h1 j hj).1
theorem zpR {l:List Int} (h:zdN l=true):l≠[]:=by
 unfold zdN at h
 rw [Bool.and_eq_true] at h
 intro e
 rw [e] at h
 simp at h
theorem zl3 (act:List Int) (ks:List Nat):((zL ks).filter fun k=>act.contains k).length=manyI act ks:=by
 unfold manyI zL
 rw [List.filter_map,List.length_map]
 rfl
theorem zbD {c:ChD} (hr:Right c) {p x:Int} (hx:inZ c x=true):aboveB c p x=true↔parZ c x=p\/aboveB c p (parZ c x)=true:=by
 unfold aboveB
 rw [List.contains_iff_mem,List.contains_iff_mem,zbN hr hx]
 exact⟨fun h=>h.imp Eq.symm id,fun h=>h.imp Eq.symm id⟩
theorem zt0 {c:ChD} (h:Full c) {k:Nat} {s:StD} (hs:c.states[k]? =some s) (hm:zaD s=true):zbu c s.parent=true/\zaA c s.parent=true/\kidsL c s.parent true≠[]/\inZ c s.parent=true/\(s.kind=4\/s.kind=5):=by
 have hk:s.kind=4\/s.kind=5:=by unfold zaD at hm; simpa using hm
 rcases h.cases hs with⟨e,_⟩ | ⟨e,_⟩ | ⟨e,_⟩ | ⟨_,_,hp,hi⟩
 ·omega
 ·omega
 ·omega
 ·unfold zaQ at hp
  split at hp
  ·rename_i q hq
   refine⟨by unfold zbu; rw [hq]; exact hp, ?_,fun e=> ?_, ?_,hk⟩
   ·unfold zaA zcc
    rw [hq]
    simp only [hp,Bool.true_or]
   ·rw [e] at hi; simp [inL] at hi
   ·unfold at_ at hq
    split at hq
    ·rename_i h0
     have:=(List.getElem?_eq_some_iff.1 hq).1
     exact zak.2 ⟨h0,by omega⟩
    ·cases hq
  ·cases hp
/-! Moves -/
end Go.Proofs.YtnbjaghjdeicmaaGreatDoor
