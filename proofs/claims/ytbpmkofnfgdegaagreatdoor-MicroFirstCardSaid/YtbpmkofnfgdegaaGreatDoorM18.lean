/- Where a transition leads: the program's way. -/
import Derived.Test.YtbpmkofnfgdegaaGreatDoorM17
import Derived.Test.YtbpmkofnfgdegaaGreatDoorM8
import Derived.Test.YtbpmkofnfgdegaaGreatDoorM6
import Derived.Test.YtbpmkofnfgdegaaGreatDoorM14
import Derived.Shelf.Slices.Reverse
import Derived.Shelf.Slices.CompactI
import Derived.Test.YtbpmkofnfgdegaaGreatDoorM11
set_option linter.unusedSimpArgs false
namespace Go.Proofs.YtbpmkofnfgdegaaGreatDoor
open Go.Proofs.Tryz
open Go.RowKit
set_option maxRecDepth 100000
set_option maxHeartbeats 8000000
theorem zqe {act:List Int} {j:Nat} {x v:Int} (hx:act[j]? =some x) (hn:(act.take j).contains v=false) (he:x≠v):(act.take (j+1)).contains v=false:=by
 rw [List.take_add_one,hx];simp at hn |-;exact⟨hn,fun q=>he q.symm⟩
theorem zev (env:Env) (act:List Int) (v:Int) (hl:act.length<=1000000):Con prog env 15 [.seq 1 (act.map intAV),I v] (B (act.contains v)):=by
 refine qf func15 call15 ntmps15 results15 ?_;repeat refine st0 ?_
 refine zab (D:=Nat) (fun j _=>[(0, .seq 1 (act.map intAV)),(1,I v),(5,I j)]) (fun _ _=>[]) (fun j _ _=>j<=act.length/\(act.take j).contains v=false) (fun j=>act.length-j) 0 ?_ ?_ ?_ ?_
 ·exact⟨Nat.zero_le _,rfl⟩
 ·exact qe0
 ·exact qe0
 rintro j ws esc ⟨hj,hno⟩;by_cases hlt:j<act.length
 ·obtain⟨x,hx⟩: ∃x,act[j]? =some x:=⟨act[j],List.getElem?_eq_getElem hlt⟩;have q1:=nlt hlt;have q2:=zaa hlt (by omega);by_cases e:x=v
  ·have hr:act.contains v=true:=by rw [List.contains_iff_mem, <-e]; exact List.mem_of_getElem? hx
   rw [hr];have q3:(x==v)=true:=by simpa using e
   have F:=ai3 hx q1 q3;repeat refine st ?_
   exact aR
  ·have q3:(x==v)=false:=by simpa using e
   have F:=ai4 hx q1 q2 q3;repeat refine st ?_
   refine⟨j+1,⟨hlt,zqe hx hno e⟩, ?_, ?_,by omega⟩
   ·exact qe
   ·exact qe
 ·obtain rfl:j=act.length:=by omega
  have q1: ¬(act.length:Int)< (act.length:Int):=by omega
  rw [List.take_length] at hno;rw [hno];have F:=q1;repeat refine st ?_
  exact aR
theorem zjf (env:Env) (act:List Int) (ks:List Nat) (hl:act.length<=1000000) (hk:ks.length<=4000):Con prog env 88 [.seq 1 (act.map intAV), .seq 1 (ks.map zae)] (I (manyI act ks:Nat)):=by
 have z0:manyI act []=0:=rfl;refine qf func88 call88 ntmps88 results88 ?_;repeat refine st0 ?_
 refine zab (D:=Nat) (fun j _=>[(0, .seq 1 (act.map intAV)),(1, .seq 1 (ks.map zae)),(5,I (manyI act (ks.take j):Nat)),(6,I j)]) (fun _ _=>[]) (fun j _ _=>j<=ks.length) (fun j=>ks.length-j) 0 ?_ ?_ ?_ ?_
 ·exact Nat.zero_le _
 ·have F:=z0;exact qe
 ·(simp only [go_sem,z0])
 rintro j ws esc hj;by_cases hlt:j<ks.length
 ·obtain⟨k,hk2⟩: ∃k,ks[j]? =some k:=⟨ks[j],List.getElem?_eq_getElem hlt⟩;have q1:=nlt hlt;have q2:=zaa hlt (by omega);have f0:=zev env act k hl;have hm:=zpb (act:=act) hk2;have hle:=zpc act (ks.take j);rw [List.length_take] at hle;have q4:=zaa (show manyI act (ks.take j)<ks.length by omega) (by omega);cases hb:act.contains (k:Int) with
  | true=>
    rw [hb] at f0 hm;rw [if_pos rfl] at hm;have F:=ai5 zae.eq_1 hk2 q1 q2 q4;repeat (first | refine st ?_ | refine cC f0 ?_)
    refine⟨j+1,hlt, ?_, ?_,by omega⟩
    ·have F:=hm;exact qe
    ·(simp only [go_sem,hm])
  | false=>
    rw [hb] at f0 hm;rw [if_neg Bool.false_ne_true,Nat.add_zero] at hm;have F:=ai4 zae.eq_1 hk2 q1 q2;repeat (first | refine st ?_ | refine cC f0 ?_)
    refine⟨j+1,hlt, ?_, ?_,by omega⟩
    ·have F:=hm;exact qe
    ·(simp only [go_sem,hm])
 ·obtain rfl:j=ks.length:=by omega
  have q1: ¬(ks.length:Int)< (ks.length:Int):=by omega
  have hta:ks.take ks.length=ks:=List.take_length;have F:=ai q1 hta;repeat refine st ?_
  exact aR
theorem zkW (env:Env) (c:ChD) (h:Full c) (act:List Int) (hl:act.length<=1000000) (k:Nat) (s:StD) (hs:c.states[k]? =some s):Con prog env 87 [.agg (chAV c), .seq 1 (act.map intAV),I k] (B (fitB c act k s)):=by
 have hlen:=h.few;have hi:=(List.getElem?_eq_some_iff.1 hs).1;have q0:((k:Nat):Int)< (c.states.length:Int):=by omega
 have f0:=zbo env c k true (by omega);have hK:=zbF h.toRight k true;have f1:=zjf env act (kidsL c k true) hl (by omega);have f2:=za9 env s;have f3:=zev env act s.parent hl;have hF:fitB c act k s=(!zaI s&&(decide (s.parent<0)||act.contains s.parent)&&(if s.kind=1/\kidsL c k true≠[] then manyI act (kidsL c k true)==1 else if s.kind=2 then manyI act (kidsL c k true)==(kidsL c k true).length else true)):=rfl;rw [hF];try clear hF
 generalize kidsL c k true=K at*;cases hm:zaI s with
 | true=>
   rw [hm] at f2;refine qf func87 call87 ntmps87 results87 ?_;have F:=ai4 chAV.eq_1 stAV.eq_1 hs q0;repeat (first | refine st ?_ | refine cC f2 ?_)
   exact aR
 | false=>
   rw [hm] at f2;by_cases hp:s.parent<0
   ·have g0: ¬0<=s.parent:=by omega
    rw [decide_eq_true hp];by_cases e1:s.kind=1/\K≠[]
    ·have b1:(s.kind==1)=true:=by simpa using e1.1
     have q1:(0:Int)< (K.length:Int):=by have:=List.length_pos_iff.2 e1.2; omega
     have q2:(((manyI act K:Nat):Int)==1)=(manyI act K==1):=by rw [Bool.eq_iff_iff,beq_iff_eq,beq_iff_eq]; omega
     rw [if_pos e1];refine qf func87 call87 ntmps87 results87 ?_;have F:=ai8 chAV.eq_1 stAV.eq_1 hs q0 g0 b1 q1 q2;repeat (first | refine st ?_ | refine cC f0 ?_ | refine cC f1 ?_ | refine cC f2 ?_)
     exact aR
    ·rw [if_neg e1];have q2:(((manyI act K:Nat):Int)==(K.length:Int))=(manyI act K==K.length):=by rw [Bool.eq_iff_iff,beq_iff_eq,beq_iff_eq]; omega
     by_cases e2:s.kind=2
     ·have b1:(s.kind==1)=false:=by simp [e2]
      have b2:(s.kind != 2)=false:=by simp [e2]
      rw [if_pos e2];refine qf func87 call87 ntmps87 results87 ?_;have F:=ai8 chAV.eq_1 stAV.eq_1 hs q0 g0 b1 b2 q2;repeat (first | refine st ?_ | refine cC f0 ?_ | refine cC f1 ?_ | refine cC f2 ?_)
      exact aR
     ·have b2:(s.kind != 2)=true:=by simpa using e2
      rw [if_neg e2];by_cases e3:s.kind=1
      ·have b1:(s.kind==1)=true:=by simpa using e3
       have q1: ¬(0:Int)< (K.length:Int):=by
        have:K=[]:=Classical.byContradiction fun q=>e1 ⟨e3,q⟩;rw [this]; simp
       refine qf func87 call87 ntmps87 results87 ?_;have F:=ai8 chAV.eq_1 stAV.eq_1 hs q0 g0 b1 b2 q1;repeat (first | refine st ?_ | refine cC f0 ?_ | refine cC f1 ?_ | refine cC f2 ?_)
       exact aR
      ·have b1:(s.kind==1)=false:=by simpa using e3
       refine qf func87 call87 ntmps87 results87 ?_;have F:=ai7 chAV.eq_1 stAV.eq_1 hs q0 g0 b1 b2;repeat (first | refine st ?_ | refine cC f0 ?_ | refine cC f1 ?_ | refine cC f2 ?_)
       exact aR
   ·have g0:0<=s.parent:=by omega
    rw [decide_eq_false hp];cases hin:act.contains s.parent with
    | false=>
      rw [hin] at f3;refine qf func87 call87 ntmps87 results87 ?_;have F:=ai5 chAV.eq_1 stAV.eq_1 hs q0 g0;repeat (first | refine st ?_ | refine cC f0 ?_ | refine cC f1 ?_ | refine cC f2 ?_ | refine cC f3 ?_)
      exact aR
    | true=>
      rw [hin] at f3;by_cases e1:s.kind=1/\K≠[]
      ·have b1:(s.kind==1)=true:=by simpa using e1.1
       have q1:(0:Int)< (K.length:Int):=by have:=List.length_pos_iff.2 e1.2; omega
       have q2:(((manyI act K:Nat):Int)==1)=(manyI act K==1):=by rw [Bool.eq_iff_iff,beq_iff_eq,beq_iff_eq]; omega
       rw [if_pos e1];refine qf func87 call87 ntmps87 results87 ?_;have F:=ai8 chAV.eq_1 stAV.eq_1 hs q0 g0 b1 q1 q2;repeat (first | refine st ?_ | refine cC f0 ?_ | refine cC f1 ?_ | refine cC f2 ?_ | refine cC f3 ?_)
       exact aR
      ·rw [if_neg e1];have q2:(((manyI act K:Nat):Int)==(K.length:Int))=(manyI act K==K.length):=by rw [Bool.eq_iff_iff,beq_iff_eq,beq_iff_eq]; omega
       by_cases e2:s.kind=2
       ·have b1:(s.kind==1)=false:=by simp [e2]
        have b2:(s.kind != 2)=false:=by simp [e2]
        rw [if_pos e2];refine qf func87 call87 ntmps87 results87 ?_;have F:=ai8 chAV.eq_1 stAV.eq_1 hs q0 g0 b1 b2 q2;repeat (first | refine st ?_ | refine cC f0 ?_ | refine cC f1 ?_ | refine cC f2 ?_ | refine cC f3 ?_)
        exact aR
       ·have b2:(s.kind != 2)=true:=by simpa using e2
        rw [if_neg e2];by_cases e3:s.kind=1
        ·have b1:(s.kind==1)=true:=by simpa using e3
         have q1: ¬(0:Int)< (K.length:Int):=by
          have:K=[]:=Classical.byContradiction fun q=>e1 ⟨e3,q⟩;rw [this]; simp
         refine qf func87 call87 ntmps87 results87 ?_;have F:=ai8 chAV.eq_1 stAV.eq_1 hs q0 g0 b1 b2 q1;repeat (first | refine st ?_ | refine cC f0 ?_ | refine cC f1 ?_ | refine cC f2 ?_ | refine cC f3 ?_)
         exact aR
        ·have b1:(s.kind==1)=false:=by simpa using e3
         refine qf func87 call87 ntmps87 results87 ?_;have F:=ai7 chAV.eq_1 stAV.eq_1 hs q0 g0 b1 b2;repeat (first | refine st ?_ | refine cC f0 ?_ | refine cC f1 ?_ | refine cC f2 ?_ | refine cC f3 ?_)
         exact aR
def zf7 (l:List Nat) (j:Nat):List Nat:=(List.range j).filter fun k=>inL l (k:Int)
theorem zm3 (env:Env) (c:ChD) (hc:c.states.length<=4000) (l:List Nat) (hl:l.length<=1000000):Con prog env 99 [.agg (chAV c), .seq 1 (l.map zae)] (.own 3 1 ((zf8 c l).map zae)):=by
 show Con _ _ _ _ (.own _ 1 ((zf7 l c.states.length).map zae));refine qf func99 call99 ntmps99 results99 ?_;have F:=chAV.eq_1;repeat refine st ?_
 refine zab (D:=Nat) (fun j vs=>[(1, .seq 1 (l.map zae)),(2, .loc 2 (vs 2) 0 0),(5, .row 7 (vs 7)),(6,I j)]) (fun j _=>[(2,⟨5,[chAV c],26,false⟩),(7,⟨1,(zf7 l j).map zae,3,true⟩)]) (fun j _ esc=>j<=c.states.length/\esc 7=false) (fun j=>c.states.length-j) 0 ?_ ?_ ?_ ?_
 ·exact⟨Nat.zero_le _,rfl⟩
 ·exact qe
 ·have F:=chAV.eq_1
  (simp only [go_sem,F])
  try rfl
 rintro j ws esc ⟨hj,e0⟩;by_cases hlt:j<c.states.length
 ·have g1:=nlt hlt;have g2:=zaa hlt (by omega);have f1:=zgg env l j hl;unfold nsAV at f1;have hn:zf7 l (j+1)=if inL l (j:Int) then zf7 l j++[j] else zf7 l j:=zjk (fun k:Nat=>inL l (k:Int)) j
  have hle:(zf7 l j).length<=j:=zkY (fun k:Nat=>inL l (k:Int)) j;have hf:Fits ((zf7 l j).length+1) 8:=zaf (by omega) (by omega);cases b1:inL l (j:Int) with
  | true=>
    rw [b1] at f1 hn;rw [if_pos rfl] at hn;have F:=ai6 chAV.eq_1 zae.eq_1 g1 g2 hf e0;repeat (first | refine st ?_ | refine cC f1 ?_)
    refine⟨j+1,⟨hlt,by simp only [go_sem,e0]⟩, ?_, ?_,by omega⟩
    ·exact qe
    ·have F:=ai4 chAV.eq_1 zae.eq_1 hn @List.map_append.{0,0};exact qe
  | false=>
    rw [b1] at f1 hn;rw [if_neg Bool.false_ne_true] at hn;have F:=ai5 chAV.eq_1 zae.eq_1 g1 g2 e0;repeat (first | refine st ?_ | refine cC f1 ?_)
    refine⟨j+1,⟨hlt,by simp only [go_sem,e0]⟩, ?_, ?_,by omega⟩
    ·exact qe
    ·have F:=ai3 chAV.eq_1 zae.eq_1 hn;exact qe
 ·obtain rfl:j=c.states.length:=by omega
  have g1: ¬(c.states.length:Int)< (c.states.length:Int):=by omega
  have F:=ai3 chAV.eq_1 g1 e0;repeat refine st ?_
  exact aR
end Go.Proofs.YtbpmkofnfgdegaaGreatDoor
set_option linter.unusedSimpArgs false
namespace Go.Proofs.YtbpmkofnfgdegaaGreatDoor
open Go.Proofs.Tryz
open Go.RowKit
set_option maxRecDepth 100000
set_option maxHeartbeats 8000000
def chainV (ps:List Int) (e:AV):AV:=ps.foldr (fun p x=>errV p x) e
theorem zmw {S:Nat->Nat->Prop} {w:World} {a:Addr} (ha:Lies w a): ∀(ps:List Int) (v:Value),RV S w v (chainV ps (sentV a))->zb2 w a ps.length v
 | [],v,h=>⟨h.lit_inv,ha⟩
 | p::ps,v,h=>by
   have h:RV S w v (.iface 138 (.ref 3 [[.any,I p,chainV ps (sentV a)]] 0 0)):=h;cases h with
   | iface t v c h=>
     cases h with
     | ref sz es i off b o u hz hc hr=>
       have h2:=hc 0 2 (chainV ps (sentV a)) rfl;have h3:=hr 0 2 (chainV ps (sentV a)) rfl;refine⟨b,o+(0*3+0),u 0 2,rfl, ?_,zmw ha ps _ h3⟩;have:=h2.2.1;simpa using this
theorem znK (ad:Nat->Addr) (mo:More) (k:Nat) (hk:1<=k/\k<=9) (ps:List Int):Con prog (zaP ad mo) 44 [chainV ps (sentV (ad k))] (I k):=
 zqf call44 fun w S vs hE hl hv=>by
  match vs,hl with
  | [v],_=>
    have hS:Sents w ad:=hE.inv.1;refine(zrS hS k hk ps.length v (zmw (zm1 hS k hk) ps v (hv 0 v _ rfl rfl))).mono ?_;rintro e w' ⟨rfl,rfl⟩;exact⟨rfl,Below.refl _ _⟩
theorem zlJ (env:Env) (s:List UInt8) (p:Int) (e:AV):Con prog env 36 [Sg s,errV p e] (errV (-1) (errV p e)):=by
 refine qw func36 call36 ntmps36 results36 ?_;repeat refine st0 ?_
 (refine zak ?_; refine⟨_,(by show (zaz _ _ _).run _=some _; simp only [go_sem]; rfl), ?_⟩)
 exact zeI _ _ _ rfl _ _ (.refl _)
theorem zrB (env:Env) (s:List UInt8) (p:Int) (a:Addr):Con prog env 148 [Sg s,I p,sentV a] (errV (max p (-1)) (sentV a)):=by
 refine Con.args (cs:=[Sg s,I p, .iface 309 (.lit (.pointer (some a)))]) ?_ (.cons (.refl _) (.cons (.refl _) (.cons (.ifl _ _) .nil)));by_cases h1:p< -1
 ·rw [show max p (-1)= -1 by omega];refine qw func148 call148 ntmps148 results148 ?_;have F:=h1;repeat refine st ?_
  (refine zak ?_; refine⟨_,(by show (zaz _ _ _).run _=some _; simp only [go_sem,F]; rfl), ?_⟩)
  exact zeI _ _ _ rfl _ _ (.lfi _ _)
 ·rw [show max p (-1)=p by omega];refine qw func148 call148 ntmps148 results148 ?_;have F:=h1;repeat refine st ?_
  (refine zak ?_; refine⟨_,(by show (zaz _ _ _).run _=some _; simp only [go_sem,F]; rfl), ?_⟩)
  exact zeI _ _ _ rfl _ _ (.lfi _ _)
theorem znU (env:Env) (a1 a8:Addr) (he:ChEnv env a1 a8) (p:Int):Con prog env 143 [I p] (errV (max p (-1)) (sentV a1)):=by
 have g1:=zgx he.e1;have f0:=zrB env [108,101,103,97,108,46,67,104,101,99,107] p a1;refine qf func143 call143 ntmps143 results143 ?_;have F:=g1;repeat (first | refine st ?_ | refine cC f0 ?_)
 exact aR
theorem zhq {c:ChD} {act:List Int} {j:Nat} {x:Int} (hx:act[j]? =some x) (hall: ∀m,m<j->lgAt c act m=true) (hb:lgAt c act j=false):zeB c act=(1,max x (-1)):=by
 have hj:=(List.getElem?_eq_some_iff.1 hx).1;unfold zeB;rw [zbt hj hall hb];simp only [List.getD_eq_getElem?_getD,hx,Option.getD_some]
theorem zbZ (env:Env) (a1 a8:Addr) (he:ChEnv env a1 a8) (c:ChD) (h:Full c) (hsm:Small c) (act:List Int) (hl:act.length<=1000000):Con prog env 79 [zai c, .seq 1 (act.map intAV)] (chkE a1 c act):=by
 have hlen:=h.few;have f0:=zav env c hsm;have f1:=zdx env c (by omega) act hl;have f2:=fun(k:Nat) (s:StD) (hs:c.states[k]? =some s)=>zrx env c h act k s hs;have f3:=zcl env c h (-1);rw [if_pos (.inl rfl)] at f3;have hK:=zbF h.toRight (-1) true;have hKm: ∀j∈kidsL c (-1) true,j<c.states.length:=fun j hj=>by have:=zaG h.toRight (zao hj).1; omega
 have f4:=zih env c.states.length act (kidsL c (-1) true) (by omega) (by omega) hKm;have fb:=zqr env a1 a8 he (-1) (by omega);have hfl:=zce c.states.length act;unfold zai at f0 f1 f2 f3 |-;refine qf func79 call79 ntmps79 results79 ?_;have F:=chAV.eq_1;repeat (first | refine st ?_ | refine cC f0 ?_ | refine cC f1 ?_)
 refine zab (D:=Nat) (fun j vs=>[(0, .ref 9 [tabCells c] 0 0),(1, .seq 1 (act.map intAV)),(5, .loc 5 (vs 5) 0 0),(6, .row 17 (vs 17)),(18, .seq 1 (act.map intAV)),(19,I act.length),(20,I j)]) (fun _ _=>[(5,⟨5,[chAV c],26,false⟩),(17,⟨1,flagA c.states.length act,4,true⟩)]) (fun j _ _=>j<=act.length/\ ∀m,m<j->lgAt c act m=true) (fun j=>act.length-j) 0 ?_ ?_ ?_ ?_
 ·exact⟨Nat.zero_le _,fun m hm=>absurd hm (by omega)⟩
 ·exact qe
 ·have F:=chAV.eq_1
  (simp only [go_sem,F])
  try rfl
 rintro j ws esc ⟨hj,hall⟩;by_cases hlt:j<act.length
 ·obtain⟨x,hx⟩: ∃x,act[j]? =some x:=⟨act[j],List.getElem?_eq_getElem hlt⟩;have q1:=nlt hlt;have q2:=zaa hlt (by omega);have hat:=zk8 (c:=c) hx;have fx:=znU env a1 a8 he x;have bad:lgAt c act j=false->chkE a1 c act=errV (max x (-1)) (sentV a1):=fun hb=>zmv (zhq hx hall hb);by_cases h0:x<0
  ·rw [bad (by rw [hat,ziw (by unfold inZ; rw [decide_eq_false (by omega)]; rfl),Bool.and_false])];have F:=ai3 hx q1 h0;repeat (first | refine st ?_ | refine cC fx ?_)
   exact aR
  obtain⟨k,rfl⟩:=zcB (show 0<=x by omega);by_cases h1:(c.states.length:Int)<=k
  ·rw [bad (by rw [hat,ziw (by unfold inZ; rw [decide_eq_false (p:=(k:Int)<_) (by omega),Bool.and_false]),Bool.and_false])];have F:=ai5 hx q1 h0 h1 hfl;repeat (first | refine st ?_ | refine cC fx ?_)
   exact aR
  obtain⟨s,hs⟩: ∃s,c.states[k]? =some s:=⟨c.states[k]'(by omega),List.getElem?_eq_getElem _⟩;have f2:=f2 k s hs;rw [zmj hs] at hat;by_cases hj0:0<j
  ·have q3:(0:Int)< (j:Int):=by omega
   have q4:IntKind.i64.wrap ((j:Int)-1)=((j-1:Nat):Int):=by rw [zaw (by omega) (by omega)]; omega
   have hy:=zoQ hj0 hlt;have q5:((j-1:Nat):Int)< (act.length:Int):=by omega
   have b0:(j==0)=false:=by simp; omega
   generalize act.getD (j-1) 0=y at*;by_cases h2:(k:Int)<=y
   ·rw [bad (by rw [hat,b0,decide_eq_false (by omega)]; rfl)];have F:=ai10 hx q1 h0 h1 hfl q3 q4 q5 hy h2;repeat (first | refine st ?_ | refine cC fx ?_)
    exact aR
   cases hb:fitB c act k s with
   | false=>
     rw [hb] at f2 hat;rw [bad (by rw [hat,Bool.and_false])];have F:=ai11 chAV.eq_1 hx q1 h0 h1 hfl q3 q4 q5 hy h2;repeat (first | refine st ?_ | refine cC f2 ?_ | refine cC fx ?_)
     exact aR
   | true=>
     rw [hb,b0,decide_eq_true (show y< (k:Int) by omega)] at hat;rw [hb] at f2;have F:=ai12 chAV.eq_1 hx q1 q2 h0 h1 hfl q3 q4 q5 hy h2;repeat (first | refine st ?_ | refine cC f2 ?_)
     refine⟨j+1,⟨hlt,fun m hm=>by rcases Nat.lt_succ_iff_lt_or_eq.1 hm with e | e; exact hall m e; rw [e]; exact hat⟩, ?_, ?_,by omega⟩
     ·exact qe
     ·have F:=chAV.eq_1;exact qe
  ·have q3: ¬(0:Int)< (j:Int):=by omega
   have b0:(j==0)=true:=by simp; omega
   cases hb:fitB c act k s with
   | false=>
     rw [hb,b0] at hat;rw [hb] at f2;rw [bad (by rw [hat,Bool.and_false])];have F:=ai7 chAV.eq_1 hx q1 h0 h1 hfl q3;repeat (first | refine st ?_ | refine cC f2 ?_ | refine cC fx ?_)
     exact aR
   | true=>
     rw [hb,b0] at hat;rw [hb] at f2;have F:=ai8 chAV.eq_1 hx q1 q2 h0 h1 hfl q3;repeat (first | refine st ?_ | refine cC f2 ?_)
     refine⟨j+1,⟨hlt,fun m hm=>by rcases Nat.lt_succ_iff_lt_or_eq.1 hm with e | e; exact hall m e; rw [e]; exact hat⟩, ?_, ?_,by omega⟩
     ·exact qe
     ·have F:=chAV.eq_1;exact qe
 ·obtain rfl:j=act.length:=by omega
  have q1: ¬(act.length:Int)< (act.length:Int):=by omega
  have hc1:zeB c act=if manyI act (kidsL c (-1) true)=1 then(0, -1) else(1, -1):=by
   unfold zeB;rw [zaC hall]
  by_cases hm:manyI act (kidsL c (-1) true)=1
  ·rw [if_pos hm] at hc1;rw [zs2 hc1];have hmi:((manyI act (kidsL c (-1) true):Nat):Int)=1:=by omega
   have F:=ai q1 hmi;repeat (first | refine st ?_ | refine cC f3 ?_ | refine cC f4 ?_)
   exact aR
  ·rw [if_neg hm] at hc1;rw [zmv hc1];have hmi:(((manyI act (kidsL c (-1) true):Nat):Int) != 1)=true:=by simp; omega
   have F:=ai q1 hmi;repeat (first | refine st ?_ | refine cC f3 ?_ | refine cC f4 ?_ | refine cC fb ?_)
   exact aR
theorem zie (env:Env) (c:ChD) (h:Full c) (act:List Int) (hl:act.length<=1000000):Con prog env 43 [.agg (chAV c), .seq 1 (act.map intAV)] (.tuple [I (zeB c act).1,I (zeB c act).2]):=by
 have hlen:=h.few;have f3:=zbo env c (-1) true (by omega);have hK:=zbF h.toRight (-1) true;have f4:=zjf env act (kidsL c (-1) true) hl (by omega);refine qf func43 call43 ntmps43 results43 ?_;have F:=chAV.eq_1;repeat refine st ?_
 refine zab (D:=Nat) (fun j vs=>[(1, .seq 1 (act.map intAV)),(2, .loc 2 (vs 2) 0 0),(6,I j)]) (fun _ _=>[(2,⟨5,[chAV c],26,false⟩)]) (fun j _ _=>j<=act.length/\ ∀m,m<j->lgAt c act m=true) (fun j=>act.length-j) 0 ?_ ?_ ?_ ?_
 ·exact⟨Nat.zero_le _,fun m hm=>absurd hm (by omega)⟩
 ·exact qe
 ·have F:=chAV.eq_1
  (simp only [go_sem,F])
  try rfl
 rintro j ws esc ⟨hj,hall⟩;by_cases hlt:j<act.length
 ·obtain⟨x,hx⟩: ∃x,act[j]? =some x:=⟨act[j],List.getElem?_eq_getElem hlt⟩;have q1:=nlt hlt;have q2:=zaa hlt (by omega);have q6:max x (-1)=if x< -1 then -1 else x:=by split<;>omega
  have hat:=zk8 (c:=c) hx;have f0:=zid env c x;have bad:lgAt c act j=false->zeB c act=(1,max x (-1)):=fun hb=>zhq hx hall hb;cases hz:inZ c x with
  | false=>
    rw [hz] at f0;rw [bad (by rw [hat,ziw hz,Bool.and_false])];have F:=ai4 chAV.eq_1 hx q1 q6;repeat (first | refine st ?_ | refine cC f0 ?_)
    exact aR
  | true=>
    rw [hz] at f0;obtain⟨k,s,rfl,hs,ha⟩:=zgR hz;have f2:=zkW env c h act hl k s hs;rw [zmj hs] at hat;by_cases hj0:0<j
    ·have q3:(0:Int)< (j:Int):=by omega
     have q4:IntKind.i64.wrap ((j:Int)-1)=((j-1:Nat):Int):=by rw [zaw (by omega) (by omega)]; omega
     have hy:=zoQ hj0 hlt;have q5:((j-1:Nat):Int)< (act.length:Int):=by omega
     have b0:(j==0)=false:=by simp; omega
     generalize act.getD (j-1) 0=y at*;by_cases h2:(k:Int)<=y
     ·rw [bad (by rw [hat,b0,decide_eq_false (by omega)]; rfl)];have F:=ai9 chAV.eq_1 hx q1 q3 q4 q5 q6 hy h2;repeat (first | refine st ?_ | refine cC f0 ?_)
      exact aR
     cases hb:fitB c act k s with
     | false=>
       rw [hb] at f2 hat;rw [bad (by rw [hat,Bool.and_false])];have F:=ai9 chAV.eq_1 hx q1 q3 q4 q5 q6 hy h2;repeat (first | refine st ?_ | refine cC f0 ?_ | refine cC f2 ?_)
       exact aR
     | true=>
       rw [hb,b0,decide_eq_true (show y< (k:Int) by omega)] at hat;rw [hb] at f2;have F:=ai9 chAV.eq_1 hx q1 q2 q3 q4 q5 hy h2;repeat (first | refine st ?_ | refine cC f0 ?_ | refine cC f2 ?_)
       refine⟨j+1,⟨hlt,fun m hm=>by rcases Nat.lt_succ_iff_lt_or_eq.1 hm with e | e; exact hall m e; rw [e]; exact hat⟩, ?_, ?_,by omega⟩
       ·exact qe
       ·have F:=chAV.eq_1;exact qe
    ·have q3: ¬(0:Int)< (j:Int):=by omega
     have b0:(j==0)=true:=by simp; omega
     cases hb:fitB c act k s with
     | false=>
       rw [hb,b0] at hat;rw [hb] at f2;rw [bad (by rw [hat,Bool.and_false])];have F:=ai5 chAV.eq_1 hx q1 q3 q6;repeat (first | refine st ?_ | refine cC f0 ?_ | refine cC f2 ?_)
       exact aR
     | true=>
       rw [hb,b0] at hat;rw [hb] at f2;have F:=ai5 chAV.eq_1 hx q1 q2 q3;repeat (first | refine st ?_ | refine cC f0 ?_ | refine cC f2 ?_)
       refine⟨j+1,⟨hlt,fun m hm=>by rcases Nat.lt_succ_iff_lt_or_eq.1 hm with e | e; exact hall m e; rw [e]; exact hat⟩, ?_, ?_,by omega⟩
       ·exact qe
       ·have F:=chAV.eq_1;exact qe
 ·obtain rfl:j=act.length:=by omega
  have q1: ¬(act.length:Int)< (act.length:Int):=by omega
  have hc1:zeB c act=if manyI act (kidsL c (-1) true)=1 then(0, -1) else(1, -1):=by
   unfold zeB;rw [zaC hall]
  rw [hc1];by_cases hm:manyI act (kidsL c (-1) true)=1
  ·rw [if_pos hm];have hmi:((manyI act (kidsL c (-1) true):Nat):Int)=1:=by omega
   have F:=ai3 chAV.eq_1 q1 hmi;repeat (first | refine st ?_ | refine cC f3 ?_ | refine cC f4 ?_)
   exact aR
  ·rw [if_neg hm];have hmi:(((manyI act (kidsL c (-1) true):Nat):Int) != 1)=true:=by simp; omega
   have F:=ai3 chAV.eq_1 q1 hmi;repeat (first | refine st ?_ | refine cC f3 ?_ | refine cC f4 ?_)
   exact aR
end Go.Proofs.YtbpmkofnfgdegaaGreatDoor
namespace Go.Proofs.YtbpmkofnfgdegaaGreatDoor
open Go.Proofs.Tryz
open Go.RowKit
theorem Turned.frozen {s:St} (r t:Nat) (row:Row) (hp:row.pure=true) (hrz:row.sz≠0) (hr:s.rows r=some row) (ht:s.f t= .row r (s.vs r)):Turned s ((s.show r).put (some t) (.seq row.sz row.es)):=fun x a w m hS=>by
 obtain⟨S',q1,q2,q3⟩:=hS.show r row hr hrz hp;have hv:=hS.slot t;rw [ht] at hv;have hv1:a.tmps.getD t undef=m.ρ r:=hv.row_.2 rfl row hr;exact⟨_,q1.tell t (.seq row.sz row.es) (by rw [hv1]; exact .val q3)⟩
theorem Turned.nil {s:St} (t sz:Nat) (ht:s.f t= .lit (.slice none 0 0)):Turned s (s.put (some t) (.seq sz [])):=fun x a w m hS=>by
 have hv:=hS.slot t;rw [ht] at hv;have hv1:=hv.lit_;exact⟨_,hS.tell t (.seq sz []) (by rw [hv1]; exact .val (Str.nil sz _ _ _ (.lit _)))⟩
section
variable {P:Program} {env:Env} {nt:Nat} {s:St}
end
def zsL (Q:Exit->St->Prop):Exit->St->Prop
 | .goto _,_=>False
 | e,s=>Q e s
theorem zbv {P:Program} {b:Frame} {a:Act} {k:List Item} {cs:List Frame} {w:World} {c:Code} :step P (lone (b.atR a (.code (.scope c)::k)) cs w)= .next (lone (b.atR a (.code c:: .inScope c::k)) cs w):=
 step_lone_go (by simp [stepG,stepG.exec,Frame.atR])
theorem zgY {P:Program} {b:Frame} {a:Act} {k:List Item} {cs:List Frame} {w:World} {c:Code} :step P (lone (b.atR a (.inScope c::k)) cs w)= .next (lone (b.atR a k) cs w):=
 step_lone_go (by simp [stepG,stepG.exec,Frame.atR])
theorem zky {F:Fence} {n:Nat} {P:Program} {Q:Exit->Act->World->Prop} {a:Act} {w:World} {c:Code} (h:c.wpIn F n P (Exit.noGoto Q) a w):(Code.scope c).wpIn F n P Q a w:=by
 intro b k cs hro hb hr;have h0:(lone (b.atR a (.code (.scope c)::k)) cs w).fenced P F:=fenced_calm hb hr rfl;obtain⟨e,a₁,w₁,hq,harr⟩:=h b (.inScope c::k) cs hro hb hr;cases e with
 | normal=>exact⟨.normal,a₁,w₁,hq, .head h0 zbv (StepsIn.trans harr (.one (fenced_calm hb hr rfl) zgY))⟩
 | exit id=>
   have hx:exitTo id (.inScope c::k)=exitTo id k:=by simp [exitTo]
   exact⟨.exit id,a₁,w₁,hq,fun k' hk=> .head h0 zbv (harr.1 k' (by rw [hx]; exact hk)),
    fun hr' hk=>let ⟨k₁,h1,h2⟩:=harr.2 hr' (by rw [hx]; exact hk); ⟨k₁,h1, .head h0 zbv h2⟩⟩
 | goto l=>exact hq.elim
 | ret=>exact⟨_,a₁,w₁,hq, .of_steps (.one h0 zbv) harr⟩
 | panic ch=>exact⟨_,a₁,w₁,hq, .of_steps (.one h0 zbv) harr⟩
 | outgrown=>exact⟨_,a₁,w₁,hq, .of_steps (.one h0 zbv) harr⟩
theorem zqs {P:Program} {env:Env} {nt:Nat} {Q:Exit->St->Prop} {s:St} {c:Code} (h:awp P env nt c (zsL Q) s):awp P env nt (.scope c) Q s:=fun ro x he hn a w m hS=>
 zky (wpIn_mono (h ro x he hn a w m hS) fun e a' w' ⟨s',m',q,hs⟩=>by
  cases e with
  | goto l=>exact q.elim
  | _=>exact⟨s',m',q,hs⟩)
end Go.Proofs.YtbpmkofnfgdegaaGreatDoor
set_option linter.unusedSimpArgs false
namespace Go.Proofs.YtbpmkofnfgdegaaGreatDoor
open Go.Proofs.Tryz
open Go.RowKit
set_option maxRecDepth 100000
set_option maxHeartbeats 8000000
theorem znW {c:ChD} (hc:Right c) {k i:Nat} (_hi:i<c.states.length):(mask c i).testBit k=aboveB c k i:=by
 unfold aboveB upL mask;rw [zif hc,Bool.eq_iff_iff,decide_eq_true_eq,List.contains_iff_mem]
theorem zhc (env:Env) (c:ChD) (hc:Right c) (k i:Int):Con prog env 85 [zan c,I k,I i] (B (aboveB c k i)):=by
 have hlen:=hc.few;have f0:=zhW env c i;cases hz:inZ c i with
 | false=>
   rw [hz] at f0;have:aboveB c k i=false:=by unfold aboveB; rw [zel hz]; rfl
   rw [this];refine qf func85 call85 ntmps85 results85 ?_;repeat (first | refine st0 ?_ | refine cC0 f0 ?_)
   exact aR0
 | true=>
   rw [hz] at f0;obtain⟨m,s,rfl,hs,ha⟩:=zgR hz;have hm:=(List.getElem?_eq_some_iff.1 hs).1;by_cases e:k= -1
   ·subst e;have:aboveB c (-1) m=true:=by unfold aboveB; rw [List.contains_iff_mem]; exact zkA hc (m+1) m hz (by omega)
    rw [this];refine qf func85 call85 ntmps85 results85 ?_;repeat (first | refine st0 ?_ | refine cC0 f0 ?_)
    exact aR0
   ·have e1:(k == -1)=false:=by simpa using e
    have f1:=zhW env c k;cases hk:inZ c k with
    | false=>
      rw [hk] at f1
      have:aboveB c k m=false:=by
       cases hb:aboveB c k m with
       | false=>rfl
       | true=>
         unfold aboveB at hb;have h1:=zhV hc 40 _ _ (List.contains_iff_mem.1 hb);rw [zas.2 ⟨by omega,by omega⟩] at hk;cases hk
      rw [this];refine qf func85 call85 ntmps85 results85 ?_;have F:=e1;repeat (first | refine st ?_ | refine cC f0 ?_ | refine cC f1 ?_)
      exact aR
    | true=>
      rw [hk] at f1;obtain⟨p,sp,rfl,hps,_⟩:=zgR hk;have hpl:=(List.getElem?_eq_some_iff.1 hps).1;have hml:mask c m<4294967296:=zeV hc (by omega);have f2:=zlN env (mask c m) hml p (by omega);rw [znW hc hm] at f2;have g1:(mkTo c c.states.length)[m]? =some (mask c m):=by rw [zea hm,if_pos hm]
      have g2:((m:Nat):Int)< (c.states.length:Int):=by omega
      have g3:=zbE c c.states.length;refine qf func85 call85 ntmps85 results85 ?_;have F:=ai6 zan.eq_1 umAV.eq_1 e1 g1 g2 g3;repeat (first | refine st ?_ | refine cC f0 ?_ | refine cC f1 ?_ | refine cC f2 ?_)
      exact aR
def zaV:List Int->Int->Nat->Int
 | [],_,_=> -1
 | x::l,v,k=>if x=v then k else zaV l v (k+1)
theorem zpu {l:List Int} {v:Int} {k:Nat} {x:Int} (h:l[k]? =some x) (hn:zaV l v 0=zaV (l.drop k) v k):(x=v->zaV l v 0=k)/\(x≠v->zaV l v 0=zaV (l.drop (k+1)) v (k+1)):=by
 obtain⟨hk,rfl⟩:=List.getElem?_eq_some_iff.1 h;rw [List.drop_eq_getElem_cons hk] at hn;simp only [zaV] at hn;exact⟨fun e=>by rw [hn,if_pos e],fun e=>by rw [hn,if_neg e]⟩
theorem zpv (v:Int): ∀(l:List Int) (k:Nat),decide (0<=zaV l v k)=l.contains v
 | [],k=>rfl
 | x::l,k=>by
   have ih:=zpv v l (k+1);by_cases e:x=v
   ·have e1:zaV (x::l) v k=k:=if_pos e;rw [e1,Bool.eq_iff_iff,decide_eq_true_eq,List.contains_iff_mem];exact⟨fun _=>by rw [e]; exact List.mem_cons_self ..,fun _=>by omega⟩
   ·have e1:zaV (x::l) v k=zaV l v (k+1):=if_neg e;rw [e1,ih,Bool.eq_iff_iff,List.contains_iff_mem,List.contains_iff_mem,List.mem_cons];exact⟨.inr,fun h=>h.resolve_left fun h=>e h.symm⟩
theorem znz (env:Env) (l:List Int) (v:Int) (hl:l.length<=1000000):Con prog env 84 [.seq 1 (l.map intAV),I v] (I (zaV l v 0)):=by
 refine qf func84 call84 ntmps84 results84 ?_;repeat refine st0 ?_
 refine zab (D:=Nat) (fun k _=>[(0, .seq 1 (l.map intAV)),(1,I v),(7,I l.length),(8,I k)]) (fun _ _=>[]) (fun k _ _=>k<=l.length/\zaV l v 0=zaV (l.drop k) v k) (fun k=>l.length-k) 0 ?_ ?_ ?_ ?_
 ·exact⟨Nat.zero_le _,rfl⟩
 ·exact qe0
 ·exact qe0
 rintro k ws esc ⟨hk,hi⟩;by_cases hlt:k<l.length
 ·obtain⟨x,hx,_⟩:=zal hlt;obtain⟨yes,no⟩:=zpu hx hi;have k1:=nlt hlt;have k2:=zaa hlt (by omega);by_cases e:x=v
  ·rw [yes e];have k3:(v==x)=true:=by simp [e]
   have F:=ai4 k1 k2 k3 hx;repeat refine st ?_
   exact aR
  ·have k3:(v==x)=false:=by simpa using fun h=>e h.symm
   have F:=ai4 k1 k2 k3 hx;repeat refine st ?_
   refine⟨k+1,⟨hlt,no e⟩, ?_, ?_, ?_⟩
   ·exact qe
   ·exact qe
   ·omega
 ·have k1: ¬(k:Int)< (l.length:Int):=by omega
  rw [hi,List.drop_of_length_le (by omega),show zaV [] v k= -1 from rfl];have F:=k1;repeat refine st ?_
  exact aR
theorem zbg (env:Env) (l:List Int) (v:Int) (hl:l.length<=1000000):Con prog env 40 [.seq 1 (l.map intAV),I v] (B (l.contains v)):=by
 have h:=zpv v l 0;refine qf func40 call40 ntmps40 results40 ?_;repeat (first | refine st0 ?_ | refine cC0 (znz env l v hl) ?_)
 (refine zak ?_; show (zaz _ _ _).run _=some _; simp only [go_sem])
 exact congrArg B h
theorem zlL (env:Env) (c:ChD) (hs:Small c) (k:Nat) (t:TrD) (ht:c.trans[k]? =some t):Con prog env 131 [zai c,I k] (.tuple [.agg (trAV t),B true]):=by
 have f0:=zav env c hs;have hk:=(List.getElem?_eq_some_iff.1 ht).1;have g1:((k:Nat):Int)< (c.trans.length:Int):=by omega
 have g2: ¬(c.trans.length:Int)<=(k:Int):=by omega
 have g3: ¬((k:Nat):Int)<0:=by omega
 refine qf func131 call131 ntmps131 results131 ?_;have F:=ai6 chAV.eq_1 trAV.eq_1 g1 g2 g3 ht;repeat (first | refine st ?_ | refine cC f0 ?_)
 exact aR
theorem zq3 {c:ChD} {k:Nat} {s:StD} (hs:c.states[k]? =some s):zda c k=(s.kind==1):=by unfold zda; rw [zbd,hs]
theorem zhD (env:Env) (c:ChD) (hc:Right c) (hs:Small c) (t:TrD) (_hsrc:inZ c t.src=true):Con prog env 134 [zai c, .agg (trAV t)] (I (domE c t.src t.target)):=by
 have hlen:=hc.few;have f0:=zav env c hs;have f1:=zaM env c;have f2:=zkC env c hc t.src;have hul:(upL c t.src).length<=40:=zof 40 t.src
 have hrange: ∀x∈upL c t.src,x<0\/inZ c x=true:=fun x hx=>by
  rcases Int.lt_or_le x 0 with h | h
  ·exact .inl h
  ·exact .inr (zsb hc hx h).1
 unfold domE;generalize upL c t.src=U at*;unfold zai at f0 f1 |-;refine qf func134 call134 ntmps134 results134 ?_;have F:=trAV.eq_1;repeat (first | refine st ?_ | refine cC f0 ?_ | refine cC f1 ?_ | refine cC f2 ?_)
 refine zab (D:=Nat) (fun j vs=>[(0, .ref 9 [tabCells c] 0 0),(3, .loc 3 (vs 3) 0 0),(5, .loc 5 (vs 5) 0 0),(14, .row 14 (vs 14)),(15,I U.length),(16,I j)]) (fun j _=>[(3,⟨5,[trAV t],52,false⟩),(5,⟨5,[chAV c],26,false⟩),(14,⟨1,U.map intAV,3,true⟩)]) (fun j _ _=>j<=U.length/\U.find? (domP c t.target)=(U.drop j).find? (domP c t.target)) (fun j=>U.length-j) 0 ?_ ?_ ?_ ?_
 ·exact⟨Nat.zero_le _,rfl⟩
 ·have F:=ai trAV.eq_1 chAV.eq_1
  (simp only [go_sem,F])
  try rfl
 ·have F:=ai trAV.eq_1 chAV.eq_1
  (simp only [go_sem,F])
  try rfl
 rintro j ws esc ⟨hj,hf⟩;by_cases hlt:j<U.length
 ·obtain⟨x,hx⟩: ∃x,U[j]? =some x:=⟨U[j],List.getElem?_eq_getElem hlt⟩;have q1:=nlt hlt;have q2:=zaa hlt (by omega);rw [zpL hx] at hf;rcases hrange x (List.mem_of_getElem? hx) with h0 | hz
  ·have hd:domP c t.target x=true:=by unfold domP; rw [decide_eq_true h0]; rfl
   rw [hd] at hf;simp only [if_true] at hf;rw [hf,Option.getD_some];have F:=ai hx q1;repeat (first | refine oO rfl (by simp only [go_sem,h0,F]; exact⟨rfl,rfl⟩) ?_ | refine gR ?_ | refine gO ?_ | refine oZ (zls ?_) | refine oZ ?_ | refine oS ?_ | refine gT ?_ | refine gD mixed ?_ | refine oB ?_ | refine oK ?_ | (refine oX ?_; simp only [zcK,zdc, ↓reduceIte,Nat.reduceEqDiff,reduceCtorEq]) | refine oY (by simp only [go_sem,h0,F]; exact iR) ?_ | refine oN (by simp only [go_sem,h0,F]; exact iR) ?_)
   (refine zak ?_; show (zaz _ _ _).run _=some _; simp only [go_sem,h0,F])
  ·obtain⟨k,s,rfl,hsk,_⟩:=zgR hz;have hk:=(List.getElem?_eq_some_iff.1 hsk).1;have h0: ¬((k:Nat):Int)<0:=by omega
   have q3:((k:Nat):Int)< (c.states.length:Int):=by omega
   have hdp:domP c t.target (k:Int)=(zda c (k:Int)&&aboveB c (k:Int) t.target):=by unfold domP; rw [decide_eq_false h0,Bool.false_or]
   have hpl:=zq3 hsk;have f3:=zhc env c hc k t.target;cases hk1:(s.kind==1) with
   | false=>
     rw [hdp,hpl,hk1,Bool.false_and] at hf;simp only [Bool.false_eq_true,if_false] at hf;have F:=ai10 trAV.eq_1 chAV.eq_1 stAV.eq_1 hx hsk q1 q2 q3 h0 hk1;repeat (first | refine st ?_ | refine cC f1 ?_)
     refine⟨j+1,⟨hlt,hf⟩, ?_, ?_,by omega⟩
     ·exact qe
     ·have F:=ai trAV.eq_1 chAV.eq_1;exact qe
   | true=>
     rw [hdp,hpl,hk1,Bool.true_and] at hf;cases hab:aboveB c (k:Int) t.target with
     | false=>
       rw [hab] at hf f3;simp only [Bool.false_eq_true,if_false] at hf;unfold zan at f1 f3;have F:=ai10 trAV.eq_1 chAV.eq_1 stAV.eq_1 hx hsk q1 q2 q3 h0 hk1;repeat (first | refine st ?_ | refine cC f1 ?_ | refine cC f3 ?_)
       refine⟨j+1,⟨hlt,hf⟩, ?_, ?_,by omega⟩
       ·exact qe
       ·have F:=ai trAV.eq_1 chAV.eq_1;exact qe
     | true=>
       rw [hab] at hf f3;simp only [if_true] at hf;rw [hf,Option.getD_some];unfold zan at f1 f3;have F:=ai10 trAV.eq_1 chAV.eq_1 stAV.eq_1 hx hsk q1 q2 q3 h0 hk1;repeat (first | refine st ?_ | refine cC f1 ?_ | refine cC f3 ?_)
       exact aR
 ·obtain rfl:j=U.length:=by omega
  have q1: ¬(U.length:Int)< (U.length:Int):=by omega
  rw [List.drop_length] at hf;rw [hf];simp only [List.find?_nil,Option.getD_none];have F:=q1;repeat refine st ?_
  exact aR
theorem Full.src {c:ChD} (h:Full c) {k:Nat} {t:TrD} (ht:c.trans[k]? =some t):inZ c t.src=true/\(t.target= -1\/inZ c t.target=true):=by
 have:=h.tr k t ht;unfold zck at this;simp only [Bool.and_eq_true,Bool.or_eq_true,beq_iff_eq,decide_eq_true_eq] at this;refine⟨?_,this.2.imp id fun q=>zas.2 q⟩;have h1:=this.1.1.1.1;unfold zaU at h1;split at h1
 ·rename_i s hs;unfold at_ at hs;split at hs
  ·rename_i h0;have:=(List.getElem?_eq_some_iff.1 hs).1;exact zas.2 ⟨h0,by omega⟩
  ·cases hs
 ·cases h1
end Go.Proofs.YtbpmkofnfgdegaaGreatDoor
namespace Go.Proofs
def Tryz.revI_ren:Go.Shelf.Ren:=⟨fun | 112=>137 | n=>n,fun | 28=>27 | 3=>3 | 4=>4 | 0=>0 | n=>n,fun | n=>n⟩
theorem Tryz.revI:Go.Proofs.Lays.n112 prog Tryz.revI_ren:={
 mixed:=by kernel_rfl
 f112:=func137.trans (congrArg some (by kernel_rfl))
 t0:=Tryz.underlying0
 a0:=Tryz.isAgg0
 z0:=Tryz.sizeOf0
 v0:=Tryz.zeroValue0
 t3:=Tryz.underlying3
 a3:=Tryz.isAgg3
 z3:=Tryz.sizeOf3
 v3:=Tryz.zeroValue3
 t4:=Tryz.underlying4
 a4:=Tryz.isAgg4
 z4:=Tryz.sizeOf4
 v4:=Tryz.zeroValue4
 t28:=Tryz.underlying27
 a28:=Tryz.isAgg27
 z28:=Tryz.sizeOf27
 v28:=Tryz.zeroValue27 }
end Go.Proofs
namespace Go.Proofs.YtbpmkofnfgdegaaGreatDoor
open Go.Proofs.Tryz
open Go.RowKit Go.Sort Go.Shelf Go.Lib
theorem Tryz.revIEnter: ∀(args:Array Value) (w:World),(callFunc 137 args).run prog w= .ok (.enter 137 args) w:=enters_of func137 (by kernel_rfl) rfl
theorem zhh (l:List Int) (hl:l.length<=9223372036854775807):Turns prog 137 [] 3 1 (l.map intC) (l.reverse.map intC):=by
 by_cases h0:l=[]
 ·subst h0;exact zeP Tryz.revIEnter fun p cap w=>Any.slices_Reverse_int_empty Tryz.revI p cap w
 ·refine zdJ (by rw [List.length_map]; exact List.length_pos_iff.2 h0) Tryz.revIEnter (by simp) (fun x hx=> ?_) (fun x hx=> ?_) fun w g cap hH hg=> ?_
  ·obtain⟨y,_,rfl⟩:=List.mem_map.1 hx; rfl
  ·obtain⟨y,_,rfl⟩:=List.mem_map.1 hx;exact⟨rfl,fun u hu=>by rw [List.mem_singleton.1 hu]; rfl⟩
  ·have hH:Holds id w g 0 (l.map (Value.int .i64)).toArray:=by rw [<-zcd]; exact hH
   have:=Any.slices_Reverse_int Tryz.revI g 0 cap l w (zhs hH) hl;rw [List.length_map];refine(show Calls prog 137 #[.slice (some ⟨g,0,none⟩) l.length cap] w _ from this).mono ?_;rintro ex w' ⟨rfl,n,rfl⟩;refine⟨rfl,n, #[], ?_⟩;have hgr: ∀W:World,grow W #[]=W:=fun W=>by simp [grow]
   rw [hgr,zew,show (l.reverse.map intC).flatten=l.reverse.map (Value.int .i64) from zcd (Value.int .i64) _];simp
end Go.Proofs.YtbpmkofnfgdegaaGreatDoor
namespace Go.Proofs.YtbpmkofnfgdegaaGreatDoor
open Go.Proofs.Tryz
open Go.RowKit
/-! Legal states -/
theorem zrc {l:List Int} (h: ∀j,0<j->j<l.length->l.getD (j-1) 0<l.getD j 0):l.Pairwise (· < ·):=by
 rw [List.pairwise_iff_getElem];intro i j hi hj hij
 have key: ∀d,i+d+1<l.length->l.getD i 0<l.getD (i+d+1) 0:=fun d=>by
  induction d with
  | zero=>intro hd; simpa using h (i+1) (by omega) (by omega)
  | succ d ih=>
    intro hd;have h1:=ih (by omega);have h2:=h (i+d+1+1) (by omega) (by omega);have e:i+(d+1)+1=i+d+1+1:=by omega
    rw [e];simp only [Nat.add_sub_cancel] at h2;omega
 have:=key (j-i-1) (by omega);rw [show i+(j-i-1)+1=j by omega] at this;simpa [List.getD_eq_getElem?_getD,List.getElem?_eq_getElem hi,List.getElem?_eq_getElem hj] using this
structure Lg (c:ChD) (act:List Int):Prop where
 rise:act.Pairwise (· < ·)
 fit: ∀x∈act,∃s,at_ c x=some s/\fitB c act x.toNat s=true
 top:manyI act (kidsL c (-1) true)=1
theorem zma {c:ChD} {act:List Int} (h:lgB c act=true):Lg c act:=by
 obtain⟨h1,h2⟩:=zpg.1 h
 have h3: ∀j (hj:j<act.length),(j==0||decide (act.getD (j-1) 0<act[j]))=true/\fitI c act act[j]=true:=fun j hj=>by
  have:=h1 j hj;unfold lgAt at this;rw [List.getElem?_eq_getElem hj] at this;simpa only [Bool.and_eq_true] using this
 refine⟨zrc fun j h0 hj=> ?_,fun x hx=> ?_,h2⟩
 ·have:=(h3 j hj).1;have hne:(j==0)=false:=by simp; omega
  rw [hne,Bool.false_or,decide_eq_true_eq] at this;simpa [List.getD_eq_getElem?_getD,List.getElem?_eq_getElem hj] using this
 ·obtain⟨j,hj,rfl⟩:=List.mem_iff_getElem.1 hx;have:=(h3 j hj).2;unfold fitI at this;split at this
  ·rename_i s hs; exact⟨s,hs,this⟩
  ·cases this
theorem Lg.of {c:ChD} {act:List Int} (h:Lg c act) {x:Int} (hx:x∈act): ∃s,at_ c x=some s/\inZ c x=true/\zaI s=false/\(parZ c x<0\/parZ c x∈act)/\(s.kind=1->kidsL c x true≠[]->manyI act (kidsL c x true)=1)/\(s.kind=2->manyI act (kidsL c x true)=(kidsL c x true).length):=by
 obtain⟨s,hs,hf⟩:=h.fit x hx
 have h0:0<=x/\c.states[x.toNat]? =some s:=by
  unfold at_ at hs;split at hs
  ·exact⟨by assumption,hs⟩
  ·cases hs
 obtain⟨k,rfl⟩: ∃k:Nat,x=k:=⟨x.toNat,by omega⟩;have hk:=(List.getElem?_eq_some_iff.1 h0.2).1;have hp:parZ c (k:Int)=s.parent:=by unfold parZ; rw [hs]
 unfold fitB at hf;rw [Int.toNat_natCast,Bool.and_eq_true,Bool.and_eq_true] at hf;obtain⟨⟨f1,f2⟩,f3⟩:=hf;refine⟨s,hs,zas.2 ⟨by omega,by simpa using hk⟩,by simpa using f1, ?_,fun e hne=> ?_,fun e=> ?_⟩
 ·rw [hp];rw [Bool.or_eq_true,decide_eq_true_eq] at f2;exact f2.imp id fun f2=>by simpa using f2
 ·rw [if_pos ⟨e,hne⟩] at f3;simpa using f3
 ·rw [if_neg (fun q=>by omega),if_pos e] at f3;simpa using f3
theorem Lg.real {c:ChD} {act:List Int} (h:Lg c act) {x:Int} (hx:x∈act) {s:StD} (hs:at_ c x=some s):s.kind≠4/\s.kind≠5:=by
 obtain⟨s',e,_,hm,_⟩:=h.of hx;rw [hs] at e;cases e;unfold zaI at hm;simpa using hm
theorem Lg.nodup {c:ChD} {act:List Int} (h:Lg c act):act.Nodup:=h.rise.imp fun h=>by omega
theorem Lg.up {c:ChD} (hr:Right c) {act:List Int} (h:Lg c act): ∀(n:Nat) (x k:Int),x<n->x∈act->k∈upL c x->0<=k->k∈act
 | 0,x,k,hn,hx,hk,h0=>by
   obtain⟨_,_,hz,_⟩:=h.of hx;have:=zas.1 hz;omega
 | n+1,x,k,hn,hx,hk,h0=>by
   obtain⟨_,_,hz,_,hp,_⟩:=h.of hx;rw [zdg hr hz] at hk;have:=zcA hr hz;rcases hk with rfl | hk
   ·exact hp.resolve_left (by omega)
   ·rcases hp with hp | hp
    ·rw [zel (by unfold inZ; rw [decide_eq_false (by omega),Bool.false_and])] at hk;simp at hk
    ·exact Lg.up hr h n _ k (by omega) hp hk h0
/-! Memories in their order -/
/-! What is remembered -/
/-! As the document says -/
theorem zkP {a b:List Int} (ha:a.Pairwise (· < ·)) (hb:b.Pairwise (· < ·)) (h: ∀x,x∈a↔x∈b):a=b:=by
 have na:a.Nodup:=ha.imp fun h=>by omega
 have nb:b.Nodup:=hb.imp fun h=>by omega
 exact List.Perm.eq_of_pairwise (fun x y _ _ h1 h2=>by omega) ha hb ((List.perm_ext_iff_of_nodup na nb).2 h)
theorem zmY {l:List Int} (hn:l.Nodup):(zaR l).Pairwise (· < ·)/\ ∀x,x∈zaR l↔x∈l:=by
 have hs:(zaR l).Pairwise (fun x y:Int=>decide (x<=y)=true):=List.pairwise_mergeSort (fun a b c=>by simp; omega) (fun a b=>by simp; omega) _;have hp:(zaR l).Perm l:=List.mergeSort_perm ..;have hn2:(zaR l).Nodup:=hp.nodup_iff.2 hn;refine⟨(List.pairwise_and_iff.2 ⟨hs,hn2⟩).imp fun⟨a,b⟩=> ?_,fun x=>hp.mem_iff⟩;have a:=of_decide_eq_true a;omega
theorem zn2 {p:Nat->Bool} {n:Nat} :(zL ((List.range n).filter p)).Pairwise (· < ·):=by
 unfold zL;rw [List.pairwise_map];exact(zto (p:=p) (n:=n)).imp fun h=>by omega
/-! Moves -/
end Go.Proofs.YtbpmkofnfgdegaaGreatDoor
set_option linter.unusedSimpArgs false
namespace Go.Proofs.YtbpmkofnfgdegaaGreatDoor
open Go.Proofs.Tryz
open Go.RowKit
set_option maxRecDepth 100000
set_option maxHeartbeats 8000000
def undR (c:ChD) (act:List Int) (i:Int):List Int:=(zL (sortL c act)).filter (aboveB c i)
def zgW (c:ChD) (l:List Int) (i:Int) (j:Nat):List Int:=(l.take j).filter (aboveB c i)
theorem zmM {c:ChD} {l:List Int} {i:Int} {j:Nat} {x:Int} (h:l[j]? =some x):zgW c l i (j+1)=if aboveB c i x then zgW c l i j++[x] else zgW c l i j:=by
 unfold zgW;rw [List.take_add_one,h,List.filter_append];cases hb:aboveB c i x<;>simp [hb]
theorem zoi (c:ChD) (l:List Int) (i:Int) (j:Nat):(zgW c l i j).length<=l.length:=by
 unfold zgW;exact Nat.le_trans (List.length_filter_le ..) (by rw [List.length_take]; omega)
theorem zi3 {c:ChD} (hc:Right c) (act:List Int):(sortL c act).length<=32:=by
 unfold sortL;split
 ·exact Nat.le_trans (List.length_filter_le ..) (zhS hc (by omega))
 ·simp
theorem zrm (env:Env) (c:ChD) (hc:Right c) (act:List Int) (hl:act.length<=1000000) (d:Int):Con prog env 133 [zai c, .seq 1 (act.map intAV),I d] (.own 3 1 ((undR c act d).reverse.map intAV)):=by
 have f1:=zaM env c;have f2:=zbU env c hc act hl;have hsl:=zi3 hc act;rw [<-zg9] at f2;unfold undR;have hsl:(zL (sortL c act)).length<=32:=by rw [zcj]; exact hsl
 generalize zL (sortL c act)=L at*;unfold zai zan at f1;unfold zan at f2;unfold zai;refine qf func133 call133 ntmps133 results133 ?_;repeat (first | refine st0 ?_ | refine cC0 f1 ?_ | refine cC0 f2 ?_)
 refine zaT 7 7 3 1 ?_;refine zab (D:=Nat) (fun j vs=>[(0, .ref 9 [tabCells c] 0 0),(2,I d),(7, .row 7 (vs 7)),(13, .row 13 (vs 13)),(14,I L.length),(15,I j)]) (fun j _=>[(7,⟨1,(zgW c L d j).map intAV,3,true⟩),(13,⟨1,L.map intAV,3,true⟩)]) (fun j _ esc=>j<=L.length/\esc 7=false) (fun j=>L.length-j) 0 ?_ ?_ ?_ ?_
 ·exact⟨Nat.zero_le _,rfl⟩
 ·(simp only [go_sem])
  try rfl
 ·(simp only [go_sem])
  try rfl
 rintro j ws esc ⟨hj,e0⟩;by_cases hlt:j<L.length
 ·obtain⟨x,hx⟩: ∃x,L[j]? =some x:=⟨L[j],List.getElem?_eq_getElem hlt⟩;have q1:=nlt hlt;have q2:=zaa hlt (by omega);have f3:=zhc env c hc d x;unfold zan at f3;have hil:=zoi c L d j;have hf:Fits ((zgW c L d j).length+1) 8:=zaf (by omega) (by omega);have hn:=zmM (c:=c) (i:=d) hx;cases hb:aboveB c d x with
  | true=>
    rw [hb] at f3;rw [hb,if_pos rfl] at hn;have F:=ai5 q1 q2 hx hf e0;repeat (first | refine st ?_ | refine cC f1 ?_ | refine cC f3 ?_)
    refine⟨j+1,⟨hlt,by simp only [go_sem,e0]⟩, ?_, ?_,by omega⟩
    ·exact qe
    ·have F:=ai hn @List.map_append.{0,0};exact qe
  | false=>
    rw [hb] at f3;rw [hb,if_neg Bool.false_ne_true] at hn;have F:=ai5 q1 q2 hx hf e0;repeat (first | refine st ?_ | refine cC f1 ?_ | refine cC f3 ?_)
    refine⟨j+1,⟨hlt,by simp only [go_sem,e0]⟩, ?_, ?_,by omega⟩
    ·exact qe
    ·have F:=ai hn @List.map_append.{0,0};exact qe
 ·obtain rfl:j=L.length:=by omega
  have q1: ¬(L.length:Int)< (L.length:Int):=by omega
  have hall:zgW c L d L.length=L.filter (aboveB c d):=by unfold zgW; rw [List.take_length]
  rw [hall];have hfl:(L.filter (aboveB c d)).length<=32:=Nat.le_trans (List.length_filter_le ..) hsl;generalize L.filter (aboveB c d)=U at*;have f4:=zhh U (by omega);have F:=ai q1 e0;repeat refine st ?_
  refine zgz 7 rfl (row:=⟨1,U.map intAV,3,true⟩) f4 (Nat.succ_ne_zero 0) rfl (litEs_int _).symm (by simp only [go_sem,e0]; exact iR) (by simp only [go_sem,e0]; exact iR) (by simp only [go_sem,e0]; exact iR) (by simp only [go_sem,e0]; exact iR) ?_;rw [litEs_int];repeat refine st ?_
  exact aR
def zhr (c:ChD) (act:List Int) (t:TrD):List Int:=if t.target<0 then [] else(undR c act (domE c t.src t.target)).reverse
theorem zt1 {l:List Int} (h: ∀x∈l,0<=x):l=zL (l.map Int.toNat):=by
 unfold zL;rw [List.map_map]
 conv=>lhs; rw [<-List.map_id l]
 refine List.map_congr_left fun x hx=> ?_;have:=h x hx;simp only [id_eq,Function.comp];omega
end Go.Proofs.YtbpmkofnfgdegaaGreatDoor
set_option linter.unusedSimpArgs false
namespace Go.Proofs.YtbpmkofnfgdegaaGreatDoor
open Go.Proofs.Tryz
open Go.RowKit
set_option maxRecDepth 100000
set_option maxHeartbeats 16000000
theorem zoh (env:Env) (o:List Int) (i:Int) (ho:o.length<=4000) (te:TypeId):ConI prog env 230 [1000,1001] (fun k=>k==1001) (fun vs=>[I i, .loc 1000 (vs 1000) 0 0]) (fun vs=>[(1000,⟨1,[[.row 1001 (vs 1001)]],te,false⟩),(1001,⟨1,o.map intAV,3,true⟩)]) (fun vs=>[(1000,⟨1,[[.row 1001 (vs 1001)]],te,false⟩),(1001,⟨1,(addU o i).map intAV,3,true⟩)]) (fun _=> .lit (.tuple #[])):=by
 have f0:=(zbg env o i (by omega)).lend rfl;unfold addU;cases hc:o.contains i with
 | true=>
   rw [hc] at f0;simp only [if_true];refine qi func230 call230 ntmps230 results230 ?_;intro vs esc hesc;have e0:=hesc 1000 (by simp);have e1:=hesc 1001 (by simp);have F:=ai e0 e1;repeat refine st ?_
   refine lL f0 ?_;repeat refine st ?_
   exact rN
 | false=>
   rw [hc] at f0;have hf:Fits (o.length+1) 8:=zaf (by omega) (by omega);simp only [Bool.false_eq_true,if_false,List.map_append];refine qi func230 call230 ntmps230 results230 ?_;intro vs esc hesc;have e0:=hesc 1000 (by simp);have e1:=hesc 1001 (by simp);have F:=ai3 e0 e1 hf;repeat refine st ?_
   refine lL f0 ?_;repeat refine st ?_
   exact rN
end Go.Proofs.YtbpmkofnfgdegaaGreatDoor
set_option linter.unusedSimpArgs false
namespace Go.Proofs.YtbpmkofnfgdegaaGreatDoor
open Go.Proofs.Tryz
open Go.RowKit
set_option maxRecDepth 100000
set_option maxHeartbeats 16000000
end Go.Proofs.YtbpmkofnfgdegaaGreatDoor
namespace Go.Proofs.YtbpmkofnfgdegaaGreatDoor
open Go.Proofs.Tryz
open Go.RowKit
def zua (c:ChD) (tg:Int) (mem:List MemD):List Int:=match at_ c tg with
 | some s=>if zaI s=true then(match mem.find? (fun m=>m.1==tg) with
   | some m=>m.2
   | none=>[s.initial]) else [tg]
 | none=>[]
end Go.Proofs.YtbpmkofnfgdegaaGreatDoor
set_option linter.unusedSimpArgs false
namespace Go.Proofs.YtbpmkofnfgdegaaGreatDoor
open Go.Proofs.Tryz
open Go.RowKit
set_option maxRecDepth 100000
set_option maxHeartbeats 16000000
abbrev memsAV (l:List MemD):AV:= .seq 2 (l.map mmAV)
def tgtL (c:ChD) (src tg:Int) (mem:List MemD):List Nat:=sortL c (zrt c (upsL c (zua c tg mem) (domE c src tg)))
end Go.Proofs.YtbpmkofnfgdegaaGreatDoor
