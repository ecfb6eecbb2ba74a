/- slices.Insert at memories. -/
import Derived.Test.YtbpmkofnfgdegaaGreatDoorQ25
import Derived.Test.YtbpmkofnfgdegaaGreatDoorQ8
import Derived.Test.YtbpmkofnfgdegaaGreatDoorQ6
import Derived.Test.YtbpmkofnfgdegaaGreatDoorQ11
import Derived.Test.YtbpmkofnfgdegaaGreatDoorQ4
import Derived.LoopNIn
import Derived.Test.YtbpmkofnfgdegaaGreatDoorQ17
import Derived.Test.YtbpmkofnfgdegaaGreatDoorQ10
import Derived.Test.YtbpmkofnfgdegaaGreatDoorQ5
import Derived.Lib.Overlaps
import Derived.Lib.AppendZerosOnto
import Derived.Deep.RegionLaw
set_option maxRecDepth 100000
set_option maxHeartbeats 16000000
set_option linter.unusedSimpArgs false
namespace Go.Proofs.YtbpmkofnfgdegaaGreatDoor
open Go.Proofs.Tryz
open Go.RowKit
section
theorem zrr {c:ChD} {k:Nat} {s:StD} (hs:c.states[k]? =some s):parZ c k=s.parent:=by unfold parZ;rw[zaM,hs]
theorem zvS {c:ChD} {k:Nat} {s:StD} (hs:c.states[k]? =some s):zvT c k=s.name:=by unfold zvT;rw[zaM,hs]
theorem zsA {c:ChD} {r:RunD} {o l:List Int} {j:Nat} {i:Int} (hi:l[j]? =some i):zdI c r o (l.drop j)=if parZ c i<0 then zdI c { r with over:=true } o (l.drop (j+1))
 else match raiseP r (dotN c (parZ c i)) 0 with
  |(r1,none)=>zdI c r1 (if 0<=parZ c (parZ c i)/\zcX c (parZ c (parZ c i))=2 then o++[parZ c (parZ c i)] else o) (l.drop (j+1))
  |x=>(x,[]):=by
 rw[zaQ hi]
 conv=>lhs;unfold zdI
 rcases raiseP r (dotN c (parZ c i)) 0 with⟨r1,_|_⟩<;>rfl
theorem zsz {c:ChD} {r:RunD} {l:List Int} {j:Nat} {g:Int} (hi:l[j]? =some g):zeL c r (l.drop j)=if zsY c r.act g=true then(match raiseP r (dotN c g) 0 with
 |(r1,none)=>zeL c r1 (l.drop (j+1))
 |x=>x)
 else zeL c r (l.drop (j+1)):=by
 rw[zaQ hi]
 conv=>lhs;unfold zeL
 rcases raiseP r (dotN c g) 0 with⟨r1,_|_⟩<;>rfl
theorem zkP (r:RunD) (s:List UInt8) (v:Int):(raiseP r s v).1.act=r.act:=by unfold raiseP;split<;>rfl
theorem zjm {c:ChD} (_h:Right c) {l:List Int} {k:Nat} (hk:k∈sortL c l):k<c.states.length:=by
 unfold sortL at hk;split at hk
 ·rename_i hl;have:=(List.mem_filter.1 hk).2;have:=List.all_eq_true.1 hl _ (List.contains_iff_mem.1 this);exact zar.1 this
 ·simp at hk
theorem zvu {c:ChD} {k:Nat} {s:StD} (hs:c.states[k]? =some s):dotN c k=[100,111,110,101,46]++s.name:=by unfold dotN;rw[zvS hs]
theorem zn5 {c:ChD} (h:Full c) {k:Nat} {s:StD} (hs:c.states[k]? =some s):s.name.length<=32:=by
 have:=h.st k s hs;unfold zbm zbi at this;simp only[Bool.and_eq_true,decide_eq_true_eq]at this;exact this.1.1.1.1.1.1.1
theorem zpU (env:Env) (a1 a2 a8:Addr) (c:ChD) (d now:Int) (E:RunEnv env a1 a2 a8 c d now) (r:RunD) (hl:r.act.length<=100000) (hb:lgB c r.act=true) (Z:List Int) (hF: ∀i∈Z,inZ c i=true) (hFl:Z.length<=1000):
 ConI prog env 110 [1000,1001,1002,1003,1004,1005] gr5 (fun g=>[.loc 1000 (g 1000) 0 0, .seq 1 (Z.map intAV)]) (RY c d now r) (RY c d now (finishP c r Z).1) (fun _=>errA a2 a8 (finishP c r Z).2):=by
 have hfew:=E.h.few;have hpar:=E.h.toRight.par;have hra:=fun(r:RunD) (s:List UInt8)=>zkO env a2 a8 E.he.e8 c d now r s 0;have fT:=zaE env c;have fS:=fun(o:List Int) (ho:o.length<=1000000)=>((zcG env c E.h.toRight o ho).lend (za4 (fun _=>rfl) _)).seen;have fD:=fun(r:RunD) (hl:r.act.length<=100000) (hb:lgB c r.act=true) (g:Nat) (hg:g<c.states.length)=>(zsX env a1 a8 E.he c E.h E.hs r.act (by omega) hb g hg).lend rfl;have hsl:=fun(o:List Int) (k:Nat) (hk:k∈sortL c o)=>zjm E.h.toRight hk;have hsf:=fun(o:List Int)=>zdg E.h.toRight o;unfold zaj at fT fS;unfold zah at fT fD;refine qi func110 call110 ntmps110 results110 ?_;intro vs esc hesc;obtain⟨e0,e1,e2,e3,e4,e5⟩:=es6 hesc;have F:=ai9 RY.eq_1 RYe.eq_1 gr5.eq_1 e0 e1 e2 e3 e4 e5;repeat refine st ?_
 refine zap 5 5 3 1 ?_;refine zab (D:=Nat×RunD×List Int) (fun x vs'=>[(0, .loc 1000 (vs' 1000) 0 0),(4,nilE),(5, .row 5 (vs' 5)),(15, .seq 1 (Z.map intAV)),(16,I Z.length),(17,I x.1)]) (fun x vs'=>(5,⟨1,x.2.2.map intAV,3,true⟩)::RY c d now x.2.1 vs') (fun x vs' esc'=>(x.1<=Z.length/\zdI c r [] Z=zdI c x.2.1 x.2.2 (Z.drop x.1)/\x.2.1.act=r.act/\x.2.2.length<=x.1)/\(vs' 1000=vs 1000/\vs' 1002=vs 1002)/\esc' 1000=false/\esc' 1001=false/\esc' 1002=false/\esc' 1003=false/\esc' 1004=false/\esc' 1005=false/\esc' 5=false) (fun x=>Z.length-x.1) (0,r,[]) ?_ ?_ ?_ ?_
 ·exact⟨⟨Nat.zero_le _,rfl,rfl,Nat.le_refl _⟩,by simp only[go_sem,and_self],by simp only[go_sem,e0,e1,e2,e3,e4,e5,and_self]⟩
 ·exact qe
 ·exact qe
 try clear e0 e1 e2 e3 e4 e5
 rintro⟨j,r1,o⟩ ws es ⟨⟨hj,heq,hact,hol⟩,⟨v0,v2⟩,e0,e1,e2,e3,e4,e5,e6⟩;simp only at hj heq hact hol;by_cases hlt:j<Z.length
 ·obtain⟨i,hx⟩:=gE hlt;have hi:=hF i (List.mem_of_getElem? hx);obtain⟨k,s,rfl,hs,_⟩:=zb9 hi;have hkl:=(List.getElem?_eq_some_iff.1 hs).1;have q1:=nlt hlt;have q2:=zaa hlt (by omega);have q3:=nlt hkl;have hps:=hpar k s hs;rw[zsA hx,zrr hs]at heq;by_cases hp0:s.parent<0
  ·rw[if_pos hp0]at heq;have F:=ai12 stAV.eq_1 intAV.eq_1 RY.eq_1 RYe.eq_1 gr5.eq_1 hx hs q1 q2 q3 hp0<|ai7 e0 e1 e2 e3 e4 e5 e6;repeat refine st ?_
   refine⟨(j+1,{ r1 with over:=true },o),⟨⟨hlt,heq,hact,by simp only;omega⟩,?_,?_⟩,?_,?_,?_⟩
   ·simp only[go_sem,v0,v2,and_self]
   ·simp only[go_sem,e0,e1,e2,e3,e4,e5,e6,and_self]
   ·exact qe
   ·exact qe
   ·simp only;omega
  rw[if_neg hp0]at heq;obtain⟨p,hp⟩: ∃p:Nat,s.parent=p:=⟨s.parent.toNat,by omega⟩;rw[hp]at heq hp0 hps;obtain⟨t,ht⟩: ∃t,c.states[p]? =some t:=⟨c.states[p]'(by omega),List.getElem?_eq_getElem (by omega)⟩;have q5:(p:Int)< (c.states.length:Int):=by omega
  have htp:=hpar p t ht;have q9:5+t.name.length<=9223372036854775807:=by have:=zn5 E.h ht;omega
  have f0:=hra r1 (dotN c p);have hra1:=zkP r1 (dotN c p) 0;rw[zvu ht]at f0 heq hra1;rw[zrr ht]at heq;rcases hX:raiseP r1 ([100,111,110,101,46]++t.name) 0 with⟨r2,_|⟨k,ps⟩⟩
  ·rw[hX]at heq f0 hra1;simp only at heq hra1;unfold errA RY RYe at f0;simp only at f0;by_cases hg0:0<=t.parent
   ·obtain⟨g,hg⟩: ∃g:Nat,t.parent=g:=⟨t.parent.toNat,by omega⟩;rw[hg]at heq htp;obtain⟨u,hu⟩: ∃t,c.states[g]? =some t:=⟨c.states[g]'(by omega),List.getElem?_eq_getElem (by omega)⟩;have q6:(g:Int)< (c.states.length:Int):=by omega
    rw[zjO hu]at heq;cases h2:u.kind==2 with
    | true=>
      rw[if_pos ⟨by omega,by simpa using h2⟩]at heq;have q7:Fits (o.length+1) 8:=zae (by omega) (by omega);have q8:(o++[(g:Int)]).map intAV=o.map intAV++[[I g]]:=by rw[List.map_append];rfl
      have F:=ai12 stAV.eq_1 intAV.eq_1 RY.eq_1 RYe.eq_1 gr5.eq_1 hx hs ht hu hp hg<|ai12 h2 q1 q2 q3 q5 q6 q7 q9 hp0 e0 e1<|ai5 e2 e3 e4 e5 e6;repeat refine st ?_
      refine iL L6 f0 ?_;repeat refine st ?_
      refine⟨(j+1,r2,o++[(g:Int)]),⟨⟨hlt,heq,hra1.trans hact,by simp only[List.length_append,List.length_singleton];omega⟩,?_,?_⟩,?_,?_,?_⟩
      ·simp only[go_sem,v0,v2,and_self]
      ·simp only[go_sem,e0,e1,e2,e3,e4,e5,e6,and_self]
      ·exact qe
      ·simp only[q8];exact qe
      ·simp only;omega
    | false=>
      rw[if_neg (fun hh=>by rw[hh.2]at h2;cases h2)]at heq;have F:=ai12 stAV.eq_1 intAV.eq_1 RY.eq_1 RYe.eq_1 gr5.eq_1 hx hs ht hu hp hg<|ai12 h2 q1 q2 q3 q5 q6 q9 hp0 e0 e1 e2<|ai4 e3 e4 e5 e6;repeat refine st ?_
      refine iL L6 f0 ?_;repeat refine st ?_
      refine⟨(j+1,r2,o),⟨⟨hlt,heq,hra1.trans hact,by simp only;omega⟩,?_,?_⟩,?_,?_,?_⟩
      ·simp only[go_sem,v0,v2,and_self]
      ·simp only[go_sem,e0,e1,e2,e3,e4,e5,e6,and_self]
      ·exact qe
      ·exact qe
      ·simp only;omega
   ·rw[if_neg (fun hh=>hg0 hh.1)]at heq;have F:=ai12 stAV.eq_1 intAV.eq_1 RY.eq_1 RYe.eq_1 gr5.eq_1 hx hs ht hp hg0 q1<|ai12 q2 q3 q5 q9 hp0 e0 e1 e2 e3 e4 e5 e6;repeat refine st ?_
    refine iL L6 f0 ?_;repeat refine st ?_
    refine⟨(j+1,r2,o),⟨⟨hlt,heq,hra1.trans hact,by simp only;omega⟩,?_,?_⟩,?_,?_,?_⟩
    ·simp only[go_sem,v0,v2,and_self]
    ·simp only[go_sem,e0,e1,e2,e3,e4,e5,e6,and_self]
    ·exact qe
    ·exact qe
    ·simp only;omega
  ·rw[hX]at heq f0;simp only at heq;unfold errA RY RYe at f0;simp only at f0;unfold finishP;rw[heq];show awp _ _ _ _ _ _;unfold errA;simp only;have F:=ai12 stAV.eq_1 intAV.eq_1 RY.eq_1 RYe.eq_1 gr5.eq_1 hx hs ht hp q1 q2<|ai12 q3 q5 q9 v0 v2 hp0 e0 e1 e2 e3 e4<|ai e5 e6;repeat refine st ?_
   refine iL L6 f0 ?_;repeat refine st ?_
   exact rI
 ·obtain rfl:j=Z.length:=by omega
  have q1:=nl Z.length;rw[List.drop_length]at heq;rw[show zdI c r1 o []=((r1,none),o) from rfl]at heq;unfold finishP;rw[heq];simp only;have f1:=fS o (by omega);have hlt2:=hsl o;have hlf:=hsf o;generalize sortL c o=L at*;have F:=ai11 RY.eq_1 RYe.eq_1 gr5.eq_1 q1 e0 e1 e2 e3 e4 e5 e6;repeat refine tz1 fT ?_
  refine lL f1 ?_;repeat refine st ?_
  refine zab (D:=Nat×RunD) (fun x vs'=>[(0, .loc 1000 (vs' 1000) 0 0),(4,nilE),(85, .seq 1 (L.map zac)),(86,I L.length),(87,I x.1)]) (fun x vs'=>RY c d now x.2 vs') (fun x vs' esc'=>(x.1<=L.length/\zeL c r1 (zL L)=zeL c x.2 ((zL L).drop x.1)/\x.2.act=r.act)/\(vs' 1000=vs 1000/\vs' 1002=vs 1002)/\esc' 1000=false/\esc' 1001=false/\esc' 1002=false/\esc' 1003=false/\esc' 1004=false/\esc' 1005=false) (fun x=>L.length-x.1) (0,r1) ?_ ?_ ?_ ?_
  ·exact⟨⟨Nat.zero_le _,rfl,hact⟩,by simp only[go_sem,v0,v2,and_self],by simp only[go_sem,e0,e1,e2,e3,e4,e5,and_self]⟩
  ·exact qe
  ·exact qe
  try clear e0 e1 e2 e3 e4 e5 e6 heq hact v0 v2
  rintro⟨j,r2⟩ ws es ⟨⟨hj,heq,hact⟩,⟨v0,v2⟩,e0,e1,e2,e3,e4,e5⟩;simp only at hj heq hact;by_cases hlt:j<L.length
  ·obtain⟨g,hx⟩:=gE hlt;have hgl:=hlt2 g (List.mem_of_getElem? hx);obtain⟨t,ht⟩: ∃t,c.states[g]? =some t:=⟨c.states[g]'(by omega),List.getElem?_eq_getElem (by omega)⟩;have q1:=nlt hlt;have q2:=zaa hlt (by omega);have q3:=nlt hgl;have q9:5+t.name.length<=9223372036854775807:=by have:=zn5 E.h ht;omega
   have f2:=fD r2 (by rw[hact];exact hl) (by rw[hact];exact hb) g hgl;rw[zsz (zqr hx)]at heq;cases hd:zsY c r2.act g with
   | false=>
     rw[hd]at f2 heq;simp only[Bool.false_eq_true,if_false]at heq;have F:=ai12 stAV.eq_1 zac.eq_1 RY.eq_1 RYe.eq_1 gr5.eq_1 hx ht q1 q2 q3 e0<|ai5 e1 e2 e3 e4 e5;repeat refine st ?_
     refine lL f2 ?_;repeat refine st ?_
     refine⟨(j+1,r2),⟨⟨hlt,heq,hact⟩,?_,?_⟩,?_,?_,?_⟩
     ·simp only[go_sem,v0,v2,and_self]
     ·simp only[go_sem,e0,e1,e2,e3,e4,e5,and_self]
     ·exact qe
     ·exact qe
     ·simp only;omega
   | true=>
     rw[hd]at f2 heq;simp only[if_true]at heq;have f0:=hra r2 (dotN c g);have hra1:=zkP r2 (dotN c g) 0;rw[zvu ht]at f0 heq hra1;rcases hX:raiseP r2 ([100,111,110,101,46]++t.name) 0 with⟨r3,_|⟨k,ps⟩⟩
     ·rw[hX]at heq f0 hra1;simp only at heq hra1;unfold errA RY RYe at f0;simp only at f0;have F:=ai12 stAV.eq_1 zac.eq_1 RY.eq_1 RYe.eq_1 gr5.eq_1 hx ht q1 q2 q3 q9<|ai6 e0 e1 e2 e3 e4 e5;repeat refine st ?_
      refine lL f2 ?_;repeat refine st ?_
      refine iL L6 f0 ?_;repeat refine st ?_
      refine⟨(j+1,r3),⟨⟨hlt,heq,hra1.trans hact⟩,?_,?_⟩,?_,?_,?_⟩
      ·simp only[go_sem,v0,v2,and_self]
      ·simp only[go_sem,e0,e1,e2,e3,e4,e5,and_self]
      ·exact qe
      ·exact qe
      ·simp only;omega
     ·rw[hX]at heq f0;simp only at heq;unfold errA RY RYe at f0;simp only at f0;rw[heq];show awp _ _ _ _ _ _;unfold errA;simp only;have F:=ai12 stAV.eq_1 zac.eq_1 RY.eq_1 RYe.eq_1 gr5.eq_1 hx ht q1 q2 q3 q9<|ai8 v0 v2 e0 e1 e2 e3 e4 e5;repeat refine st ?_
      refine lL f2 ?_;repeat refine st ?_
      refine iL L6 f0 ?_;repeat refine st ?_
      exact rI
  ·obtain rfl:j=L.length:=by omega
   have q1:=nl L.length;rw[List.drop_of_length_le (by rw[za9];omega)]at heq;rw[show zeL c r2 []=(r2,none) from rfl]at heq;rw[heq];show awp _ _ _ _ _ _;unfold errA;simp only;have F:=ai12 RY.eq_1 RYe.eq_1 gr5.eq_1 q1 v0 v2 e0 e1 e2 e3 e4 e5;repeat refine st ?_
   exact rI
theorem zj9 {c:ChD} (hA:ActsOk c) {d now:Int} (hd:zai d=true) (hn:0<=now/\now<=1099511627776): ∀ {l:List Int} {r:RunD} {f:List Int},RunOk c r->(zaK c d now r f l).1.1.act.length<=r.act.length+l.length
 |[],r,f,h=>Nat.le_refl _
 | i::l,r,f,h=>by
   unfold zaK;split
   ·have:=zj9 hA (l:=l) (f:=f) hd hn h;simp only[List.length_cons];omega
   ·obtain⟨k1,k2⟩:=zgt (r:={ r with act:=zbq (r.act++[i]) }) hd hn { h with } (hA.inn i);have ha:=k2.act;split
    ·rename_i r1 e;rw[e]at k1 ha;have:=zj9 hA (l:=l) (f:=if zcX c i=3 then f++[i] else f) hd hn k1;have ha:r1.act=zbq (r.act++[i]):=ha;rw[ha,zg7,List.length_append]at this;simp only[List.length_cons,List.length_nil]at this |-;omega
    ·rename_i x hx;simp only;rw[ha];simp only[zg7,List.length_append,List.length_cons,List.length_nil];omega
theorem zlM (env:Env) (a1 a2 a8:Addr) (c:ChD) (d now:Int) (E:RunEnv env a1 a2 a8 c d now) (r:RunD) (hr:RunOk c r) (hrise:r.act.Pairwise (· < ·)) (hl:r.act.length<=1000) (G:List Nat) (hG: ∀i∈G,i<c.states.length) (hGl:G.length<=1000) (hleg:(zaK c d now r [] (zL G)).1.2=none->lgB c (zaK c d now r [] (zL G)).1.1.act=true):
 ConI prog env 59 [1000,1001,1002,1003,1004,1005] gr5 (fun g=>[.loc 1000 (g 1000) 0 0, .seq 1 (G.map zac)]) (RY c d now r) (RY c d now (enterP c d now r (zL G)).1) (fun _=>errA a2 a8 (enterP c d now r (zL G)).2):=by
 have hA:=zcg E.h;have f0:=zuP env a1 a2 a8 c d now E r hr hl G hG hGl;have k0:=zj9 hA (l:=zL G) (f:=[]) E.hd E.hn hr;obtain⟨_,k2⟩:=ze6 hA (l:=zL G) (f:=[]) E.hd E.hn hr hrise;have hfin:=fun(r:RunD) hl hb (F:List Int) hF hFl=>zpU env a1 a2 a8 c d now E r hl hb F hF hFl;rw[za9]at k0;unfold enterP;rcases hX:zaK c d now r [] (zL G) with⟨⟨r1,_|⟨k,ps⟩⟩,f⟩
 ·rw[hX]at f0 hleg k0 k2;simp only at hleg k0 k2;have kc:=k2 trivial;have hkl:=kc.len;rw[za9]at hkl
  have f1:=hfin r1 (by omega) (hleg trivial) f (fun i hi=>by
   rcases (kc.fin i).1 hi with q|⟨q,_⟩
   ·simp at q
   ·obtain⟨k,hk,rfl⟩:=List.mem_map.1 q
    exact zar.2 (hG k hk)) (by simp only[List.length_nil]at hkl;omega)
  simp only;generalize finishP c r1 f=Y at*;unfold zs4 RY RYe at f0;unfold RY RYe at f1;simp only at f0;refine qi func59 call59 ntmps59 results59 ?_;intro vs esc hesc;obtain⟨e0,e1,e2,e3,e4,e5⟩:=es6 hesc;have F:=ai10 RY.eq_1 RYe.eq_1 gr5.eq_1 zcx e0 e1 e2 e3 e4 e5;repeat refine st ?_
  refine iL L6 f0 ?_;repeat refine st ?_
  refine iL L6 f1 ?_;repeat refine st ?_
  exact rI
 ·rw[hX]at f0;simp only;unfold zs4 errA RY RYe at f0;simp only at f0;show ConI _ _ _ _ _ _ _ _ fun _=>errV _ _;refine qi func59 call59 ntmps59 results59 ?_;intro vs esc hesc;obtain⟨e0,e1,e2,e3,e4,e5⟩:=es6 hesc;have F:=ai9 RY.eq_1 RYe.eq_1 gr5.eq_1 e0 e1 e2 e3 e4 e5;repeat refine st ?_
  refine iL L6 f0 ?_;repeat refine st ?_
  exact rI
end
section
def rounds (P:Program) (env:Env) (nt:Nat) (c:Code) (Q:Exit->St->Prop):Nat->St->Prop
 |0,_=>False
 |n+1,s=>awp P env nt c (zcV (rounds P env nt c Q n) Q) s
section
variable {P:Program} {env:Env} {nt:Nat} {c:Code} {Q:Exit->St->Prop} {s:St}
end
end
section
theorem zsW {c:ChD} {d now:Int} {r:RunD} {l:List Int} {e:Nat×List Int} (h:(zaK c d now r [] l).1.2=some e):enterP c d now r l=(zaK c d now r [] l).1:=by
 unfold enterP;rcases hX:zaK c d now r [] l with⟨⟨r1,_|x⟩,f⟩
 ·rw[hX]at h;cases h
 ·rfl
end
section
theorem zdx {P:Program} (w:World) (dT sT ty elem:TypeId) (ie:TypeInfo) (hi:P.info? elem=some ie) (g o dLen dCap:Nat) (a:Addr) (sLen sCap:Nat) (cur:Array Value) (t:TypeId) (cs:List Value) (k:Nat) (hu:P.underlying dT=some (.slice elem))
 (hg:w.heap[g]? =some (.cells cur t (0,0))) (hk:Nat.min sLen dLen=k) (hn:cs.length=k*ie.size) (hsrc: ∀j v,cs[j]? =some v->w.cell? (a.add j)=some v) (hfit:o+cs.length<=cur.size) (h1: ∀v∈cs,v.oneCell'=true):
 (Builtin.copy_ #[dT,sT] ty #[.slice (some ⟨g,o,none⟩) dLen dCap, .slice (some a) sLen sCap]).run P w= .ok (goInt k) (w.setRow g (cur.toList.take o++cs++cur.toList.drop (o+cs.length)).toArray):=by
 have hl:=run_loadCells_list (P:=P) w a cs hsrc;have hst:=run_storeCells_at P g o t cs 0 cur w hg (by simpa using hfit) h1;simp only[Nat.add_zero]at hst;simp[Builtin.copy_,run_underlying hu,Builtin.lenOf,Builtin.firstCells,sizeOf,typeInfo,hi,hk, <-hn,hl,hst]
structure Insr (P:Program) (f:FuncId) (e:TypeId) (sz:Nat):Prop where
 enter: ∀(args:Array Value) (w:World),(callFunc f args).run P w= .ok (.enter f args) w
 calls: ∀(w:World) (base i n:Nat) (v u:Value) (xs ys:List Value),base<=w.heap.size->w.ownsRow base e sz v n xs->w.ownsRow base e sz u 1 ys->(∀g,v.ownBlock=some g->u.ownBlock≠some g)->(∀x∈xs,x.oneCell'=true)->(∀y∈ys,y.oneCell'=true)->i<=n->n<=4096->
  Calls P f #[v, .int .i64 (i:Int),u] w fun ex w'=> ∃v',ex= .returned v'/\w.grownBy w' v.ownBlock/\(∀g,v'.ownBlock=some g->v.ownBlock=some g\/w.heap.size<=g)/\w'.ownsRow base e sz v' (n+1) (xs.take (i*sz)++ys++xs.drop (i*sz))
def zhz (i:Nat) (y:List AV) (es:List (List AV)):List (List AV):=es.take i++y::es.drop i
theorem zr4 (i:Nat) (y:List AV) (es:List (List AV)):(zhz i y es).length=es.length+1:=by
 unfold zhz;rw[List.length_append,List.length_cons,List.length_take,List.length_drop];omega
theorem zjV {i:Nat} {y:List AV} {es:List (List AV)} (hi:i<=es.length) (p:Nat):(zhz i y es)[p]? =if p<i then es[p]? else if p=i then some y else es[p-1]? :=by
 have hl:(es.take i).length=i:=by rw[List.length_take];omega
 unfold zhz;by_cases h1:p<i
 ·rw[if_pos h1,List.getElem?_append_left (by omega),List.getElem?_take,if_pos h1]
 ·rw[if_neg h1,List.getElem?_append_right (by omega),hl];by_cases h2:p=i
  ·subst h2;rw[if_pos rfl,Nat.sub_self];rfl
  ·rw[if_neg h2,show p-i=(p-1-i)+1 by omega,List.getElem?_cons_succ,List.getElem?_drop,show i+(p-1-i)=p-1 by omega]
theorem zv3 {i sz n:Nat} {xs ys:List Value} (hx:xs.length=n*sz) (hy:ys.length=sz) (hi:i<=n) (p j:Nat) (hj:j<sz):
 (xs.take (i*sz)++ys++xs.drop (i*sz))[p*sz+j]? =if p<i then xs[p*sz+j]? else if p=i then ys[j]? else xs[(p-1)*sz+j]? :=by
 have hi2:i*sz<=n*sz:=Nat.mul_le_mul_right _ hi;have hl:(xs.take (i*sz)).length=i*sz:=by rw[List.length_take];omega
 by_cases h1:p<i
 ·have:(p+1)*sz<=i*sz:=Nat.mul_le_mul_right _ h1;rw[Nat.succ_mul]at this;rw[if_pos h1,List.append_assoc,List.getElem?_append_left (by omega),List.getElem?_take,if_pos (by omega)]
 ·rw[if_neg h1];by_cases h2:p=i
  ·subst h2;rw[if_pos rfl,List.append_assoc,List.getElem?_append_right (by omega),hl,Nat.add_sub_cancel_left,List.getElem?_append_left (by omega)]
  ·have h3:(i+1)*sz<=p*sz:=Nat.mul_le_mul_right _ (by omega);rw[Nat.succ_mul]at h3;have h4:p*sz=(p-1)*sz+sz:=by rw[<-Nat.succ_mul];congr 1;omega
   rw[if_neg h2,List.getElem?_append_right (by rw[List.length_append];omega),List.length_append,hl,List.getElem?_drop]
   congr 1
   omega
theorem ztv {P:Program} {env:Env} {f:FuncId} {r r2 ver ver2:Nat} {row row2:Row} {rows:Nat->Option Row} {vsv:Nat->Nat} {i:Nat} {y:List AV} (hC:Insr P f row.e row.sz) (hr:rows r=some row) (hr2:rows r2=some row2) (hne:r2≠r) (hv:vsv r=ver) (hv2:vsv r2=ver2) (hrz:row.sz≠0) (hp:row.pure=true) (hp2:row2.pure=true)
 (e2:row2.e=row.e) (z2:row2.sz=row.sz) (y2:row2.es=[y]) (hi:i<=row.es.length) (hn:row.es.length<=4096):
 Acts P env f [.row r ver, .lit (.int .i64 (i:Int)), .row r2 ver2] [r,r2] rows vsv ⟨.row r (ver+1),[.renew r { row with es:=zhz i y row.es }]⟩:=by
 refine⟨hC.enter,fun x s a w m vs hx hS hro hl hvs=> ?_⟩;obtain⟨q1,q2,q3⟩:=hro r (by simp);obtain⟨p1,p2,p3⟩:=hro r2 (by simp);rw[hr]at q1;rw[hv]at q2;rw[hr2]at p1;rw[hv2]at p2
 match vs,hl with
 |[u,iv,u2],_=>
 have hu:u=m.ρ r:=(hvs 0 u _ rfl rfl).row_.2 q2 row q1;have hu2:u2=m.ρ r2:=(hvs 2 u2 _ rfl rfl).row_.2 p2 row2 p1;have hiv:iv= .int .i64 (i:Int):=(hvs 1 iv _ rfl rfl).lit_;subst hu hu2 hiv;have k:=(hS.rows r row q1).cells hrz;have k2:=(hS.rows r2 row2 p1).cells (by rw[z2];exact hrz);obtain⟨xs,c1,c2,c3⟩:=k.own;obtain⟨ys,d1,d2,d3⟩:=k2.own;rw[y2,e2,z2]at d1;have hyl:ys.length=row.sz:=by have:=d1.1;simpa using this
 refine(hC.calls w x.w.heap.size i row.es.length (m.ρ r) (m.ρ r2) xs ys hS.bel.size c1 d1 (fun g hg=>hS.inj r r2 row row2 q1 p1 (Ne.symm hne) g hg) c2 d2 hi hn).mono ?_;rintro ex w' ⟨v',rfl,hg,hsub,ho⟩
 have hb:Below x.w.heap.size w w':=⟨hg.os,hg.tape,hg.output,hg.size,fun q hq=>hg.block q (Nat.lt_of_lt_of_le hq hS.bel.size) fun e=>by
  have:=(zaP c1 e.symm).1
  omega⟩
 have hnS: ∀g,(m.ρ r).ownBlock=some g-> ∀o,¬m.S g o:=k.fresh q3
 have hnS2: ∀g,v'.ownBlock=some g-> ∀o,¬m.S g o:=fun g hgv o hh=>by
  rcases hsub g hgv with e|e
  ·exact hnS g e o hh
  ·have:=hS.low g o hh;omega
 have hcell: ∀b o,m.S b o->m.S b o/\Stay w w' b o:=fun b o hh=>⟨hh, .block (hg.block b (hS.low b o hh) fun e=>hnS b e.symm o hh)⟩;have hρ:(⟨m.S,upd m.ρ r v'⟩:Mem).ρ r=v':=upd_same ..
 have hS2:Sim x (s.renew r { row with es:=zhz i y row.es } false) a w' ⟨m.S,upd m.ρ r v'⟩:=by
  refine hS.renew r _ false v' m.S hb hcell (fun b o hh=> .inl hh) (fun q row1 hnq hq gq hgq=>⟨?_,fun e=> ?_,fun _ hh=>hh⟩) ?_ fun b hf=>⟨hg.block b (hS.fxlt hf) fun e=>hS.nofx r row q1 b e.symm hf,fun _ hh=>hh,fun e=> ?_⟩
  ·exact hg.block gq ((hS.rows q row1 hq).blk hgq).2 fun e=>hS.inj r q row row1 q1 hq (Ne.symm hnq) gq e.symm hgq
  ·rcases hsub gq e with e|e
   ·exact hS.inj r q row row1 q1 hq (Ne.symm hnq) gq e hgq
   ·have:=((hS.rows q row1 hq).blk hgq).2;omega
  ·have hlen:=zr4 i y row.es;refine .inl ⟨k.pos,fun p e he=> ?_,⟨xs.take (i*row.sz)++ys++xs.drop (i*row.sz),by rw[hρ];show w'.ownsRow _ _ _ _ (zhz i y row.es).length _;rw[hlen];exact ho,?_,?_⟩,fun he=> ?_,fun g hg' o _=> ?_,fun _ g hg' o=> ?_⟩
   ·rw[zjV hi]at he;split at he
    ·exact k.len _ _ he
    ·split at he
     ·cases he;have:=k2.len 0 y (by rw[y2];rfl);rw[z2]at this;exact this
     ·exact k.len _ _ he
   ·intro u hu;rcases List.mem_append.1 hu with hu|hu
    ·rcases List.mem_append.1 hu with hu|hu
     ·exact c2 u (List.mem_of_mem_take hu)
     ·exact d2 u hu
    ·exact c2 u (List.mem_of_mem_drop hu)
   ·intro p j c hc
    have hj:j<row.sz:=by
     unfold cellAt at hc;cases hpe:(zhz i y row.es)[p]? with
     |none=>rw[hpe]at hc;cases hc
     | some e=>
       rw[hpe]at hc;have hc:e[j]? =some c:=hc;have hjl:=(List.getElem?_eq_some_iff.1 hc).1;rw[zjV hi]at hpe;split at hpe
       ·rw[k.len _ _ hpe]at hjl;exact hjl
       ·split at hpe
        ·cases hpe;have:=k2.len 0 y (by rw[y2];rfl);rw[z2]at this;omega
        ·rw[k.len _ _ hpe]at hjl;exact hjl
    rw[zv3 c1.1 hyl hi p j hj];unfold cellAt at hc;rw[zjV hi]at hc
    suffices h: ∃u,(if p<i then xs[p*row.sz+j]? else if p=i then ys[j]? else xs[(p-1)*row.sz+j]?)=some u/\RV m.S w' u c by
     obtain⟨u,g1,g2⟩:=h;exact⟨u,g1,by show (if row.pure=true then _ else _);rw[if_pos hp];exact g2⟩
    by_cases h1:p<i
    ·rw[if_pos h1]at hc |-;obtain⟨u,g1,g2⟩:=c3 p j c hc;rw[if_pos hp]at g2;exact⟨u,g1,g2.mono hcell⟩
    ·rw[if_neg h1]at hc |-;by_cases h2:p=i
     ·rw[if_pos h2]at hc |-;obtain⟨u,g1,g2⟩:=d3 0 j c (by unfold cellAt;rw[y2];exact hc);rw[if_pos hp2]at g2;refine⟨u,by rw[Nat.zero_mul,Nat.zero_add]at g1;exact g1,g2.mono hcell⟩
     ·rw[if_neg h2]at hc |-;obtain⟨u,g1,g2⟩:=c3 (p-1) j c hc;rw[if_pos hp]at g2;exact⟨u,g1,g2.mono hcell⟩
   ·have he:upd s.esc r false r=true:=he;rw[upd_same]at he;cases he
   ·rw[hρ]at hg';exact hnS2 g hg' o
   ·rw[hρ]at hg';exact hnS2 g hg' o
  ·rcases hsub b e with e|e
   ·exact hS.nofx r row q1 b e hf
   ·have:=hS.fxlt hf;omega
 have h1:v'.oneCell'=true:=by
  rcases ho.2 with⟨ee,_⟩|⟨g,cp,cur,ee,_⟩<;>rw[ee]<;>rfl
 refine⟨v',_,rfl,hS2, .row r (ver+1) h1 ?_ fun _ row' _=> ?_⟩
 ·show ver+1<=upd s.vs r (s.vs r+1) r;rw[upd_same,q2];exact Nat.le_refl _
 ·show v'=upd m.ρ r v' r;rw[upd_same]
section
variable {P:Program} {env:Env} {s:St}
theorem ztq {o:Oper} {f:FuncId} {args:List AV} {rest:List Stp} {s1:St} {row row2:Row} {i:Nat} {y:List AV} {ft:Foot} {K:St->List Foot->Prop} (r r2:Nat) (hc:zaH env s.f o=some (f,args)) (hC:Insr P f row.e row.sz) (hrz:row.sz≠0) (hp:row.pure=true) (hp2:row2.pure=true) (e2:row2.e=row.e) (z2:row2.sz=row.sz) (y2:row2.es=[y]) (hne:r2≠r) (hi:i<=row.es.length) (hn:row.es.length<=4096)
 (ha:Is args [.row r (s.vs r), .lit (.int .i64 (i:Int)), .row r2 (s.vs r2)]) (hr:Is (s.rows r) (some row)) (hr2:Is (s.rows r2) (some row2)) (he:Is (s.esc r) false) (he2:Is (s.esc r2) false) (h1:Is ((⟨.row r (s.vs r+1),[.renew r { row with es:=zhz i y row.es }]⟩:Out).app o.dst s) s1) (h2:Is (⟨[r,r2],[r,r2],[r],[]⟩:Foot) ft) (k:aops P env rest s1 fun s2 fts=>K s2 (ft::fts)):aops P env (⟨o, .always⟩::rest) s K:=by
 unfold Is at h2;subst h2
 exact zh4 hc ha (ztv hC hr hr2 hne rfl rfl hrz hp hp2 e2 z2 y2 hi hn) (fun q hq=>by
  rcases List.mem_cons.1 hq with rfl|hq
  ·exact he
  ·rw[List.mem_singleton.1 hq];exact he2) h1 k
end
end
section
theorem zeN {P:Program} (w:World) {ops:Array Oper} {rest:List Oper} {o:Oper} {a:Act} {Q:Exit->Act->World->Prop} (hgd:o.guard=none) (d s:Operand) (t t':TypeId)
 (ho:o.op= .call { callee:= .builtin .copy,args:= #[d,s],argTypes:= #[t,t'] }) (v u:Value) (hd:a.eval d=v) (hs:a.eval s=u) {v':Value} {w':World}
 (hr:(Builtin.copy_ #[t,t'] o.type #[v,u]).run P w= .ok v' w') (h:wpList P ops Q rest (a.put o.dst v') w'):wpList P ops Q (o::rest) a w:=
 wpList_plain hgd fun K hK=>by
  unfold Oper.wp execOp;simp only[ho,resolve,invoke,builtin,Sem.run_bind,Sem.run_pure,Result.andThen_ok,List.map_toArray,List.map_cons,List.map_nil,hd,hs,hr];exact hK _ _ h
theorem zgc {P:Program} {ops:Array Oper} {o:Oper} {a:Act} {w:World} {K:Act->World->Prop} {Q:Exit->Act->World->Prop} {E:Prop}
 (hg:o.guard=none) (d x:Operand) (dT sT:TypeId) (hop:o.op=Op.call { callee:=Callee.builtin Builtin.copy,args:= #[d,x],argTypes:= #[dT,sT] })
 (v u:Value) (hd:a.eval d=v) (hx:a.eval x=u) {v':Value} {w':World} (hr:(Builtin.copy_ #[dT,sT] o.type #[v,u]).run P w= .ok v' w') (hK:K (a.put o.dst v') w'):
 if Region.wanted o (yielded ops a.tmps)=true then Oper.wp P o a w K Q else E:=by
 rw[if_pos (by simp[Region.wanted,hg])];unfold Oper.wp;simp[execOp,hop,resolve,invoke,builtin,hd,hx,hr,Result.andThen];exact hK
theorem zjC {w:World} {base n sz:Nat} {e:TypeId} {v:Value} {xs:List Value} (h:w.ownsRow base e sz v n xs) (hn:0<n):
 ∃g cap cur,v= .slice (some ⟨g,0,none⟩) n cap/\base<=g/\w.heap[g]? =some (.cells cur e (0,0))/\n<=cap/\cap<=maxLen/\cur.size=cap*sz/\cur.toList.take (n*sz)=xs:=by
 rcases h.2 with⟨_,h⟩|h
 ·omega
 ·exact h
theorem zfd {w:World} {g:Nat} {cur:Array Value} {e:TypeId} (hg:w.heap[g]? =some (.cells cur e (0,0))) (k:Nat):w.cell? ⟨g,k,none⟩=cur[k]? :=by simp[World.cell?,hg]
theorem zix {w:World} {g:Nat} {cur:Array Value} {e:TypeId} (hg:w.heap[g]? =some (.cells cur e (0,0))) (k:Nat):w.frozen? ⟨g,k,none⟩=false:=by simp[World.frozen?,hg]
theorem zup (w:World) (base n:Nat) (v u:Value) (xs ys:List Value) (hbw:base<=w.heap.size) (hx:w.ownsRow base 130 2 v n xs) (hy:w.ownsRow base 130 2 u 1 ys) (h1y: ∀y∈ys,y.oneCell'=true) (hn:n<=4096):
 Calls prog 229 #[v, .int .i64 (n:Int),u] w fun ex w'=> ∃v',ex= .returned v'/\w.grownBy w' v.ownBlock/\(∀g,v'.ownBlock=some g->v.ownBlock=some g\/w.heap.size<=g)/\w'.ownsRow base 130 2 v' (n+1) (xs++ys):=by
 obtain⟨hu,ie,ze,i1,i2,i3,i4,i5⟩:=zaC Tryz.tyd28
 have hzc:ze.cells.size=2:=by
  have:=congrArg List.length i5;simpa using this
 obtain⟨g2,c2,cur2,rfl,_,hg2,_⟩:=zjC hy (by omega);obtain⟨v',w',hrun,ho,hgr⟩:=zcj (P:=prog) w base 28 28 130 ie ze 2 32 hu i1 i2 i3 i4 hzc (by decide) v n xs hx (some ⟨g2,0,none⟩) 1 c2 ys hy.1 (fun _=>⟨_,rfl,fun j y hj=>hy.cells rfl j y hj⟩) h1y (by unfold maxLen;omega) (by omega) hbw
 have fin: ∃v'',Ending.returned v'= .returned v''/\w.grownBy w' v.ownBlock/\(∀g,v''.ownBlock=some g->v.ownBlock=some g\/w.heap.size<=g)/\w'.ownsRow base 130 2 v'' (n+1) (xs++ys):=by
  refine⟨v',rfl,?_,fun g hg=> ?_,ho⟩
  ·rcases hgr with⟨_,h⟩|⟨_,h⟩
   ·exact h
   ·exact⟨h.os,h.tape,h.output,h.size,fun k hk _=>h.block k hk (by simp)⟩
  ·rcases hgr with⟨e,_⟩|⟨e,_⟩
   ·rw[e]at hg;exact .inl hg
   ·rw[e]at hg;cases hg;exact .inr (Nat.le_refl _)
 try clear hgr ho i1 i2 i3 i4 i5 hzc
 rcases hx.2 with⟨rfl,rfl⟩|⟨g,cap,cur,rfl,_,hg,hnc,hcm,_,_⟩
 ·clear hx hy
  go_enter func229,ntmps229
  go_wp2_with (at_builtin;refine Lib.wpList_append_run _ rfl _ _ _ _ rfl _ _ rfl rfl _ _ hrun ?_)
  all_goals (go_ret;exact fin)
 ·clear hx hy;unfold maxLen at hcm
  go_enter func229,ntmps229
  go_wp2_with (at_builtin;refine Lib.wpList_append_run _ rfl _ _ _ _ rfl _ _ rfl rfl _ _ hrun ?_)
  all_goals (go_ret;exact fin)
def offR (cur:Array Value) (i n:Nat):List Value:=(cur.toList.drop (i*2)).take ((n-i)*2)
def zbV (l:List Value) (o:Nat) (cs:List Value):List Value:=l.take o++cs++l.drop (o+cs.length)
theorem zgI {cur:Array Value} {i n cap:Nat} (hs:cur.size=cap*2) (hin:i<=n) (hn:n<=cap):(offR cur i n).length=(n-i)*2:=by
 unfold offR;rw[List.length_take,List.length_drop,Array.length_toList,hs];omega
theorem zjD {cur:Array Value} {i n j:Nat} {v:Value} (h:(offR cur i n)[j]? =some v):cur[i*2+j]? =some v:=by
 unfold offR at h;rw[List.getElem?_take]at h;split at h
 ·rw[List.getElem?_drop]at h;simpa using h
 ·cases h
theorem zcc {l:List Value} {o:Nat} {cs:List Value} (h:o+cs.length<=l.length):(zbV l o cs).length=l.length:=by
 unfold zbV;simp only[List.length_append,List.length_take,List.length_drop];omega
theorem zgi {w w':World} {g:Nat} {R:Array Value} (h:w.grownBy w' (some g)):w.grownBy (w'.setRow g R) (some g):=
 ⟨h.os,h.tape,h.output,by simp[World.setRow];exact h.size,fun k hk hne=>by rw[setRow_other w' g k R (fun e=>hne (by rw[e]))];exact h.block k hk hne⟩
theorem zfX {w w':World} {r:Option Nat} (h:w.grownBy w' r):w.grownBy w'.drew r:=⟨h.os,h.tape,h.output,h.size,h.block⟩
theorem zr2 (w:World) (g cap i n g2 c2:Nat) (cur cur2:Array Value) (hg:w.heap[g]? =some (.cells cur 130 (0,0))) (hg2:w.heap[g2]? =some (.cells cur2 130 (0,0))) (hne:g2≠g) (hi:i<n) (hroom:n+1<=cap) (hcap:cap<=9223372036854775807) (hsz:cur.size=cap*2) (hsz2:cur2.size=c2*2) (hc2:1<=c2)
 (h1c: ∀u∈offR cur i n,u.oneCell'=true) (h1y: ∀u∈offR cur2 0 1,u.oneCell'=true) (hn:n<=4096):
 Calls prog 229 #[.slice (some ⟨g,0,none⟩) n cap, .int .i64 (i:Int), .slice (some ⟨g2,0,none⟩) 1 c2] w fun e w'=>
  e= .returned (.slice (some ⟨g,0,none⟩) (n+1) cap)/\w.grownBy w' (some g)/\w'.heap[g]? =some (.cells (zbV (zbV cur.toList ((i+1)*2) (offR cur i n)) (i*2) (offR cur2 0 1)).toArray 130 (0,0)):=by
 obtain⟨hu,ie,ze,i1,i2,i3,i4,i5⟩:=zaC Tryz.tyd28;have hol:=zgI hsz (Nat.le_of_lt hi) (by omega:n<=cap);have hyl:=zgI hsz2 (Nat.zero_le 1) hc2;have hl1:(zbV cur.toList ((i+1)*2) (offR cur i n)).length=cap*2:=by rw[zcc (by rw[hol,Array.length_toList,hsz];omega),Array.length_toList,hsz]
 have hov: ∀(W:World) (lb cb:Nat),W.heap=w.heap->(callFunc 262 #[.slice (some ⟨g2,0,none⟩) 1 c2, .slice (some ⟨g,(i+1)*2,none⟩) lb cb]).run prog W= .ok (.value (.bool false)) W:=fun W lb cb hW=>by
  have k1:W.heap[g]? =some (.cells cur 130 (0,0)):=by rw[hW];exact hg
  have k2:W.heap[g2]? =some (.cells cur2 130 (0,0)):=by rw[hW];exact hg2
  rw[run_callFunc_extern func262 (by kernel_rfl) (by kernel_rfl) (by kernel_rfl) (e:=Extern.SlicesOverlaps.overlaps #[28,28] #[4]) (by kernel_rfl),
   Lib.run_overlaps_apart W 28 4 130 hu 2 (fun w0=>by simp[sizeOf,typeInfo,i1,i3]) ⟨g2,0,none⟩ ⟨g,(i+1)*2,none⟩ 1 c2 lb cb hne 130 130 cur2.size cur.size (by simp[World.shape?,k2]) (by simp[World.shape?,k1]) (by omega) (zix k2 _) (zix k2 _)]
  rfl
 have hcp1: ∀(W:World),W.heap=w.heap-> ∀(ty:TypeId) (dc sc:Nat),(Builtin.copy_ #[28,28] ty #[.slice (some ⟨g,(i+1)*2,none⟩) (n-i) dc, .slice (some ⟨g,i*2,none⟩) (n+1-i) sc]).run prog W= .ok (goInt ((n-i:Nat):Int)) (W.setRow g (zbV cur.toList ((i+1)*2) (offR cur i n)).toArray):=fun W hW ty dc sc=>by
  have k1:W.heap[g]? =some (.cells cur 130 (0,0)):=by rw[hW];exact hg
  exact zdx W _ _ ty 130 ie i1 g ((i+1)*2) (n-i) dc ⟨g,i*2,none⟩ (n+1-i) sc cur 130 (offR cur i n) (n-i) hu k1 (by simp only[Nat.min_def];split<;>omega) (by rw[hol,i3])
   (fun j v hj=>by rw[Addr.add_lit,zfd k1];exact zjD hj) (by rw[hol,hsz];omega) h1c
 obtain⟨R1,hR1⟩: ∃R1,R1=zbV cur.toList ((i+1)*2) (offR cur i n):=⟨_,rfl⟩;rw[<-hR1]at hcp1 hl1 |-
 have hcp2: ∀(W:World),W.heap=(w.setRow g R1.toArray).heap-> ∀(ty:TypeId) (dc:Nat),(Builtin.copy_ #[28,28] ty #[.slice (some ⟨g,i*2,none⟩) (n+1-i) dc, .slice (some ⟨g2,0,none⟩) 1 c2]).run prog W= .ok (goInt 1) (W.setRow g (zbV R1 (i*2) (offR cur2 0 1)).toArray):=fun W hW ty dc=>by
  have k1:W.heap[g]? =some (.cells R1.toArray 130 (0,0)):=by rw[hW];exact setRow_heap w g cur _ _ _ hg
  have k2:W.heap[g2]? =some (.cells cur2 130 (0,0)):=by rw[hW,setRow_other w g g2 _ hne];exact hg2
  exact zdx W _ _ ty 130 ie i1 g (i*2) (n+1-i) dc ⟨g2,0,none⟩ 1 c2 R1.toArray 130 (offR cur2 0 1) 1 hu k1 (by simp only[Nat.min_def];split<;>omega) (by rw[hyl,i3])
   (fun j v hj=>by rw[Addr.add_lit,zfd k2];exact zjD hj) (by rw[hyl];simp only[List.size_toArray,hl1];omega) h1y
 have fin: ∀(W:World),W=((w.drew.setRow g R1.toArray).setRow g (zbV R1 (i*2) (offR cur2 0 1)).toArray)->w.grownBy W (some g)/\W.heap[g]? =some (.cells (zbV R1 (i*2) (offR cur2 0 1)).toArray 130 (0,0)):=fun W hW=>by
  rw[hW];exact⟨zgi (zgi (zfX (World.grownBy.refl w _))),setRow_heap _ g _ _ _ _ (setRow_heap w.drew g cur _ _ _ hg)⟩
 obtain⟨R2,hR2⟩: ∃R2,R2=(zbV R1 (i*2) (offR cur2 0 1)).toArray:=⟨_,rfl⟩;rw[<-hR2]at hcp2 fin |-;obtain⟨A1,hA1⟩: ∃A1,A1=R1.toArray:=⟨_,rfl⟩;rw[<-hA1]at hcp1 hcp2 fin;have hw1:IntKind.i64.wrap ((i:Int)+1)=(i:Int)+1:=by rw[IntKind.wrap_i64];omega
 have hw2:IntKind.i64.wrap ((n:Int)+1)=(n:Int)+1:=by rw[IntKind.wrap_i64];omega
 have hz2: ¬((i:Int)=(n:Int)):=by omega
 have hb1:(0:Int)<=(i:Int)+1:=by omega
 have hin:i<=n:=by omega
 have htn:((i:Int)+1).toNat=i+1:=by omega
 have hb2: ¬(cap=i+1):=by omega
 have hb4: ¬(cap=i):=by omega
 have hb5: ¬((cap:Int)< (n:Int)+1):=by omega
 have hb3:(i:Int)<=(n:Int)+1:=by omega
 try clear hol hyl hl1 hsz hsz2 h1c h1y hR1 hR2 hA1 i1 i2 i3 i4 i5
 go_enter func229,ntmps229
 go_wp2_with (simp only[hov _ _ _ rfl])
 go_region_law (refine zgc rfl _ _ 28 28 rfl _ _ (by simp[Act.eval,Act.put]) (by simp[Act.eval,Act.put]) (hcp1 w.drew rfl 3 (cap-(i+1)) (cap-i)) ?_)
 go_wp2_with (refine zeN _ rfl _ _ 28 28 rfl _ _ rfl rfl (hcp2 (w.drew.setRow g A1) rfl _ _) ?_)
 go_ret
 exact⟨rfl,fin _ rfl⟩
theorem zr3 (w:World) (g cap i n g2 c2:Nat) (cur cur2:Array Value) (hg:w.heap[g]? =some (.cells cur 130 (0,0))) (hg2:w.heap[g2]? =some (.cells cur2 130 (0,0))) (hi:i<n) (hnc:n<=cap) (hroom:cap<n+1) (hsz:cur.size=cap*2) (hsz2:cur2.size=c2*2) (hc2:1<=c2)
 (h1c: ∀u∈offR cur i n,u.oneCell'=true) (h1y: ∀u∈offR cur2 0 1,u.oneCell'=true) (hn:n<=4096):
 Calls prog 229 #[.slice (some ⟨g,0,none⟩) n cap, .int .i64 (i:Int), .slice (some ⟨g2,0,none⟩) 1 c2] w fun e w'=> ∃(G:Nat) (Z:List Value),
  e= .returned (.slice (some ⟨w.heap.size,0,none⟩) (n+1) G)/\w.grownBy w' none/\n+1<=G/\G<=maxLen/\Z.length=(G-i)*2/\w'.heap[w.heap.size]? =some (.cells (zbV (zbV (cur.toList.take (i*2)++Z) (i*2) (offR cur2 0 1)) ((i+1)*2) (offR cur i n)).toArray 130 (0,0)):=by
 obtain⟨hu,ie,ze,i1,i2,i3,i4,i5⟩:=zaC Tryz.tyd28
 have hzc:ze.cells.size=2:=by
  have:=congrArg List.length i5;simpa using this
 have hol:=zgI hsz (Nat.le_of_lt hi) hnc;have hyl:=zgI hsz2 (Nat.zero_le 1) hc2;have hgw:g<w.heap.size:=(Array.getElem?_eq_some_iff.1 hg).1;have hgw2:g2<w.heap.size:=(Array.getElem?_eq_some_iff.1 hg2).1;have hkk:(n:Int)+1-(i:Int)=((n+1-i:Nat):Int):=by omega
 have hik:i+(n+1-i)=n+1:=by omega
 have hold:(Builtin.firstCells ie.size i (.slice (some ⟨g,0,none⟩) i cap)).run prog w.drew= .ok (cur.toList.take (i*2)).toArray w.drew:=by
  rw[i3];refine run_firstCells_some w.drew 2 i ⟨g,0,none⟩ i cap (cur.toList.take (i*2)) (by rw[List.length_take,Array.length_toList];omega) fun j v hj=> ?_;rw[Addr.add_lit];show w.cell? _=_;rw[zfd hg];rw[List.getElem?_take]at hj;split at hj
  ·simpa using hj
  ·cases hj
 have hui:prog.underlying 3=some (.int .i64):=Tryz.underlying3
 have hrz: ∀ty,(Builtin.append_ #[28,3] ty #[.slice (some ⟨g,0,none⟩) i cap, .int .i64 ((n:Int)+1-(i:Int))]).run prog w= .ok (.slice (some ⟨w.heap.size,0,none⟩) (n+1) (grownCap w (n+1) cap 130)) (w.drew.alloc (.cells ((cur.toList.take (i*2)).toArray++Builtin.zeroCells ze.cells (n+1-i)++Builtin.zeroCells ze.cells (grownCap w (n+1) cap 130-(n+1))) 130)):=fun ty=>by
  have h:=Lib.run_append_grow_zeros w 28 3 ty 130 ie ze .i64 .i64 hu hui i1 i2 (some ⟨g,0,none⟩) i cap (cur.toList.take (i*2)) hold (n+1-i) (by omega) (by omega) (by omega) (by omega) (by rw[i4];omega) (by rw[i4,hik];exact growslice_fits hroom (by omega));rw[hik]at h;rw[hkk];exact h
 obtain⟨G,hG⟩: ∃G,G=grownCap w (n+1) cap 130:=⟨_,rfl⟩;rw[<-hG]at hrz;have hGn:n+1<=G:=by rw[hG];exact grownCap_ge w _ _ _
 have hGm:G<=maxLen:=by rw[hG];exact grownCap_le_maxLen w _ _ _ (by unfold maxLen;omega)
 obtain⟨Z,hZ⟩: ∃Z:List Value,Z=(Builtin.zeroCells ze.cells (n+1-i)).toList++(Builtin.zeroCells ze.cells (G-(n+1))).toList:=⟨_,rfl⟩
 have hZl:Z.length=(G-i)*2:=by
  rw[hZ,List.length_append,Array.length_toList,Array.length_toList,size_zeroCells,size_zeroCells,hzc];omega
 obtain⟨R0,hR0⟩: ∃R0:List Value,R0=cur.toList.take (i*2)++Z:=⟨_,rfl⟩
 have hr0:(cur.toList.take (i*2)).toArray++Builtin.zeroCells ze.cells (n+1-i)++Builtin.zeroCells ze.cells (G-(n+1))=R0.toArray:=by
  rw[hR0,hZ];apply Array.ext';simp
 have hrl:R0.length=G*2:=by
  rw[hR0,List.length_append,hZl,List.length_take,Array.length_toList,hsz];omega
 rw[hr0]at hrz;obtain⟨W1,hW1⟩: ∃W1,W1=w.drew.alloc (.cells R0.toArray 130):=⟨_,rfl⟩;rw[<-hW1]at hrz;have hn1:W1.heap[w.heap.size]? =some (.cells R0.toArray 130 (0,0)):=by rw[hW1];exact World.alloc_heap_new w.drew _
 have hn2:W1.heap[g]? =some (.cells cur 130 (0,0)):=by rw[hW1,Below.heap_alloc _ _ _ (by exact hgw)];exact hg
 have hn3:W1.heap[g2]? =some (.cells cur2 130 (0,0)):=by rw[hW1,Below.heap_alloc _ _ _ (by exact hgw2)];exact hg2
 have hgr1:w.grownBy W1 none:=by rw[hW1];exact⟨rfl,rfl,rfl,by simp,fun k hk _=>by rw[Below.heap_alloc _ _ _ (by exact hk)];rfl⟩
 obtain⟨A2,hA2⟩: ∃A2,A2=zbV R0 (i*2) (offR cur2 0 1):=⟨_,rfl⟩;have hl2:A2.length=G*2:=by rw[hA2,zcc (by rw[hyl,hrl];omega),hrl]
 have hcpA: ∀(W:World),W.heap=W1.heap-> ∀(ty:TypeId) (dc:Nat),(Builtin.copy_ #[28,28] ty #[.slice (some ⟨w.heap.size,i*2,none⟩) (n+1-i) dc, .slice (some ⟨g2,0,none⟩) 1 c2]).run prog W= .ok (goInt 1) (W.setRow w.heap.size A2.toArray):=fun W hW ty dc=>by
  have k1:W.heap[w.heap.size]? =some (.cells R0.toArray 130 (0,0)):=by rw[hW];exact hn1
  have k2:W.heap[g2]? =some (.cells cur2 130 (0,0)):=by rw[hW];exact hn3
  rw[hA2]
  exact zdx W _ _ ty 130 ie i1 w.heap.size (i*2) (n+1-i) dc ⟨g2,0,none⟩ 1 c2 R0.toArray 130 (offR cur2 0 1) 1 hu k1 (by simp only[Nat.min_def];split<;>omega) (by rw[hyl,i3])
   (fun j v hj=>by rw[Addr.add_lit,zfd k2];exact zjD hj) (by rw[hyl];simp only[List.size_toArray,hrl];omega) h1y
 obtain⟨A3,hA3⟩: ∃A3,A3=zbV A2 ((i+1)*2) (offR cur i n):=⟨_,rfl⟩
 have hcpB: ∀(W:World),W.heap=(W1.setRow w.heap.size A2.toArray).heap-> ∀(ty:TypeId) (dc sc:Nat),(Builtin.copy_ #[28,28] ty #[.slice (some ⟨w.heap.size,(i+1)*2,none⟩) (n-i) dc, .slice (some ⟨g,i*2,none⟩) (n-i) sc]).run prog W= .ok (goInt ((n-i:Nat):Int)) (W.setRow w.heap.size A3.toArray):=fun W hW ty dc sc=>by
  have k1:W.heap[w.heap.size]? =some (.cells A2.toArray 130 (0,0)):=by rw[hW];exact setRow_heap W1 _ _ _ _ _ hn1
  have k2:W.heap[g]? =some (.cells cur 130 (0,0)):=by rw[hW,setRow_other W1 w.heap.size g _ (Nat.ne_of_lt hgw)];exact hn2
  rw[hA3]
  exact zdx W _ _ ty 130 ie i1 w.heap.size ((i+1)*2) (n-i) dc ⟨g,i*2,none⟩ (n-i) sc A2.toArray 130 (offR cur i n) (n-i) hu k1 (by simp only[Nat.min_def];split<;>omega) (by rw[hol,i3])
   (fun j v hj=>by rw[Addr.add_lit,zfd k2];exact zjD hj) (by rw[hol];simp only[List.size_toArray,hl2];omega) h1c
 have fin: ∀(W:World),w.grownBy W none->W.heap[w.heap.size]? =some (.cells A3.toArray 130 (0,0))-> ∃(G':Nat) (Z':List Value),(Ending.returned (.slice (some ⟨w.heap.size,0,none⟩) (n+1) G):Ending)= .returned (.slice (some ⟨w.heap.size,0,none⟩) (n+1) G')/\w.grownBy W none/\n+1<=G'/\G'<=maxLen/\Z'.length=(G'-i)*2/\W.heap[w.heap.size]? =some (.cells (zbV (zbV (cur.toList.take (i*2)++Z') (i*2) (offR cur2 0 1)) ((i+1)*2) (offR cur i n)).toArray 130 (0,0)):=fun W h1 h2=>
  ⟨G,Z,rfl,h1,hGn,hGm,hZl,by rw[h2,hA3,hA2,hR0]⟩
 have fin2: ∀(W:World),w.grownBy W none->W.heap[w.heap.size]? =some (.cells A2.toArray 130 (0,0))->w.grownBy (W.setRow w.heap.size A3.toArray) none/\(W.setRow w.heap.size A3.toArray).heap[w.heap.size]? =some (.cells A3.toArray 130 (0,0)):=fun W h1 h2=>
  ⟨⟨h1.os,h1.tape,h1.output,by simp[World.setRow];exact h1.size,fun k hk hne=>by rw[setRow_other W _ k _ (Nat.ne_of_lt hk)];exact h1.block k hk hne⟩,setRow_heap W _ _ _ _ _ h2⟩
 have hgrA:w.grownBy (W1.setRow w.heap.size A2.toArray) none:=⟨hgr1.os,hgr1.tape,hgr1.output,by simp[World.setRow];exact hgr1.size,fun k hk hne=>by rw[setRow_other W1 _ k _ (Nat.ne_of_lt hk)];exact hgr1.block k hk hne⟩;have hnA:(W1.setRow w.heap.size A2.toArray).heap[w.heap.size]? =some (.cells A2.toArray 130 (0,0)):=setRow_heap W1 _ _ _ _ _ hn1;have hw1:IntKind.i64.wrap ((i:Int)+1)=(i:Int)+1:=by rw[IntKind.wrap_i64];omega
 have hw2:IntKind.i64.wrap ((n:Int)+1)=(n:Int)+1:=by rw[IntKind.wrap_i64];omega
 have hw3:IntKind.i64.wrap ((n:Int)+1-(i:Int))=(n:Int)+1-(i:Int):=by rw[IntKind.wrap_i64];omega
 have hz2: ¬((i:Int)=(n:Int)):=by omega
 have hz3:(cap:Int)< (n:Int)+1:=by omega
 have hb1:(0:Int)<=(i:Int)+1:=by omega
 have hin:i<=n:=by omega
 have htn:((i:Int)+1).toNat=i+1:=by omega
 have hGi: ¬(G=i):=by omega
 have hGim: ¬(G=i+1):=by omega
 have hci: ¬(cap=i):=by omega
 have hb3:(i:Int)<=(n:Int):=by omega
 obtain⟨B2,hB2⟩: ∃B2,B2=A2.toArray:=⟨_,rfl⟩;obtain⟨B3,hB3⟩: ∃B3,B3=A3.toArray:=⟨_,rfl⟩;obtain⟨N0,hN0⟩: ∃N0,N0=w.heap.size:=⟨_,rfl⟩;rw[<-hB2]at hcpA hcpB hgrA hnA fin2;rw[<-hB3]at hcpB fin fin2;rw[<-hN0]at hrz hcpA hcpB fin fin2 hgrA hnA |-;try clear hkk hik hold hG hrl hr0 hR0 hW1 hn1 hn2 hn3 hgr1 hA2 hA3 hl2 hB2 hB3 i1 i2 i3 i4 i5 hol hyl h1c h1y hsz hsz2 hZ hZl hzc hu hui hN0
 go_enter func229,ntmps229
 go_wp2_with (first
  |(at_builtin;refine Lib.wpList_append_run _ rfl _ _ _ _ rfl _ _ rfl rfl _ _ (hrz _) ?_)
  |(refine zeN _ rfl _ _ 28 28 rfl _ _ rfl rfl (hcpA W1 rfl _ _) ?_))
 go_region_law (refine zgc rfl _ _ 28 28 rfl _ _ (by simp[Act.eval,Act.put]) (by simp[Act.eval,Act.put]) (hcpB (W1.setRow N0 B2).drew rfl 3 (G-(i+1)) (cap-i)) ?_)
 go_wp2
 go_ret
 exact fin _ (fin2 _ (zfX hgrA) hnA).1 (fin2 _ (zfX hgrA) hnA).2
end
section
theorem zuj (P Y Z X:List Value):zbV (zbV (P++Z) P.length Y) (P.length+Y.length) X=P++Y++X++(P++Y++Z.drop Y.length).drop (P.length+Y.length+X.length):=by
 have e1:zbV (P++Z) P.length Y=P++Y++Z.drop Y.length:=by
  unfold zbV;rw[List.take_left',List.drop_append,List.drop_of_length_le (by omega),Nat.add_sub_cancel_left,List.nil_append];rfl
 rw[e1];unfold zbV;rw[show (P++Y++Z.drop Y.length).take (P.length+Y.length)=P++Y from List.take_left' (by rw[List.length_append])]
theorem zuk (P Q S X Y:List Value) (h:Q.length=Y.length):zbV (zbV (P++Q++S) (P.length+Y.length) X) P.length Y=P++Y++X++(P++Q++S).drop (P.length+Y.length+X.length):=by
 have e1:zbV (P++Q++S) (P.length+Y.length) X=P++Q++X++(P++Q++S).drop (P.length+Y.length+X.length):=by
  unfold zbV;rw[show (P++Q++S).take (P.length+Y.length)=P++Q from List.take_left' (by rw[List.length_append,h])]
 rw[e1];generalize (P++Q++S).drop (P.length+Y.length+X.length)=T;unfold zbV;rw[show (P++Q++X++T).take P.length=P by rw[List.append_assoc,List.append_assoc];exact List.take_left' rfl,show (P++Q++X++T).drop (P.length+Y.length)=X++T by rw[List.append_assoc];exact List.drop_left' (by rw[List.length_append,h])];simp only[List.append_assoc]
theorem zwa (l:List Value) (a b:Nat):l=l.take a++(l.drop a).take b++l.drop (a+b):=by
 rw[List.append_assoc, <-List.drop_drop,List.take_append_drop,List.take_append_drop]
theorem insM:Insr prog 229 130 2:=by
 refine⟨enters_of func229 (by kernel_rfl) rfl,fun w base i n v u xs ys hbw hx hy hd h1x h1y hi hn=> ?_⟩;by_cases he:i=n
 ·subst he;have hxl:=hx.1;rw[List.take_of_length_le (by omega),List.drop_of_length_le (by omega),List.append_nil];exact zup w base i v u xs ys hbw hx hy h1y hn
 ·obtain⟨g,cap,cur,rfl,hbg,hg,hnc,hcm,hsz,htk⟩:=zjC hx (by omega);obtain⟨g2,c2,cur2,rfl,_,hg2,hc2,_,hsz2,htk2⟩:=zjC hy (by omega);have hne:g2≠g:=fun e=>hd g rfl (by rw[e];rfl);have e2:offR cur2 0 1=ys:=by unfold offR;rw[<-htk2];rfl
  have e1:offR cur i n=xs.drop (i*2):=by
   unfold offR;rw[<-htk,List.drop_take]
   congr 1
   omega
  have hP:xs.take (i*2)=cur.toList.take (i*2):=by
   rw[<-htk,List.take_take,Nat.min_eq_left (by omega)]
  have hPl:(xs.take (i*2)).length=i*2:=by rw[List.length_take,hx.1];omega
  have hYl:ys.length=2:=hy.1;have hXl:(xs.drop (i*2)).length=(n-i)*2:=by rw[List.length_drop,hx.1];omega
  have h1X: ∀x∈offR cur i n,x.oneCell'=true:=fun x hx'=>by rw[e1]at hx';exact h1x x (List.mem_of_mem_drop hx')
  have h1Y: ∀x∈offR cur2 0 1,x.oneCell'=true:=fun x hx'=>by rw[e2]at hx';exact h1y x hx'
  have hlen:(xs.take (i*2)++ys++xs.drop (i*2)).length=(n+1)*2:=by
   rw[List.length_append,List.length_append,hPl,hYl,hXl];omega
  by_cases hroom:n+1<=cap
  ·refine(zr2 w g cap i n g2 c2 cur cur2 hg hg2 hne (by omega) hroom (by unfold maxLen at hcm;omega) hsz hsz2 hc2 h1X h1Y hn).mono ?_;rintro ex w' ⟨rfl,h1,h2⟩;refine⟨_,rfl,h1,fun k hk=> .inl hk,hlen, .inr ⟨g,cap,_,rfl,hbg,h2,hroom,hcm,?_,?_⟩⟩
   ·simp only[List.size_toArray];rw[zcc,zcc,Array.length_toList,hsz]
    ·rw[e1,hXl,Array.length_toList,hsz];omega
    ·rw[zcc,e2,hYl,Array.length_toList,hsz]
     ·omega
     ·rw[e1,hXl,Array.length_toList,hsz];omega
   ·rw[e1,e2];have hc:=zwa cur.toList (i*2) 2;rw[<-hP]at hc;have hQ:((cur.toList.drop (i*2)).take 2).length=ys.length:=by rw[List.length_take,List.length_drop,Array.length_toList,hsz,hYl];omega
    have:=zuk (xs.take (i*2)) ((cur.toList.drop (i*2)).take 2) (cur.toList.drop (i*2+2)) (xs.drop (i*2)) ys hQ;rw[<-hc,hPl,hYl]at this;rw[show (i+1)*2=i*2+2 by omega];show (List.take _ (zbV _ _ _))=_;rw[this];exact List.take_left' hlen
  ·refine(zr3 w g cap i n g2 c2 cur cur2 hg hg2 (by omega) hnc (by omega) hsz hsz2 hc2 h1X h1Y hn).mono ?_;rintro ex w' ⟨G,Z,rfl,h1,h2,h3,h4,h5⟩;refine⟨_,rfl,⟨h1.os,h1.tape,h1.output,h1.size,fun k hk _=>h1.block k hk (by simp)⟩,fun k hk=> .inr (by cases hk;exact Nat.le_refl _),hlen, .inr ⟨w.heap.size,G,_,rfl,hbw,h5,h2,h3,?_,?_⟩⟩
   ·simp only[List.size_toArray];have hl0:(cur.toList.take (i*2)++Z).length=G*2:=by rw[List.length_append,h4,List.length_take,Array.length_toList,hsz];omega
    rw[zcc,zcc,hl0]
    ·rw[e2,hYl,hl0];omega
    ·rw[zcc,e1,hXl,hl0]
     ·omega
     ·rw[e2,hYl,hl0];omega
   ·rw[e1,e2, <-hP];have:=zuj (xs.take (i*2)) ys Z (xs.drop (i*2));rw[hPl,hYl]at this;rw[show (i+1)*2=i*2+2 by omega];show (List.take _ (zbV _ _ _))=_;rw[this];exact List.take_left' hlen
end

end Go.Proofs.YtbpmkofnfgdegaaGreatDoor