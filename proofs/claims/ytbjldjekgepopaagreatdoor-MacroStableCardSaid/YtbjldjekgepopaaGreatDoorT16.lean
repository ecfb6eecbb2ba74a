/- The document's words on legal states. -/
import Derived.Test.YtbjldjekgepopaaGreatDoorT15
set_option maxRecDepth 100000
set_option maxHeartbeats 8000000
set_option linter.unusedSimpArgs false
namespace Go.Proofs.YtbjldjekgepopaaGreatDoor
open Go.Proofs.Tryz
open Go.RowKit
section
theorem E3 (env:Env) (c:ChD) (t:TrD):Con prog env 105 [.agg (aA c), .agg (bi t)] (B (dP c t)):=by
 have f2:=eU env t.event;have f3:=u9 env c t.guard;have f4:=oR env c t.acts;have z1:=eR t.guard;refine qf func105 call105 ntmps105 results105 ?_;by_cases p1:t.src<0
 ·rw[show dP c t=false by unfold dP al at_;rw[KZ (show ¬0<=t.src by omega)];rfl];have F:=ai3 aA.eq_1 bi.eq_1 p1;repeat refine st ?_
  exact aR
 obtain⟨m,hm⟩:=gL (show 0<=t.src by omega);have p1: ¬(m:Int)<0:=by omega
 by_cases p2:c.states.length<=m
 ·have p2':(c.states.length:Int)<=(m:Int):=by omega
  rw[show dP c t=false by unfold dP al;rw[hm,bH,K7 p2];rfl];have F:=ai5 aA.eq_1 bi.eq_1 hm p1 p2';repeat refine st ?_
  exact aR
 have p2': ¬(c.states.length:Int)<=(m:Int):=by omega
 have k0:=nlt (show m<c.states.length by omega);obtain⟨q,hq,_⟩:=aQ (show m<c.states.length by omega);have f1:=iJ env q;have hnq:al c t.src=dw q:=by unfold al;rw[hm,bH,hq]
 have hr:dP c t=(dw q&&((t.event == [])||bX t.event)&&((t.guard == [])||cB t.guard c.vars.length c.states.length)&&dy c.vars.length c.states.length t.acts&&((t.target == -1)||(decide (0<=t.target)&&decide (t.target<c.states.length)))):=by unfold dP;rw[hnq]
 rw[hr];by_cases p3:t.target< -1
 ·rw[show ((t.target == -1)||(decide (0<=t.target)&&decide (t.target<c.states.length)))=false by rw[dI (show t.target≠ -1 by omega),Ky (show ¬0<=t.target by omega)];rfl,LZ];have F:=ai9 aA.eq_1 bi.eq_1 aL.eq_1 hm hq p1 p2' k0 p3;exact gz1 f1
 by_cases p4:(c.states.length:Int)<=t.target
 ·rw[show ((t.target == -1)||(decide (0<=t.target)&&decide (t.target<c.states.length)))=false by rw[dI (show t.target≠ -1 by omega),Ky (show ¬t.target<c.states.length by omega)];simp,LZ];have F:=ai10 aA.eq_1 bi.eq_1 aL.eq_1 hm hq p1 p2' k0 p3 p4;exact gz1 f1
 rw[show ((t.target == -1)||(decide (0<=t.target)&&decide (t.target<c.states.length)))=true by rw[Lb,KY];simp;omega,Oj];have F:=ai12 aA.eq_1 bi.eq_1 aL.eq_1 hm hq p1 p2' k0 p3 p4 z1 i7;exact gz4 f1 f2 f3 f4
abbrev chkT (c:ChD):AV:= .tuple [I (chk c).1,I (chk c).2]
theorem dY {c:ChD} {x:Int×Int} (h:chk c=x):chkT c= .tuple [I x.1,I x.2]:=by unfold chkT;rw[h]
theorem BG (env:Env) (c:ChD):Con prog env 56 [.agg (aA c)] (chkT c):=by
 have fname:=eU env c.name;have z1:=eR c.states;refine qf func56 call56 ntmps56 results56 ?_;by_cases l1:32<c.states.length
 ·have k1:(32:Int)< (c.states.length:Int):=by omega
  rw[dY (show chk c=(8, -1) by unfold chk;rw[K0 (.inl l1)])];have F:=ai aA.eq_1 k1;repeat refine st ?_
  exact aR
 have k1: ¬(32:Int)< (c.states.length:Int):=by omega
 by_cases l2:64<c.trans.length
 ·have k2:(64:Int)< (c.trans.length:Int):=by omega
  rw[dY (show chk c=(8, -1) by unfold chk;rw[K0 (.inr (.inl l2))])];have F:=ai3 aA.eq_1 k1 k2;repeat refine st ?_
  exact aR
 have k2: ¬(64:Int)< (c.trans.length:Int):=by omega
 by_cases l3:8<c.vars.length
 ·have k3:(8:Int)< (c.vars.length:Int):=by omega
  rw[dY (show chk c=(8, -1) by unfold chk;rw[K0 (.inr (.inr l3))])];have F:=ai4 aA.eq_1 k1 k2 k3;repeat refine st ?_
  exact aR
 have k3: ¬(8:Int)< (c.vars.length:Int):=by omega
 have hl: ¬(32<c.states.length\/64<c.trans.length\/8<c.vars.length):=by omega
 cases e2:(c.states == [])
 case true=>
  rw[dY (show chk c=(1, -1) by unfold chk;rw[KZ hl,K0 (.inl (by simpa using e2))])];have F:=ai6 aA.eq_1 k1 k2 k3 z1 e2;repeat refine tz1 fname ?_
  exact aR
 cases e1:bX c.name
 ·rw[dY (show chk c=(1, -1) by unfold chk;rw[KZ hl,K0 (.inr e1)])];have F:=ai7 aA.eq_1 k1 k2 k3 z1 e2 e1;repeat refine tz1 fname ?_
  exact aR
 have hne: ¬(c.states=[]\/bX c.name=false):=by
  rw[e1];simpa using e2
 have hc1:chk c=(match au (jo c) c.vars.length with
  |some i=>(1,2000+(i:Int))
  | none=>match au (km c) c.states.length with
    |some i=>(1,(i:Int))
    | none=>if l7 c=false then(1, -1) else match au (pw c) c.trans.length with
      |some i=>(1,1000+(i:Int))
      |none=>(0, -1)):=by
  unfold chk;rw[KZ hl,KZ hne];rfl
 have F:=ai7 aA.eq_1 k1 k2 k3 z1 e2 e1;repeat refine tz1 fname ?_
 refine aK (D:=Nat) (fun i vs=>[(1, .loc 1 (vs 1) 0 0),(4,I i)]) (fun _ _=>[(1,⟨5,[aA c],26,false⟩)]) (fun i _ _=>i<=c.vars.length/\ ∀j,j<i->jo c j=true) (fun i=>c.vars.length-i) 0 ?_ ?_ ?_ ?_
 ·exact⟨Ke _,fun j hj=>by omega⟩
 ·exact qe
 ·have F:=aA.eq_1;exact qe
 rintro i ws esc ⟨hi,hall⟩;by_cases hlt:i<c.vars.length
 ·obtain⟨v,hv,_⟩:=aQ hlt;have q1:=nlt hlt;have q2:=aD hlt (by omega);have hcon:=GP env c (by omega) i v hv;cases e:qK c i v
  ·have q3:IntKind.i64.wrap (2000+(i:Int))=2000+(i:Int):=ae (by omega) (by omega);rw[dY (show chk c=(1,2000+(i:Int)) by rw[hc1,cv hlt hall (by rw[kj hv];exact e)])];have F:=ai5 aA.eq_1 q1 q2 q3 e;repeat refine tz1 hcon ?_
   exact aR
  ·have F:=ai4 aA.eq_1 q1 q2 e;repeat refine tz1 hcon ?_
   refine⟨i+1,⟨hlt,gF hall (by rw[kj hv];exact e)⟩,?_,?_,?_⟩
   ·exact qe
   ·have F:=aA.eq_1;exact qe
   ·omega
 have q1: ¬(i:Int)< (c.vars.length:Int):=by omega
 have hvn:au (jo c) c.vars.length=none:=az fun j hj=>hall j (by omega);rw[hvn]at hc1;have F:=ai aA.eq_1 q1;repeat refine st ?_
 refine aK (D:=Nat) (fun i vs=>[(1, .loc 1 (vs 1) 0 0),(5,I i)]) (fun _ _=>[(1,⟨5,[aA c],26,false⟩)]) (fun i _ _=>i<=c.states.length/\ ∀j,j<i->km c j=true) (fun i=>c.states.length-i) 0 ?_ ?_ ?_ ?_
 ·exact⟨Ke _,fun j hj=>by omega⟩
 ·exact qe
 ·have F:=aA.eq_1;exact qe
 try clear ws esc hi hall q1 hlt i
 rintro i ws esc ⟨hi,hall⟩;by_cases hlt:i<c.states.length
 ·obtain⟨s,hs,_⟩:=aQ hlt;have q1:=nlt hlt;have q2:=aD hlt (by omega);have hcon:=BF env c (by omega) i s hs;cases e:bq c i s
  ·rw[dY (show chk c=(1,(i:Int)) by rw[hc1,cv hlt hall (by rw[nX hs];exact e)])];have F:=ai4 aA.eq_1 q1 q2 e;repeat refine tz1 hcon ?_
   exact aR
  ·have F:=ai4 aA.eq_1 q1 q2 e;repeat refine tz1 hcon ?_
   refine⟨i+1,⟨hlt,gF hall (by rw[nX hs];exact e)⟩,?_,?_,?_⟩
   ·exact qe
   ·have F:=aA.eq_1;exact qe
   ·omega
 have q1: ¬(i:Int)< (c.states.length:Int):=by omega
 have hsn:au (km c) c.states.length=none:=az fun j hj=>hall j (by omega);rw[hsn]at hc1;by_cases p1:c.initial<0
 ·have ht:l7 c=false:=by unfold l7 at_;rw[KZ (by omega)]
  rw[dY (show chk c=(1, -1) by rw[hc1,K0 ht])];have F:=ai3 aA.eq_1 q1 p1;repeat refine st ?_
  exact aR
 obtain⟨m,hm⟩:=gL (show 0<=c.initial by omega);have p1': ¬(m:Int)<0:=by omega
 by_cases p2:(c.states.length:Int)<=(m:Int)
 ·have ht:l7 c=false:=by unfold l7;rw[hm,bH,K7 (by omega)]
  rw[dY (show chk c=(1, -1) by rw[hc1,K0 ht])];have F:=ai5 aA.eq_1 q1 hm p1' p2;repeat refine st ?_
  exact aR
 have p3:=nlt (show m<c.states.length by omega);obtain⟨q,hq,_⟩:=aQ (show m<c.states.length by omega);have fnorm:=iJ env q;have htop:l7 c=((q.parent == -1)&&dw q):=by unfold l7;rw[hm,bH,hq]
 cases e3:(q.parent == -1)
 ·rw[dY (show chk c=(1, -1) by rw[hc1,K0 (by rw[htop,e3];rfl)])];have F:=ai10 aA.eq_1 aL.eq_1 q1 hm p1' p2 p3 hq e3 i7;repeat refine tz1 fnorm ?_
  exact aR
 cases e4:dw q
 ·rw[dY (show chk c=(1, -1) by rw[hc1,K0 (by rw[htop,e3,e4];rfl)])];have F:=ai11 aA.eq_1 aL.eq_1 q1 hm p1' p2 p3 hq e3 e4 i7;repeat refine tz1 fnorm ?_
  exact aR
 rw[KZ (by rw[htop,e3,e4];simp)]at hc1;have F:=ai11 aA.eq_1 aL.eq_1 q1 hm p1' p2 p3 hq e3 e4 i7;repeat refine tz1 fnorm ?_
 have F:=ai aA.eq_1 hm;refine lq c.trans.length (by omega) (fun i vs=>[(1, .loc 1 (vs 1) 0 0),(6,I i)]) (fun _ _=>[(1,⟨5,[aA c],26,false⟩)]) (fun i _ _=> ∀j,j<i->pw c j=true) (fun j hj=>by omega) ?_ ?_
 ·try clear ws esc hi hall q1 hlt i
  rintro i ws esc hlt q1 q2 hall;obtain⟨t,ht,_⟩:=aQ hlt;have hcon:=E3 env c t;cases e:dP c t
  ·have q3:IntKind.i64.wrap (1000+(i:Int))=1000+(i:Int):=ae (by omega) (by omega);rw[dY (show chk c=(1,1000+(i:Int)) by rw[hc1,cv hlt hall (by rw[nV ht];exact e)])];have F:=ai7 aA.eq_1 bi.eq_1 q1 q2 q3 ht e;repeat refine tz1 hcon ?_
   exact aR
  ·have F:=ai6 aA.eq_1 bi.eq_1 q1 q2 ht e;repeat refine tz1 hcon ?_
   refine⟨i+1,⟨hlt,gF hall (by rw[nV ht];exact e)⟩,?_,?_,?_⟩
   ·exact qe
   ·have F:=aA.eq_1;exact qe
   ·omega
 try clear ws esc hi hall q1 hlt i
 rintro ws esc q1 hall;rw[dY (show chk c=(0, -1) by rw[hc1,az fun j hj=>hall j (by omega)])];have F:=ai aA.eq_1 q1;repeat refine st ?_
 exact aR
end
section
theorem vx (env:Env) (l m:List Nat) (hl:l.length<=1000000):Con prog env 30 [.seq 1 (l.map aB), .seq 1 (m.map aB)] (B (decide (l=m))):=by
 by_cases h0:l.length=m.length
 ·refine qf func30 call30 ntmps30 results30 ?_;have g0:((l.length:Int) != (m.length:Int))=false:=by simp[h0]
  have F:=g0;repeat refine st ?_
  refine lq l.length (by omega) (fun j _=>[(0, .seq 1 (l.map aB)),(1, .seq 1 (m.map aB)),(4,B false),(5,I j)]) (fun _ _=>[]) (fun j _ _=>l.take j=m.take j) rfl ?_ ?_
  ·rintro j ws esc hlt g1 g2 ht;have hlt2:j<m.length:=by omega
   obtain⟨a,ha⟩:=gE hlt;obtain⟨b,hb⟩:=gE hlt2;have g4:=nlt hlt2;by_cases e:a=b
   ·have g3:((a:Int) != (b:Int))=false:=by simp[e]
    have F:=ai7 g1 g2 g4 ha hb aB.eq_1 g3;repeat refine st ?_
    refine⟨j+1,⟨hlt,?_⟩,?_,?_,by omega⟩
    ·rw[Kv,Kv,ht,ha,hb,e]
    ·exact qe
    ·exact qe
   ·have g3:((a:Int) != (b:Int))=true:=by simp;omega
    have hr:decide (l=m)=false:=Ky fun e2=>e (by rw[e2]at ha;exact Lo (ha.symm.trans hb));rw[hr];have F:=ai7 g1 g2 g4 ha hb aB.eq_1 g3;repeat refine st ?_
    exact aR
  ·rintro ws esc g1 ht;have hr:decide (l=m)=true:=LC (by rwa [Kp,LP (by omega)]at ht);rw[hr];have F:=g1;repeat refine st ?_
   exact aR
 ·have g0:((l.length:Int) != (m.length:Int))=true:=by simp;omega
  have hr:decide (l=m)=false:=Ky fun e=>h0 (by rw[e]);rw[hr];refine qf func30 call30 ntmps30 results30 ?_;have F:=g0;repeat refine st ?_
  exact aR
theorem wZ (env:Env) (c:ChD) (i:Int):Con prog env 159 [.agg (aA c),I i] (B (inZ c i)):=by
 unfold inZ;by_cases h0:0<=i
 ·by_cases h1:i< (c.states.length:Int)
  ·refine qf func159 call159 ntmps159 results159 ?_;have F:=ai3 aA.eq_1 h0 h1;repeat refine st ?_
   exact aR
  ·refine qf func159 call159 ntmps159 results159 ?_;have F:=ai3 aA.eq_1 h0 h1;repeat refine st ?_
   exact aR
 ·refine qf func159 call159 ntmps159 results159 ?_;have F:=ai aA.eq_1 h0;repeat refine st ?_
  exact aR
theorem bV {c:ChD} (h:Right c) (i:Int) (real:Bool):(kidsL c i real).length<=32:=by
 have h1:=dB c i real c.states.length;have h2:=h.few;have h1:(kidsL c i real).length<=c.states.length:=h1;omega
theorem Fy {c:ChD} (h:Right c) {i:Int} (hi: -1<=i):(walkL c i).length<=32:=by
 have hf:=h.few;have:=(jV h 40 i hi (by omega)).length_le_of_subset (l₂:=List.range c.states.length) fun m hm=>Kr.2 ((jH h 40 i m hi (by omega)).1 hm).1;simp at this;omega
end
section
theorem sD (env:Env):Con prog env 82 [nilS] (.own 3 1 []):=(dC env [] (by simp)).args (Strs.cons (Str.nil 1) Strs.nil)
theorem bD (env:Env) (c:ChD):Con prog env 152 [aC c] (aP c):=by
 refine qf func152 call152 ntmps152 results152 ?_;have F:=ai3 aC.eq_1 tabCells.eq_1 aP.eq_1;repeat refine st ?_
 exact aR
theorem ak (env:Env) (c:ChD) (hs:Small c):Con prog env 87 [aC c] (.agg (aA c)):=by
 have f0:=oU env c hs;unfold aA at f0;refine qf func87 call87 ntmps87 results87 ?_;have F:=ai aC.eq_1 tabCells.eq_1;repeat refine tz1 f0 ?_
 (refine aN ?_;show (an _ _ _).run _=some _;simp only[go_sem,F])
 rfl
theorem vr (env:Env) (c:ChD) (hc:c.trans.length<=4096) (s:List UInt8):Con prog env 68 [aC c,Sg s] (I (evI c s)):=vQ env c (by omega) _ _ s
def II (c:ChD) (i e:Int):List Nat:=if e<0 then [] else atL c i e
theorem Dn (c:ChD) (i e:Int):(atL c i e).length<=c.trans.length:=Ct ..
theorem A4 {c:ChD} {i e:Int} {q:Nat} (hq:qL (i,e) (keysTo c c.trans.length) 0=some q):(eV c)[q]? =some [.agg [I i,I e], .seq 1 ((atL c i e).map aB)]:=by
 have:=(od hq).2;unfold eV;rw[K5,OD]at*;rw[this];rfl
theorem EH (env:Env) (c:ChD) (hc:c.trans.length<=4096) (i e:Int):Con prog env 225 [aC c,I i,I e] (.own 3 1 ((II c i e).map aB)):=by
 have hl:=Dn c i e;have hm:=DF c i e;unfold II;by_cases h:e<0
 ·rw[K0 h];refine qw func225 call225 ntmps225 results225 ?_;have F:=ai3 aC.eq_1 tabCells.eq_1 h;repeat refine st ?_
  (refine aN ?_;refine⟨_,(by show (an _ _ _).run _=some _;simp only[go_sem,F];rfl),?_⟩)
  exact ge.own_nil _ _ (by decide)
 ·rw[KZ h];cases hq:qL (i,e) (keysTo c c.trans.length) 0 with
  | none=>
    rw[hq]at hm;have f0:=sD env;rw[show atL c i e=[] from sV (kg hq)];refine qf func225 call225 ntmps225 results225 ?_;have F:=ai4 aC.eq_1 tabCells.eq_1 h hm;repeat refine tz1 f0 ?_
    exact aR
  | some q=>
    rw[hq]at hm;have hk:=A4 hq;have f0:=dC env ((atL c i e).map aB) (by rw[Kl];omega);refine qf func225 call225 ntmps225 results225 ?_;have F:=ai5 aC.eq_1 tabCells.eq_1 h hm hk;repeat refine tz1 f0 ?_
    exact aR
theorem xy (env:Env) (c:ChD) (hc:c.trans.length<=4096) (i:Int):Con prog env 224 [aC c,I i] (.own 3 1 ((atL c i (-1)).map aB)):=by
 have hl:=Dn c i (-1);have hm:=DF c i (-1);cases hq:qL (i, -1) (keysTo c c.trans.length) 0 with
 | none=>
   rw[hq]at hm;have f0:=sD env;rw[show atL c i (-1)=[] from sV (kg hq)];refine qf func224 call224 ntmps224 results224 ?_;have F:=ai3 aC.eq_1 tabCells.eq_1 hm;repeat refine tz1 f0 ?_
   exact aR
 | some q=>
   rw[hq]at hm;have hk:=A4 hq;have f0:=dC env ((atL c i (-1)).map aB) (by rw[Kl];omega);refine qf func224 call224 ntmps224 results224 ?_;have F:=ai4 aC.eq_1 tabCells.eq_1 hm hk;repeat refine tz1 f0 ?_
   exact aR
theorem kU (env:Env) (c:ChD) (i:Int):Con prog env 188 [aC c,I i] (B (inZ c i)):=by
 unfold inZ;by_cases h0:0<=i
 ·by_cases h1:i< (c.states.length:Int)
  ·refine qf func188 call188 ntmps188 results188 ?_;have F:=ai4 aC.eq_1 tabCells.eq_1 h0 h1;repeat refine st ?_
   exact aR
  ·refine qf func188 call188 ntmps188 results188 ?_;have F:=ai4 aC.eq_1 tabCells.eq_1 h0 h1;repeat refine st ?_
   exact aR
 ·refine qf func188 call188 ntmps188 results188 ?_;have F:=ai3 aC.eq_1 tabCells.eq_1 h0;repeat refine st ?_
  exact aR
def tbegL (c:ChD) (i:Int):List Nat:=if inZ c (if i= -1 then c.initial else i)=true then sbL c (if i= -1 then c.initial else i).toNat else []
theorem vt (env:Env) (c:ChD) (h:Full c) (i:Int):Con prog env 113 [aC c,I i] (.own 3 1 ((tbegL c i).map aB)):=by
 have hlen:=h.few;unfold tbegL;by_cases e:i= -1
 ·subst e;simp only[L4];obtain⟨s,hs,hini,_⟩:=h.topS;have hi:=(KW.1 hs).1;have f0:=kU env c c.initial;have hz:inZ c c.initial=true:=by rw[hini];exact aW.2 hi
  rw[hz]at f0;rw[hz,K0 rfl];have f1:=dC env ((sbL c (iniN c)).map aB) (by rw[Kl];have:=C1 h (iniN c);omega);have hb:(pZ c c.states.length)[iniN c]? =some [.seq 1 ((sbL c (iniN c)).map aB)]:=by unfold pZ;rw[K5,Lx hi];rfl
  have hbl:(pZ c c.states.length).length=c.states.length:=by simp[pZ]
  have g0:((iniN c:Nat):Int)< (c.states.length:Int):=by omega
  rw[hini]at f0 |-;rw[Lj];unfold aC tabCells at f0 |-;rw[hini]at f0 |-;refine qf func113 call113 ntmps113 results113 ?_;have F:=ai3 hb hbl g0;repeat refine tz2 f0 f1 ?_
  exact aR
 ·rw[KZ e];have e1:(i == -1)=false:=by simpa using e
  have f0:=kU env c i;cases hz:inZ c i with
  | false=>
    rw[hz]at f0;rw[KZ (by simp)];unfold aC tabCells at f0 |-;refine qw func113 call113 ntmps113 results113 ?_;have F:=e1;repeat refine tz1 f0 ?_
    (refine aN ?_;refine⟨_,(by show (an _ _ _).run _=some _;simp only[go_sem,F];rfl),?_⟩)
    exact ge.own_nil _ _ (by decide)
  | true=>
    obtain⟨k,s,rfl,hs,ha⟩:=dD hz;have hi:=(KW.1 hs).1;rw[hz]at f0;rw[K0 rfl,Lj];have f1:=dC env ((sbL c k).map aB) (by rw[Kl];have:=C1 h k;omega);have hb:(pZ c c.states.length)[k]? =some [.seq 1 ((sbL c k).map aB)]:=by unfold pZ;rw[K5,Lx hi];rfl
    have hbl:(pZ c c.states.length).length=c.states.length:=by simp[pZ]
    have g0:((k:Nat):Int)< (c.states.length:Int):=by omega
    unfold aC tabCells at f0 |-;refine qf func113 call113 ntmps113 results113 ?_;have F:=ai4 hb hbl g0 e1;repeat refine tz2 f0 f1 ?_
    exact aR
theorem bN (env:Env) (c:ChD) (h:Full c) (i:Int):Con prog env 147 [aC c,I i] (.own 3 1 ((if i= -1\/inZ c i=true then kidsL c i true else []).map aB)):=by
 have hlen:=h.few;have f0:=kU env c i;have f1:=gI env c i (by omega);unfold aA at f1;unfold aC tabCells at f0 |-;by_cases e:i= -1
 ·subst e;have hz:inZ c (-1)=false:=by unfold inZ;simp
  rw[hz]at f0;rw[K0 (.inl rfl)];refine qf func147 call147 ntmps147 results147 ?_;repeat refine yt f0 f1 ?_
  exact aR0
 ·have e1:(i != -1)=true:=by simpa using e
  cases hz:inZ c i with
  | false=>
    rw[hz]at f0;rw[KZ (by simp[e])];refine qw func147 call147 ntmps147 results147 ?_;have F:=e1;repeat refine tz2 f0 f1 ?_
    (refine aN ?_;refine⟨_,(by show (an _ _ _).run _=some _;simp only[go_sem,F];rfl),?_⟩)
    exact ge.own_nil _ _ (by decide)
  | true=>
    rw[hz]at f0;rw[K0 (.inr rfl)];refine qf func147 call147 ntmps147 results147 ?_;have F:=e1;repeat refine tz2 f0 f1 ?_
    exact aR
def I7 (c:ChD) (i:Int) (k:Nat):Bool:=match c.states[k]? with
 |some s=>inZ c i&&((s.parent==i)&&aS s)
 |none=>false
def memL (c:ChD) (i:Int):List Nat:=(List.range c.states.length).filter (I7 c i)
theorem G8 {c:ChD} (i:Int) (hz:inZ c i=true):memL c i=(kidsL c i false).filter fun k:Nat=> !inL (kidsL c i true) (k:Int):=by
 unfold memL kidsL bR;rw[List.filter_filter];apply MZ;intro k hk;have hk:=Kr.1 hk;obtain⟨s,hs⟩:=gE hk;have e1:cn c i false k=(s.parent==i):=by unfold cn;rw[hs];simp
 have e2:inL ((List.range c.states.length).filter (cn c i true)) (k:Int)=((s.parent==i)&& !aS s):=by
  rw[LD,r7];constructor
  ·rintro⟨j,hj,e⟩;have:j=k:=by omega
   subst this;have:=(Kb.1 hj).2;unfold cn at this;rw[hs]at this;simpa using this
  ·intro e;refine⟨k,Kb.2 ⟨Kr.2 hk,?_⟩,rfl⟩;unfold cn;rw[hs];simpa using e
 unfold I7;rw[e1,e2,hs];simp only[hz,LK];cases (s.parent==i)<;>cases aS s<;>rfl
def nL (K R:List Nat) (j:Nat):List Nat:=(K.take j).filter fun k:Nat=> !inL R (k:Int)
theorem BW {K R:List Nat} {j k:Nat} (h:K[j]? =some k):nL K R (j+1)=if inL R (k:Int) then nL K R j else nL K R j++[k]:=by
 unfold nL;rw[Kv,h,LL];cases hb:inL R (k:Int)<;>simp[hb]
theorem Eo (K R:List Nat) (j:Nat):(nL K R j).length<=K.length:=by
 unfold nL;exact Kh (Kw ..) (by rw[Kf];omega)
theorem Ae (env:Env) (c:ChD) (h:Full c) (i:Int):Con prog env 325 [aC c,I i] (.own 3 1 ((memL c i).map aB)):=by
 have hlen:=h.few;have f0:=kU env c i;cases hz:inZ c i with
 | false=>
   rw[hz]at f0
   have hm:memL c i=[]:=by
    unfold memL;rw[Mm];intro k _;unfold I7;cases c.states[k]? with
    |none=>simp
    |some s=>simp[hz]
   rw[hm];unfold aC tabCells at f0 |-;refine qw func325 call325 ntmps325 results325 ?_;repeat refine lZ f0 ?_
   (refine aN ?_;refine⟨_,(by show (an _ _ _).run _=some _;simp only[go_sem];rfl),?_⟩)
   exact ge.own_nil _ _ (by decide)
 | true=>
   rw[hz]at f0;rw[G8 i hz];have f1:=gI env c i (by omega);have f2:=oT env c i (by omega);unfold aA at f1 f2;have hKl:=bV h.toRight i false;have hRl:=bV h.toRight i true;generalize kidsL c i true=R at*;generalize kidsL c i false=K at*;unfold aC tabCells at f0 |-;refine qf func325 call325 ntmps325 results325 ?_;repeat refine Aa f0 f1 f2 ?_
   refine aZ 6 6 3 1 ?_;refine lq0 K.length (by omega) (fun j vs=>[(5, .row 18 (vs 18)),(6, .row 6 (vs 6)),(24, .row 24 (vs 24)),(25,I K.length),(26,I j)]) (fun j _=>[(6,⟨1,(nL K R j).map aB,3,true⟩),(18,⟨1,R.map aB,3,true⟩),(24,⟨1,K.map aB,3,true⟩)]) (fun j _ esc=>esc 6=false) rfl ?_ ?_
   ·rintro j ws esc hlt q1 q2 e0;obtain⟨k,hk⟩:=gE hlt;have f3:=jU env R k (by omega);have hil:=Eo K R j;have hf:Fits ((nL K R j).length+1) 8:=aG (by omega) (by omega);have hn:=BW (R:=R) hk;cases hb:inL R k with
    | true=>
      rw[hb]at f3;rw[hb,K0 rfl]at hn;have F:=ai6 aB.eq_1 q1 q2 hk hf e0;repeat refine tz1 f3 ?_
      refine⟨j+1,⟨hlt,by simp only[go_sem,e0]⟩,?_,?_,by omega⟩
      ·exact qe
      ·have F:=ai3 aB.eq_1 hn @Ki.{0,0};exact qe
    | false=>
      rw[hb]at f3;rw[hb,KZ LY]at hn;have F:=ai6 aB.eq_1 q1 q2 hk hf e0;repeat refine tz1 f3 ?_
      refine⟨j+1,⟨hlt,by simp only[go_sem,e0]⟩,?_,?_,by omega⟩
      ·exact qe
      ·have F:=ai3 aB.eq_1 hn @Ki.{0,0};exact qe
   ·rintro ws esc q1 e0;have hall:nL K R K.length=K.filter fun k:Nat=> !inL R (k:Int):=by unfold nL;rw[Kp]
    have F:=ai3 q1 hall e0;repeat refine st ?_
    exact aR
end
section
theorem Str.seq {sz:Nat} {es' es:List (List AV)} (hl:es'.length=es.length) (hs: ∀(i:Nat) (e' e:List AV),es'[i]? =some e'->es[i]? =some e->Strs e' e):Str (.seq sz es') (.seq sz es):=fun S w v h=>by
 have cell: ∀ {i j:Nat} {c:AV},cellAt es i j=some c-> ∃c',cellAt es' i j=some c'/\Str c' c:=fun {i j c} hc=>by
  unfold cellAt at hc |-;cases he:es[i]? with
  |none=>rw[he]at hc;cases hc
  | some e=>
    rw[he]at hc;have hi:=(KW.1 he).1;have he':es'[i]? =some es'[i]:=KV (by omega);obtain⟨h1,h2⟩:=hs i _ e he' he;have hj:=(KW.1 (show e[j]? =some c from hc)).1;rw[he'];exact⟨es'[i][j],KV (by omega),h2 j _ c (KV (by omega)) hc⟩
 cases h with
 | seq A n cap sz es' b o u hn hcap hA hz hc hr=>
   refine .seq A n cap sz es b o u (by omega) hcap hA (fun i e he=> ?_) (fun i j c h=> ?_) fun i j c h=> ?_
   ·have hi:=(KW.1 he).1;have he':es'[i]? =some es'[i]:=KV (by omega);rw[<-(hs i _ e he' he).1];exact hz i _ he'
   ·obtain⟨c',h1,_⟩:=cell h;exact hc i j c' h1
   ·obtain⟨c',h1,h2⟩:=cell h;exact h2 _ _ _ (hr i j c' h1)
theorem Strs.one {c' c:AV} (h:Str c' c):Strs [c'] [c]:= .cons h .nil
def Strss (es' es:List (List AV)):Prop:=es'.length=es.length/\ ∀(i:Nat) (e' e:List AV),es'[i]? =some e'->es[i]? =some e->Strs e' e
theorem Strss.nil:Strss [] []:=⟨rfl,fun i c' c h _=>by simp at h⟩
theorem Strss.cons {e' e:List AV} {es' es:List (List AV)} (h:Strs e' e) (hs:Strss es' es):Strss (e'::es') (e::es):=⟨by simp[hs.1],fun i a b ha hb=>by
 cases i with
 | zero=>
   simp only[LM,KX]at ha hb;subst ha hb;exact h
 |succ i=>exact hs.2 i a b (by simpa using ha) (by simpa using hb)⟩
theorem Str.seqs {sz:Nat} {es' es:List (List AV)} (h:Strss es' es):Str (.seq sz es') (.seq sz es):= .seq h.1 h.2
end
section
def rR (c:ChD):Bool:=decide ((c.states.length:Int)<=40)&&decide ((c.trans.length:Int)<=70)&&decide ((c.vars.length:Int)<=10)
theorem li (env:Env) (c:ChD):Con prog env 24 [.agg (aA c)] (B ((chk c).1==0)):=by
 have f0:=BG env c;unfold chkT at f0;refine qf func24 call24 ntmps24 results24 ?_;repeat refine lZ f0 ?_
 exact aR0
def jl (c:ChD):Bool:=rR c&&((chk c).1==0)
theorem Ji {c:ChD} (h:(chk c).1=0):chk c=(0, -1):=by
 unfold chk at h |-;split at h
 ·simp at h
 rename_i h1;rw[KZ h1];split at h
 ·simp at h
 rename_i h2;rw[KZ h2];split at h
 ·simp at h
 rename_i h3;try simp only at h |-
 split at h
 ·simp at h
 rename_i h4;try simp only at h |-
 split at h
 ·simp at h
 rename_i h5;rw[KZ h5];split at h
 ·simp at h
 ·rfl
theorem vD {c:ChD} (h:jl c=true):Full c:=by
 unfold jl at h;rw[KY,LW]at h;exact full_of h.2
end
section
def x8 (c:ChD) (i:Int) (s:List UInt8) (k:Nat):Bool:=match c.trans[k]? with|some t=>decide (t.src=i/\t.event=s)|none=>false
def dW (c:ChD) (i:Int) (s:List UInt8) (j:Nat):List Nat:=(List.range j).filter (x8 c i s)
theorem yS (p:Nat->Bool) (j:Nat):((List.range j).filter p).length<=j:=Kh (Kw ..) (by simp)
theorem BC (c:ChD) (i:Int):dW c i [] c.trans.length=atL c i (-1):=by
 have:=Hw (c:=c) i [] (.inl rfl);rw[xH]at this;rw[this];rfl
theorem BB (c:ChD) (i:Int) {s:List UInt8} (hs:s≠[]):dW c i s c.trans.length=II c i (evI c s):=by
 by_cases h:s∈evL c
 ·obtain⟨k,h1,_⟩:=tw h;have:=Hw (c:=c) i s (.inr h);unfold II;rw[KZ (by omega),this];rfl
 ·unfold II;rw[Db h,K0 (by omega)];unfold dW;rw[Mm];intro k hk hp;unfold x8 at hp;cases ht:c.trans[k]? with
  |none=>rw[ht]at hp;cases hp
  | some t=>
    rw[ht]at hp;simp only[K6]at hp;exact h (xk.2 ⟨hs,t,K1 ht,hp.2⟩)
end
section
theorem jC (env:Env) (c:ChD) (hc:c.states.length<=4000) (act:List Int) (hl:act.length<=1000000):Con prog env 143 [aC c, .seq 1 (act.map intAV)] (.own 4 1 (flagA c.states.length act)):=by
 have f0:=bD env c;have f1:=yu env c;have hz:=FP c.states.length;have m1: ¬(16777216:Int)< (c.states.length:Int):=by omega
 have m2: ¬(281474976710656:Int)<1*(c.states.length:Int):=by omega
 have m3: ¬(c.states.length:Int)<0:=by omega
 have m4: ¬(281474976710656:Int)< (c.states.length:Int):=by omega
 unfold aP at f0 f1;unfold aC at f0 |-;refine qf func143 call143 ntmps143 results143 ?_;have F:=ai4 m1 m2 m3 m4;repeat refine tz2 f0 f1 ?_
 have F:=hz;refine lq act.length (by omega) (fun j vs=>[(5, .row 11 (vs 11)),(12, .seq 1 (act.map intAV)),(13,I act.length),(14,I j)]) (fun j _=>[(11,⟨1,flagA c.states.length (act.take j),4,true⟩)]) (fun j _ esc=>esc 11=false) rfl ?_ ?_
 ·rintro j ws esc hlt q1 q2 e0;obtain⟨x,hx⟩:=gE hlt;have ht:act.take (j+1)=act.take j++[x]:=by rw[Kv,hx];rfl
  have hfl:=eH c.states.length (act.take j);by_cases h0:0<=x
  ·obtain⟨k,rfl⟩:=gL h0;by_cases h1:k<c.states.length
   ·have q3:=nlt h1;have hs:=Gn (act:=act.take j) h1;have hat:=jf (act:=act.take j) h1;rw[<-ht]at hs;have F:=ai8 hx q1 q2 q3 hat hs hfl e0;repeat refine st ?_
    exact qn (j+1) ⟨hlt,by simp only[go_sem,e0]⟩
   ·have q3: ¬(k:Int)< (c.states.length:Int):=by omega
    have hs:=zp (n:=c.states.length) (act:=act.take j) (i:=(k:Int)) (fun m hm=>by omega);rw[<-ht]at hs;have F:=ai6 hx q1 q2 q3 hfl e0;repeat refine st ?_
    refine⟨j+1,⟨hlt,by simp only[go_sem,e0]⟩,?_,?_,by omega⟩
    ·exact qe
    ·have F:=hs;exact qe
  ·have hs:=zp (n:=c.states.length) (act:=act.take j) (i:=x) (fun m hm=>by omega);rw[<-ht]at hs;have F:=ai6 hx q1 q2 h0 hfl e0;repeat refine st ?_
   refine⟨j+1,⟨hlt,by simp only[go_sem,e0]⟩,?_,?_,by omega⟩
   ·exact qe
   ·have F:=hs;exact qe
 ·rintro ws esc q1 e0;have hta:act.take act.length=act:=Kp;have F:=ai3 q1 hta e0;repeat refine st ?_
  exact aR
theorem se (env:Env) (n:Nat) (act:List Int) (ks:List Nat) (_hn:n<=4000) (hl:ks.length<=4000) (hk: ∀k∈ks,k<n):Con prog env 146 [.seq 1 (flagA n act), .seq 1 (ks.map aB)] (I (manyI act ks:Nat)):=by
 have hfl:=eH n act;have z0:manyI act []=0:=rfl;refine qf func146 call146 ntmps146 results146 ?_;repeat refine st0 ?_
 have F:=z0;refine lq ks.length (by omega) (fun j _=>[(0, .seq 1 (flagA n act)),(5,I (manyI act (ks.take j):Nat)),(8, .seq 1 (ks.map aB)),(9,I ks.length),(10,I j)]) (fun _ _=>[]) (fun _ _ _=>True) trivial ?_ ?_
 ·rintro j ws esc hlt q1 q2 _;obtain⟨k,hk2⟩:=gE hlt;have hkn:=hk k (K1 hk2);have q3:=nlt hkn;have hat:=jf (act:=act) hkn;have hm:=wo (act:=act) hk2;have hle:=wq act (ks.take j);rw[Kf]at hle;have q4:=aD (show manyI act (ks.take j)<ks.length by omega) (by omega);cases hb:act.contains (k:Int) with
  | true=>
    rw[hb]at hat hm;rw[K0 rfl]at hm;have F:=ai8 aB.eq_1 hk2 q1 q2 q3 q4 hat hfl;repeat refine st ?_
    refine⟨j+1,⟨hlt,trivial⟩,?_,?_,by omega⟩
    ·have F:=hm;exact qe
    ·(simp only[go_sem,hm])
  | false=>
    rw[hb]at hat hm;rw[KZ LY,Md]at hm;have F:=ai7 aB.eq_1 hk2 q1 q2 q3 hat hfl;repeat refine st ?_
    refine⟨j+1,⟨hlt,trivial⟩,?_,?_,by omega⟩
    ·have F:=hm;exact qe
    ·(simp only[go_sem,hm])
 ·rintro ws esc q1 _;have hta:ks.take ks.length=ks:=Kp;have F:=ai q1 hta;repeat refine st ?_
  exact aR
theorem Ea {c:ChD} (h:Right c) {k:Nat} {s:StD} (hs:c.states[k]? =some s) (act:List Int):(s.parent<0/\decide (s.parent<0)=true)\/(¬s.parent<0/\decide (s.parent<0)=false/\0<=s.parent/\s.parent< (c.states.length:Int)/\(flagA c.states.length act)[s.parent.toNat]? =some [B (act.contains s.parent)]):=by
 have hi:=(KW.1 hs).1;have h2:=(h.par k s hs).2;by_cases e:s.parent<0
 ·exact .inl ⟨e,LC e⟩
 ·refine .inr ⟨e,Ky e,by omega,by omega,?_⟩;rw[jf (by omega)];rw[show ((s.parent.toNat:Nat):Int)=s.parent by omega]
theorem Gp (env:Env) (c:ChD) (h:Full c) (act:List Int) (k:Nat) (s:StD) (hs:c.states[k]? =some s):Con prog env 144 [.agg (aA c),aC c, .seq 1 (flagA c.states.length act),I k] (B (qM c act k s)):=by
 have hlen:=h.few;have hi:=(KW.1 hs).1;have q0:((k:Nat):Int)< (c.states.length:Int):=by omega
 have f0:=bN env c h k;rw[K0 (.inr (aW.2 hi))]at f0;have hK:=bV h.toRight k true;have hKm: ∀j∈kidsL c k true,j<c.states.length:=fun j hj=>by have:=bF h.toRight (aV hj).1;omega
 have f1:=se env c.states.length act (kidsL c k true) (by omega) (by omega) hKm;have hfl:=eH c.states.length act;have hp:=Ea h.toRight hs act;have hF:qM c act k s=(!aS s&&(decide (s.parent<0)||act.contains s.parent)&&(if s.kind=1/\kidsL c k true≠[] then manyI act (kidsL c k true)==1 else if s.kind=2 then manyI act (kidsL c k true)==(kidsL c k true).length else true)):=rfl;rw[hF];try clear hF
 generalize kidsL c k true=K at*;unfold aC at f0 |-;by_cases e4:s.kind=4
 ·have b4:(s.kind==4)=true:=by simpa using e4
  have hm:aS s=true:=by unfold aS;rw[b4];rfl
  rw[hm];refine qf func144 call144 ntmps144 results144 ?_;have F:=ai5 aA.eq_1 aL.eq_1 hs q0 b4;repeat refine tz1 f0 ?_
  exact aR
 have b4:(s.kind==4)=false:=by simpa using e4
 by_cases e5:s.kind=5
 ·have b5:(s.kind==5)=true:=by simpa using e5
  have hm:aS s=true:=by unfold aS;rw[b5,Bool.or_true]
  rw[hm];refine qf func144 call144 ntmps144 results144 ?_;have F:=ai6 aA.eq_1 aL.eq_1 hs q0 b4 b5;repeat refine tz1 f0 ?_
  exact aR
 have b5:(s.kind==5)=false:=by simpa using e5
 have hm:aS s=false:=by unfold aS;rw[b4,b5];rfl
 rw[hm];by_cases e1:s.kind=1
 ·have b1:(s.kind==1)=true:=by simpa using e1
  by_cases hk0:K=[]
  ·rw[KZ (by simp[hk0]),KZ (by omega)];have q1: ¬(0:Int)< (K.length:Int):=by rw[hk0];simp
   rcases hp with⟨g0,g1⟩|⟨g0,g1,g2,g3,g4⟩
   ·refine qf func144 call144 ntmps144 results144 ?_;have F:=ai10 aA.eq_1 aL.eq_1 hs q0 b4 b5 b1 q1 g0 g1;repeat refine tz1 f0 ?_
    exact aR
   ·refine qf func144 call144 ntmps144 results144 ?_;have F:=ai12 aA.eq_1 aL.eq_1 hs q0 b4 b5 b1 q1 g0 g1 g2<|ai3 g3 g4 hfl;repeat refine tz1 f0 ?_
    exact aR
  ·rw[K0 ⟨e1,hk0⟩];have q1:(0:Int)< (K.length:Int):=by have:=MG.2 hk0;omega
   by_cases hm1:manyI act K=1
   ·have hmi:((manyI act K:Nat):Int)=1:=by omega
    rw[hm1];rcases hp with⟨g0,g1⟩|⟨g0,g1,g2,g3,g4⟩
    ·refine qf func144 call144 ntmps144 results144 ?_;have F:=ai11 aA.eq_1 aL.eq_1 hs q0 b4 b5 b1 q1 hmi g0 g1;repeat refine tz2 f0 f1 ?_
     exact aR
    ·refine qf func144 call144 ntmps144 results144 ?_;have F:=ai12 aA.eq_1 aL.eq_1 hs q0 b4 b5 b1 q1 hmi g0 g1<|ai4 g2 g3 g4 hfl;repeat refine tz2 f0 f1 ?_
     exact aR
   ·have hmi:(((manyI act K:Nat):Int) != 1)=true:=by simp;omega
    have hmb:(manyI act K==1)=false:=by simpa using hm1
    rw[hmb];refine qf func144 call144 ntmps144 results144 ?_;have F:=ai9 aA.eq_1 aL.eq_1 hs q0 b4 b5 b1 q1 hmi;repeat refine tz2 f0 f1 ?_
    exact aR
 have b1:(s.kind==1)=false:=by simpa using e1
 rw[KZ (fun e=>e1 e.1)];by_cases e2:s.kind=2
 ·have b2:(s.kind==2)=true:=by simpa using e2
  rw[K0 e2];by_cases hm1:manyI act K=K.length
  ·have hmi:(((manyI act K:Nat):Int) != (K.length:Int))=false:=by simp;omega
   rw[hm1];rcases hp with⟨g0,g1⟩|⟨g0,g1,g2,g3,g4⟩
   ·refine qf func144 call144 ntmps144 results144 ?_;have F:=ai11 aA.eq_1 aL.eq_1 hs q0 b4 b5 b1 b2 hmi g0 g1;repeat refine tz2 f0 f1 ?_
    exact aR
   ·refine qf func144 call144 ntmps144 results144 ?_;have F:=ai12 aA.eq_1 aL.eq_1 hs q0 b4 b5 b1 b2 hmi g0 g1<|ai4 g2 g3 g4 hfl;repeat refine tz2 f0 f1 ?_
    exact aR
  ·have hmi:(((manyI act K:Nat):Int) != (K.length:Int))=true:=by simp;omega
   have hmb:(manyI act K==K.length)=false:=by simpa using hm1
   rw[hmb];refine qf func144 call144 ntmps144 results144 ?_;have F:=ai9 aA.eq_1 aL.eq_1 hs q0 b4 b5 b1 b2 hmi;repeat refine tz2 f0 f1 ?_
   exact aR
 ·have b2:(s.kind==2)=false:=by simpa using e2
  rw[KZ e2];rcases hp with⟨g0,g1⟩|⟨g0,g1,g2,g3,g4⟩
  ·refine qf func144 call144 ntmps144 results144 ?_;have F:=ai10 aA.eq_1 aL.eq_1 hs q0 b4 b5 b1 b2 g0 g1;repeat refine tz1 f0 ?_
   exact aR
  ·refine qf func144 call144 ntmps144 results144 ?_;have F:=ai12 aA.eq_1 aL.eq_1 hs q0 b4 b5 b1 b2 g0 g1 g2<|ai3 g3 g4 hfl;repeat refine tz1 f0 ?_
   exact aR
theorem Fa (env:Env) (a1 a8:Addr) (he:ChEnv env a1 a8) (p:Int) (hp: -1<=p):Con prog env 145 [I p] (errV p (sentV a1)):=by
 have g1:=gX he.e1;have f0:=xF env [108,101,103,97,108,46,67,104,101,99,107] p a1 hp;refine qf func145 call145 ntmps145 results145 ?_;have F:=g1;repeat refine tz1 f0 ?_
 exact aR
def uD (a1:Addr) (c:ChD) (act:List Int):AV:=if lgB c act=true then nilE else errV (j9 c act).2 (sentV a1)
theorem AP {a1:Addr} {c:ChD} {act:List Int} {p:Int} (h:j9 c act=(1,p)):uD a1 c act=errV p (sentV a1):=by
 unfold uD lgB;rw[h];rfl
theorem Ir {a1:Addr} {c:ChD} {act:List Int} {p:Int} (h:j9 c act=(0,p)):uD a1 c act=nilE:=by
 unfold uD lgB;rw[h];rfl
theorem rU {c:ChD} {act:List Int} {j:Nat} {x:Int} (hx:act[j]? =some x):tj c act j=((j==0||decide (act.getD (j-1) 0<x))&&tm c act x):=by unfold tj;rw[hx]
theorem zt {c:ChD} {act:List Int} {k:Nat} {s:StD} (hs:c.states[k]? =some s):tm c act (k:Int)=qM c act k s:=by
 unfold tm;rw[bH,hs];rfl
theorem nS {c:ChD} {act:List Int} {x:Int} (hz:inZ c x=false):tm c act x=false:=by
 unfold tm at_;unfold inZ at hz;by_cases h0:0<=x
 ·rw[K0 h0];rw[LC h0,LK,LN]at hz;rw[K7 (by omega)]
 ·rw[KZ h0]
end
section
theorem Cw {act:List Int} {j:Nat} (h0:0<j) (hj:j<act.length):act[j-1]? =some (act.getD (j-1) 0):=by
 rw[Ko,KV (show j-1<act.length by omega)];rfl
theorem bd (l:List Int):bC (l.map r6)=l.map intAV:=by
 unfold bC;rw[Mk];rfl
end
section
theorem F5 {act:List Int} {j:Nat} {x v:Int} (hx:act[j]? =some x) (hn:(act.take j).contains v=false) (he:x≠v):(act.take (j+1)).contains v=false:=by
 rw[Kv,hx];simp at hn |-;exact⟨hn,fun q=>he q.symm⟩
theorem kN (env:Env) (act:List Int) (v:Int) (hl:act.length<=1000000):Con prog env 163 [.seq 1 (act.map intAV),I v] (B (act.contains v)):=by
 refine qf func163 call163 ntmps163 results163 ?_;repeat refine st0 ?_
 refine lq0 act.length (by omega) (fun j _=>[(0, .seq 1 (act.map intAV)),(1,I v),(5,I j)]) (fun _ _=>[]) (fun j _ _=>(act.take j).contains v=false) rfl ?_ ?_
 ·rintro j ws esc hlt q1 q2 hno;obtain⟨x,hx⟩:=gE hlt;by_cases e:x=v
  ·have hr:act.contains v=true:=by rw[K3, <-e];exact K1 hx
   rw[hr];have q3:(x==v)=true:=by simpa using e
   have F:=ai3 hx q1 q3;repeat refine st ?_
   exact aR
  ·have q3:(x==v)=false:=by simpa using e
   have F:=ai4 hx q1 q2 q3;repeat refine st ?_
   exact qn (j+1) ⟨hlt,F5 hx hno e⟩
 ·rintro ws esc q1 hno;rw[Kp]at hno;rw[hno];have F:=q1;repeat refine st ?_
  exact aR
theorem oP (env:Env) (act:List Int) (ks:List Nat) (hl:act.length<=1000000) (hk:ks.length<=4000):Con prog env 161 [.seq 1 (act.map intAV), .seq 1 (ks.map aB)] (I (manyI act ks:Nat)):=by
 have z0:manyI act []=0:=rfl;refine qf func161 call161 ntmps161 results161 ?_;repeat refine st0 ?_
 have F:=z0;refine lq ks.length (by omega) (fun j _=>[(0, .seq 1 (act.map intAV)),(1, .seq 1 (ks.map aB)),(5,I (manyI act (ks.take j):Nat)),(6,I j)]) (fun _ _=>[]) (fun _ _ _=>True) trivial ?_ ?_
 ·rintro j ws esc hlt q1 q2 _;obtain⟨k,hk2⟩:=gE hlt;have f0:=kN env act k hl;have hm:=wo (act:=act) hk2;have hle:=wq act (ks.take j);rw[Kf]at hle;have q4:=aD (show manyI act (ks.take j)<ks.length by omega) (by omega);cases hb:act.contains (k:Int) with
  | true=>
    rw[hb]at f0 hm;rw[K0 rfl]at hm;have F:=ai5 aB.eq_1 hk2 q1 q2 q4;repeat refine tz1 f0 ?_
    refine⟨j+1,⟨hlt,trivial⟩,?_,?_,by omega⟩
    ·have F:=hm;exact qe
    ·(simp only[go_sem,hm])
  | false=>
    rw[hb]at f0 hm;rw[KZ LY,Md]at hm;have F:=ai4 aB.eq_1 hk2 q1 q2;repeat refine tz1 f0 ?_
    refine⟨j+1,⟨hlt,trivial⟩,?_,?_,by omega⟩
    ·have F:=hm;exact qe
    ·(simp only[go_sem,hm])
 ·rintro ws esc q1 _;have hta:ks.take ks.length=ks:=Kp;have F:=ai q1 hta;repeat refine st ?_
  exact aR
theorem yR (env:Env) (c:ChD) (h:Full c) (act:List Int) (hl:act.length<=1000000) (k:Nat) (s:StD) (hs:c.states[k]? =some s):Con prog env 160 [.agg (aA c), .seq 1 (act.map intAV),I k] (B (qM c act k s)):=by
 have hlen:=h.few;have hi:=(KW.1 hs).1;have q0:((k:Nat):Int)< (c.states.length:Int):=by omega
 have f0:=fF env c k true (by omega);have hK:=bV h.toRight k true;have f1:=oP env act (kidsL c k true) hl (by omega);have f2:=cu env s;have f3:=kN env act s.parent hl;have hF:qM c act k s=(!aS s&&(decide (s.parent<0)||act.contains s.parent)&&(if s.kind=1/\kidsL c k true≠[] then manyI act (kidsL c k true)==1 else if s.kind=2 then manyI act (kidsL c k true)==(kidsL c k true).length else true)):=rfl;rw[hF];try clear hF
 generalize kidsL c k true=K at*;cases hm:aS s with
 | true=>
   rw[hm]at f2;refine qf func160 call160 ntmps160 results160 ?_;have F:=ai4 aA.eq_1 aL.eq_1 hs q0;repeat refine tz1 f2 ?_
   exact aR
 | false=>
   rw[hm]at f2;by_cases hp:s.parent<0
   ·have g0: ¬0<=s.parent:=by omega
    rw[LC hp];by_cases e1:s.kind=1/\K≠[]
    ·have b1:(s.kind==1)=true:=by simpa using e1.1
     have q1:(0:Int)< (K.length:Int):=by have:=MG.2 e1.2;omega
     have q2:(((manyI act K:Nat):Int)==1)=(manyI act K==1):=by rw[LD,LW,LW];omega
     rw[K0 e1];refine qf func160 call160 ntmps160 results160 ?_;have F:=ai8 aA.eq_1 aL.eq_1 hs q0 g0 b1 q1 q2;repeat refine tz3 f0 f1 f2 ?_
     exact aR
    ·rw[KZ e1];have q2:(((manyI act K:Nat):Int)==(K.length:Int))=(manyI act K==K.length):=by rw[LD,LW,LW];omega
     by_cases e2:s.kind=2
     ·have b1:(s.kind==1)=false:=by simp[e2]
      have b2:(s.kind != 2)=false:=by simp[e2]
      rw[K0 e2];refine qf func160 call160 ntmps160 results160 ?_;have F:=ai8 aA.eq_1 aL.eq_1 hs q0 g0 b1 b2 q2;repeat refine tz3 f0 f1 f2 ?_
      exact aR
     ·have b2:(s.kind != 2)=true:=by simpa using e2
      rw[KZ e2];by_cases e3:s.kind=1
      ·have b1:(s.kind==1)=true:=by simpa using e3
       have q1: ¬(0:Int)< (K.length:Int):=by
        have:K=[]:=M5 fun q=>e1 ⟨e3,q⟩;rw[this];simp
       refine qf func160 call160 ntmps160 results160 ?_;have F:=ai8 aA.eq_1 aL.eq_1 hs q0 g0 b1 b2 q1;repeat refine tz3 f0 f1 f2 ?_
       exact aR
      ·have b1:(s.kind==1)=false:=by simpa using e3
       refine qf func160 call160 ntmps160 results160 ?_;have F:=ai7 aA.eq_1 aL.eq_1 hs q0 g0 b1 b2;repeat refine tz3 f0 f1 f2 ?_
       exact aR
   ·have g0:0<=s.parent:=by omega
    rw[Ky hp];cases hin:act.contains s.parent with
    | false=>
      rw[hin]at f3;refine qf func160 call160 ntmps160 results160 ?_;have F:=ai5 aA.eq_1 aL.eq_1 hs q0 g0;repeat refine tz4 f0 f1 f2 f3 ?_
      exact aR
    | true=>
      rw[hin]at f3;by_cases e1:s.kind=1/\K≠[]
      ·have b1:(s.kind==1)=true:=by simpa using e1.1
       have q1:(0:Int)< (K.length:Int):=by have:=MG.2 e1.2;omega
       have q2:(((manyI act K:Nat):Int)==1)=(manyI act K==1):=by rw[LD,LW,LW];omega
       rw[K0 e1];refine qf func160 call160 ntmps160 results160 ?_;have F:=ai8 aA.eq_1 aL.eq_1 hs q0 g0 b1 q1 q2;repeat refine tz4 f0 f1 f2 f3 ?_
       exact aR
      ·rw[KZ e1];have q2:(((manyI act K:Nat):Int)==(K.length:Int))=(manyI act K==K.length):=by rw[LD,LW,LW];omega
       by_cases e2:s.kind=2
       ·have b1:(s.kind==1)=false:=by simp[e2]
        have b2:(s.kind != 2)=false:=by simp[e2]
        rw[K0 e2];refine qf func160 call160 ntmps160 results160 ?_;have F:=ai8 aA.eq_1 aL.eq_1 hs q0 g0 b1 b2 q2;repeat refine tz4 f0 f1 f2 f3 ?_
        exact aR
       ·have b2:(s.kind != 2)=true:=by simpa using e2
        rw[KZ e2];by_cases e3:s.kind=1
        ·have b1:(s.kind==1)=true:=by simpa using e3
         have q1: ¬(0:Int)< (K.length:Int):=by
          have:K=[]:=M5 fun q=>e1 ⟨e3,q⟩;rw[this];simp
         refine qf func160 call160 ntmps160 results160 ?_;have F:=ai8 aA.eq_1 aL.eq_1 hs q0 g0 b1 b2 q1;repeat refine tz4 f0 f1 f2 f3 ?_
         exact aR
        ·have b1:(s.kind==1)=false:=by simpa using e3
         refine qf func160 call160 ntmps160 results160 ?_;have F:=ai7 aA.eq_1 aL.eq_1 hs q0 g0 b1 b2;repeat refine tz4 f0 f1 f2 f3 ?_
         exact aR
end

end Go.Proofs.YtbjldjekgepopaaGreatDoor