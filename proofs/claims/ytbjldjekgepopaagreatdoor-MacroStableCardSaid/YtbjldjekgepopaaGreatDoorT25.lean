/- slices.Insert at memories: in memory. -/
import Derived.Test.YtbjldjekgepopaaGreatDoorT24
import Derived.Lib.Overlaps
import Derived.Lib.AppendZerosOnto
set_option maxRecDepth 100000
set_option maxHeartbeats 16000000
set_option linter.unusedSimpArgs false
namespace Go.Proofs.YtbjldjekgepopaaGreatDoor
open Go.Proofs.Tryz
open Go.RowKit
section
theorem C5 {c:ChD} {k:Nat} {s:StD} (hs:c.states[k]? =some s):aO c k=s.parent:=by unfold aO;rw[bH,hs]
theorem I2 {c:ChD} {k:Nat} {s:StD} (hs:c.states[k]? =some s):IB c k=s.name:=by unfold IB;rw[bH,hs]
theorem FU {c:ChD} {r:RunD} {o l:List Int} {j:Nat} {i:Int} (hi:l[j]? =some i):ei c r o (l.drop j)=if aO c i<0 then ei c { r with over:=true } o (l.drop (j+1))
 else match raiseP r (qO c (aO c i)) 0 with
  |(r1,none)=>ei c r1 (if 0<=aO c (aO c i)/\d4 c (aO c (aO c i))=2 then o++[aO c (aO c i)] else o) (l.drop (j+1))
  |x=>(x,[]):=by
 rw[bE hi]
 conv=>lhs;unfold ei
 rcases raiseP r (qO c (aO c i)) 0 with⟨r1,_|_⟩<;>rfl
theorem FT {c:ChD} {r:RunD} {l:List Int} {j:Nat} {g:Int} (hi:l[j]? =some g):gY c r (l.drop j)=if Bt c r.act g=true then(match raiseP r (qO c g) 0 with
 |(r1,none)=>gY c r1 (l.drop (j+1))
 |x=>x)
 else gY c r (l.drop (j+1)):=by
 rw[bE hi]
 conv=>lhs;unfold gY
 rcases raiseP r (qO c g) 0 with⟨r1,_|_⟩<;>rfl
theorem u7 (r:RunD) (s:List UInt8) (v:Int):(raiseP r s v).1.act=r.act:=by unfold raiseP;split<;>rfl
theorem sU {c:ChD} (_h:Right c) {l:List Int} {k:Nat} (hk:k∈sortL c l):k<c.states.length:=by
 unfold sortL at hk;split at hk
 ·rename_i hl;have:=(Kb.1 hk).2;have:=K2.1 hl _ (K3.1 this);exact aW.1 this
 ·simp at hk
theorem Hq {c:ChD} {k:Nat} {s:StD} (hs:c.states[k]? =some s):qO c k=[100,111,110,101,46]++s.name:=by unfold qO;rw[I2 hs]
theorem zT {c:ChD} (h:Full c) {k:Nat} {s:StD} (hs:c.states[k]? =some s):s.name.length<=32:=by
 have:=h.st k s hs;unfold bq bX at this;simp only[KY,K6]at this;exact this.1.1.1.1.1.1.1
theorem Bl (env:Env) (a1 a2 a8:Addr) (c:ChD) (d now:Int) (E:RunEnv env a1 a2 a8 c d now) (r:RunD) (hl:r.act.length<=100000) (hb:lgB c r.act=true) (Z:List Int) (hF: ∀i∈Z,inZ c i=true) (hFl:Z.length<=1000):
 ConI prog env 187 [1000,1001,1002,1003,1004,1005] gr5 (fun g=>[.loc 1000 (g 1000) 0 0, .seq 1 (Z.map intAV)]) (RY c d now r) (RY c d now (finishP c r Z).1) (fun _=>cN a2 a8 (finishP c r Z).2):=by
 have hfew:=E.h.few;have hpar:=E.h.toRight.par;have hra:=fun(r:RunD) (s:List UInt8)=>u6 env a2 a8 E.he.e8 c d now r s 0;have fT:=bD env c;have fS:=fun(o:List Int) (ho:o.length<=1000000)=>((eu env c E.h.toRight o ho).lend (bn (fun _=>rfl) _)).seen;have fD:=fun(r:RunD) (hl:r.act.length<=100000) (hb:lgB c r.act=true) (g:Nat) (hg:g<c.states.length)=>(F0 env a1 a8 E.he c E.h E.hs r.act (by omega) hb g hg).lend rfl;have hsl:=fun(o:List Int) (k:Nat) (hk:k∈sortL c o)=>sU E.h.toRight hk;have hsf:=fun(o:List Int)=>gH E.h.toRight o;unfold aP at fT fS;unfold aC at fT fD;refine qi func187 call187 ntmps187 results187 ?_;intro vs esc hesc;obtain⟨e0,e1,e2,e3,e4,e5⟩:=es6 hesc;have F:=ai9 RY.eq_1 RYe.eq_1 gr5.eq_1 e0 e1 e2 e3 e4 e5;repeat refine st ?_
 refine aZ 5 5 3 1 ?_;refine lp (D:=Nat×RunD×List Int) (fun x vs'=>[(0, .loc 1000 (vs' 1000) 0 0),(4,nilE),(5, .row 5 (vs' 5)),(15, .seq 1 (Z.map intAV)),(16,I Z.length),(17,I x.1)]) (fun x vs'=>(5,⟨1,x.2.2.map intAV,3,true⟩)::RY c d now x.2.1 vs') (fun x vs' esc'=>(x.1<=Z.length/\ei c r [] Z=ei c x.2.1 x.2.2 (Z.drop x.1)/\x.2.1.act=r.act/\x.2.2.length<=x.1)/\(vs' 1000=vs 1000/\vs' 1002=vs 1002)/\esc' 1000=false/\esc' 1001=false/\esc' 1002=false/\esc' 1003=false/\esc' 1004=false/\esc' 1005=false/\esc' 5=false) (fun x=>Z.length-x.1) (0,r,[]) ⟨⟨Ke _,rfl,rfl,K8 _⟩,by simp only[go_sem,Kn],by simp only[go_sem,e0,e1,e2,e3,e4,e5,Kn]⟩ ?_;try clear e0 e1 e2 e3 e4 e5
 rintro⟨j,r1,o⟩ ws es ⟨⟨hj,heq,hact,hol⟩,⟨v0,v2⟩,e0,e1,e2,e3,e4,e5,e6⟩;simp only at hj heq hact hol;by_cases hlt:j<Z.length
 ·obtain⟨i,hx⟩:=gE hlt;have hi:=hF i (K1 hx);obtain⟨k,s,rfl,hs,_⟩:=dD hi;have hkl:=(KW.1 hs).1;have q1:=nlt hlt;have q2:=aD hlt (by omega);have q3:=nlt hkl;have hps:=hpar k s hs;rw[FU hx,C5 hs]at heq;by_cases hp0:s.parent<0
  ·rw[K0 hp0]at heq;have F:=ai12 aL.eq_1 intAV.eq_1 RY.eq_1 RYe.eq_1 gr5.eq_1 hx hs q1 q2 q3 hp0<|ai7 e0 e1 e2 e3 e4 e5 e6;repeat refine st ?_
   refine⟨(j+1,{ r1 with over:=true },o),⟨⟨hlt,heq,hact,by simp only;omega⟩,?_,?_⟩,?_,?_,?_⟩
   ·simp only[go_sem,v0,v2,Kn]
   ·simp only[go_sem,e0,e1,e2,e3,e4,e5,e6,Kn]
   ·exact qe
   ·exact qe
   ·simp only;omega
  rw[KZ hp0]at heq;obtain⟨p,hp⟩: ∃p:Nat,s.parent=p:=⟨s.parent.toNat,by omega⟩;rw[hp]at heq hp0 hps;obtain⟨t,ht⟩: ∃t,c.states[p]? =some t:=⟨c.states[p]'(by omega),KV (by omega)⟩;have q5:(p:Int)< (c.states.length:Int):=by omega
  have htp:=hpar p t ht;have q9:5+t.name.length<=9223372036854775807:=by have:=zT E.h ht;omega
  have f0:=hra r1 (qO c p);have hra1:=u7 r1 (qO c p) 0;rw[Hq ht]at f0 heq hra1;rw[C5 ht]at heq;rcases hX:raiseP r1 ([100,111,110,101,46]++t.name) 0 with⟨r2,_|⟨k,ps⟩⟩
  ·rw[hX]at heq f0 hra1;simp only at heq hra1;unfold cN RY RYe at f0;simp only at f0;by_cases hg0:0<=t.parent
   ·obtain⟨g,hg⟩: ∃g:Nat,t.parent=g:=⟨t.parent.toNat,by omega⟩;rw[hg]at heq htp;obtain⟨u,hu⟩: ∃t,c.states[g]? =some t:=⟨c.states[g]'(by omega),KV (by omega)⟩;have q6:(g:Int)< (c.states.length:Int):=by omega
    rw[rW hu]at heq;cases h2:u.kind==2 with
    | true=>
      rw[K0 ⟨by omega,by simpa using h2⟩]at heq;have q7:Fits (o.length+1) 8:=aG (by omega) (by omega);have q8:(o++[(g:Int)]).map intAV=o.map intAV++[[I g]]:=by rw[Ki];rfl
      have F:=ai12 aL.eq_1 intAV.eq_1 RY.eq_1 RYe.eq_1 gr5.eq_1 hx hs ht hu hp hg<|ai12 h2 q1 q2 q3 q5 q6 q7 q9 hp0 e0 e1<|ai5 e2 e3 e4 e5 e6;repeat refine st ?_
      refine iL L6 f0 ?_;repeat refine st ?_
      refine⟨(j+1,r2,o++[(g:Int)]),⟨⟨hlt,heq,hra1.trans hact,by simp only[K4,Le];omega⟩,?_,?_⟩,?_,?_,?_⟩
      ·simp only[go_sem,v0,v2,Kn]
      ·simp only[go_sem,e0,e1,e2,e3,e4,e5,e6,Kn]
      ·exact qe
      ·simp only[q8];exact qe
      ·simp only;omega
    | false=>
      rw[KZ (fun hh=>by rw[hh.2]at h2;cases h2)]at heq;have F:=ai12 aL.eq_1 intAV.eq_1 RY.eq_1 RYe.eq_1 gr5.eq_1 hx hs ht hu hp hg<|ai12 h2 q1 q2 q3 q5 q6 q9 hp0 e0 e1 e2<|ai4 e3 e4 e5 e6;repeat refine st ?_
      refine iL L6 f0 ?_;repeat refine st ?_
      refine⟨(j+1,r2,o),⟨⟨hlt,heq,hra1.trans hact,by simp only;omega⟩,?_,?_⟩,?_,?_,?_⟩
      ·simp only[go_sem,v0,v2,Kn]
      ·simp only[go_sem,e0,e1,e2,e3,e4,e5,e6,Kn]
      ·exact qe
      ·exact qe
      ·simp only;omega
   ·rw[KZ (fun hh=>hg0 hh.1)]at heq;have F:=ai12 aL.eq_1 intAV.eq_1 RY.eq_1 RYe.eq_1 gr5.eq_1 hx hs ht hp hg0 q1<|ai12 q2 q3 q5 q9 hp0 e0 e1 e2 e3 e4 e5 e6;repeat refine st ?_
    refine iL L6 f0 ?_;repeat refine st ?_
    refine⟨(j+1,r2,o),⟨⟨hlt,heq,hra1.trans hact,by simp only;omega⟩,?_,?_⟩,?_,?_,?_⟩
    ·simp only[go_sem,v0,v2,Kn]
    ·simp only[go_sem,e0,e1,e2,e3,e4,e5,e6,Kn]
    ·exact qe
    ·exact qe
    ·simp only;omega
  ·rw[hX]at heq f0;simp only at heq;unfold cN RY RYe at f0;simp only at f0;unfold finishP;rw[heq];show awp _ _ _ _ _ _;unfold cN;simp only;have F:=ai12 aL.eq_1 intAV.eq_1 RY.eq_1 RYe.eq_1 gr5.eq_1 hx hs ht hp q1 q2<|ai12 q3 q5 q9 v0 v2 hp0 e0 e1 e2 e3 e4<|ai e5 e6;repeat refine st ?_
   refine iL L6 f0 ?_;repeat refine st ?_
   exact rI
 ·obtain rfl:j=Z.length:=by omega
  have q1:=nl Z.length;rw[MP]at heq;rw[show ei c r1 o []=((r1,none),o) from rfl]at heq;unfold finishP;rw[heq];simp only;have f1:=fS o (by omega);have hlt2:=hsl o;have hlf:=hsf o;generalize sortL c o=L at*;have F:=ai11 RY.eq_1 RYe.eq_1 gr5.eq_1 q1 e0 e1 e2 e3 e4 e5 e6;repeat refine tz1 fT ?_
  refine lL f1 ?_;repeat refine st ?_
  refine lp (D:=Nat×RunD) (fun x vs'=>[(0, .loc 1000 (vs' 1000) 0 0),(4,nilE),(85, .seq 1 (L.map aB)),(86,I L.length),(87,I x.1)]) (fun x vs'=>RY c d now x.2 vs') (fun x vs' esc'=>(x.1<=L.length/\gY c r1 (zL L)=gY c x.2 ((zL L).drop x.1)/\x.2.act=r.act)/\(vs' 1000=vs 1000/\vs' 1002=vs 1002)/\esc' 1000=false/\esc' 1001=false/\esc' 1002=false/\esc' 1003=false/\esc' 1004=false/\esc' 1005=false) (fun x=>L.length-x.1) (0,r1) ⟨⟨Ke _,rfl,hact⟩,by simp only[go_sem,v0,v2,Kn],by simp only[go_sem,e0,e1,e2,e3,e4,e5,Kn]⟩ ?_;try clear e0 e1 e2 e3 e4 e5 e6 heq hact v0 v2
  rintro⟨j,r2⟩ ws es ⟨⟨hj,heq,hact⟩,⟨v0,v2⟩,e0,e1,e2,e3,e4,e5⟩;simp only at hj heq hact;by_cases hlt:j<L.length
  ·obtain⟨g,hx⟩:=gE hlt;have hgl:=hlt2 g (K1 hx);obtain⟨t,ht⟩: ∃t,c.states[g]? =some t:=⟨c.states[g]'(by omega),KV (by omega)⟩;have q1:=nlt hlt;have q2:=aD hlt (by omega);have q3:=nlt hgl;have q9:5+t.name.length<=9223372036854775807:=by have:=zT E.h ht;omega
   have f2:=fD r2 (by rw[hact];exact hl) (by rw[hact];exact hb) g hgl;rw[FT (A7 hx)]at heq;cases hd:Bt c r2.act g with
   | false=>
     rw[hd]at f2 heq;simp only[LA,Lf]at heq;have F:=ai12 aL.eq_1 aB.eq_1 RY.eq_1 RYe.eq_1 gr5.eq_1 hx ht q1 q2 q3 e0<|ai5 e1 e2 e3 e4 e5;repeat refine st ?_
     refine lL f2 ?_;repeat refine st ?_
     refine⟨(j+1,r2),⟨⟨hlt,heq,hact⟩,?_,?_⟩,?_,?_,?_⟩
     ·simp only[go_sem,v0,v2,Kn]
     ·simp only[go_sem,e0,e1,e2,e3,e4,e5,Kn]
     ·exact qe
     ·exact qe
     ·simp only;omega
   | true=>
     rw[hd]at f2 heq;simp only[L4]at heq;have f0:=hra r2 (qO c g);have hra1:=u7 r2 (qO c g) 0;rw[Hq ht]at f0 heq hra1;rcases hX:raiseP r2 ([100,111,110,101,46]++t.name) 0 with⟨r3,_|⟨k,ps⟩⟩
     ·rw[hX]at heq f0 hra1;simp only at heq hra1;unfold cN RY RYe at f0;simp only at f0;have F:=ai12 aL.eq_1 aB.eq_1 RY.eq_1 RYe.eq_1 gr5.eq_1 hx ht q1 q2 q3 q9<|ai6 e0 e1 e2 e3 e4 e5;repeat refine st ?_
      refine lL f2 ?_;repeat refine st ?_
      refine iL L6 f0 ?_;repeat refine st ?_
      refine⟨(j+1,r3),⟨⟨hlt,heq,hra1.trans hact⟩,?_,?_⟩,?_,?_,?_⟩
      ·simp only[go_sem,v0,v2,Kn]
      ·simp only[go_sem,e0,e1,e2,e3,e4,e5,Kn]
      ·exact qe
      ·exact qe
      ·simp only;omega
     ·rw[hX]at heq f0;simp only at heq;unfold cN RY RYe at f0;simp only at f0;rw[heq];show awp _ _ _ _ _ _;unfold cN;simp only;have F:=ai12 aL.eq_1 aB.eq_1 RY.eq_1 RYe.eq_1 gr5.eq_1 hx ht q1 q2 q3 q9<|ai8 v0 v2 e0 e1 e2 e3 e4 e5;repeat refine st ?_
      refine lL f2 ?_;repeat refine st ?_
      refine iL L6 f0 ?_;repeat refine st ?_
      exact rI
  ·obtain rfl:j=L.length:=by omega
   have q1:=nl L.length;rw[Ly (by rw[bg];omega)]at heq;rw[show gY c r2 []=(r2,none) from rfl]at heq;rw[heq];show awp _ _ _ _ _ _;unfold cN;simp only;have F:=ai12 RY.eq_1 RYe.eq_1 gr5.eq_1 q1 v0 v2 e0 e1 e2 e3 e4 e5;repeat refine st ?_
   exact rI
theorem tG {c:ChD} (hA:ActsOk c) {d now:Int} (hd:aJ d=true) (hn:0<=now/\now<=1099511627776): ∀ {l:List Int} {r:RunD} {f:List Int},RunOk c r->(aj c d now r f l).1.1.act.length<=r.act.length+l.length
 |[],r,f,h=>K8 _
 | i::l,r,f,h=>by
   unfold aj;split
   ·have:=tG hA (l:=l) (f:=f) hd hn h;simp only[Kj];omega
   ·obtain⟨k1,k2⟩:=lW (r:={ r with act:=bS (r.act++[i]) }) hd hn { h with } (hA.inn i);have ha:=k2.act;split
    ·rename_i r1 e;rw[e]at k1 ha;have:=tG hA (l:=l) (f:=if d4 c i=3 then f++[i] else f) hd hn k1;have ha:r1.act=bS (r.act++[i]):=ha;rw[ha,oJ,K4]at this;simp only[Kj,NH]at this |-;omega
    ·rename_i x hx;simp only;rw[ha];simp only[oJ,K4,Kj,NH];omega
theorem vY (env:Env) (a1 a2 a8:Addr) (c:ChD) (d now:Int) (E:RunEnv env a1 a2 a8 c d now) (r:RunD) (hr:RunOk c r) (hrise:r.act.Pairwise (· < ·)) (hl:r.act.length<=1000) (G:List Nat) (hG: ∀i∈G,i<c.states.length) (hGl:G.length<=1000) (hleg:(aj c d now r [] (zL G)).1.2=none->lgB c (aj c d now r [] (zL G)).1.1.act=true):
 ConI prog env 112 [1000,1001,1002,1003,1004,1005] gr5 (fun g=>[.loc 1000 (g 1000) 0 0, .seq 1 (G.map aB)]) (RY c d now r) (RY c d now (enterP c d now r (zL G)).1) (fun _=>cN a2 a8 (enterP c d now r (zL G)).2):=by
 have hA:=cK E.h;have f0:=HL env a1 a2 a8 c d now E r hr hl G hG hGl;have k0:=tG hA (l:=zL G) (f:=[]) E.hd E.hn hr;obtain⟨_,k2⟩:=il hA (l:=zL G) (f:=[]) E.hd E.hn hr hrise;have hfin:=fun(r:RunD) hl hb (F:List Int) hF hFl=>Bl env a1 a2 a8 c d now E r hl hb F hF hFl;rw[bg]at k0;unfold enterP;rcases hX:aj c d now r [] (zL G) with⟨⟨r1,_|⟨k,ps⟩⟩,f⟩
 ·rw[hX]at f0 hleg k0 k2;simp only at hleg k0 k2;have kc:=k2 trivial;have hkl:=kc.len;rw[bg]at hkl
  have f1:=hfin r1 (by omega) (hleg trivial) f (fun i hi=>by
   rcases (kc.fin i).1 hi with q|⟨q,_⟩
   ·simp at q
   ·obtain⟨k,hk,rfl⟩:=K9.1 q
    exact aW.2 (hG k hk)) (by simp only[NH]at hkl;omega)
  simp only;generalize finishP c r1 f=Y at*;unfold CC RY RYe at f0;unfold RY RYe at f1;simp only at f0;refine qi func112 call112 ntmps112 results112 ?_;intro vs esc hesc;obtain⟨e0,e1,e2,e3,e4,e5⟩:=es6 hesc;have F:=ai10 RY.eq_1 RYe.eq_1 gr5.eq_1 eK e0 e1 e2 e3 e4 e5;repeat refine st ?_
  refine iL L6 f0 ?_;repeat refine st ?_
  refine iL L6 f1 ?_;repeat refine st ?_
  exact rI
 ·rw[hX]at f0;simp only;unfold CC cN RY RYe at f0;simp only at f0;show ConI _ _ _ _ _ _ _ _ fun _=>errV _ _;refine qi func112 call112 ntmps112 results112 ?_;intro vs esc hesc;obtain⟨e0,e1,e2,e3,e4,e5⟩:=es6 hesc;have F:=ai9 RY.eq_1 RYe.eq_1 gr5.eq_1 e0 e1 e2 e3 e4 e5;repeat refine st ?_
  refine iL L6 f0 ?_;repeat refine st ?_
  exact rI
end
section
def rounds (P:Program) (env:Env) (nt:Nat) (c:Code) (Q:Exit->St->Prop):Nat->St->Prop
 |0,_=>False
 |n+1,s=>awp P env nt c (bJ (rounds P env nt c Q n) Q) s
section
variable {P:Program} {env:Env} {nt:Nat} {c:Code} {Q:Exit->St->Prop} {s:St}
end
end
section
theorem xE (c:ChD): ∀(l:List Int) (r:RunD) (o:List Int),xZ (ei c r o l).1.2
 |[],r,o=>fun x h=>by cases h
 | i::l,r,o=>by
   unfold ei;split
   ·exact xE c l _ _
   ·split
    ·exact xE c l _ _
    ·exact sX _ _ _
theorem xC (c:ChD): ∀(l:List Int) (r:RunD),xZ (gY c r l).2
 |[],r=>fun x h=>by cases h
 | i::l,r=>by
   unfold gY;split
   ·split
    ·exact xC c l _
    ·exact sX _ _ _
   ·exact xC c l _
theorem xK (c:ChD) (d now:Int): ∀(l:List Int) (r:RunD) (f:List Int),xZ (aj c d now r f l).1.2
 |[],r,f=>fun x h=>by cases h
 | i::l,r,f=>by
   unfold aj;split
   ·exact xK c d now l _ _
   ·split
    ·exact xK c d now l _ _
    ·exact xr _ _ _ _ _
theorem AL (c:ChD) (d now:Int) (r:RunD) (l:List Int):xZ (enterP c d now r l).2:=by
 have h1:=xK c d now l r [];unfold enterP;split
 ·rename_i r1 f e;unfold finishP;have h2:=xE c f r1 [];split
  ·exact xC _ _ _
  ·rename_i x y hh e2;rw[e2]at h2;exact h2
 ·rename_i x y hh e;rw[e]at h1;exact h1
theorem vX {c:ChD} {d now:Int} {r:RunD} {l:List Int} {e:Nat×List Int} (h:(aj c d now r [] l).1.2=some e):enterP c d now r l=(aj c d now r [] l).1:=by
 unfold enterP;rcases hX:aj c d now r [] l with⟨⟨r1,_|x⟩,f⟩
 ·rw[hX]at h;cases h
 ·rfl
end
section
theorem iG {P:Program} (w:World) (dT sT ty elem:TypeId) (ie:TypeInfo) (hi:P.info? elem=some ie) (g o dLen dCap:Nat) (a:Addr) (sLen sCap:Nat) (cur:Array Value) (t:TypeId) (cs:List Value) (k:Nat) (hu:P.underlying dT=some (.slice elem))
 (hg:w.heap[g]? =some (.cells cur t (0,0))) (hk:Nat.min sLen dLen=k) (hn:cs.length=k*ie.size) (hsrc: ∀j v,cs[j]? =some v->w.cell? (a.add j)=some v) (hfit:o+cs.length<=cur.size) (h1: ∀v∈cs,v.oneCell'=true):
 (Builtin.copy_ #[dT,sT] ty #[.slice (some ⟨g,o,none⟩) dLen dCap, .slice (some a) sLen sCap]).run P w= .ok (goInt k) (w.setRow g (cur.toList.take o++cs++cur.toList.drop (o+cs.length)).toArray):=by
 have hl:=run_loadCells_list (P:=P) w a cs hsrc;have hst:=Of P g o t cs 0 cur w hg (by simpa using hfit) h1;simp only[Md]at hst;simp[Builtin.copy_,Ka hu,Builtin.lenOf,Builtin.firstCells,sizeOf,typeInfo,hi,hk, <-hn,hl,hst]
structure Insr (P:Program) (f:FuncId) (e:TypeId) (sz:Nat):Prop where
 enter: ∀(args:Array Value) (w:World),(callFunc f args).run P w= .ok (.enter f args) w
 calls: ∀(w:World) (base i n:Nat) (v u:Value) (xs ys:List Value),base<=w.heap.size->w.ownsRow base e sz v n xs->w.ownsRow base e sz u 1 ys->(∀g,v.ownBlock=some g->u.ownBlock≠some g)->(∀x∈xs,x.oneCell'=true)->(∀y∈ys,y.oneCell'=true)->i<=n->n<=4096->
  Calls P f #[v, .int .i64 (i:Int),u] w fun ex w'=> ∃v',ex= .returned v'/\w.grownBy w' v.ownBlock/\(∀g,v'.ownBlock=some g->v.ownBlock=some g\/w.heap.size<=g)/\w'.ownsRow base e sz v' (n+1) (xs.take (i*sz)++ys++xs.drop (i*sz))
def ly (i:Nat) (y:List AV) (es:List (List AV)):List (List AV):=es.take i++y::es.drop i
theorem FC (i:Nat) (y:List AV) (es:List (List AV)):(ly i y es).length=es.length+1:=by
 unfold ly;rw[K4,Kj,Kf,M2];omega
theorem sr {i:Nat} {y:List AV} {es:List (List AV)} (hi:i<=es.length) (p:Nat):(ly i y es)[p]? =if p<i then es[p]? else if p=i then some y else es[p-1]? :=by
 have hl:(es.take i).length=i:=by rw[Kf];omega
 unfold ly;by_cases h1:p<i
 ·rw[K0 h1,LB (by omega),Kz,K0 h1]
 ·rw[KZ h1,Ku (by omega),hl];by_cases h2:p=i
  ·subst h2;rw[K0 rfl,Ow];rfl
  ·rw[KZ h2,show p-i=(p-1-i)+1 by omega,ME,La,show i+(p-1-i)=p-1 by omega]
theorem Ie {i sz n:Nat} {xs ys:List Value} (hx:xs.length=n*sz) (hy:ys.length=sz) (hi:i<=n) (p j:Nat) (hj:j<sz):
 (xs.take (i*sz)++ys++xs.drop (i*sz))[p*sz+j]? =if p<i then xs[p*sz+j]? else if p=i then ys[j]? else xs[(p-1)*sz+j]? :=by
 have hi2:i*sz<=n*sz:=LE _ hi;have hl:(xs.take (i*sz)).length=i*sz:=by rw[Kf];omega
 by_cases h1:p<i
 ·have:(p+1)*sz<=i*sz:=LE _ h1;rw[PR]at this;rw[K0 h1,LV,LB (by omega),Kz,K0 (by omega)]
 ·rw[KZ h1];by_cases h2:p=i
  ·subst h2;rw[K0 rfl,LV,Ku (by omega),hl,Nat.add_sub_cancel_left,LB (by omega)]
  ·have h3:(i+1)*sz<=p*sz:=LE _ (by omega);rw[PR]at h3;have h4:p*sz=(p-1)*sz+sz:=by rw[<-PR];congr 1;omega
   rw[KZ h2,Ku (by rw[K4];omega),K4,hl,La]
   congr 1
   omega
theorem Fl {P:Program} {env:Env} {f:FuncId} {r r2 ver ver2:Nat} {row row2:Row} {rows:Nat->Option Row} {vsv:Nat->Nat} {i:Nat} {y:List AV} (hC:Insr P f row.e row.sz) (hr:rows r=some row) (hr2:rows r2=some row2) (hne:r2≠r) (hv:vsv r=ver) (hv2:vsv r2=ver2) (hrz:row.sz≠0) (hp:row.pure=true) (hp2:row2.pure=true)
 (e2:row2.e=row.e) (z2:row2.sz=row.sz) (y2:row2.es=[y]) (hi:i<=row.es.length) (hn:row.es.length<=4096):
 Acts P env f [.row r ver, .lit (.int .i64 (i:Int)), .row r2 ver2] [r,r2] rows vsv ⟨.row r (ver+1),[.renew r { row with es:=ly i y row.es }]⟩:=by
 refine⟨hC.enter,fun x s a w m vs hx hS hro hl hvs=> ?_⟩;obtain⟨q1,q2,q3⟩:=hro r (by simp);obtain⟨p1,p2,p3⟩:=hro r2 (by simp);rw[hr]at q1;rw[hv]at q2;rw[hr2]at p1;rw[hv2]at p2
 match vs,hl with
 |[u,iv,u2],_=>
 have hu:u=m.ρ r:=(hvs 0 u _ rfl rfl).row_.2 q2 row q1;have hu2:u2=m.ρ r2:=(hvs 2 u2 _ rfl rfl).row_.2 p2 row2 p1;have hiv:iv= .int .i64 (i:Int):=(hvs 1 iv _ rfl rfl).lit_;subst hu hu2 hiv;have k:=(hS.rows r row q1).cells hrz;have k2:=(hS.rows r2 row2 p1).cells (by rw[z2];exact hrz);obtain⟨xs,c1,c2,c3⟩:=k.own;obtain⟨ys,d1,d2,d3⟩:=k2.own;rw[y2,e2,z2]at d1;have hyl:ys.length=row.sz:=by have:=d1.1;simpa using this
 refine(hC.calls w x.w.heap.size i row.es.length (m.ρ r) (m.ρ r2) xs ys hS.bel.size c1 d1 (fun g hg=>hS.inj r r2 row row2 q1 p1 (MJ hne) g hg) c2 d2 hi hn).mono ?_;rintro ex w' ⟨v',rfl,hg,hsub,ho⟩
 have hb:Below x.w.heap.size w w':=⟨hg.os,hg.tape,hg.output,hg.size,fun q hq=>hg.block q (Lz hq hS.bel.size) fun e=>by
  have:=(bQ c1 e.symm).1
  omega⟩
 have hnS: ∀g,(m.ρ r).ownBlock=some g-> ∀o,¬m.S g o:=k.fresh q3
 have hnS2: ∀g,v'.ownBlock=some g-> ∀o,¬m.S g o:=fun g hgv o hh=>by
  rcases hsub g hgv with e|e
  ·exact hnS g e o hh
  ·have:=hS.low g o hh;omega
 have hcell: ∀b o,m.S b o->m.S b o/\Stay w w' b o:=fun b o hh=>⟨hh, .block (hg.block b (hS.low b o hh) fun e=>hnS b e.symm o hh)⟩;have hρ:(⟨m.S,upd m.ρ r v'⟩:Mem).ρ r=v':=upd_same ..
 have hS2:Sim x (s.renew r { row with es:=ly i y row.es } false) a w' ⟨m.S,upd m.ρ r v'⟩:=by
  refine hS.renew r _ false v' m.S hb hcell (fun b o hh=> .inl hh) (fun q row1 hnq hq gq hgq=>⟨?_,fun e=> ?_,fun _ hh=>hh⟩) ?_ fun b hf=>⟨hg.block b (hS.fxlt hf) fun e=>hS.nofx r row q1 b e.symm hf,fun _ hh=>hh,fun e=> ?_⟩
  ·exact hg.block gq ((hS.rows q row1 hq).blk hgq).2 fun e=>hS.inj r q row row1 q1 hq (MJ hnq) gq e.symm hgq
  ·rcases hsub gq e with e|e
   ·exact hS.inj r q row row1 q1 hq (MJ hnq) gq e hgq
   ·have:=((hS.rows q row1 hq).blk hgq).2;omega
  ·have hlen:=FC i y row.es;refine .inl ⟨k.pos,fun p e he=> ?_,⟨xs.take (i*row.sz)++ys++xs.drop (i*row.sz),by rw[hρ];show w'.ownsRow _ _ _ _ (ly i y row.es).length _;rw[hlen];exact ho,?_,?_⟩,fun he=> ?_,fun g hg' o _=> ?_,fun _ g hg' o=> ?_⟩
   ·rw[sr hi]at he;split at he
    ·exact k.len _ _ he
    ·split at he
     ·cases he;have:=k2.len 0 y (by rw[y2];rfl);rw[z2]at this;exact this
     ·exact k.len _ _ he
   ·intro u hu;rcases Kt.1 hu with hu|hu
    ·rcases Kt.1 hu with hu|hu
     ·exact c2 u (MK hu)
     ·exact d2 u hu
    ·exact c2 u (Mi hu)
   ·intro p j c hc
    have hj:j<row.sz:=by
     unfold cellAt at hc;cases hpe:(ly i y row.es)[p]? with
     |none=>rw[hpe]at hc;cases hc
     | some e=>
       rw[hpe]at hc;have hc:e[j]? =some c:=hc;have hjl:=(KW.1 hc).1;rw[sr hi]at hpe;split at hpe
       ·rw[k.len _ _ hpe]at hjl;exact hjl
       ·split at hpe
        ·cases hpe;have:=k2.len 0 y (by rw[y2];rfl);rw[z2]at this;omega
        ·rw[k.len _ _ hpe]at hjl;exact hjl
    rw[Ie c1.1 hyl hi p j hj];unfold cellAt at hc;rw[sr hi]at hc
    suffices h: ∃u,(if p<i then xs[p*row.sz+j]? else if p=i then ys[j]? else xs[(p-1)*row.sz+j]?)=some u/\RV m.S w' u c by
     obtain⟨u,g1,g2⟩:=h;exact⟨u,g1,by show (if row.pure=true then _ else _);rw[K0 hp];exact g2⟩
    by_cases h1:p<i
    ·rw[K0 h1]at hc |-;obtain⟨u,g1,g2⟩:=c3 p j c hc;rw[K0 hp]at g2;exact⟨u,g1,g2.mono hcell⟩
    ·rw[KZ h1]at hc |-;by_cases h2:p=i
     ·rw[K0 h2]at hc |-;obtain⟨u,g1,g2⟩:=d3 0 j c (by unfold cellAt;rw[y2];exact hc);rw[K0 hp2]at g2;refine⟨u,by rw[Mu,Lc]at g1;exact g1,g2.mono hcell⟩
     ·rw[KZ h2]at hc |-;obtain⟨u,g1,g2⟩:=c3 (p-1) j c hc;rw[K0 hp]at g2;exact⟨u,g1,g2.mono hcell⟩
   ·have he:upd s.esc r false r=true:=he;rw[upd_same]at he;cases he
   ·rw[hρ]at hg';exact hnS2 g hg' o
   ·rw[hρ]at hg';exact hnS2 g hg' o
  ·rcases hsub b e with e|e
   ·exact hS.nofx r row q1 b e hf
   ·have:=hS.fxlt hf;omega
 have h1:v'.oneCell'=true:=by
  rcases ho.2 with⟨ee,_⟩|⟨g,cp,cur,ee,_⟩<;>rw[ee]<;>rfl
 refine⟨v',_,rfl,hS2, .row r (ver+1) h1 ?_ fun _ row' _=> ?_⟩
 ·show ver+1<=upd s.vs r (s.vs r+1) r;rw[upd_same,q2];exact K8 _
 ·show v'=upd m.ρ r v' r;rw[upd_same]
section
variable {P:Program} {env:Env} {s:St}
theorem Fh {o:Oper} {f:FuncId} {args:List AV} {rest:List Stp} {s1:St} {row row2:Row} {i:Nat} {y:List AV} {ft:Foot} {K:St->List Foot->Prop} (r r2:Nat) (hc:bB env s.f o=some (f,args)) (hC:Insr P f row.e row.sz) (hrz:row.sz≠0) (hp:row.pure=true) (hp2:row2.pure=true) (e2:row2.e=row.e) (z2:row2.sz=row.sz) (y2:row2.es=[y]) (hne:r2≠r) (hi:i<=row.es.length) (hn:row.es.length<=4096)
 (ha:Is args [.row r (s.vs r), .lit (.int .i64 (i:Int)), .row r2 (s.vs r2)]) (hr:Is (s.rows r) (some row)) (hr2:Is (s.rows r2) (some row2)) (he:Is (s.esc r) false) (he2:Is (s.esc r2) false) (h1:Is ((⟨.row r (s.vs r+1),[.renew r { row with es:=ly i y row.es }]⟩:Out).app o.dst s) s1) (h2:Is (⟨[r,r2],[r,r2],[r],[]⟩:Foot) ft) (k:aops P env rest s1 fun s2 fts=>K s2 (ft::fts)):aops P env (⟨o, .always⟩::rest) s K:=by
 unfold Is at h2;subst h2
 exact ol hc ha (Fl hC hr hr2 hne rfl rfl hrz hp hp2 e2 z2 y2 hi hn) (fun q hq=>by
  rcases Kk.1 hq with rfl|hq
  ·exact he
  ·rw[Km.1 hq];exact he2) h1 k
end
end
section
theorem jp {P:Program} (w:World) {ops:Array Oper} {rest:List Oper} {o:Oper} {a:Act} {Q:Exit->Act->World->Prop} (hgd:o.guard=none) (d s:Operand) (t t':TypeId)
 (ho:o.op= .call { callee:= .builtin .copy,args:= #[d,s],argTypes:= #[t,t'] }) (v u:Value) (hd:a.eval d=v) (hs:a.eval s=u) {v':Value} {w':World}
 (hr:(Builtin.copy_ #[t,t'] o.type #[v,u]).run P w= .ok v' w') (h:wpList P ops Q rest (a.put o.dst v') w'):wpList P ops Q (o::rest) a w:=
 wpList_plain hgd fun K hK=>by
  unfold Oper.wp execOp;simp only[ho,resolve,invoke,builtin,Ks,LO,Kc,OP,LI,Lt,hd,hs,hr];exact hK _ _ h
theorem mM {P:Program} {ops:Array Oper} {o:Oper} {a:Act} {w:World} {K:Act->World->Prop} {Q:Exit->Act->World->Prop} {E:Prop}
 (hg:o.guard=none) (d x:Operand) (dT sT:TypeId) (hop:o.op=Op.call { callee:=Callee.builtin Builtin.copy,args:= #[d,x],argTypes:= #[dT,sT] })
 (v u:Value) (hd:a.eval d=v) (hx:a.eval x=u) {v':Value} {w':World} (hr:(Builtin.copy_ #[dT,sT] o.type #[v,u]).run P w= .ok v' w') (hK:K (a.put o.dst v') w'):
 if Region.wanted o (yielded ops a.tmps)=true then Oper.wp P o a w K Q else E:=by
 rw[K0 (by simp[Region.wanted,hg])];unfold Oper.wp;simp[execOp,hop,resolve,invoke,builtin,hd,hx,hr,Result.andThen];exact hK
theorem sa {w:World} {base n sz:Nat} {e:TypeId} {v:Value} {xs:List Value} (h:w.ownsRow base e sz v n xs) (hn:0<n):
 ∃g cap cur,v= .slice (some ⟨g,0,none⟩) n cap/\base<=g/\w.heap[g]? =some (.cells cur e (0,0))/\n<=cap/\cap<=maxLen/\cur.size=cap*sz/\cur.toList.take (n*sz)=xs:=by
 rcases h.2 with⟨_,h⟩|h
 ·omega
 ·exact h
theorem kK {w:World} {g:Nat} {cur:Array Value} {e:TypeId} (hg:w.heap[g]? =some (.cells cur e (0,0))) (k:Nat):w.cell? ⟨g,k,none⟩=cur[k]? :=by simp[World.cell?,hg]
theorem qq {w:World} {g:Nat} {cur:Array Value} {e:TypeId} (hg:w.heap[g]? =some (.cells cur e (0,0))) (k:Nat):w.frozen? ⟨g,k,none⟩=false:=by simp[World.frozen?,hg]
theorem CZ:tyD prog 28=some ⟨.slice 162 2 32 [.int .i64 0, .slice none 0 0],1,[.slice none 0 0]⟩:=by kernel_rfl
theorem Gk (w:World) (base n:Nat) (v u:Value) (xs ys:List Value) (hbw:base<=w.heap.size) (hx:w.ownsRow base 162 2 v n xs) (hy:w.ownsRow base 162 2 u 1 ys) (h1y: ∀y∈ys,y.oneCell'=true) (hn:n<=4096):
 Calls prog 348 #[v, .int .i64 (n:Int),u] w fun ex w'=> ∃v',ex= .returned v'/\w.grownBy w' v.ownBlock/\(∀g,v'.ownBlock=some g->v.ownBlock=some g\/w.heap.size<=g)/\w'.ownsRow base 162 2 v' (n+1) (xs++ys):=by
 obtain⟨hu,ie,ze,i1,i2,i3,i4,i5⟩:=ay CZ
 have hzc:ze.cells.size=2:=by
  have:=Kx List.length i5;simpa using this
 obtain⟨g2,c2,cur2,rfl,_,hg2,_⟩:=sa hy (by omega);obtain⟨v',w',hrun,ho,hgr⟩:=eQ (P:=prog) w base 28 28 162 ie ze 2 32 hu i1 i2 i3 i4 hzc (by decide) v n xs hx (some ⟨g2,0,none⟩) 1 c2 ys hy.1 (fun _=>⟨_,rfl,fun j y hj=>hy.cells rfl j y hj⟩) h1y (by unfold maxLen;omega) (by omega) hbw
 have fin: ∃v'',Ending.returned v'= .returned v''/\w.grownBy w' v.ownBlock/\(∀g,v''.ownBlock=some g->v.ownBlock=some g\/w.heap.size<=g)/\w'.ownsRow base 162 2 v'' (n+1) (xs++ys):=by
  refine⟨v',rfl,?_,fun g hg=> ?_,ho⟩
  ·rcases hgr with⟨_,h⟩|⟨_,h⟩
   ·exact h
   ·exact⟨h.os,h.tape,h.output,h.size,fun k hk _=>h.block k hk (by simp)⟩
  ·rcases hgr with⟨e,_⟩|⟨e,_⟩
   ·rw[e]at hg;exact .inl hg
   ·rw[e]at hg;cases hg;exact .inr (K8 _)
 try clear hgr ho i1 i2 i3 i4 i5 hzc
 rcases hx.2 with⟨rfl,rfl⟩|⟨g,cap,cur,rfl,_,hg,hnc,hcm,_,_⟩
 ·clear hx hy
  go_enter func348,ntmps348
  go_wp2_with (at_builtin;refine ON _ rfl _ _ _ _ rfl _ _ rfl rfl _ _ hrun ?_)
  all_goals (go_ret;exact fin)
 ·clear hx hy;unfold maxLen at hcm
  go_enter func348,ntmps348
  go_wp2_with (at_builtin;refine ON _ rfl _ _ _ _ rfl _ _ rfl rfl _ _ hrun ?_)
  all_goals (go_ret;exact fin)
def fH (cur:Array Value) (i n:Nat):List Value:=(cur.toList.drop (i*2)).take ((n-i)*2)
def cM (l:List Value) (o:Nat) (cs:List Value):List Value:=l.take o++cs++l.drop (o+cs.length)
theorem nI {cur:Array Value} {i n cap:Nat} (hs:cur.size=cap*2) (hin:i<=n) (hn:n<=cap):(fH cur i n).length=(n-i)*2:=by
 unfold fH;rw[Kf,M2,L9,hs];omega
theorem rE {cur:Array Value} {i n j:Nat} {v:Value} (h:(fH cur i n)[j]? =some v):cur[i*2+j]? =some v:=by
 unfold fH at h;rw[Kz]at h;split at h
 ·rw[La]at h;simpa using h
 ·cases h
theorem dl {l:List Value} {o:Nat} {cs:List Value} (h:o+cs.length<=l.length):(cM l o cs).length=l.length:=by
 unfold cM;simp only[K4,Kf,M2];omega
theorem mV {w w':World} {g:Nat} {R:Array Value} (h:w.grownBy w' (some g)):w.grownBy (w'.setRow g R) (some g):=
 ⟨h.os,h.tape,h.output,by simp[World.setRow];exact h.size,fun k hk hne=>by rw[MX w' g k R (fun e=>hne (by rw[e]))];exact h.block k hk hne⟩
theorem mA {w w':World} {r:Option Nat} (h:w.grownBy w' r):w.grownBy w'.drew r:=⟨h.os,h.tape,h.output,h.size,h.block⟩
theorem Ez (w:World) (g cap i n g2 c2:Nat) (cur cur2:Array Value) (hg:w.heap[g]? =some (.cells cur 162 (0,0))) (hg2:w.heap[g2]? =some (.cells cur2 162 (0,0))) (hne:g2≠g) (hi:i<n) (hroom:n+1<=cap) (hcap:cap<=9223372036854775807) (hsz:cur.size=cap*2) (hsz2:cur2.size=c2*2) (hc2:1<=c2)
 (h1c: ∀u∈fH cur i n,u.oneCell'=true) (h1y: ∀u∈fH cur2 0 1,u.oneCell'=true) (hn:n<=4096):
 Calls prog 348 #[.slice (some ⟨g,0,none⟩) n cap, .int .i64 (i:Int), .slice (some ⟨g2,0,none⟩) 1 c2] w fun e w'=>
  e= .returned (.slice (some ⟨g,0,none⟩) (n+1) cap)/\w.grownBy w' (some g)/\w'.heap[g]? =some (.cells (cM (cM cur.toList ((i+1)*2) (fH cur i n)) (i*2) (fH cur2 0 1)).toArray 162 (0,0)):=by
 obtain⟨hu,ie,ze,i1,i2,i3,i4,i5⟩:=ay CZ;have hol:=nI hsz (PQ hi) (by omega:n<=cap);have hyl:=nI hsz2 (Ke 1) hc2;have hl1:(cM cur.toList ((i+1)*2) (fH cur i n)).length=cap*2:=by rw[dl (by rw[hol,L9,hsz];omega),L9,hsz]
 have hov: ∀(W:World) (lb cb:Nat),W.heap=w.heap->(callFunc 355 #[.slice (some ⟨g2,0,none⟩) 1 c2, .slice (some ⟨g,(i+1)*2,none⟩) lb cb]).run prog W= .ok (.value (.bool false)) W:=fun W lb cb hW=>by
  have k1:W.heap[g]? =some (.cells cur 162 (0,0)):=by rw[hW];exact hg
  have k2:W.heap[g2]? =some (.cells cur2 162 (0,0)):=by rw[hW];exact hg2
  rw[run_callFunc_extern func355 (by kernel_rfl) (by kernel_rfl) (by kernel_rfl) (e:=Extern.SlicesOverlaps.overlaps #[28,28] #[4]) (by kernel_rfl),
   Lib.run_overlaps_apart W 28 4 162 hu 2 (fun w0=>by simp[sizeOf,typeInfo,i1,i3]) ⟨g2,0,none⟩ ⟨g,(i+1)*2,none⟩ 1 c2 lb cb hne 162 162 cur2.size cur.size (by simp[World.shape?,k2]) (by simp[World.shape?,k1]) (by omega) (qq k2 _) (qq k2 _)]
  rfl
 have hcp1: ∀(W:World),W.heap=w.heap-> ∀(ty:TypeId) (dc sc:Nat),(Builtin.copy_ #[28,28] ty #[.slice (some ⟨g,(i+1)*2,none⟩) (n-i) dc, .slice (some ⟨g,i*2,none⟩) (n+1-i) sc]).run prog W= .ok (goInt ((n-i:Nat):Int)) (W.setRow g (cM cur.toList ((i+1)*2) (fH cur i n)).toArray):=fun W hW ty dc sc=>by
  have k1:W.heap[g]? =some (.cells cur 162 (0,0)):=by rw[hW];exact hg
  exact iG W _ _ ty 162 ie i1 g ((i+1)*2) (n-i) dc ⟨g,i*2,none⟩ (n+1-i) sc cur 162 (fH cur i n) (n-i) hu k1 (by simp only[PM];split<;>omega) (by rw[hol,i3])
   (fun j v hj=>by rw[O6,kK k1];exact rE hj) (by rw[hol,hsz];omega) h1c
 obtain⟨R1,hR1⟩: ∃R1,R1=cM cur.toList ((i+1)*2) (fH cur i n):=⟨_,rfl⟩;rw[<-hR1]at hcp1 hl1 |-
 have hcp2: ∀(W:World),W.heap=(w.setRow g R1.toArray).heap-> ∀(ty:TypeId) (dc:Nat),(Builtin.copy_ #[28,28] ty #[.slice (some ⟨g,i*2,none⟩) (n+1-i) dc, .slice (some ⟨g2,0,none⟩) 1 c2]).run prog W= .ok (goInt 1) (W.setRow g (cM R1 (i*2) (fH cur2 0 1)).toArray):=fun W hW ty dc=>by
  have k1:W.heap[g]? =some (.cells R1.toArray 162 (0,0)):=by rw[hW];exact NU w g cur _ _ _ hg
  have k2:W.heap[g2]? =some (.cells cur2 162 (0,0)):=by rw[hW,MX w g g2 _ hne];exact hg2
  exact iG W _ _ ty 162 ie i1 g (i*2) (n+1-i) dc ⟨g2,0,none⟩ 1 c2 R1.toArray 162 (fH cur2 0 1) 1 hu k1 (by simp only[PM];split<;>omega) (by rw[hyl,i3])
   (fun j v hj=>by rw[O6,kK k2];exact rE hj) (by rw[hyl];simp only[MQ,hl1];omega) h1y
 have fin: ∀(W:World),W=((w.drew.setRow g R1.toArray).setRow g (cM R1 (i*2) (fH cur2 0 1)).toArray)->w.grownBy W (some g)/\W.heap[g]? =some (.cells (cM R1 (i*2) (fH cur2 0 1)).toArray 162 (0,0)):=fun W hW=>by
  rw[hW];exact⟨mV (mV (mA (World.grownBy.refl w _))),NU _ g _ _ _ _ (NU w.drew g cur _ _ _ hg)⟩
 obtain⟨R2,hR2⟩: ∃R2,R2=(cM R1 (i*2) (fH cur2 0 1)).toArray:=⟨_,rfl⟩;rw[<-hR2]at hcp2 fin |-;obtain⟨A1,hA1⟩: ∃A1,A1=R1.toArray:=⟨_,rfl⟩;rw[<-hA1]at hcp1 hcp2 fin;have hw1:IntKind.i64.wrap ((i:Int)+1)=(i:Int)+1:=by rw[Nh];omega
 have hw2:IntKind.i64.wrap ((n:Int)+1)=(n:Int)+1:=by rw[Nh];omega
 have hz2: ¬((i:Int)=(n:Int)):=by omega
 have hb1:(0:Int)<=(i:Int)+1:=by omega
 have hin:i<=n:=by omega
 have htn:((i:Int)+1).toNat=i+1:=by omega
 have hb2: ¬(cap=i+1):=by omega
 have hb4: ¬(cap=i):=by omega
 have hb5: ¬((cap:Int)< (n:Int)+1):=by omega
 have hb3:(i:Int)<=(n:Int)+1:=by omega
 try clear hol hyl hl1 hsz hsz2 h1c h1y hR1 hR2 hA1 i1 i2 i3 i4 i5
 go_enter func348,ntmps348
 go_wp2_with (simp only[hov _ _ _ rfl])
 go_region_law (refine mM rfl _ _ 28 28 rfl _ _ (by simp[Act.eval,Act.put]) (by simp[Act.eval,Act.put]) (hcp1 w.drew rfl 3 (cap-(i+1)) (cap-i)) ?_)
 go_wp2_with (refine jp _ rfl _ _ 28 28 rfl _ _ rfl rfl (hcp2 (w.drew.setRow g A1) rfl _ _) ?_)
 go_ret
 exact⟨rfl,fin _ rfl⟩
theorem FB (w:World) (g cap i n g2 c2:Nat) (cur cur2:Array Value) (hg:w.heap[g]? =some (.cells cur 162 (0,0))) (hg2:w.heap[g2]? =some (.cells cur2 162 (0,0))) (hi:i<n) (hnc:n<=cap) (hroom:cap<n+1) (hsz:cur.size=cap*2) (hsz2:cur2.size=c2*2) (hc2:1<=c2)
 (h1c: ∀u∈fH cur i n,u.oneCell'=true) (h1y: ∀u∈fH cur2 0 1,u.oneCell'=true) (hn:n<=4096):
 Calls prog 348 #[.slice (some ⟨g,0,none⟩) n cap, .int .i64 (i:Int), .slice (some ⟨g2,0,none⟩) 1 c2] w fun e w'=> ∃(G:Nat) (Z:List Value),
  e= .returned (.slice (some ⟨w.heap.size,0,none⟩) (n+1) G)/\w.grownBy w' none/\n+1<=G/\G<=maxLen/\Z.length=(G-i)*2/\w'.heap[w.heap.size]? =some (.cells (cM (cM (cur.toList.take (i*2)++Z) (i*2) (fH cur2 0 1)) ((i+1)*2) (fH cur i n)).toArray 162 (0,0)):=by
 obtain⟨hu,ie,ze,i1,i2,i3,i4,i5⟩:=ay CZ
 have hzc:ze.cells.size=2:=by
  have:=Kx List.length i5;simpa using this
 have hol:=nI hsz (PQ hi) hnc;have hyl:=nI hsz2 (Ke 1) hc2;have hgw:g<w.heap.size:=(Kq.1 hg).1;have hgw2:g2<w.heap.size:=(Kq.1 hg2).1;have hkk:(n:Int)+1-(i:Int)=((n+1-i:Nat):Int):=by omega
 have hik:i+(n+1-i)=n+1:=by omega
 have hold:(Builtin.firstCells ie.size i (.slice (some ⟨g,0,none⟩) i cap)).run prog w.drew= .ok (cur.toList.take (i*2)).toArray w.drew:=by
  rw[i3];refine run_firstCells_some w.drew 2 i ⟨g,0,none⟩ i cap (cur.toList.take (i*2)) (by rw[Kf,L9];omega) fun j v hj=> ?_;rw[O6];show w.cell? _=_;rw[kK hg];rw[Kz]at hj;split at hj
  ·simpa using hj
  ·cases hj
 have hui:prog.underlying 3=some (.int .i64):=Tryz.underlying3
 have hrz: ∀ty,(Builtin.append_ #[28,3] ty #[.slice (some ⟨g,0,none⟩) i cap, .int .i64 ((n:Int)+1-(i:Int))]).run prog w= .ok (.slice (some ⟨w.heap.size,0,none⟩) (n+1) (grownCap w (n+1) cap 162)) (w.drew.alloc (.cells ((cur.toList.take (i*2)).toArray++Builtin.zeroCells ze.cells (n+1-i)++Builtin.zeroCells ze.cells (grownCap w (n+1) cap 162-(n+1))) 162)):=fun ty=>by
  have h:=Lib.run_append_grow_zeros w 28 3 ty 162 ie ze .i64 .i64 hu hui i1 i2 (some ⟨g,0,none⟩) i cap (cur.toList.take (i*2)) hold (n+1-i) (by omega) (by omega) (by omega) (by omega) (by rw[i4];omega) (by rw[i4,hik];exact PG hroom (by omega));rw[hik]at h;rw[hkk];exact h
 obtain⟨G,hG⟩: ∃G,G=grownCap w (n+1) cap 162:=⟨_,rfl⟩;rw[<-hG]at hrz;have hGn:n+1<=G:=by rw[hG];exact PE w _ _ _
 have hGm:G<=maxLen:=by rw[hG];exact O8 w _ _ _ (by unfold maxLen;omega)
 obtain⟨Z,hZ⟩: ∃Z:List Value,Z=(Builtin.zeroCells ze.cells (n+1-i)).toList++(Builtin.zeroCells ze.cells (G-(n+1))).toList:=⟨_,rfl⟩
 have hZl:Z.length=(G-i)*2:=by
  rw[hZ,K4,L9,L9,O9,O9,hzc];omega
 obtain⟨R0,hR0⟩: ∃R0:List Value,R0=cur.toList.take (i*2)++Z:=⟨_,rfl⟩
 have hr0:(cur.toList.take (i*2)).toArray++Builtin.zeroCells ze.cells (n+1-i)++Builtin.zeroCells ze.cells (G-(n+1))=R0.toArray:=by
  rw[hR0,hZ];apply Array.ext';simp
 have hrl:R0.length=G*2:=by
  rw[hR0,K4,hZl,Kf,L9,hsz];omega
 rw[hr0]at hrz;obtain⟨W1,hW1⟩: ∃W1,W1=w.drew.alloc (.cells R0.toArray 162):=⟨_,rfl⟩;rw[<-hW1]at hrz;have hn1:W1.heap[w.heap.size]? =some (.cells R0.toArray 162 (0,0)):=by rw[hW1];exact OW w.drew _
 have hn2:W1.heap[g]? =some (.cells cur 162 (0,0)):=by rw[hW1,MH _ _ _ (by exact hgw)];exact hg
 have hn3:W1.heap[g2]? =some (.cells cur2 162 (0,0)):=by rw[hW1,MH _ _ _ (by exact hgw2)];exact hg2
 have hgr1:w.grownBy W1 none:=by rw[hW1];exact⟨rfl,rfl,rfl,by simp,fun k hk _=>by rw[MH _ _ _ (by exact hk)];rfl⟩
 obtain⟨A2,hA2⟩: ∃A2,A2=cM R0 (i*2) (fH cur2 0 1):=⟨_,rfl⟩;have hl2:A2.length=G*2:=by rw[hA2,dl (by rw[hyl,hrl];omega),hrl]
 have hcpA: ∀(W:World),W.heap=W1.heap-> ∀(ty:TypeId) (dc:Nat),(Builtin.copy_ #[28,28] ty #[.slice (some ⟨w.heap.size,i*2,none⟩) (n+1-i) dc, .slice (some ⟨g2,0,none⟩) 1 c2]).run prog W= .ok (goInt 1) (W.setRow w.heap.size A2.toArray):=fun W hW ty dc=>by
  have k1:W.heap[w.heap.size]? =some (.cells R0.toArray 162 (0,0)):=by rw[hW];exact hn1
  have k2:W.heap[g2]? =some (.cells cur2 162 (0,0)):=by rw[hW];exact hn3
  rw[hA2]
  exact iG W _ _ ty 162 ie i1 w.heap.size (i*2) (n+1-i) dc ⟨g2,0,none⟩ 1 c2 R0.toArray 162 (fH cur2 0 1) 1 hu k1 (by simp only[PM];split<;>omega) (by rw[hyl,i3])
   (fun j v hj=>by rw[O6,kK k2];exact rE hj) (by rw[hyl];simp only[MQ,hrl];omega) h1y
 obtain⟨A3,hA3⟩: ∃A3,A3=cM A2 ((i+1)*2) (fH cur i n):=⟨_,rfl⟩
 have hcpB: ∀(W:World),W.heap=(W1.setRow w.heap.size A2.toArray).heap-> ∀(ty:TypeId) (dc sc:Nat),(Builtin.copy_ #[28,28] ty #[.slice (some ⟨w.heap.size,(i+1)*2,none⟩) (n-i) dc, .slice (some ⟨g,i*2,none⟩) (n-i) sc]).run prog W= .ok (goInt ((n-i:Nat):Int)) (W.setRow w.heap.size A3.toArray):=fun W hW ty dc sc=>by
  have k1:W.heap[w.heap.size]? =some (.cells A2.toArray 162 (0,0)):=by rw[hW];exact NU W1 _ _ _ _ _ hn1
  have k2:W.heap[g]? =some (.cells cur 162 (0,0)):=by rw[hW,MX W1 w.heap.size g _ (Oy hgw)];exact hn2
  rw[hA3]
  exact iG W _ _ ty 162 ie i1 w.heap.size ((i+1)*2) (n-i) dc ⟨g,i*2,none⟩ (n-i) sc A2.toArray 162 (fH cur i n) (n-i) hu k1 (by simp only[PM];split<;>omega) (by rw[hol,i3])
   (fun j v hj=>by rw[O6,kK k2];exact rE hj) (by rw[hol];simp only[MQ,hl2];omega) h1c
 have fin: ∀(W:World),w.grownBy W none->W.heap[w.heap.size]? =some (.cells A3.toArray 162 (0,0))-> ∃(G':Nat) (Z':List Value),(Ending.returned (.slice (some ⟨w.heap.size,0,none⟩) (n+1) G):Ending)= .returned (.slice (some ⟨w.heap.size,0,none⟩) (n+1) G')/\w.grownBy W none/\n+1<=G'/\G'<=maxLen/\Z'.length=(G'-i)*2/\W.heap[w.heap.size]? =some (.cells (cM (cM (cur.toList.take (i*2)++Z') (i*2) (fH cur2 0 1)) ((i+1)*2) (fH cur i n)).toArray 162 (0,0)):=fun W h1 h2=>
  ⟨G,Z,rfl,h1,hGn,hGm,hZl,by rw[h2,hA3,hA2,hR0]⟩
 have fin2: ∀(W:World),w.grownBy W none->W.heap[w.heap.size]? =some (.cells A2.toArray 162 (0,0))->w.grownBy (W.setRow w.heap.size A3.toArray) none/\(W.setRow w.heap.size A3.toArray).heap[w.heap.size]? =some (.cells A3.toArray 162 (0,0)):=fun W h1 h2=>
  ⟨⟨h1.os,h1.tape,h1.output,by simp[World.setRow];exact h1.size,fun k hk hne=>by rw[MX W _ k _ (Oy hk)];exact h1.block k hk hne⟩,NU W _ _ _ _ _ h2⟩
 have hgrA:w.grownBy (W1.setRow w.heap.size A2.toArray) none:=⟨hgr1.os,hgr1.tape,hgr1.output,by simp[World.setRow];exact hgr1.size,fun k hk hne=>by rw[MX W1 _ k _ (Oy hk)];exact hgr1.block k hk hne⟩;have hnA:(W1.setRow w.heap.size A2.toArray).heap[w.heap.size]? =some (.cells A2.toArray 162 (0,0)):=NU W1 _ _ _ _ _ hn1;have hw1:IntKind.i64.wrap ((i:Int)+1)=(i:Int)+1:=by rw[Nh];omega
 have hw2:IntKind.i64.wrap ((n:Int)+1)=(n:Int)+1:=by rw[Nh];omega
 have hw3:IntKind.i64.wrap ((n:Int)+1-(i:Int))=(n:Int)+1-(i:Int):=by rw[Nh];omega
 have hz2: ¬((i:Int)=(n:Int)):=by omega
 have hz3:(cap:Int)< (n:Int)+1:=by omega
 have hb1:(0:Int)<=(i:Int)+1:=by omega
 have hin:i<=n:=by omega
 have htn:((i:Int)+1).toNat=i+1:=by omega
 have hGi: ¬(G=i):=by omega
 have hGim: ¬(G=i+1):=by omega
 have hci: ¬(cap=i):=by omega
 have hb3:(i:Int)<=(n:Int):=by omega
 obtain⟨B2,hB2⟩: ∃B2,B2=A2.toArray:=⟨_,rfl⟩;obtain⟨B3,hB3⟩: ∃B3,B3=A3.toArray:=⟨_,rfl⟩;obtain⟨N0,hN0⟩: ∃N0,N0=w.heap.size:=⟨_,rfl⟩;rw[<-hB2]at hcpA hcpB hgrA hnA fin2;rw[<-hB3]at hcpB fin fin2;rw[<-hN0]at hrz hcpA hcpB fin fin2 hgrA hnA |-;try clear hkk hik hold hG hrl hr0 hR0 hW1 hn1 hn2 hn3 hgr1 hA2 hA3 hl2 hB2 hB3 i1 i2 i3 i4 i5 hol hyl h1c h1y hsz hsz2 hZ hZl hzc hu hui hN0
 go_enter func348,ntmps348
 go_wp2_with (first
  |(at_builtin;refine ON _ rfl _ _ _ _ rfl _ _ rfl rfl _ _ (hrz _) ?_)
  |(refine jp _ rfl _ _ 28 28 rfl _ _ rfl rfl (hcpA W1 rfl _ _) ?_))
 go_region_law (refine mM rfl _ _ 28 28 rfl _ _ (by simp[Act.eval,Act.put]) (by simp[Act.eval,Act.put]) (hcpB (W1.setRow N0 B2).drew rfl 3 (G-(i+1)) (cap-i)) ?_)
 go_wp2
 go_ret
 exact fin _ (fin2 _ (mA hgrA) hnA).1 (fin2 _ (mA hgrA) hnA).2
end

end Go.Proofs.YtbjldjekgepopaaGreatDoor