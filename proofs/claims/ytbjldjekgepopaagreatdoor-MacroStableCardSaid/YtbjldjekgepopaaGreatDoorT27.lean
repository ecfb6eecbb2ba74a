/- The document's word on a step. -/
import Derived.Test.YtbjldjekgepopaaGreatDoorT26
set_option maxRecDepth 100000
set_option maxHeartbeats 16000000
set_option linter.unusedSimpArgs false
namespace Go.Proofs.YtbjldjekgepopaaGreatDoor
open Go.Proofs.Tryz
open Go.RowKit
section
theorem ym (env:Env) (a1 a8:Addr) (he:ChEnv env a1 a8) (c:ChD) (h:Full c) (hs:Small c) (act:List Int) (hl:act.length<=1000000) (k:Nat) (t:TrD) (ht:c.trans[k]? =some t) (hb:lgB c act=true) (h0:t.target<0):
 ConI prog env 226 [1001] (fun _=>false) (fun g=>[aC c, .row 1001 (g 1001),I k]) (fun _=>[(1001,⟨1,act.map intAV,3,true⟩)]) (fun _=>[(1001,⟨1,act.map intAV,3,true⟩)]) (fun _=> .tuple [nilS,nilE]):=by
 have f0:=cJ env a1 a8 he c h hs act hl;have f1:=mr env c hs k t ht;unfold uD at f0;rw[hb]at f0;simp only[L4]at f0;have f0:=f0.lend rfl;unfold bi at f1;unfold aC at f0 f1 |-;refine qi func226 call226 ntmps226 results226 ?_;intro vs esc hesc;have e0:=hesc 1001 (by simp);have F:=ai h0 e0;repeat refine st ?_
 refine lL f0 ?_;repeat refine tz1 f1 ?_
 exact rI
theorem FM {c:ChD} {act:List Int} {ts:List Nat} {j n:Nat} {t:TrD} (hn:ts[j]? =some n) (ht:c.trans[n]? =some t):goneR c act (ts.take (j+1))=goneR c act (ts.take j)++leaveR c act t:=by
 unfold goneR;rw[cg hn,M7];simp[eP ht]
theorem Cp {c:ChD} {mem:List MemD} {ts:List Nat} {j n:Nat} {t:TrD} (hn:ts[j]? =some n) (ht:c.trans[n]? =some t):toR c mem (ts.take (j+1))=toR c mem (ts.take j)++targetR c t mem:=by
 unfold toR;rw[cg hn,M7];simp[eP ht]
theorem Fj {c:ChD} {d now:Int} {r:RunD} {l:List Nat} {j n:Nat} {t:TrD} (hn:l[j]? =some n) (ht:c.trans[n]? =some t):eo c d now r (l.drop j)=match allP c d now r t.acts with
 |(r1,none)=>eo c d now r1 (l.drop (j+1))
 |x=>x:=by
 rw[bE hn]
 conv=>lhs;unfold eo
 rw[eP ht];rcases allP c d now r t.acts with⟨r1,_|_⟩<;>rfl
theorem Co {c:ChD} (h:Full c) {n:Nat} {t:TrD} (ht:c.trans[n]? =some t):t.acts.length<=32/\ ∀a∈t.acts,gd c.vars.length c.states.length a=true:=by
 have:=h.tr n t ht;unfold dP dy at this;simp only[KY,K6,K2]at this;exact this.1.2
theorem zo {c:ChD} (h:Full c) (act:List Int): ∀ts:List Nat,(goneR c act ts).length<=32*ts.length
 |[]=>Ke _
 | n::ts=>by
   have:=zo h act ts;have h2:=k7 h act (dR c n);unfold goneR at this |-;rw[N6,K4,Kj];omega
theorem H5 {c:ChD} (h:Full c) (mem:List MemD): ∀ts:List Nat,(toR c mem ts).length<=32*ts.length
 |[]=>Ke _
 | n::ts=>by
   have:=H5 h mem ts
   have h2:(targetR c (dR c n) mem).length<=32:=by
    unfold targetR IH;split
    ·exact Ke _
    ·exact gH h.toRight _
   unfold toR at this |-;rw[N6,K4,Kj];omega
theorem GF (env:Env) (a1 a2 a8:Addr) (c:ChD) (d now:Int) (E:RunEnv env a1 a2 a8 c d now) (r:RunD) (hr:RunOk c r) (hl:r.act.length<=100) (hb:lgB c r.act=true) (hm:bY c r.mem=true) (hml:r.mem.length<=1000000) (hFm: ∀m∈r.mem,Fits m.2.length 8) (ts:List Nat) (hts: ∀n∈ts,∃t,c.trans[n]? =some t) (htl:ts.length<=64)
 (hgo: ∀x∈zL (sortL c (goneR c r.act ts)),x∈r.act) (hmem:bY c (remL c r.act (zL (sortL c (goneR c r.act ts))) r.mem)=true) (hmem2:(remL c r.act (zL (sortL c (goneR c r.act ts))) r.mem).length<=1000000/\ ∀m∈remL c r.act (zL (sortL c (goneR c r.act ts))) r.mem,Fits m.2.length 8)
 (hleg: ∀r2:RunD,RunOk c r2->r2.act=r.act.filter (fun k=> !(zL (sortL c (goneR c r.act ts))).reverse.contains k)->(aj c d now r2 [] (zL (sortL c (zL (toR c (remL c r.act (zL (sortL c (goneR c r.act ts))) r.mem) ts))))).1.2=none->lgB c (aj c d now r2 [] (zL (sortL c (zL (toR c (remL c r.act (zL (sortL c (goneR c r.act ts))) r.mem) ts))))).1.1.act=true):
 ConI prog env 216 [1000,1001,1002,1003,1004,1005] gr5 (fun g=>[.loc 1000 (g 1000) 0 0, .seq 1 (ts.map aB)]) (RY c d now r) (RY c d now (stepP c d now r ts).1) (fun _=>cN a2 a8 (stepP c d now r ts).2):=by
 have hfew:=E.h.few;have hftr:=E.h.ftr;have hA:=cK E.h;have hrise:=(e9 hb).rise;have fT:=bD env c;have fL:=fun(n:Nat) (t:TrD) (ht:c.trans[n]? =some t) (h0: ¬t.target<0)=>CW env a1 a8 E.he c E.h E.hs r.act (by omega) n t ht hb h0;have fL0:=fun(n:Nat) (t:TrD) (ht:c.trans[n]? =some t) (h0:t.target<0)=>ym env a1 a8 E.he c E.h E.hs r.act (by omega) n t ht hb h0;have hlf:=fun t=>k7 E.h r.act t;have hgl:=zo E.h r.act;have fS:=(eu env c E.h.toRight (goneR c r.act ts) (by have:=hgl ts;omega)).lend (bn (fun _=>rfl) _);have hSl:=gH E.h.toRight (goneR c r.act ts);have hSk:=fun(k:Nat) (hk:k∈sortL c (goneR c r.act ts))=>sU E.h.toRight hk;have fR:=uG env a1 a8 E.he c E.h E.hs r.act (zL (sortL c (goneR c r.act ts))) (by omega) (by rw[bg];omega) r.mem hml hFm hb hm hgo;rw[eB]at fR;unfold stepP;simp only;generalize hM:remL c r.act (zL (sortL c (goneR c r.act ts))) r.mem=mem at*;generalize hGG:sortL c (goneR c r.act ts)=G at*;have fTg:=fun(n:Nat) (t:TrD) (ht:c.trans[n]? =some t)=>CV env a1 a8 E.he c E.h E.hs mem hmem2.1 hmem2.2 n t ht hmem;have hto:=H5 E.h mem;have hrev:(zL G).reverse=zL G.reverse:=by unfold zL;rw[List.map_reverse]
 rw[hrev]at hleg |-;have fLv:=Ew env a1 a2 a8 c d now E { r with mem:=mem } { hr with } (by simp only;omega) G hSk (by omega);have kL:=si hA (l:=zL G.reverse) E.hd E.hn (r:={ r with mem:=mem }) { hr with };have hal:=fun(r:RunD) hr hl (l:List ActD) hll ha=>xW env a1 a2 a8 c d now E r hr hl l hll ha;have hok:=fun(r:RunD) (hr:RunOk c r) (l:List ActD) ha=>lW E.hd E.hn (l:=l) hr ha;have fS2:=((eu env c E.h.toRight (zL (toR c mem ts)) (by rw[bg];have:=hto ts;omega)).lend (bn (fun _=>rfl) _)).seen;rw[eB]at fS2;have hS2l:=gH E.h.toRight (zL (toR c mem ts));have hS2k:=fun(k:Nat) (hk:k∈sortL c (zL (toR c mem ts)))=>sU E.h.toRight hk;have hen:=fun(r2:RunD) hr hrise hl hleg=>vY env a1 a2 a8 c d now E r2 hr hrise hl (sortL c (zL (toR c mem ts))) hS2k (by omega) hleg;generalize hTT:sortL c (zL (toR c mem ts))=T2 at*;unfold aP at fT fS fS2;unfold aC at fT fL fL0 fR fTg;refine qi func216 call216 ntmps216 results216 ?_;intro vs esc hesc;obtain⟨e0,e1,e2,e3,e4,e5⟩:=es6 hesc;have F:=ai9 RY.eq_1 RYe.eq_1 gr5.eq_1 e0 e1 e2 e3 e4 e5;repeat refine st ?_
 refine aZ 5 5 3 1 ?_;refine aZ 6 6 3 1 ?_;refine lp (D:=Nat) (fun j vs'=>[(0, .loc 1000 (vs' 1000) 0 0),(1, .seq 1 (ts.map aB)),(5, .row 5 (vs' 5)),(6, .row 6 (vs' 6)),(21, .seq 1 (ts.map aB)),(22,I ts.length),(23,I j)]) (fun j vs'=>(5,⟨1,(goneR c r.act (ts.take j)).map intAV,3,true⟩)::(6,⟨1,[],3,true⟩)::RY c d now r vs') (fun j vs' esc'=>j<=ts.length/\(vs' 1000=vs 1000/\vs' 1002=vs 1002)/\esc' 1000=false/\esc' 1001=false/\esc' 1002=false/\esc' 1003=false/\esc' 1004=false/\esc' 1005=false/\esc' 5=false/\esc' 6=false) (fun j=>ts.length-j) 0 ⟨Ke _,by simp only[go_sem,Kn],by simp only[go_sem,e0,e1,e2,e3,e4,e5,Kn]⟩ ?_;try clear e0 e1 e2 e3 e4 e5
 rintro j ws es ⟨hj,⟨v0,v2⟩,e0,e1,e2,e3,e4,e5,e6,e7⟩;by_cases hlt:j<ts.length
 ·obtain⟨n,hx⟩:=gE hlt;obtain⟨t,ht⟩:=hts n (K1 hx);have q1:=nlt hlt;have q2:=aD hlt (by omega);have hlft:=hlf t;have q4:(goneR c r.act (ts.take (j+1))).map intAV=(goneR c r.act (ts.take j)).map intAV++(leaveR c r.act t).map intAV:=by rw[FM hx ht,Ki]
  have q3:(goneR c r.act (ts.take j)).length<=32*j:=Kh (hgl _) (by rw[Kf];omega);generalize goneR c r.act (ts.take j)=A at*;by_cases h0:t.target<0
  ·have f0:=fL0 n t ht h0;have hz:leaveR c r.act t=[]:=by unfold leaveR;rw[K0 h0]
   rw[hz,Lt,Lm]at q4;have q5:Fits A.length 8:=aG (by omega) (by omega);have F:=ai12 RY.eq_1 RYe.eq_1 aB.eq_1 gr5.eq_1 hx q1 q2 q5 e0 e1 e2<|ai5 e3 e4 e5 e6 e7;repeat refine st ?_
   refine iL [(1001,1001)] f0 ?_;repeat refine st ?_
   refine⟨j+1,⟨hlt,by simp only[go_sem,v0,v2,Kn],by simp only[go_sem,e0,e1,e2,e3,e4,e5,e6,e7,Kn]⟩,?_,?_,by omega⟩
   ·exact qe
   ·simp only[q4];exact qe
  ·have f0:=fL n t ht h0;have q5:Fits (A.length+(leaveR c r.act t).length) 8:=aG (by omega) (by omega);generalize leaveR c r.act t=Lv at*;refine vl 9001 rfl ?_;have F:=ai12 RY.eq_1 RYe.eq_1 aB.eq_1 gr5.eq_1 hx q1 q2 q5 e0 e1 e2<|ai5 e3 e4 e5 e6 e7;repeat refine st ?_
   refine iL [(1001,1001),(35,9001)] f0 ?_;repeat refine st ?_
   refine⟨j+1,⟨hlt,by simp only[go_sem,v0,v2,Kn],by simp only[go_sem,e0,e1,e2,e3,e4,e5,e6,e7,Kn]⟩,?_,?_,by omega⟩
   ·exact qe
   ·simp only[q4];exact qe
 ·obtain rfl:j=ts.length:=by omega
  have q1:=nl ts.length;rw[Kp];have F:=ai12 RY.eq_1 RYe.eq_1 gr5.eq_1 q1 e0 e1 e2 e3 e4 e5 e6 e7;repeat refine tz1 fT ?_
  refine lL fS ?_;repeat refine st ?_
  refine iL [(1001,1001),(1006,54)] fR ?_;repeat refine st ?_
  refine lp (D:=Nat) (fun j vs'=>[(0, .loc 1000 (vs' 1000) 0 0),(1, .seq 1 (ts.map aB)),(5, .row 54 (vs' 54)),(6, .row 6 (vs' 6)),(11,memsAV mem),(82, .seq 1 (ts.map aB)),(83,I ts.length),(84,I j)]) (fun j vs'=>(54,⟨1,G.map aB,3,true⟩)::(6,⟨1,(toR c mem (ts.take j)).map aB,3,true⟩)::RY c d now { r with mem:=mem } vs') (fun j vs' esc'=>j<=ts.length/\(vs' 1000=vs 1000/\vs' 1002=vs 1002)/\esc' 1000=false/\esc' 1001=false/\esc' 1002=false/\esc' 1003=false/\esc' 1004=false/\esc' 1005=false/\esc' 54=false/\esc' 6=false) (fun j=>ts.length-j) 0 ⟨Ke _,by simp only[go_sem,v0,v2,Kn],by simp only[go_sem,e0,e1,e2,e3,e4,e5,e7,Kn]⟩ ?_;try clear e0 e1 e2 e3 e4 e5 e6 e7 v0 v2
  rintro j us fs ⟨hj,⟨v0,v2⟩,e0,e1,e2,e3,e4,e5,e6,e7⟩;by_cases hlt:j<ts.length
  ·obtain⟨n,hx⟩:=gE hlt;obtain⟨t,ht⟩:=hts n (K1 hx);have q1:=nlt hlt;have q2:=aD hlt (by omega);have f0:=fTg n t ht;have q4:(toR c mem (ts.take (j+1))).map aB=(toR c mem (ts.take j)).map aB++(targetR c t mem).map aB:=by rw[Cp hx ht,Ki]
   have q3:(toR c mem (ts.take j)).length<=32*j:=Kh (hto _) (by rw[Kf];omega);have q6:(toR c mem (ts.take (j+1))).length<=32*(j+1):=Kh (hto _) (by rw[Kf];omega);rw[Cp hx ht,K4]at q6;generalize targetR c t mem=Tg at*;generalize toR c mem (ts.take j)=A at*;have q5:Fits (A.length+Tg.length) 8:=aG (by omega) (by omega);have F:=ai12 RY.eq_1 RYe.eq_1 aB.eq_1 gr5.eq_1 hx q1 q2 q5 e0 e1 e2<|ai5 e3 e4 e5 e6 e7;repeat refine tz1 f0 ?_
   refine⟨j+1,⟨hlt,by simp only[go_sem,v0,v2,Kn],by simp only[go_sem,e0,e1,e2,e3,e4,e5,e6,e7,Kn]⟩,?_,?_,by omega⟩
   ·exact qe
   ·simp only[q4];exact qe
  obtain rfl:j=ts.length:=by omega
  have q1:=nl ts.length;rw[Kp];try clear fL fL0 fTg fS fR
  rcases hX:bM c d now { r with mem:=mem } (zL G.reverse) with⟨r1,_|⟨k,ps⟩⟩
  ·rw[hX]at fLv kL;obtain⟨kr,kmm,_,kact⟩:=kL;have kact:=kact rfl;simp only at kr kmm kact;have hact1:r1.act.length<=100:=by rw[kact];exact Kh (Kw ..) hl
   have hrise1:r1.act.Pairwise (· < ·):=by rw[kact];exact hrise.sublist Lk
   have hlegr: ∀r2:RunD,RunOk c r2->r2.act=r1.act->(aj c d now r2 [] (zL T2)).1.2=none->lgB c (aj c d now r2 [] (zL T2)).1.1.act=true:=fun r2 k1 k2=>hleg r2 k1 (by rw[k2,kact]);unfold cN RYs RY RYe at fLv;simp only at fLv |-;have F:=ai12 RY.eq_1 RYe.eq_1 gr5.eq_1 q1 e0 e1 e2 e3 e4 e5 e6 e7;repeat refine st ?_
   refine iL [(1000,1000),(1001,1001),(1002,1002),(1003,1003),(1004,1004),(1005,1005),(1006,54)] fLv ?_;repeat refine st ?_
   refine lp (D:=Nat×RunD) (fun x vs'=>[(0, .loc 1000 (vs' 1000) 0 0),(6, .row 6 (vs' 6)),(111, .seq 1 (ts.map aB)),(112,I ts.length),(113,I x.1)]) (fun x vs'=>(6,⟨1,(toR c mem ts).map aB,3,true⟩)::RY c d now x.2 vs') (fun x vs' esc'=>(x.1<=ts.length/\eo c d now r1 ts=eo c d now x.2 (ts.drop x.1)/\RunOk c x.2/\x.2.act=r1.act)/\(vs' 1000=vs 1000/\vs' 1002=vs 1002)/\esc' 1000=false/\esc' 1001=false/\esc' 1002=false/\esc' 1003=false/\esc' 1004=false/\esc' 1005=false/\esc' 6=false) (fun x=>ts.length-x.1) (0,r1) ⟨⟨Ke _,rfl,kr,rfl⟩,by simp only[go_sem,v0,v2,Kn],by simp only[go_sem,e0,e1,e2,e3,e4,e5,e7,Kn]⟩ ?_;try clear e0 e1 e2 e3 e4 e5 e6 e7 v0 v2
   rintro⟨j,r2⟩ us fs ⟨⟨hj,heq,hr2,hact2⟩,⟨v0,v2⟩,e0,e1,e2,e3,e4,e5,e7⟩;simp only at hj heq hr2 hact2;by_cases hlt:j<ts.length
   ·obtain⟨n,hx⟩:=gE hlt;obtain⟨t,ht⟩:=hts n (K1 hx);obtain⟨s1,s2⟩:=Co E.h ht;have hn:=(KW.1 ht).1;have f0:=hal r2 hr2 (by rw[hact2];omega) t.acts (by omega) s2;obtain⟨k1,k2⟩:=hok r2 hr2 t.acts s2;have q1:=nlt hlt;have q2:=aD hlt (by omega);have q3:=nlt hn;rw[Fj hx ht]at heq;rcases hY:allP c d now r2 t.acts with⟨r3,_|⟨k,ps⟩⟩
    ·rw[hY]at heq f0 k1 k2;simp only at heq k1 k2;unfold cN RY RYe at f0;simp only at f0;have F:=ai12 RY.eq_1 RYe.eq_1 bi.eq_1 aB.eq_1 actsAV.eq_1 gr5.eq_1 hx ht q1 q2 q3<|ai7 e0 e1 e2 e3 e4 e5 e7;repeat refine st ?_
     refine iL L6 f0 ?_;repeat refine st ?_
     exact qn (j+1,r3) ⟨⟨hlt,heq,k1,k2.act.trans hact2⟩,by simp only[go_sem,v0,v2,Kn],by simp only[go_sem,e0,e1,e2,e3,e4,e5,e7,Kn]⟩
    ·rw[hY]at heq f0;simp only at heq;unfold cN RY RYe at f0;simp only at f0;rw[heq];show awp _ _ _ _ _ _;unfold cN;simp only;have F:=ai12 RY.eq_1 RYe.eq_1 bi.eq_1 aB.eq_1 actsAV.eq_1 gr5.eq_1 hx ht q1 q2 q3<|ai9 v0 v2 e0 e1 e2 e3 e4 e5 e7;repeat refine st ?_
     refine iL L6 f0 ?_;repeat refine st ?_
     exact rI
   ·obtain rfl:j=ts.length:=by omega
    have q1:=nl ts.length;rw[MP]at heq;rw[show eo c d now r2 []=(r2,none) from rfl]at heq;rw[heq];simp only;have f9:=hen r2 hr2 (by rw[hact2];exact hrise1) (by rw[hact2];omega) (hlegr r2 hr2 hact2);generalize enterP c d now r2 (zL T2)=X at*;unfold RY RYe at f9;have F:=ai12 RY.eq_1 RYe.eq_1 gr5.eq_1 eK q1 v0 v2 e0 e1 e2 e3<|ai3 e4 e5 e7;repeat refine tz1 fT ?_
    refine lL fS2 ?_;repeat refine st ?_
    refine iL L6 f9 ?_;repeat refine st ?_
    exact rI
  ·rw[hX]at fLv;unfold cN RYs RY RYe at fLv;simp only at fLv |-;show awp _ _ _ _ _ _;unfold cN;simp only;have F:=ai12 RY.eq_1 RYe.eq_1 gr5.eq_1 q1 v0 v2 e0 e1 e2 e3 e4<|ai3 e5 e6 e7;repeat refine st ?_
   refine iL [(1000,1000),(1001,1001),(1002,1002),(1003,1003),(1004,1004),(1005,1005),(1006,54)] fLv ?_;repeat refine st ?_
   exact rI
end
section
end
section
end
section
end
section
theorem kF (env:Env) (es:List (List AV)) (hl:Fits es.length 8):Con prog env 82 [.seq 1 es] (.own 3 1 es):=by
 cases es with
 | nil=>
   refine Con.empty fun A cap=> ?_;cases A with
   | none=>
     refine qw func82 call82 ntmps82 results82 ?_;repeat refine st0 ?_
     (refine aN ?_;refine⟨_,(by show (an _ _ _).run _=some _;simp only[go_sem];rfl),?_⟩)
     exact ge.own_nil _ _ (by decide)
   | some A=>
     refine qf func82 call82 ntmps82 results82 ?_;repeat refine st0 ?_
     exact aR0
 | cons d l=>
   have g1:Fits (l.length+1) 8:=hl;refine qf func82 call82 ntmps82 results82 ?_;have F:=g1;repeat refine st ?_
   exact aR
theorem yg (env:Env) (es:List (List AV)) (hl:Fits es.length 24):Con prog env 83 [.seq 2 es] (.own 108 2 es):=by
 cases es with
 | nil=>
   refine Con.empty fun A cap=> ?_;cases A with
   | none=>
     refine qw func83 call83 ntmps83 results83 ?_;repeat refine st0 ?_
     (refine aN ?_;refine⟨_,(by show (an _ _ _).run _=some _;simp only[go_sem];rfl),?_⟩)
     exact ge.own_nil _ _ (by decide)
   | some A=>
     refine qf func83 call83 ntmps83 results83 ?_;repeat refine st0 ?_
     exact aR0
 | cons d l=>
   have g1:Fits (l.length+1) 24:=hl;refine qf func83 call83 ntmps83 results83 ?_;have F:=g1;repeat refine st ?_
   exact aR
end
section
theorem Ik (env:Env) (a1 a8:Addr) (he:ChEnv env a1 a8) (c:ChD) (h:Full c) (hsm:Small c) (d now:Int) (r:RunD) (hl:r.act.length<=1000) (hb:lgB c r.act=true) (l:List Nat) (hF:Fit c r.act l) (hll:l.length<=1000):
 ConI prog env 215 [1000,1001,1002,1003,1004,1005] (fun _=>false) (fun g=>[.loc 1000 (g 1000) 0 0, .seq 1 (l.map aB)]) (RY c d now r) (RY c d now r) (fun _=>B true):=by
 have htr:=h.ftr
 have fC:=fun(n:Nat) (t:TrD) (ht:c.trans[n]? =some t) (hs:t.src∈r.act)=>by
  have:=bA env r.act t.src (by omega);rw[K3.2 hs]at this;exact this.lend rfl
 have fK:=fun(a b:Nat) ha hbb=>(mf env a1 a8 he c h hsm r.act (by omega) hb a b ha hbb).lend rfl;have htwo:=LH.1 hF.two;unfold aC at fK;refine qi func215 call215 ntmps215 results215 ?_;intro vs esc hesc;obtain⟨e0,e1,e2,e3,e4,e5⟩:=es6 hesc;have F:=ai8 RY.eq_1 RYe.eq_1 e0 e1 e2 e3 e4 e5;repeat refine st ?_
 refine lq l.length (by omega) (fun i vs'=>[(0, .loc 1000 (vs' 1000) 0 0),(1, .seq 1 (l.map aB)),(9, .seq 1 (l.map aB)),(10,I l.length),(11,I i)]) (fun i vs'=>RY c d now r vs') (fun i vs' esc'=>(vs' 1000=vs 1000/\vs' 1001=vs 1001/\vs' 1002=vs 1002/\vs' 1003=vs 1003/\vs' 1004=vs 1004/\vs' 1005=vs 1005)/\esc' 1000=false/\esc' 1001=false/\esc' 1002=false/\esc' 1003=false/\esc' 1004=false/\esc' 1005=false) ⟨by simp only[go_sem,Kn],by simp only[go_sem,e0,e1,e2,e3,e4,e5,Kn]⟩ ?_ ?_
 ·try clear e0 e1 e2 e3 e4 e5
  rintro i ws es hlt q1 q2 ⟨⟨v0,v1,v2,v3,v4,v5⟩,e0,e1,e2,e3,e4,e5⟩;obtain⟨n,hx⟩:=gE hlt;obtain⟨t,ht,hs⟩:=hF.real n (K1 hx);have hn:=(KW.1 ht).1;have f0:=fC n t ht hs;have q3: ¬(n:Int)<0:=by omega
  have q4: ¬(c.trans.length:Int)<=(n:Int):=by omega
  have q5:(n:Int)< (c.trans.length:Int):=by omega
  have q6:(l.take i).length=i:=by rw[Kf];omega
  have q7:(i:Int)<=(l.length:Int):=by omega
  have F:=ai12 bi.eq_1 aB.eq_1 RY.eq_1 RYe.eq_1 hx ht q1 q3 q4 q5 q7<|ai6 e0 e1 e2 e3 e4 e5;repeat refine st ?_
  refine lL f0 ?_;repeat refine st ?_
  generalize hT:l.take i=T at*;refine lp (D:=Nat) (fun j vs'=>[(0, .loc 1000 (vs' 1000) 0 0),(1, .seq 1 (l.map aB)),(6,I n),(9, .seq 1 (l.map aB)),(10,I l.length),(11,I i),(48, .seq 1 (T.map aB)),(49,I T.length),(50,I j)]) (fun j vs'=>RY c d now r vs') (fun j vs' esc'=>j<=i/\(vs' 1000=vs 1000/\vs' 1001=vs 1001/\vs' 1002=vs 1002/\vs' 1003=vs 1003/\vs' 1004=vs 1004/\vs' 1005=vs 1005)/\esc' 1000=false/\esc' 1001=false/\esc' 1002=false/\esc' 1003=false/\esc' 1004=false/\esc' 1005=false) (fun j=>i-j) 0 ⟨Ke _,by simp only[go_sem,v0,v1,v2,v3,v4,v5,Kn],by simp only[go_sem,e0,e1,e2,e3,e4,e5,Kn]⟩ ?_;try clear e0 e1 e2 e3 e4 e5 v0 v1 v2 v3 v4 v5
  rintro j us fs ⟨hj,⟨v0,v1,v2,v3,v4,v5⟩,e0,e1,e2,e3,e4,e5⟩;by_cases hlt2:j<i
  ·obtain⟨k,hk⟩: ∃a,T[j]? =some a:=⟨T[j]'(by omega),KV (by omega)⟩;have hk2:l[j]? =some k:=by rw[<-hT,Kz,K0 hlt2]at hk;exact hk
   obtain⟨tk,htk,_⟩:=hF.real k (K1 hk2);have hkn:=(KW.1 htk).1;have hp:=htwo j i (by omega) hlt hlt2;rw[(KW.1 hk2).2,(KW.1 hx).2]at hp;have f1:=fK k n hkn hn;rw[hp.2]at f1;have p1:(j:Int)< (T.length:Int):=by omega
   have p2:IntKind.i64.wrap ((j:Int)+1)=((j+1:Nat):Int):=aD (show j<l.length by omega) (by omega);have p3:((k:Int)==(n:Int))=false:=by have:=hp.1;simp;omega
   have F:=ai12 aB.eq_1 RY.eq_1 RYe.eq_1 hk p1 p2 p3 e0 e1 e2 e3<|ai e4 e5;repeat refine st ?_
   refine lL f1 ?_;repeat refine st ?_
   exact qn (j+1) ⟨hlt2,by simp only[go_sem,v0,v1,v2,v3,v4,v5,Kn],by simp only[go_sem,e0,e1,e2,e3,e4,e5,Kn]⟩
  ·obtain rfl:j=i:=by omega
   have p1: ¬(j:Int)< (T.length:Int):=by omega
   have F:=ai10 RY.eq_1 RYe.eq_1 p1 q2 e0 e1 e2 e3 e4 e5;repeat refine st ?_
   exact qn (j+1) ⟨hlt,by simp only[go_sem,v0,v1,v2,v3,v4,v5,Kn],by simp only[go_sem,e0,e1,e2,e3,e4,e5,Kn]⟩
 ·try clear e0 e1 e2 e3 e4 e5
  rintro ws es q1 ⟨⟨v0,v1,v2,v3,v4,v5⟩,e0,e1,e2,e3,e4,e5⟩;have F:=ai12 RY.eq_1 RYe.eq_1 q1 v0 v1 v2 v3 v4 v5 e0 e1<|ai4 e2 e3 e4 e5;repeat refine st ?_
  exact rI
end
section
def qP (c:ChD) (t:TrD):Int:=domE c t.src t.target
def mJ (c:ChD) (t:TrD) (x:Int):Prop:=0<=t.target/\aboveB c (qP c t) x=true
def ToT (c:ChD) (mem:List MemD) (t:TrD) (x:Int):Prop:=0<=t.target/\Gr c (upsL c (leadL c t.target mem) (qP c t)) x
def gg (c:ChD) (act:List Int) (mem:List MemD) (ts:List Nat) (x:Int):Prop:=(x∈act/\ ∀n∈ts,¬mJ c (dR c n) x)\/ ∃n∈ts,ToT c mem (dR c n) x
theorem C9 {c:ChD} (h:Full c) {d:Int} {P:List Int} (hu: ∀k∈P,aboveB c d k=true) {x:Int} (g:Gr c P x):aboveB c d x=true:=by
 have hr:=h.toRight
 induction g with
 |base hx=>exact hu _ hx
 | ini g hp hn h0 ih=>
   have hk:=kQ h hp h0;obtain⟨k1,k2,_⟩:=bK hr hk;exact(aX hr k1).2 (.inr (by rw[k2];exact ih))
 | par g hp hk ih=>
   obtain⟨k1,k2,_⟩:=bK hr hk;exact(aX hr k1).2 (.inr (by rw[k2];exact ih))
theorem Iq {c:ChD} {act:List Int} {a b:Nat} {x:Int} (h1:x∈leaveR c act (dR c a)) (h2:x∈leaveR c act (dR c b)):dx c act a b=true:=by
 unfold dx;rw[L8];exact⟨x,h1,K3.2 h2⟩
structure TrOk (c:ChD) (act:List Int) (mem:List MemD) (t:TrD):Prop where
 src:t.src∈act
 bel:0<=t.target->aboveB c (qP c t) t.src=true
 dom:0<=t.target->qP c t= -1\/(qP c t∈act/\av c (qP c t)=true)
 uni:0<=t.target->Uni c (qP c t) (upsL c (leadL c t.target mem) (qP c t))
 left: ∀x,x∈leaveR c act t↔x∈act/\mJ c t x
 to: ∀x,x∈zL (targetR c t mem)↔ToT c mem t x
theorem wW {c:ChD} (h:Full c) {act:List Int} (hb:lgB c act=true) {mem:List MemD} (hm:bY c mem=true) {n:Nat} {t:TrD} (ht:c.trans[n]? =some t) (hsrc:t.src∈act):TrOk c act mem t:=by
 obtain⟨s1,s2⟩:=h.src ht;have hg:=e9 hb;have hz:0<=t.target->inZ c t.target=true:=fun h0=>s2.resolve_left (by omega);refine⟨hsrc,fun h0=> ?_,fun h0=> ?_,fun h0=> ?_,fun x=> ?_,fun x=> ?_⟩
 ·exact K3.2 (uB h s1 (hz h0)).2.1
 ·obtain⟨_,d2,d3⟩:=uB h s1 (hz h0);exact d3.imp id fun e=>⟨hg.up h.toRight (t.src.toNat+1) t.src _ (by have:=(aI.1 s1).1;omega) hsrc d2 e.1,e.2⟩
 ·obtain⟨d1,_,d3⟩:=uB h s1 (hz h0);exact sj h (hz h0) hm d1 (by unfold qP;rcases d3 with e|e<;>omega)
 ·by_cases h0:0<=t.target
  ·unfold leaveR;rw[KZ (by omega),Ou];unfold undR
   rw[Kb,iy h.toRight fun y hy=>by
    obtain⟨_,_,hz,_⟩:=hg.of hy
    exact hz]
   exact⟨fun q=>⟨q.1,h0,q.2⟩,fun q=>⟨q.1,q.2.2⟩⟩
  ·unfold leaveR mJ;rw[K0 (by omega)];simp[h0]
 ·by_cases h0:0<=t.target
  ·obtain⟨d1,_,d3⟩:=uB h s1 (hz h0);have hu:=sj h (hz h0) hm d1 (by rcases d3 with e|e<;>omega);have hin: ∀y∈upsL c (leadL c t.target mem) (domE c t.src t.target),inZ c y=true:=fun y hy=>aU (hu.bel y hy);have hn:=(iV (c:=c) (d:=domE c t.src t.target) (l:=leadL c t.target mem)).1;unfold targetR IH ToT qP;rw[KZ (by omega),iy h.toRight fun y hy=>((fX h hn).1 hy).in h hin,fX h hn];exact⟨fun q=>⟨h0,q⟩,fun q=>q.2⟩
  ·unfold targetR ToT;rw[K0 (by omega)];simp[h0,zL]
theorem A5 {c:ChD} (h:Full c) {act:List Int} {mem:List MemD} {a b:Nat} (ha:TrOk c act mem (dR c a)) (hb:TrOk c act mem (dR c b)) (hc:dx c act a b=false) {x:Int} (h1:mJ c (dR c a) x) (h2:mJ c (dR c b) x):False:=by
 have hr:=h.toRight
 have key: ∀y,y∈act->mJ c (dR c a) y->mJ c (dR c b) y->False:=fun y hy k1 k2=>by
  have:=Iq ((ha.left y).2 ⟨hy,k1⟩) ((hb.left y).2 ⟨hy,k2⟩);rw[hc]at this;cases this
 have hz:=aI.1 (aU h1.2);rcases oq hr (c.states.length) x hz.2 (K3.1 h1.2) (K3.1 h2.2) with e|e|e
 ·exact key _ ha.src ⟨h1.1,ha.bel h1.1⟩ ⟨h2.1,by rw[<-e];exact ha.bel h1.1⟩
 ·exact key _ hb.src ⟨h1.1,iU hr (K3.2 e) (hb.bel h2.1)⟩ ⟨h2.1,hb.bel h2.1⟩
 ·exact key _ ha.src ⟨h1.1,ha.bel h1.1⟩ ⟨h2.1,iU hr (K3.2 e) (ha.bel h1.1)⟩
theorem Fit.front {c:ChD} {act:List Int} {l:List Nat} {n:Nat} (h:Fit c act (l++[n])):Fit c act l/\ ∀k∈l,dx c act k n=false:=by
 obtain⟨h1,_,h3⟩:=Mx.1 h.two;exact⟨⟨fun m hm=>h.real m (LR _ hm),h1⟩,fun k hk=>(h3 k hk n (by simp)).2⟩
theorem rP {c:ChD} (h:Full c) {act:List Int} (hb:lgB c act=true) {mem:List MemD} (hm:bY c mem=true): ∀(m:Nat) (ts:List Nat),ts.length=m->Fit c act ts-> ∃O:List Nat,O.Pairwise (· < ·)/\lgB c (zL O)=true/\ ∀x,x∈zL O↔gg c act mem ts x
 | 0,ts,hl,hf=>by
   obtain rfl:ts=[]:=M0.1 hl;have hg:=e9 hb;obtain⟨l,e,hk⟩:=wt hb
   have hr:l.Pairwise (· < ·):=by
    have:=hg.rise;rw[e]at this;unfold zL at this;exact(N7.1 this).imp fun h=>by omega
   exact⟨l,hr,by rw[<-e];exact hb,fun x=>by rw[<-e];simp[gg]⟩
 | m+1,ts,hl,hf=>by
   rcases List.eq_nil_or_concat ts with rfl|⟨l,n,rfl⟩
   ·simp at hl
   rw[List.concat_eq_append]at hf hl |-;obtain⟨hf1,hno⟩:=hf.front;obtain⟨O,o1,o2,o3⟩:=rP h hb hm m l (by simpa using hl) hf1;obtain⟨t,ht,hsrc⟩:=hf.real n (by simp);have hT:=wW h hb hm ht hsrc
   have hok: ∀k∈l,TrOk c act mem (dR c k):=fun k hk=>by
    obtain⟨t',ht',hs'⟩:=hf1.real k hk;rw[eP ht'];exact wW h hb hm ht' hs'
   rw[<-eP ht]at hT;by_cases h0:0<=(dR c n).target
   ·have hgO:=e9 o2;have hu:=hT.uni h0;have bel: ∀k∈l,∀x,ToT c mem (dR c k) x->mJ c (dR c k) x:=fun k hk x q=>⟨q.1,C9 h ((hok k hk).uni q.1).bel q.2⟩
    have hd:qP c (dR c n)= -1\/(qP c (dR c n)∈zL O/\av c (qP c (dR c n))=true):=by
     refine(hT.dom h0).imp id fun e=>⟨(o3 _).2 (.inl ⟨e.1,fun k hk hl=> ?_⟩),e.2⟩;exact A5 h (hok k hk) hT (hno k hk) (x:=(dR c n).src) ⟨hl.1,iU h.toRight hl.2 (hT.bel h0)⟩ ⟨h0,hT.bel h0⟩
    classical
    let O':List Nat:=(List.range c.states.length).filter fun k:Nat=>decide (gg c act mem (l++[n]) (k:Int))
    have hz: ∀x,gg c act mem (l++[n]) x->inZ c x=true:=fun x hx=>by
     rcases hx with⟨hx,_⟩|⟨k,hk,q⟩
     ·obtain⟨_,_,hz,_⟩:=(e9 hb).of hx;exact hz
     ·rcases Kt.1 hk with hk|hk
      ·exact aU (bel k hk x q).2
      ·rw[Km.1 hk]at q;exact aU (C9 h hu.bel q.2)
    have hmem: ∀x,x∈zL O'↔gg c act mem (l++[n]) x:=fun x=>by
     constructor
     ·intro hx;obtain⟨k,hk,rfl⟩:=K9.1 hx;simpa using (Kb.1 hk).2
     ·intro hx;obtain⟨k,rfl⟩: ∃k:Nat,x=k:=⟨x.toNat,by have:=aI.1 (hz x hx);omega⟩;exact K9.2 ⟨k,Kb.2 ⟨Kr.2 (aW.1 (hz _ hx)),by simpa using hx⟩,rfl⟩
    refine⟨O',Aw,(BU h hgO hu hd Aw fun x=> ?_).1,hmem⟩;rw[hmem,o3];constructor
    ·rintro(⟨q1,q2⟩|⟨k,hk,q⟩)
     ·refine .inl ⟨.inl ⟨q1,fun k hk=>q2 k (LR _ hk)⟩,?_⟩;cases hh:aboveB c (qP c (dR c n)) x
      ·rfl
      ·exact absurd ⟨h0,hh⟩ (q2 n (by simp))
     ·rcases Kt.1 hk with hk|hk
      ·refine .inl ⟨.inr ⟨k,hk,q⟩,?_⟩;cases hh:aboveB c (qP c (dR c n)) x
       ·rfl
       ·exact(A5 h (hok k hk) hT (hno k hk) (bel k hk x q) ⟨h0,hh⟩).elim
      ·rw[Km.1 hk]at q;exact .inr q.2
    ·rintro(⟨⟨q1,q2⟩|⟨k,hk,q⟩,hn⟩|q)
     ·refine .inl ⟨q1,fun k hk hl=> ?_⟩;rcases Kt.1 hk with hk|hk
      ·exact q2 k hk hl
      ·rw[Km.1 hk]at hl;rw[hl.2]at hn;cases hn
     ·exact .inr ⟨k,LR _ hk,q⟩
     ·exact .inr ⟨n,by simp,h0,q⟩
   ·refine⟨O,o1,o2,fun x=> ?_⟩;rw[o3];have n1: ¬mJ c (dR c n) x:=fun q=>h0 q.1;have n2: ¬ToT c mem (dR c n) x:=fun q=>h0 q.1;constructor
    ·rintro(⟨q1,q2⟩|⟨k,hk,q⟩)
     ·refine .inl ⟨q1,fun k hk=> ?_⟩;rcases Kt.1 hk with hk|hk
      ·exact q2 k hk
      ·rw[Km.1 hk];exact n1
     ·exact .inr ⟨k,LR _ hk,q⟩
    ·rintro(⟨q1,q2⟩|⟨k,hk,q⟩)
     ·exact .inl ⟨q1,fun k hk=>q2 k (LR _ hk)⟩
     ·rcases Kt.1 hk with hk|hk
      ·exact .inr ⟨k,hk,q⟩
      ·rw[Km.1 hk]at q;exact absurd q n2
end
section
def startR (c:ChD):RunD:=⟨[],c.vars.map (·.start),[],[],false,[],[]⟩
theorem my {c:ChD} (hv: ∀v∈c.vars,aJ v.start=true):RunOk c (startR c):=⟨by unfold startR;simp,fun x hx=>by
 obtain⟨v,hvm,rfl⟩:=K9.1 hx
 exact hv v hvm,⟨.nil,by simp[startR]⟩,by simp[startR],by simp[startR],by simp[startR],by simp[startR]⟩
theorem Hz {c:ChD} (h:Full c):tbegL c (-1)=sbL c (iniN c):=by
 obtain⟨s,hs,hini,_⟩:=h.topS;have hi:=(KW.1 hs).1;have hz:inZ c c.initial=true:=by rw[hini];exact aW.2 hi
 unfold tbegL;simp only[L4];rw[hz,K0 rfl];rfl
theorem yw {c:ChD} (h:Full c) {k:Nat} (hk:k∈tbegL c (-1)):k<c.states.length:=by
 obtain⟨s,hs,_⟩:=h.topS;have hi:=(KW.1 hs).1;rw[Hz h,H9 h hi, <-jD h]at hk;exact Kr.1 (Kb.1 hk).1
theorem yL {c:ChD} (h:Full c):qt c (tbegL c (-1))=qF c:=by
 rw[Hz h];unfold qt qF;apply MZ;intro k _;rw[LD,wx,decide_eq_true_iff]
theorem ox {c:ChD} (h:Full c) {now:Int} (hn:0<=now/\now<=1099511627776) (hv: ∀v∈c.vars,aJ v.start=true) (he:(aj c 0 now (startR c) [] (zL (tbegL c (-1)))).1.2=none):lgB c (aj c 0 now (startR c) [] (zL (tbegL c (-1)))).1.1.act=true/\(aj c 0 now (startR c) [] (zL (tbegL c (-1)))).1.1.act=zL (qt c (tbegL c (-1))):=by
 obtain⟨_,k⟩:=il (cK h) (l:=zL (tbegL c (-1))) (f:=[]) (show aJ 0=true by rfl) hn (my hv) .nil;have kc:=k he;have hb:=y9 h;rw[<-yL h]at hb
 have e:(aj c 0 now (startR c) [] (zL (tbegL c (-1)))).1.1.act=zL (qt c (tbegL c (-1))):=nj kc.rise (by unfold qt;exact Ch) fun x=>by
  rw[kc.mem];simp only[startR,List.not_mem_nil,false_or];constructor
  ·intro hx;obtain⟨j,hj,rfl⟩:=K9.1 hx;refine K9.2 ⟨j,Kb.2 ⟨Kr.2 ?_,wx.2 hj⟩,rfl⟩;exact yw h hj
  ·intro hx;obtain⟨j,hj,rfl⟩:=K9.1 hx;exact K9.2 ⟨j,wx.1 (Kb.1 hj).2,rfl⟩
 exact⟨by rw[e];exact hb,e⟩
theorem rM (env:Env) (now:Int):Con prog env 111 [I now] (B (decide (0<=now/\now<=1099511627776))):=by
 by_cases h0:0<=now
 ·by_cases h1:now<=1099511627776
  ·have k:decide (0<=now/\now<=1099511627776)=true:=by simp[h0,h1]
   rw[k];refine qf func111 call111 ntmps111 results111 ?_;have F:=ai h0 h1;repeat refine st ?_
   exact aR
  ·have k:decide (0<=now/\now<=1099511627776)=false:=by simp[h1]
   rw[k];refine qf func111 call111 ntmps111 results111 ?_;have F:=ai h0 h1;repeat refine st ?_
   exact aR
 ·have k:decide (0<=now/\now<=1099511627776)=false:=by simp[h0]
  rw[k];refine qf func111 call111 ntmps111 results111 ?_;have F:=h0;repeat refine st ?_
  exact aR
def tq (a2 a8:Addr):RunD×ErD->AV
 |(r,none)=> .tuple [.agg [ints34 r.act,ints34 r.vars, .seq 2 (r.mem.map mmAV), .seq 2 (r.tms.map tmAV),B r.over], .agg [ints34 r.outs, .seq 2 (r.rais.map tmAV)],nilE]
 |(_,some e)=> .tuple [.agg [nilS,nilS,nilS,nilS,B false], .agg [nilS,nilS],errV (-1) (cN a2 a8 (some e))]
theorem CY (env:Env) (a1 a2 a8:Addr) (c:ChD) (now:Int) (E:RunEnv env a1 a2 a8 c 0 now) (hv: ∀v∈c.vars,aJ v.start=true):Con prog env 61 [aC c,I now] (tq a2 a8 (cq c now)):=by
 have hvl:=E.hs.vars;have f0:=rM env now;rw[LC E.hn]at f0;have f1:=ak env c E.hs;have f2:=oU env c E.hs;have f3:=((vt env c E.h (-1)).lend (bn (fun _=>rfl) _)).seen
 have hbl:(tbegL c (-1)).length<=1000:=by
  rw[Hz E.h];have:=C1 E.h (iniN c);omega
 have f4:=vY env a1 a2 a8 c 0 now E (startR c) (my hv) .nil (Ke _) (tbegL c (-1)) (fun i hi=>yw E.h hi) hbl (fun hh=>(ox E.h E.hn hv hh).1);unfold cq;rw[show (⟨[],c.vars.map (·.start),[],[],false,[],[]⟩:RunD)=startR c from rfl];generalize tbegL c (-1)=G at*;unfold aC at f1 f3 |-;unfold aA at f1 f2;have hF: ∀k,k<=c.vars.length->((c.vars.take k).map (·.start)).length=k:=fun k hk=>by simp;omega
 refine qf func61 call61 ntmps61 results61 ?_;repeat refine Aa f0 f1 f2 ?_
 refine nC0 29 9001 0 0 3 1 ?_;refine nC0 29 9002 0 1 3 1 ?_;refine nC0 29 9006 0 2 162 2 ?_;refine nC0 29 9003 0 3 108 2 ?_;refine nC0 29 9004 0 5 3 1 ?_;refine nC0 29 9005 0 6 33 2 ?_;refine be [(9006,⟨2,[],162,true⟩)] ?_ ?_
 ·exact qe0
 refine aK (D:=Nat) (fun j vs=>[(0, .ref 9 [tabCells c] 0 0),(4, .loc 4 (vs 4) 0 0),(5, .loc 5 (vs 5) 0 0),(6,nilE),(7, .loc 29 (vs 29) 0 0),(34,varsAV c.vars),(35,I c.vars.length),(36,I j)]) (fun j vs=>[(4,⟨5,[[nilS,nilS,nilS,nilS,B false]],31,false⟩),(5,⟨2,[[nilS,nilS]],133,false⟩),(29,⟨15,[[.row 9001 (vs 9001), .row 9002 (vs 9002), .seq 2 [], .row 9003 (vs 9003),B false, .row 9004 (vs 9004), .row 9005 (vs 9005), .ref 9 [tabCells c] 0 0,Sg c.name,I c.initial,varsAV c.vars,stsAV c.states,trsAV c.trans,I 0,I now]],185,false⟩),(9001,⟨1,[],3,true⟩),(9002,⟨1,((c.vars.take j).map (·.start)).map intAV,3,true⟩),(9003,⟨2,[],108,true⟩),(9004,⟨1,[],3,true⟩),(9005,⟨2,[],33,true⟩)]) (fun j _ esc=>j<=c.vars.length/\esc 4=false/\esc 5=false/\esc 29=false/\esc 9001=false/\esc 9002=false/\esc 9003=false/\esc 9004=false/\esc 9005=false) (fun j=>c.vars.length-j) 0 ?_ ?_ ?_ ?_
 ·refine⟨Ke _,?_⟩;simp only[seenSt,seesR,gS,Mv,OJ,go_sem];try simp
 ·simp only[seenSt,seesR,gS,Row.see,AV.see,AV.see.seeL,NS,Ls,go_sem];try rfl
 ·simp only[seenSt,seesR,gS,Row.see,AV.see,AV.see.seeL,NS,Ls,go_sem];try rfl
 rintro j ws es ⟨hj,b4,b5,b29,b1,b2,b3,b6,b7⟩;by_cases hlt:j<c.vars.length
 ·obtain⟨v,hx⟩:=gE hlt;have q1:=nlt hlt;have q2:=aD hlt (by omega);have q3:Fits (((c.vars.take j).map (·.start)).length+1) 8:=by rw[hF j hj];exact aG (by omega) (by omega)
  have q4:((c.vars.take (j+1)).map (·.start)).map intAV=((c.vars.take j).map (·.start)).map intAV++[[I v.start]]:=by rw[cg hx];simp
  generalize hU:(c.vars.take j).map (·.start)=U at*;have F:=ai12 gQ.eq_1 hx q1 q2 q3 b4 b5 b29 b1 b2 b3<|ai b6 b7;repeat refine st ?_
  refine⟨j+1,⟨hlt,?_⟩,?_,?_,by omega⟩
  ·simp only[go_sem,b4,b5,b29,b1,b2,b3,b6,b7,Kn]
  ·exact qe
  ·simp only[q4];exact qe
 ·obtain rfl:j=c.vars.length:=by omega
  have q1:=nl c.vars.length;have q5:((c.vars.take c.vars.length).map (·.start)).map intAV=(startR c).vars.map intAV:=by rw[Kp];rfl
  generalize enterP c 0 now (startR c) (zL G)=X at*;rcases X with⟨r1,_|⟨k,ps⟩⟩
  ·unfold tq;unfold cN RY RYe at f4;simp only at f4;simp only[q5];have F:=ai12 RY.eq_1 gr5.eq_1 startR.eq_1 q1 b4 b5 b29 b1 b2 b3 b6 b7;repeat refine st ?_
   refine lL f3 ?_;repeat refine st ?_
   refine iL [(1000,29),(1001,9001),(1002,9002),(1003,9003),(1004,9004),(1005,9005)] f4 ?_;repeat refine st ?_
   exact aR
  ·unfold tq;unfold cN RY RYe at f4;simp only at f4;unfold cN;simp only;have f5:=fU env [109,105,99,114,111,46,70,105,114,115,116] (ps.headD (-1)) (chainV ps.tail (sentV (if k=2 then a2 else a8)));simp only[q5];have F:=ai12 RY.eq_1 gr5.eq_1 startR.eq_1 q1 b4 b5 b29 b1 b2 b3 b6 b7;repeat refine st ?_
   refine lL f3 ?_;repeat refine st ?_
   refine iL [(1000,29),(1001,9001),(1002,9002),(1003,9003),(1004,9004),(1005,9005)] f4 ?_;repeat refine tz1 f5 ?_
   exact aR
end
section
theorem lv (env:Env) (x:InD) (hA:x.1.length<=4096) (hV:x.2.1.length<=4096) (hM:x.2.2.1.length<=4096) (hMs: ∀m∈x.2.2.1,Fits m.2.length 8) (hT:Fits x.2.2.2.1.length 24):
 ConI prog env 42 [8,11,14] (fun i=>i==8||(i==11||i==14)) (fun _=>[.agg [.seq 1 (x.1.map intAV), .seq 1 (x.2.1.map intAV), .seq 2 (x.2.2.1.map mmAV), .seq 2 (x.2.2.2.1.map tmAV),B x.2.2.2.2]]) (fun _=>[]) (fun _=>[(8,⟨1,x.1.map intAV,3,true⟩),(11,⟨1,x.2.1.map intAV,3,true⟩),(14,⟨2,x.2.2.2.1.map tmAV,108,true⟩)]) (fun g=> .agg [.row 8 (g 8), .row 11 (g 11), .seq 2 (x.2.2.1.map mmAV), .row 14 (g 14),B x.2.2.2.2]):=by
 have f0:=kF env (x.1.map intAV) (by rw[Kl];exact aG hA (by omega));have f1:=kF env (x.2.1.map intAV) (by rw[Kl];exact aG hV (by omega));have f2:=yg env (x.2.2.2.1.map tmAV) (by rw[Kl];exact hT);obtain⟨A,V,M,T,O⟩:=x;simp only at*;refine qi func42 call42 ntmps42 results42 ?_;intro vs esc hesc;obtain⟨e0,e1,e5⟩:=es3 hesc;have F:=ai3 e0 e1 e5;repeat refine tz3 f0 f1 f2 ?_
 refine nC 3 9000 0 2 162 2 ?_
 refine aK (D:=Nat) (fun j vs=>[(1, .loc 1 (vs 1) 0 0),(2, .loc 2 (vs 2) 0 0),(3, .loc 3 (vs 3) 0 0),(19, .seq 2 (M.map mmAV)),(20,I M.length),(21,I j)])
  (fun j vs=>[(1,⟨5,[[.seq 1 (A.map intAV), .seq 1 (V.map intAV), .seq 2 (M.map mmAV), .seq 2 (T.map tmAV),B O]],31,false⟩),(2,⟨5,[[nilS,nilS,nilS,nilS,B false]],31,false⟩),(3,⟨5,[[.row 8 (vs 8), .row 11 (vs 11), .row 9000 (vs 9000), .row 14 (vs 14),B O]],31,false⟩),(8,⟨1,A.map intAV,3,true⟩),(11,⟨1,V.map intAV,3,true⟩),(14,⟨2,T.map tmAV,108,true⟩),(9000,⟨2,(M.take j).map mmAV,162,true⟩)])
  (fun j _ esc=>j<=M.length/\esc 2=false/\esc 3=false/\esc 8=false/\esc 11=false/\esc 9000=false/\esc 14=false) (fun j=>M.length-j) 0 ?_ ?_ ?_ ?_
 ·refine⟨Ke _,?_,?_,?_,?_,?_,?_⟩<;>simp only[go_sem,e0,e1,e5]
 ·exact qe
 ·exact qe
 try clear e0 e1 e5
 rintro j ws esc ⟨hj,e2,e3,e0,e1,e4,e5⟩;by_cases hlt:j<M.length
 ·obtain⟨m,hm⟩:=gE hlt;have q1:=nlt hlt;have q2:=aD hlt (by omega);have f3:=kF env (m.2.map intAV) (by rw[Kl];exact hMs m (K1 hm));have htl:(M.take j).length=j:=by rw[Kf];omega
  have hf:Fits (j+1) 32:=aG (by omega) (by omega);have htk:M.take (j+1)=M.take j++[m]:=by rw[Kv,hm];rfl
  have F:=ai12 mmAV.eq_1 q1 q2 hm htl hf e0 e1 e2 e3 e4 e5;repeat refine tz1 f3 ?_
  refine⟨j+1,⟨hlt,?_,?_,?_,?_,?_,?_⟩,?_,?_,by omega⟩;all_goals (first|(show _=false;simp only[go_sem,e0,e1,e2,e3,e4,e5];done)|skip)
  ·exact qe
  ·have F:=ai9 mmAV.eq_1 htk @Ki.{0,0} e0 e1 e2 e3 e4 e5;exact qe
 obtain rfl:j=M.length:=by omega
 have q1:=nl M.length;have hta:M.take M.length=M:=Kp;have F:=ai8 q1 hta e0 e1 e2 e3 e4 e5;repeat refine st ?_
 refine be [(9000,⟨2,M.map mmAV,162,true⟩)] ?_ ?_
 ·exact qe
 have F:=ai6 e0 e1 e2 e3 e4 e5;exact rI
def uH (a2 a8:Addr):RunD×ErD->AV
 |(r,none)=> .tuple [.agg [ints34 r.act,ints34 r.vars, .seq 2 (r.mem.map mmAV), .seq 2 (r.tms.map tmAV),B r.over], .agg [ints34 r.outs, .seq 2 (r.rais.map tmAV)],nilE]
 |(_,some e)=> .tuple [.agg [nilS,nilS,nilS,nilS,B false], .agg [nilS,nilS],errV (-1) (cN a2 a8 (some e))]
def fp (x:InD):RunD:=⟨x.1,x.2.1,x.2.2.1,x.2.2.2.1,x.2.2.2.2,[],[]⟩
theorem Fo (env:Env) (a1 a2 a8:Addr) (c:ChD) (d now:Int) (E:RunEnv env a1 a2 a8 c d now) (x:InD) (hA:x.1.length<=100) (hV:x.2.1.length<=4096) (hM:x.2.2.1.length<=4096) (hMs: ∀m∈x.2.2.1,Fits m.2.length 8) (hT:Fits x.2.2.2.1.length 24) (ts:List Nat)
 (fr:Con prog env 93 [Sg [109,105,99,114,111,46,83,116,101,112],aC c, .agg (inE x),I d] nilE)
 (ff:ConI prog env 215 [1000,1001,1002,1003,1004,1005] (fun _=>false) (fun g=>[.loc 1000 (g 1000) 0 0, .seq 1 (ts.map aB)]) (RY c d now (fp x)) (RY c d now (fp x)) (fun _=>B true))
 (fs:ConI prog env 216 [1000,1001,1002,1003,1004,1005] gr5 (fun g=>[.loc 1000 (g 1000) 0 0, .seq 1 (ts.map aB)]) (RY c d now (fp x)) (RY c d now (stepP c d now (fp x) ts).1) (fun _=>cN a2 a8 (stepP c d now (fp x) ts).2)):
 Con prog env 139 [aC c, .agg (inE x), .seq 1 (ts.map aB),I d,I now] (uH a2 a8 (stepP c d now (fp x) ts)):=by
 have f1:=ak env c E.hs;have f2:=lv env x (by omega) hV hM hMs hT;have f3:=rM env now;rw[LC E.hn]at f3;unfold inE at fr |-;unfold aC at f1 fr |-;unfold aA at f1;unfold RY RYe at ff;obtain⟨A,V,M,T,O⟩:=x;unfold fp at ff fs |-;simp only at*;generalize stepP c d now _ ts=X at*;refine qf func139 call139 ntmps139 results139 ?_;repeat refine lZ fr ?_
 refine iL0 [(8,9001),(11,9002),(14,9003)] f2 ?_
 iterate 9 (first|refine st0 ?_|refine cC0 f1 ?_)
 show awp _ _ _ _ _ _;refine nC0 33 9004 0 5 3 1 ?_;refine nC0 33 9005 0 6 33 2 ?_;repeat refine lZ f3 ?_
 refine iL0 [(1000,33),(1001,9001),(1002,9002),(1003,9003),(1004,9004),(1005,9005)] ff ?_;repeat refine st0 ?_
 rcases X with⟨r1,_|⟨k,ps⟩⟩
 ·unfold cN RY RYe at fs;simp only at fs;unfold uH;have F:=gr5.eq_1;repeat refine st ?_
  refine iL [(1000,33),(1001,9001),(1002,9002),(1003,9003),(1004,9004),(1005,9005)] fs ?_;repeat refine st ?_
  exact aR
 ·unfold cN RY RYe at fs;simp only at fs;unfold uH cN;simp only;have f5:=fU env [109,105,99,114,111,46,83,116,101,112] (ps.headD (-1)) (chainV ps.tail (sentV (if k=2 then a2 else a8)));have F:=gr5.eq_1;repeat refine st ?_
  refine iL [(1000,33),(1001,9001),(1002,9002),(1003,9003),(1004,9004),(1005,9005)] fs ?_;repeat refine tz1 f5 ?_
  exact aR
end
section
theorem zb (c:ChD) (d now:Int): ∀(l:List Int) (r:RunD),xZ (bM c d now r l).2
 |[],r=>fun x h=>by cases h
 | i::l,r=>by
   unfold bM;split
   ·exact zb c d now l _
   ·exact xr _ _ _ _ _
theorem Dt (c:ChD) (d now:Int): ∀(l:List Nat) (r:RunD),xZ (eo c d now r l).2
 |[],r=>fun x h=>by cases h
 | i::l,r=>by
   unfold eo;split
   ·exact Dt c d now l _
   ·exact xr _ _ _ _ _
theorem IK (c:ChD) (d now:Int) (r:RunD) (ts:List Nat):xZ (stepP c d now r ts).2:=by
 unfold stepP;simp only;have h1:=zb c d now (zL (sortL c (goneR c r.act ts))).reverse { r with mem:=remL c r.act (zL (sortL c (goneR c r.act ts))) r.mem };split
 ·rename_i r1 e1;have h2:=Dt c d now ts r1;split
  ·exact AL _ _ _ _ _
  ·exact h2
 ·exact h1
end

end Go.Proofs.YtbjldjekgepopaaGreatDoor