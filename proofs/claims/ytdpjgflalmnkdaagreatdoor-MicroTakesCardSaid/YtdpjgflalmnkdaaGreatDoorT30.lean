/- An instance in the midst of a step: transitions that may be taken together. -/
import Derived.Test.YtdpjgflalmnkdaaGreatDoorT29
set_option maxRecDepth 100000
set_option maxHeartbeats 16000000
set_option linter.unusedSimpArgs false
namespace Go.Proofs.YtdpjgflalmnkdaaGreatDoor
open Go.Proofs.Tryz
open Go.RowKit
section
def wakeM:ChD:=⟨[99],0,[],[⟨[97],1, -1, -1,[],[]⟩,⟨[98],1, -1, -1,[],[]⟩],[⟨0,[120],[],[],1⟩]⟩
def C9:List AV:=[Sg [99],I 0,nilS, .seq 6 [[Sg [97],I 1,I (-1),I (-1),nilS,nilS],[Sg [98],I 1,I (-1),I (-1),nilS,nilS]], .seq 5 [[I 0,Sg [120],nilS,nilS,I 1]]]
theorem Cj (n:List UInt8) (k p i:Int):Strs [Sg n,I k,I p,I i,nilS,nilS] (aK ⟨n,k,p,i,[],[]⟩):= .cons (.refl _) (.cons (.refl _) (.cons (.refl _) (.cons (.refl _) (.cons (.nil 4) (.cons (.nil 4) .nil)))))
theorem Dw:Strs [.agg C9] [.agg (aA wakeM)]:=by
 refine .one (.agg (.cons (.refl _) (.cons (.refl _) (.cons (.nil 2) (.cons (.seqs ?_) (.cons (.seqs ?_) .nil))))))
 ·exact .cons (Cj ..) (.cons (Cj ..) .nil)
 ·exact .cons (.cons (.refl _) (.cons (.refl _) (.cons (.nil 2) (.cons (.nil 4) (.cons (.refl _) .nil))))) .nil
theorem Dy:jS wakeM:=by simp[jS,uF,uC,wakeM,maxLen]
theorem u5:chk wakeM=(0, -1):=by decide+kernel
theorem Dx:lgB wakeM [0]=true:=by decide+kernel
end
section
theorem CP (env:Env) (a1 a8:Addr) (he:ChEnv env a1 a8) (c:ChD) (h:Full c) (hs:Small c) (act:List Int) (hl:act.length<=1000000) (k:Nat) (t:TrD) (ht:c.trans[k]? =some t) (hb:lgB c act=true) (h0: ¬t.target<0):
 ConI prog env 72 [1001,35] (fun i=>i==35) (fun g=>[aJ c, .row 1001 (g 1001),I k]) (fun _=>[(1001,⟨1,act.map intAV,3,true⟩)]) (fun _=>[(1001,⟨1,act.map intAV,3,true⟩),(35,⟨1,(leaveR c act t).map intAV,3,true⟩)]) (fun g=> .tuple [.row 35 (g 35),nilE]):=by
 have f0:=cQ env a1 a8 he c h hs act hl;have f1:=nO env c hs k t ht;have f2:=mR env c h.toRight hs t (h.src ht).1;have f3:=(zc env c h.toRight act hl (domE c t.src t.target)).lend (ag (fun _=>rfl) _);unfold uO at f0;rw[hb]at f0;simp only[L1]at f0;have f0:=f0.lend rfl;unfold leaveR;rw[K2 h0];unfold az at f1 f2;unfold aJ at f0 f1 f2 f3 |-;generalize (undR c act (domE c t.src t.target)).reverse=R at*;refine qi func72 call72 ntmps72 results72 ?_;intro vs esc hesc;have e0:=hesc 1001 (by simp);have F:=ai h0 e0;repeat refine st ?_
 refine lL f0 ?_;repeat refine tz2 f1 f2 ?_
 refine lL f3 ?_;repeat refine st ?_
 exact rI
/-! A step in which nothing is done: the chart of awake -/
end
section
theorem uN (env:Env) (G:List Int) (hG:G.length<=1000000) (i:Int):Con prog env 130 [I i, .ref 1 [[.seq 1 (G.map intAV)]] 0 0] (B (G.contains i)):=by
 have f0:=bG env G i hG;refine qf func130 call130 ntmps130 results130 ?_;repeat refine kB f0 ?_
 exact aR0
theorem jG {c:ChD} (h:Full c) (act:List Int) (t:TrD):(leaveR c act t).length<=32:=by
 unfold leaveR;split
 ·simp
 ·rw[MO];unfold undR;exact Km (Kq ..) (by rw[an];exact cH h.toRight act)
theorem nF (env:Env) (a1 a8:Addr) (he:ChEnv env a1 a8) (c:ChD) (h:Full c) (hs:Small c) (act:List Int) (hl:act.length<=1000000) (hb:lgB c act=true) (a b:Nat) (ha:a<c.trans.length) (hbb:b<c.trans.length):Con prog env 67 [aJ c,ints34 act,I a,I b] (B (eH c act a b)):=by
 obtain⟨ta,hta⟩:=gE ha;obtain⟨tb,htb⟩:=gE hbb;have f0:=wB env a1 a8 he c h hs act hl a ta hta hb;have f1:=wB env a1 a8 he c h hs act hl b tb htb hb;have l0:=jG h act ta;have l1:=jG h act tb;have f2:=kG env (leaveR c act ta) (fun i=>(leaveR c act tb).contains i) 130 [[.seq 1 ((leaveR c act tb).map intAV)]] (fun i=>uN env (leaveR c act tb) (by omega) i) (by omega);unfold eH;rw[eY hta,eY htb];generalize leaveR c act ta=A at*;generalize leaveR c act tb=C at*;unfold aJ at f0 f1 |-;refine qf func67 call67 ntmps67 results67 ?_;repeat refine Ce f0 f1 ?_
 refine cC0 f2 ?_;repeat refine st0 ?_
 exact aR0
theorem Gs {c:ChD} {act:List Int} {l:List Nat} {n k:Nat} (hk:k∈l) (h:uU c act n k=false):takeL c act l n=l:=by
 unfold takeL;rw[K2];intro hh;rw[K7.1 hh k hk]at h;cases h
theorem GP (env:Env) (a1 a8:Addr) (he:ChEnv env a1 a8) (c:ChD) (h:Full c) (hs:Small c) (x:InD) (d:Int) (hx:Asked c x d) (l:List Nat) (hl:l.length<=1000) (hk: ∀n∈l,n<c.trans.length) (n:Nat) (hn:n<c.trans.length):
 Con prog env 27 [.ref 15 [rnE c x d] 0 0, .seq 1 (l.map aB),I n] (.seq 1 ((takeL c x.1 l n).map aB)):=by
 have hfew:=h.few;have f0:=fun k hk=>nF env a1 a8 he c h hs x.1 (by have:=hx.act;omega) hx.lg k n hk hn;have f1:=bL env c;have f2:=fun i k=>eu env c h.toRight i k;obtain⟨tn,htn⟩:=gE hn;have q5:=nlt hn;unfold aP at f1 f2;unfold aJ at f0 f1;refine qf func27 call27 ntmps27 results27 ?_;repeat refine st0 ?_
 refine aj 7 7 3 1 ?_;refine lp0 (D:=Nat) (fun j vs=>[(0, .ref 15 [rnE c x d] 0 0),(1, .seq 1 (l.map aB)),(2,I n),(7, .row 7 (vs 7)),(10, .seq 1 (l.map aB)),(11,I l.length),(12,I j)]) (fun j _=>[(7,⟨1,((l.take j).filter fun k=> !eH c x.1 k n).map aB,3,true⟩)]) (fun j _ esc=>(j<=l.length/\(l.take j).all (uU c x.1 n)=true)/\esc 7=false) (fun j=>l.length-j) 0 ⟨⟨Kj _,rfl⟩,rfl⟩ ?_;rintro j ws esc ⟨⟨hj,hall⟩,e0⟩;have hfl:((l.take j).filter fun k=> !eH c x.1 k n).length<=l.length:=Km (Kq ..) (by rw[Kg];omega);have hf:Fits (((l.take j).filter fun k=> !eH c x.1 k n).length+1) 8:=aC (by omega) (by omega);by_cases hlt:j<l.length
 ·obtain⟨k,hkk⟩:=gE hlt;have hkm:=K4 hkk;have hkl:=hk k hkm;obtain⟨tk,htk⟩:=gE hkl;have q1:=nlt hlt;have q2:=aD hlt (by omega);have q3:=nlt hkl;have f3:=f0 k hkl;have f4:=f2 tk.src tn.src;have ht:=bQ hkk
  have hft:((l.take (j+1)).filter fun k=> !eH c x.1 k n)=((l.take j).filter fun k=> !eH c x.1 k n)++if eH c x.1 k n=true then [] else [k]:=by
   rw[ht,LE]
   congr 1
   cases hq:eH c x.1 k n<;>simp[hq]
  have hkp:uU c x.1 n k=(!eH c x.1 k n||aboveB c tk.src tn.src):=by unfold uU;rw[eY htk,eY htn]
  have hat: ∀b,uU c x.1 n k=b->(l.take (j+1)).all (uU c x.1 n)=b:=fun b hb=>by rw[ht,OH,hall];simp[hb]
  cases hc:eH c x.1 k n with
  | false=>
    rw[hc]at f3 hft hkp;simp only[Ku,Ld]at hft;have F:=ai8 rnE.eq_1 aB.eq_1 hkk q1 q2 q3 hf e0;repeat refine tz1 f3 ?_
    refine⟨j+1,⟨⟨hlt,hat _ (by rw[hkp];rfl)⟩,by simp only[go_sem,e0]⟩,?_,?_,by omega⟩
    ·exact qe
    ·have F:=ai3 aB.eq_1 hft @Ka.{0,0};exact qe
  | true=>
    rw[hc]at f3 hft hkp;simp only[L1,Lo]at hft;simp only[M1,M2]at hkp;cases hab:aboveB c tk.src tn.src with
    | true=>
      rw[hab]at f4 hkp;have F:=ai11 rnE.eq_1 az.eq_1 aB.eq_1 hkk htk htn q1 q2 q3 q5 e0;repeat refine tz3 f1 f3 f4 ?_
      refine⟨j+1,⟨⟨hlt,hat _ hkp⟩,by simp only[go_sem,e0]⟩,?_,?_,by omega⟩
      ·exact qe
      ·have F:=ai aB.eq_1 hft;exact qe
    | false=>
      rw[hab]at f4 hkp;rw[Gs hkm hkp];have F:=ai11 rnE.eq_1 az.eq_1 aB.eq_1 hkk htk htn q1 q2 q3 q5 e0;repeat refine tz3 f1 f3 f4 ?_
      exact aR
 ·obtain rfl:j=l.length:=by omega
  have q1:=nl l.length;rw[Kt]at hall hf;have hr:takeL c x.1 l n=(l.filter fun k=> !eH c x.1 k n)++[n]:=by unfold takeL;rw[K5 hall]
  have hm:(takeL c x.1 l n).map aB=((l.filter fun k=> !eH c x.1 k n).map aB)++[[I (n:Int)]]:=by rw[hr,Ka];rfl
  rw[hm,Kt];generalize (l.filter fun k=> !eH c x.1 k n)=K at*;have F:=ai4 aB.eq_1 q1 hf e0;repeat refine st ?_
  refine iO (Turned.frozen 7 6 ⟨1,K.map aB++[[I (n:Int)]],3,true⟩ rfl (LL 0) (by simp only[go_sem]) (by simp only[go_sem])) ?_;exact aR
def rcI (x:InD):Rc:=⟨0,0,0,x.1,x.2.1,x.2.2.1,x.2.2.2.1,x.2.2.2.2⟩
theorem DJ (x:InD):iQ (rcI x)=inE x:=rfl
theorem uh (env:Env) (a1 a8:Addr) (he:ChEnv env a1 a8) (c:ChD) (h:Full c) (hs:Small c) (x:InD) (hL:LiteI (rcI x)) (hn: ∀t∈x.2.2.2.1,t.1.length<=9223372036854775807) (hF: ∀m∈x.2.2.1,Fits m.2.length 8) (op:List UInt8) (d:Int) (hr:bW c (rcI x)=true) (ho:x.2.2.2.2=false) (hd:aL d=true):Con prog env 21 [Sg op,aJ c, .agg (inE x),I d] nilE:=by
 have f0:=B0 env a1 a8 he c h hs (rcI x) hL hn hF;unfold uV at f0;rw[K5 hr,DJ]at f0;have f1:=dS env d;rw[hd]at f1;unfold aJ inE at f0 |-;refine qf func21 call21 ntmps21 results21 ?_;have F:=ho;repeat refine tz2 f0 f1 ?_
 exact aR
end
section
theorem yt (env:Env) (a1 a8:Addr) (he:ChEnv env a1 a8) (c:ChD) (h:Full c) (hs:Small c) (act:List Int) (hl:act.length<=1000000) (k:Nat) (t:TrD) (ht:c.trans[k]? =some t) (hb:lgB c act=true) (h0:t.target<0):
 ConI prog env 72 [1001] (fun _=>false) (fun g=>[aJ c, .row 1001 (g 1001),I k]) (fun _=>[(1001,⟨1,act.map intAV,3,true⟩)]) (fun _=>[(1001,⟨1,act.map intAV,3,true⟩)]) (fun _=> .tuple [nilS,nilE]):=by
 have f0:=cQ env a1 a8 he c h hs act hl;have f1:=nO env c hs k t ht;unfold uO at f0;rw[hb]at f0;simp only[L1]at f0;have f0:=f0.lend rfl;unfold az at f1;unfold aJ at f0 f1 |-;refine qi func72 call72 ntmps72 results72 ?_;intro vs esc hesc;have e0:=hesc 1001 (by simp);have F:=ai h0 e0;repeat refine st ?_
 refine lL f0 ?_;repeat refine tz1 f1 ?_
 exact rI
theorem vO {c:ChD} {act:List Int} {ts:List Nat} {j n:Nat} {t:TrD} (hn:ts[j]? =some n) (ht:c.trans[n]? =some t):goneR c act (ts.take (j+1))=goneR c act (ts.take j)++leaveR c act t:=by
 unfold goneR;rw[bQ hn,MY];simp[eY ht]
theorem qg {c:ChD} {mem:List MemD} {ts:List Nat} {j n:Nat} {t:TrD} (hn:ts[j]? =some n) (ht:c.trans[n]? =some t):toR c mem (ts.take (j+1))=toR c mem (ts.take j)++targetR c t mem:=by
 unfold toR;rw[bQ hn,MY];simp[eY ht]
theorem vx {c:ChD} {d now:Int} {r:RunD} {l:List Nat} {j n:Nat} {t:TrD} (hn:l[j]? =some n) (ht:c.trans[n]? =some t):da c d now r (l.drop j)=match allP c d now r t.acts with
 |(r1,none)=>da c d now r1 (l.drop (j+1))
 |x=>x:=by
 rw[bB hn]
 conv=>lhs;unfold da
 rw[eY ht];rcases allP c d now r t.acts with⟨r1,_|_⟩<;>rfl
theorem Cf {c:ChD} (h:Full c) {n:Nat} {t:TrD} (ht:c.trans[n]? =some t):t.acts.length<=32/\ ∀a∈t.acts,fh c.vars.length c.states.length a=true:=by
 have:=h.tr n t ht;unfold dU eI at this;simp only[K3,Kh,K7]at this;exact this.1.2
theorem tJ {c:ChD} (h:Full c) (act:List Int): ∀ts:List Nat,(goneR c act ts).length<=32*ts.length
 |[]=>Kj _
 | n::ts=>by
   have:=tJ h act ts;have h2:=jG h act (dm c n);unfold goneR at this |-;rw[Ng,K8,Ks];omega
theorem CU {c:ChD} (h:Full c) (mem:List MemD): ∀ts:List Nat,(toR c mem ts).length<=32*ts.length
 |[]=>Kj _
 | n::ts=>by
   have:=CU h mem ts
   have h2:(targetR c (dm c n) mem).length<=32:=by
    unfold targetR GF;split
    ·exact Kj _
    ·exact cH h.toRight _
   unfold toR at this |-;rw[Ng,K8,Ks];omega
theorem GQ (env:Env) (a1 a2 a8:Addr) (c:ChD) (d now:Int) (E:RunEnv env a1 a2 a8 c d now) (r:RunD) (hr:RunOk c r) (hl:r.act.length<=100) (hb:lgB c r.act=true) (hm:bU c r.mem=true) (hml:r.mem.length<=1000000) (hFm: ∀m∈r.mem,Fits m.2.length 8) (ts:List Nat) (hts: ∀n∈ts,∃t,c.trans[n]? =some t) (htl:ts.length<=64)
 (hgo: ∀x∈zL (sortL c (goneR c r.act ts)),x∈r.act) (hmem:bU c (remL c r.act (zL (sortL c (goneR c r.act ts))) r.mem)=true) (hmem2:(remL c r.act (zL (sortL c (goneR c r.act ts))) r.mem).length<=1000000/\ ∀m∈remL c r.act (zL (sortL c (goneR c r.act ts))) r.mem,Fits m.2.length 8)
 (hleg: ∀r2:RunD,RunOk c r2->r2.act=r.act.filter (fun k=> !(zL (sortL c (goneR c r.act ts))).reverse.contains k)->(ak c d now r2 [] (zL (sortL c (zL (toR c (remL c r.act (zL (sortL c (goneR c r.act ts))) r.mem) ts))))).1.2=none->lgB c (ak c d now r2 [] (zL (sortL c (zL (toR c (remL c r.act (zL (sortL c (goneR c r.act ts))) r.mem) ts))))).1.1.act=true):
 ConI prog env 33 [1000,1001,1002,1003,1004,1005] gr5 (fun g=>[.loc 1000 (g 1000) 0 0, .seq 1 (ts.map aB)]) (RY c d now r) (RY c d now (stepP c d now r ts).1) (fun _=>cv a2 a8 (stepP c d now r ts).2):=by
 have hfew:=E.h.few;have hftr:=E.h.ftr;have hA:=cS E.h;have hrise:=(cx hb).rise;have fT:=bL env c;have fL:=fun(n:Nat) (t:TrD) (ht:c.trans[n]? =some t) (h0: ¬t.target<0)=>CP env a1 a8 E.he c E.h E.hs r.act (by omega) n t ht hb h0;have fL0:=fun(n:Nat) (t:TrD) (ht:c.trans[n]? =some t) (h0:t.target<0)=>yt env a1 a8 E.he c E.h E.hs r.act (by omega) n t ht hb h0;have hlf:=fun t=>jG E.h r.act t;have hgl:=tJ E.h r.act;have fS:=(fP env c E.h.toRight (goneR c r.act ts) (by have:=hgl ts;omega)).lend (ag (fun _=>rfl) _);have hSl:=cH E.h.toRight (goneR c r.act ts);have hSk:=fun(k:Nat) (hk:k∈sortL c (goneR c r.act ts))=>kS E.h.toRight hk;have fR:=uR env a1 a8 E.he c E.h E.hs r.act (zL (sortL c (goneR c r.act ts))) (by omega) (by rw[an];omega) r.mem hml hFm hb hm hgo;rw[bc]at fR;unfold stepP;simp only;generalize hM:remL c r.act (zL (sortL c (goneR c r.act ts))) r.mem=mem at*;generalize hGG:sortL c (goneR c r.act ts)=G at*;have fTg:=fun(n:Nat) (t:TrD) (ht:c.trans[n]? =some t)=>CO env a1 a8 E.he c E.h E.hs mem hmem2.1 hmem2.2 n t ht hmem;have hto:=CU E.h mem;have hrev:(zL G).reverse=zL G.reverse:=by unfold zL;rw[List.map_reverse]
 rw[hrev]at hleg |-;have fLv:=Ex env a1 a2 a8 c d now E { r with mem:=mem } { hr with } (by simp only;omega) G hSk (by omega);have kL:=nc hA (l:=zL G.reverse) E.hd E.hn (r:={ r with mem:=mem }) { hr with };have hal:=fun(r:RunD) hr hl (l:List ActD) hll ha=>xV env a1 a2 a8 c d now E r hr hl l hll ha;have hok:=fun(r:RunD) (hr:RunOk c r) (l:List ActD) ha=>jX E.hd E.hn (l:=l) hr ha;have fS2:=((fP env c E.h.toRight (zL (toR c mem ts)) (by rw[an];have:=hto ts;omega)).lend (ag (fun _=>rfl) _)).seen;rw[bc]at fS2;have hS2l:=cH E.h.toRight (zL (toR c mem ts));have hS2k:=fun(k:Nat) (hk:k∈sortL c (zL (toR c mem ts)))=>kS E.h.toRight hk;have hen:=fun(r2:RunD) hr hrise hl hleg=>vi env a1 a2 a8 c d now E r2 hr hrise hl (sortL c (zL (toR c mem ts))) hS2k (by omega) hleg;generalize hTT:sortL c (zL (toR c mem ts))=T2 at*;unfold aP at fT fS fS2;unfold aJ at fT fL fL0 fR fTg;refine qi func33 call33 ntmps33 results33 ?_;intro vs esc hesc;obtain⟨e0,e1,e2,e3,e4,e5⟩:=es6 hesc;have F:=ai9 RY.eq_1 RYe.eq_1 gr5.eq_1 e0 e1 e2 e3 e4 e5;repeat refine st ?_
 refine aj 5 5 3 1 ?_;refine aj 6 6 3 1 ?_;refine lp (D:=Nat) (fun j vs'=>[(0, .loc 1000 (vs' 1000) 0 0),(1, .seq 1 (ts.map aB)),(5, .row 5 (vs' 5)),(6, .row 6 (vs' 6)),(21, .seq 1 (ts.map aB)),(22,I ts.length),(23,I j)]) (fun j vs'=>(5,⟨1,(goneR c r.act (ts.take j)).map intAV,3,true⟩)::(6,⟨1,[],3,true⟩)::RY c d now r vs') (fun j vs' esc'=>j<=ts.length/\(vs' 1000=vs 1000/\vs' 1002=vs 1002)/\esc' 1000=false/\esc' 1001=false/\esc' 1002=false/\esc' 1003=false/\esc' 1004=false/\esc' 1005=false/\esc' 5=false/\esc' 6=false) (fun j=>ts.length-j) 0 ⟨Kj _,by simp only[go_sem,Kk],by simp only[go_sem,e0,e1,e2,e3,e4,e5,Kk]⟩ ?_;try clear e0 e1 e2 e3 e4 e5
 rintro j ws es ⟨hj,⟨v0,v2⟩,e0,e1,e2,e3,e4,e5,e6,e7⟩;by_cases hlt:j<ts.length
 ·obtain⟨n,hx⟩:=gE hlt;obtain⟨t,ht⟩:=hts n (K4 hx);have q1:=nlt hlt;have q2:=aD hlt (by omega);have hlft:=hlf t;have q4:(goneR c r.act (ts.take (j+1))).map intAV=(goneR c r.act (ts.take j)).map intAV++(leaveR c r.act t).map intAV:=by rw[vO hx ht,Ka]
  have q3:(goneR c r.act (ts.take j)).length<=32*j:=Km (hgl _) (by rw[Kg];omega);generalize goneR c r.act (ts.take j)=A at*;by_cases h0:t.target<0
  ·have f0:=fL0 n t ht h0;have hz:leaveR c r.act t=[]:=by unfold leaveR;rw[K5 h0]
   rw[hz,MD,Lo]at q4;have q5:Fits A.length 8:=aC (by omega) (by omega);have F:=ai12 RY.eq_1 RYe.eq_1 aB.eq_1 gr5.eq_1 hx q1 q2 q5 e0 e1 e2<|ai5 e3 e4 e5 e6 e7;repeat refine st ?_
   refine iL [(1001,1001)] f0 ?_;repeat refine st ?_
   refine⟨j+1,⟨hlt,by simp only[go_sem,v0,v2,Kk],by simp only[go_sem,e0,e1,e2,e3,e4,e5,e6,e7,Kk]⟩,?_,?_,by omega⟩
   ·exact qe
   ·simp only[q4];exact qe
  ·have f0:=fL n t ht h0;have q5:Fits (A.length+(leaveR c r.act t).length) 8:=aC (by omega) (by omega);generalize leaveR c r.act t=Lv at*;refine vt 9001 rfl ?_;have F:=ai12 RY.eq_1 RYe.eq_1 aB.eq_1 gr5.eq_1 hx q1 q2 q5 e0 e1 e2<|ai5 e3 e4 e5 e6 e7;repeat refine st ?_
   refine iL [(1001,1001),(35,9001)] f0 ?_;repeat refine st ?_
   refine⟨j+1,⟨hlt,by simp only[go_sem,v0,v2,Kk],by simp only[go_sem,e0,e1,e2,e3,e4,e5,e6,e7,Kk]⟩,?_,?_,by omega⟩
   ·exact qe
   ·simp only[q4];exact qe
 ·obtain rfl:j=ts.length:=by omega
  have q1:=nl ts.length;rw[Kt];have F:=ai12 RY.eq_1 RYe.eq_1 gr5.eq_1 q1 e0 e1 e2 e3 e4 e5 e6 e7;repeat refine tz1 fT ?_
  refine lL fS ?_;repeat refine st ?_
  refine iL [(1001,1001),(1006,54)] fR ?_;repeat refine st ?_
  refine lp (D:=Nat) (fun j vs'=>[(0, .loc 1000 (vs' 1000) 0 0),(1, .seq 1 (ts.map aB)),(5, .row 54 (vs' 54)),(6, .row 6 (vs' 6)),(11,memsAV mem),(82, .seq 1 (ts.map aB)),(83,I ts.length),(84,I j)]) (fun j vs'=>(54,⟨1,G.map aB,3,true⟩)::(6,⟨1,(toR c mem (ts.take j)).map aB,3,true⟩)::RY c d now { r with mem:=mem } vs') (fun j vs' esc'=>j<=ts.length/\(vs' 1000=vs 1000/\vs' 1002=vs 1002)/\esc' 1000=false/\esc' 1001=false/\esc' 1002=false/\esc' 1003=false/\esc' 1004=false/\esc' 1005=false/\esc' 54=false/\esc' 6=false) (fun j=>ts.length-j) 0 ⟨Kj _,by simp only[go_sem,v0,v2,Kk],by simp only[go_sem,e0,e1,e2,e3,e4,e5,e7,Kk]⟩ ?_;try clear e0 e1 e2 e3 e4 e5 e6 e7 v0 v2
  rintro j us fs ⟨hj,⟨v0,v2⟩,e0,e1,e2,e3,e4,e5,e6,e7⟩;by_cases hlt:j<ts.length
  ·obtain⟨n,hx⟩:=gE hlt;obtain⟨t,ht⟩:=hts n (K4 hx);have q1:=nlt hlt;have q2:=aD hlt (by omega);have f0:=fTg n t ht;have q4:(toR c mem (ts.take (j+1))).map aB=(toR c mem (ts.take j)).map aB++(targetR c t mem).map aB:=by rw[qg hx ht,Ka]
   have q3:(toR c mem (ts.take j)).length<=32*j:=Km (hto _) (by rw[Kg];omega);have q6:(toR c mem (ts.take (j+1))).length<=32*(j+1):=Km (hto _) (by rw[Kg];omega);rw[qg hx ht,K8]at q6;generalize targetR c t mem=Tg at*;generalize toR c mem (ts.take j)=A at*;have q5:Fits (A.length+Tg.length) 8:=aC (by omega) (by omega);have F:=ai12 RY.eq_1 RYe.eq_1 aB.eq_1 gr5.eq_1 hx q1 q2 q5 e0 e1 e2<|ai5 e3 e4 e5 e6 e7;repeat refine tz1 f0 ?_
   refine⟨j+1,⟨hlt,by simp only[go_sem,v0,v2,Kk],by simp only[go_sem,e0,e1,e2,e3,e4,e5,e6,e7,Kk]⟩,?_,?_,by omega⟩
   ·exact qe
   ·simp only[q4];exact qe
  obtain rfl:j=ts.length:=by omega
  have q1:=nl ts.length;rw[Kt];try clear fL fL0 fTg fS fR
  rcases hX:bP c d now { r with mem:=mem } (zL G.reverse) with⟨r1,_|⟨k,ps⟩⟩
  ·rw[hX]at fLv kL;obtain⟨kr,kmm,_,kact⟩:=kL;have kact:=kact rfl;simp only at kr kmm kact;have hact1:r1.act.length<=100:=by rw[kact];exact Km (Kq ..) hl
   have hrise1:r1.act.Pairwise (· < ·):=by rw[kact];exact hrise.sublist Lp
   have hlegr: ∀r2:RunD,RunOk c r2->r2.act=r1.act->(ak c d now r2 [] (zL T2)).1.2=none->lgB c (ak c d now r2 [] (zL T2)).1.1.act=true:=fun r2 k1 k2=>hleg r2 k1 (by rw[k2,kact]);unfold cv RYs RY RYe at fLv;simp only at fLv |-;have F:=ai12 RY.eq_1 RYe.eq_1 gr5.eq_1 q1 e0 e1 e2 e3 e4 e5 e6 e7;repeat refine st ?_
   refine iL [(1000,1000),(1001,1001),(1002,1002),(1003,1003),(1004,1004),(1005,1005),(1006,54)] fLv ?_;repeat refine st ?_
   refine lp (D:=Nat×RunD) (fun x vs'=>[(0, .loc 1000 (vs' 1000) 0 0),(6, .row 6 (vs' 6)),(111, .seq 1 (ts.map aB)),(112,I ts.length),(113,I x.1)]) (fun x vs'=>(6,⟨1,(toR c mem ts).map aB,3,true⟩)::RY c d now x.2 vs') (fun x vs' esc'=>(x.1<=ts.length/\da c d now r1 ts=da c d now x.2 (ts.drop x.1)/\RunOk c x.2/\x.2.act=r1.act)/\(vs' 1000=vs 1000/\vs' 1002=vs 1002)/\esc' 1000=false/\esc' 1001=false/\esc' 1002=false/\esc' 1003=false/\esc' 1004=false/\esc' 1005=false/\esc' 6=false) (fun x=>ts.length-x.1) (0,r1) ⟨⟨Kj _,rfl,kr,rfl⟩,by simp only[go_sem,v0,v2,Kk],by simp only[go_sem,e0,e1,e2,e3,e4,e5,e7,Kk]⟩ ?_;try clear e0 e1 e2 e3 e4 e5 e6 e7 v0 v2
   rintro⟨j,r2⟩ us fs ⟨⟨hj,heq,hr2,hact2⟩,⟨v0,v2⟩,e0,e1,e2,e3,e4,e5,e7⟩;simp only at hj heq hr2 hact2;by_cases hlt:j<ts.length
   ·obtain⟨n,hx⟩:=gE hlt;obtain⟨t,ht⟩:=hts n (K4 hx);obtain⟨s1,s2⟩:=Cf E.h ht;have hn:=(K0.1 ht).1;have f0:=hal r2 hr2 (by rw[hact2];omega) t.acts (by omega) s2;obtain⟨k1,k2⟩:=hok r2 hr2 t.acts s2;have q1:=nlt hlt;have q2:=aD hlt (by omega);have q3:=nlt hn;rw[vx hx ht]at heq;rcases hY:allP c d now r2 t.acts with⟨r3,_|⟨k,ps⟩⟩
    ·rw[hY]at heq f0 k1 k2;simp only at heq k1 k2;unfold cv RY RYe at f0;simp only at f0;have F:=ai12 RY.eq_1 RYe.eq_1 az.eq_1 aB.eq_1 actsAV.eq_1 gr5.eq_1 hx ht q1 q2 q3<|ai7 e0 e1 e2 e3 e4 e5 e7;repeat refine st ?_
     refine iL L6 f0 ?_;repeat refine st ?_
     exact qn (j+1,r3) ⟨⟨hlt,heq,k1,k2.act.trans hact2⟩,by simp only[go_sem,v0,v2,Kk],by simp only[go_sem,e0,e1,e2,e3,e4,e5,e7,Kk]⟩
    ·rw[hY]at heq f0;simp only at heq;unfold cv RY RYe at f0;simp only at f0;rw[heq];show awp _ _ _ _ _ _;unfold cv;simp only;have F:=ai12 RY.eq_1 RYe.eq_1 az.eq_1 aB.eq_1 actsAV.eq_1 gr5.eq_1 hx ht q1 q2 q3<|ai9 v0 v2 e0 e1 e2 e3 e4 e5 e7;repeat refine st ?_
     refine iL L6 f0 ?_;repeat refine st ?_
     exact rI
   ·obtain rfl:j=ts.length:=by omega
    have q1:=nl ts.length;rw[Ls]at heq;rw[show da c d now r2 []=(r2,none) from rfl]at heq;rw[heq];simp only;have f9:=hen r2 hr2 (by rw[hact2];exact hrise1) (by rw[hact2];omega) (hlegr r2 hr2 hact2);generalize enterP c d now r2 (zL T2)=X at*;unfold RY RYe at f9;have F:=ai12 RY.eq_1 RYe.eq_1 gr5.eq_1 eW q1 v0 v2 e0 e1 e2 e3<|ai3 e4 e5 e7;repeat refine tz1 fT ?_
    refine lL fS2 ?_;repeat refine st ?_
    refine iL L6 f9 ?_;repeat refine st ?_
    exact rI
  ·rw[hX]at fLv;unfold cv RYs RY RYe at fLv;simp only at fLv |-;show awp _ _ _ _ _ _;unfold cv;simp only;have F:=ai12 RY.eq_1 RYe.eq_1 gr5.eq_1 q1 v0 v2 e0 e1 e2 e3 e4<|ai3 e5 e6 e7;repeat refine st ?_
   refine iL [(1000,1000),(1001,1001),(1002,1002),(1003,1003),(1004,1004),(1005,1005),(1006,54)] fLv ?_;repeat refine st ?_
   exact rI
end
section
theorem H1 (l:List Int) (x:Int):l.reverse.contains x=l.contains x:=by
 rw[LC,K6,K6,Ns]
theorem GW (c:ChD) (act gone:List Int) (mem:List MemD):Av c act gone.reverse mem=Av c act gone mem:=by
 have e:refV c act gone.reverse mem=refV c act gone mem:=by
  funext h
  unfold refV;split
  ·rw[H1]
  ·rfl
 unfold Av eL;rw[e]
theorem E4 (env:Env) (l:List Int) (hl:l.length<=4000) (n:Int):Con prog env 40 [.seq 1 (l.map intAV),I n] (.own 3 1 ((l.filter fun k=> !(k==n)).map intAV)):=by
 refine qf func40 call40 ntmps40 results40 ?_;repeat refine st0 ?_
 refine lq0 l.length (by omega) (fun j vs=>[(0, .seq 1 (l.map intAV)),(1,I n),(5, .row 7 (vs 7)),(6,I j)]) (fun j vs=>[(7,⟨1,((l.take j).filter fun k=> !(k==n)).map intAV,3,true⟩)]) (fun j _ esc=>esc 7=false) (by simp only[go_sem]) ?_ ?_
 ·rintro j ws es hlt q1 q2 e0;obtain⟨x,hx⟩:=gE hlt;have hle:((l.take j).filter fun k=> !(k==n)).length<=j:=Km (Kq ..) (by rw[Kg];omega);have q3:Fits (((l.take j).filter fun k=> !(k==n)).length+1) 8:=aC (by omega) (by omega);cases hb:x==n with
  | true=>
    have q4:(l.take (j+1)).filter (fun k=> !(k==n))=(l.take j).filter fun k=> !(k==n):=by rw[bQ hx,LE];simp[hb]
    have hb2:(x != n)=false:=by unfold bne;rw[hb];rfl
    have F:=ai6 intAV.eq_1 hx hb2 q1 q2 e0;repeat refine st ?_
    refine⟨j+1,⟨hlt,by simp only[go_sem,e0]⟩,?_,?_,by omega⟩
    ·exact qe
    ·simp only[q4];exact qe
  | false=>
    have q4:((l.take (j+1)).filter (fun k=> !(k==n))).map intAV=((l.take j).filter fun k=> !(k==n)).map intAV++[intAV x]:=by rw[bQ hx,LE];simp[hb]
    have hb2:(x != n)=true:=by unfold bne;rw[hb];rfl
    have F:=ai7 intAV.eq_1 hx hb2 q1 q2 q3 e0;repeat refine st ?_
    refine⟨j+1,⟨hlt,by simp only[go_sem,e0]⟩,?_,?_,by omega⟩
    ·exact qe
    ·simp only[q4];exact qe
 ·rintro ws es q1 e0;rw[Kt];have F:=ai q1 e0;repeat refine st ?_
  exact aR
theorem yX (env:Env) (c:ChD) (h:Full c) (d now:Int) (r:RunD) (G:List Nat) (k:Nat) (ps:List Int) (hk:((k:Int)==0)=false):Con prog env 41 [.agg (aA c), .agg (rrA r d now (some (k,ps))), .seq 1 (G.map aB)] (.agg (rrA r d now (some (k,ps)))):=by
 have fW:=qz env c h;generalize walkL c (-1)=W at*;unfold rrA;unfold aA at fW;by_cases q0:(0:Int)< (G.length:Int)
 ·by_cases q2:(0:Int)< (W.length:Int)
  ·refine qf func41 call41 ntmps41 results41 ?_;have F:=ai4 aA.eq_1 hk q0 q2;repeat (first|refine aS ?_|refine st ?_|refine cC fW ?_|refine aN 40 ?_)
   exact aR
  ·refine qf func41 call41 ntmps41 results41 ?_;have F:=ai4 aA.eq_1 hk q0 q2;repeat (first|refine aS ?_|refine st ?_|refine cC fW ?_|refine aN 40 ?_)
   exact aR
 ·by_cases q2:(0:Int)< (W.length:Int)
  ·refine qf func41 call41 ntmps41 results41 ?_;have F:=ai4 aA.eq_1 hk q0 q2;repeat (first|refine aS ?_|refine st ?_|refine cC fW ?_|refine aN 40 ?_)
   exact aR
  ·refine qf func41 call41 ntmps41 results41 ?_;have F:=ai4 aA.eq_1 hk q0 q2;repeat (first|refine aS ?_|refine st ?_|refine cC fW ?_|refine aN 40 ?_)
   exact aR
end
section
theorem yN (c:ChD) (act gone:List Int) (mem:List MemD) (j:Nat):eL c act gone mem (j+1)=if (refV c act gone mem j).isEmpty=true then eL c act gone mem j else eL c act gone mem j++[((j:Int),refV c act gone mem j)]:=by
 unfold eL;rw[Mb,LE,Ka];cases he:(refV c act gone mem j).isEmpty<;>simp[he]
theorem Au (c:ChD) (act gone:List Int) (mem:List MemD) (j:Nat):(eL c act gone mem j).length<=j:=by
 unfold eL;rw[Ko];exact Km (Kq ..) (by rw[ND];exact Kc _)
theorem B7 {p:Int->Bool} {K:List Int} {q:Nat} {u:Int} (h:K[q]? =some u):(K.take (q+1)).filter p=if p u=true then(K.take q).filter p++[u] else(K.take q).filter p:=by
 rw[Ky,h,LE];cases hb:p u<;>simp[hb]
def keptTo (act Z:List Int) (q:Nat):List Int:=(Z.take q).filter fun k=>act.contains k
theorem FF {act Z:List Int} {q:Nat} {u:Int} (h:Z[q]? =some u):keptTo act Z (q+1)=if act.contains u=true then keptTo act Z q++[u] else keptTo act Z q:=B7 h
theorem tu (env:Env) (c:ChD) (h:Full c) (act gone:List Int) (hl:act.length<=1000000) (hz: ∀x∈act,0<=x) (hgl:gone.length<=1000000) (mem:List MemD) (hml:mem.length<=1000000):Con prog env 37 [.agg (aA c), .seq 1 (act.map intAV), .seq 1 (gone.map intAV),memsAV mem] (.own 134 2 ((Av c act gone mem).map mmAV)):=by
 have hlen:=h.few;have fK:=fun(i:Int)=>bj env c i true (by omega);have fU:=fun(i:Int)=>mf env c h.toRight act hl hz i;have hUl:=fun(i:Int)=>(show (undR c act i).length<=32 from Km (Kq ..) (by rw[an];exact cH h.toRight act));have fI:=fun(i:Int)=>yV env c h (undR c act i) (by have:=hUl i;omega);unfold aA at fK fU fI;show Con _ _ _ _ (.own _ 2 ((eL c act gone mem c.states.length).map mmAV));refine qf func37 call37 ntmps37 results37 ?_;have F:=aA.eq_1;repeat refine st ?_
 have F:=aA.eq_1;refine lq c.states.length (by omega) (fun j vs=>[(1, .seq 1 (act.map intAV)),(2, .seq 1 (gone.map intAV)),(3,memsAV mem),(4, .loc 4 (vs 4) 0 0),(9, .row 15 (vs 15)),(10,I j)]) (fun j _=>[(4,⟨5,[aA c],26,false⟩),(15,⟨2,(eL c act gone mem j).map mmAV,134,true⟩)]) (fun j _ esc=>esc 15=false) rfl ?_ ?_
 ·rintro j ws esc hlt q1 q2 e0;obtain⟨s,hsk⟩:=gE hlt;have f0:=bf env s;have hn:=yN c act gone mem j;have hle:=Au c act gone mem j;have hV:refV c act gone mem j=if aT s=true then(if gone.contains s.parent=true then(if s.kind=5 then zL (Hq c (undR c act s.parent)) else(kidZ c s.parent).filter fun k=>act.contains k) else ofL mem (j:Int)) else []:=by unfold refV;rw[hsk];rfl
  unfold aK at f0;generalize refV c act gone mem j=V at*;cases hm:aT s with
  | false=>
    rw[hm]at f0 hV;rw[K2 LO]at hV;rw[hV]at hn;rw[K5 (show ([]:List Int).isEmpty=true from rfl)]at hn;have F:=ai6 aA.eq_1 aK.eq_1 hsk q1 q2 e0;repeat refine tz1 f0 ?_
    refine⟨j+1,⟨hlt,by simp only[go_sem,e0]⟩,?_,?_,by omega⟩
    ·exact qe
    ·have F:=ai aA.eq_1 hn;exact qe
  | true=>
    rw[hm]at f0 hV;rw[K5 rfl]at hV;have f1:=Cm env mem (j:Int) hml;have f2:=cL env gone s.parent hgl;have f3:=fU s.parent;have f4:=fI s.parent;have f5:=fK s.parent;have hKl:=bD h.toRight s.parent true;have hfa: ∀(u:Int),_:=fun u=>cL env act u hl;have hVZ:kidZ c s.parent=zL (kidsL c s.parent true):=rfl;generalize kidsL c s.parent true=K at*;rw[hVZ]at hV;have F:=ai5 aA.eq_1 aK.eq_1 hsk q1 e0;repeat refine tz3 f0 f1 f2 ?_
    refine Dj (D:=Unit) (fun _ vs=>[(1, .seq 1 (act.map intAV)),(2, .seq 1 (gone.map intAV)),(3,memsAV mem),(4, .loc 4 (vs 4) 0 0),(9, .row 15 (vs 15)),(10,I j),(12, .seq 1 (V.map intAV))]) (fun _ _=>[(4,⟨5,[aA c],26,false⟩),(15,⟨2,(eL c act gone mem j).map mmAV,134,true⟩)]) (fun _ _ esc=>esc 15=false) ?_ ?_
    ·refine dh ?_;cases hg:gone.contains s.parent with
     | false=>
       rw[hg,K2 LO]at hV;rw[hV];have F:=hg;repeat refine st ?_
       refine⟨_,Turned.refl _,(),by simp only[go_sem,e0],?_,?_⟩
       ·exact qe
       ·have F:=aA.eq_1;exact qe
     | true=>
       rw[hg,K5 rfl]at hV;by_cases hk5:s.kind=5
       ·have b5:(s.kind==5)=true:=by simp[hk5]
        rw[K5 hk5]at hV;rw[hV];have F:=ai4 aA.eq_1 aK.eq_1 hg b5;repeat refine tz2 f3 f4 ?_
        refine⟨_,Turned.frozen 47 12 ⟨1,(Hq c (undR c act s.parent)).map aB,3,true⟩ rfl (LL 0) (by simp only[go_sem]) (by simp only[go_sem]),(),by simp only[go_sem,e0],?_,?_⟩
        ·have F:=bc;exact qe
        ·have F:=aA.eq_1;exact qe
       ·have b5:(s.kind==5)=false:=by simpa using hk5
        rw[K2 hk5]at hV;have F:=ai4 aA.eq_1 aK.eq_1 hg b5;repeat refine tz1 f5 ?_
        have F:=aA.eq_1;refine lq K.length (by omega) (fun q vs=>[(1, .seq 1 (act.map intAV)),(2, .seq 1 (gone.map intAV)),(3,memsAV mem),(4, .loc 4 (vs 4) 0 0),(9, .row 15 (vs 15)),(10,I j),(12, .row 52 (vs 52)),(13, .row 51 (vs 51)),(14,I q)]) (fun q _=>[(4,⟨5,[aA c],26,false⟩),(15,⟨2,(eL c act gone mem j).map mmAV,134,true⟩),(51,⟨1,K.map aB,3,true⟩),(52,⟨1,(keptTo act (zL K) q).map intAV,3,true⟩)]) (fun q _ esc=>esc 15=false/\esc 52=false) ⟨by simp only[go_sem,e0],by simp only[go_sem]⟩ ?_ ?_
        ·rintro q xs fs hlt3 r1 r2 ⟨e1,e2⟩;obtain⟨u,hu⟩:=gE hlt3;have g0:=hfa (u:Int);have huz:(zL K)[q]? =some (u:Int):=by unfold zL;rw[K9,hu];rfl
         have hks:=FF (act:=act) huz;have hkl:(keptTo act (zL K) q).length<=32:=Km (Kq ..) (by rw[Kg];omega);have hf:Fits ((keptTo act (zL K) q).length+1) 8:=aC (by omega) (by omega);generalize keptTo act (zL K) q=X at*;cases hc:act.contains (u:Int) with
         | false=>
           rw[hc]at g0 hks;rw[K2 LO]at hks;have F:=ai6 aB.eq_1 hu r1 r2 e1 e2;repeat refine tz1 g0 ?_
           refine⟨q+1,⟨hlt3,by simp only[go_sem,e1],by simp only[go_sem,e2]⟩,?_,?_,by omega⟩
           ·exact qe
           ·have F:=ai aA.eq_1 hks;exact qe
         | true=>
           rw[hc]at g0 hks;rw[K5 rfl]at hks;have F:=ai7 aB.eq_1 hu r1 r2 e1 e2 hf;repeat refine tz1 g0 ?_
           refine⟨q+1,⟨hlt3,by simp only[go_sem,e1],by simp only[go_sem,e2]⟩,?_,?_,by omega⟩
           ·exact qe
           ·have F:=ai4 aA.eq_1 aB.eq_1 hks @Ka.{0,0};exact qe
        ·rintro xs fs r1 ⟨e1,e2⟩;have hta:keptTo act (zL K) K.length=V:=by unfold keptTo;rw[LU (by rw[an];exact Kc _)];exact hV.symm
         rw[hta];have F:=ai3 r1 e1 e2;repeat refine st ?_
         refine⟨_,Turned.frozen 52 12 ⟨1,V.map intAV,3,true⟩ rfl (LL 0) (by simp only[go_sem]) (by simp only[go_sem]),(),by simp only[go_sem,e1],?_,?_⟩
         ·exact qe
         ·have F:=aA.eq_1;exact qe
    ·clear e0;rintro-us es e0;cases hve:V.isEmpty with
     | true=>
       rw[hve,K5 rfl]at hn;have hV0:V.length=0:=by simpa using hve
       have p1: ¬(0:Int)< (V.length:Int):=by omega
       have F:=ai3 p1 q2 e0;repeat refine st ?_
       refine⟨j+1,⟨hlt,by simp only[go_sem,e0]⟩,?_,?_,by omega⟩
       ·exact qe
       ·have F:=ai aA.eq_1 hn;exact qe
     | false=>
       rw[hve,K2 LO]at hn
       have hV0:V.length≠0:=by
        intro e;rw[Lz.1 e]at hve;cases hve
       have p1:(0:Int)< (V.length:Int):=by omega
       have hf:Fits ((eL c act gone mem j).length+1) 32:=aC (by omega) (by omega);have F:=ai4 p1 q2 e0 hf;repeat refine st ?_
       refine⟨j+1,⟨hlt,by simp only[go_sem,e0]⟩,?_,?_,by omega⟩
       ·exact qe
       ·have F:=ai4 aA.eq_1 mmAV.eq_1 hn @Ka.{0,0};exact qe
 ·rintro ws esc q1 e0;have F:=ai3 aA.eq_1 q1 e0;repeat refine st ?_
  exact aR
end
section
end
section
theorem kP (env:Env) (es:List (List AV)) (hl:Fits es.length 8):Con prog env 70 [.seq 1 es] (.own 3 1 es):=by
 cases es with
 | nil=>
   refine Con.empty fun A cap=> ?_;cases A with
   | none=>
     refine qw func70 call70 ntmps70 results70 ?_;repeat refine st0 ?_
     (refine aM ?_;refine⟨_,(by show (ae _ _ _).run _=some _;simp only[go_sem];rfl),?_⟩)
     exact fo.own_nil _ _ (by decide)
   | some A=>
     refine qf func70 call70 ntmps70 results70 ?_;repeat refine st0 ?_
     exact aR0
 | cons d l=>
   have g1:Fits (l.length+1) 8:=hl;refine qf func70 call70 ntmps70 results70 ?_;have F:=g1;repeat refine st ?_
   exact aR
theorem ym (env:Env) (es:List (List AV)) (hl:Fits es.length 24):Con prog env 71 [.seq 2 es] (.own 92 2 es):=by
 cases es with
 | nil=>
   refine Con.empty fun A cap=> ?_;cases A with
   | none=>
     refine qw func71 call71 ntmps71 results71 ?_;repeat refine st0 ?_
     (refine aM ?_;refine⟨_,(by show (ae _ _ _).run _=some _;simp only[go_sem];rfl),?_⟩)
     exact fo.own_nil _ _ (by decide)
   | some A=>
     refine qf func71 call71 ntmps71 results71 ?_;repeat refine st0 ?_
     exact aR0
 | cons d l=>
   have g1:Fits (l.length+1) 24:=hl;refine qf func71 call71 ntmps71 results71 ?_;have F:=g1;repeat refine st ?_
   exact aR
end
section
theorem Iz (env:Env) (a1 a8:Addr) (he:ChEnv env a1 a8) (c:ChD) (h:Full c) (hsm:Small c) (d now:Int) (r:RunD) (hl:r.act.length<=1000) (hb:lgB c r.act=true) (l:List Nat) (hF:Fit c r.act l) (hll:l.length<=1000):
 ConI prog env 31 [1000,1001,1002,1003,1004,1005] (fun _=>false) (fun g=>[.loc 1000 (g 1000) 0 0, .seq 1 (l.map aB)]) (RY c d now r) (RY c d now r) (fun _=>B true):=by
 have htr:=h.ftr
 have fC:=fun(n:Nat) (t:TrD) (ht:c.trans[n]? =some t) (hs:t.src∈r.act)=>by
  have:=bG env r.act t.src (by omega);rw[K6.2 hs]at this;exact this.lend rfl
 have fK:=fun(a b:Nat) ha hbb=>(nF env a1 a8 he c h hsm r.act (by omega) hb a b ha hbb).lend rfl;have htwo:=LQ.1 hF.two;unfold aJ at fK;refine qi func31 call31 ntmps31 results31 ?_;intro vs esc hesc;obtain⟨e0,e1,e2,e3,e4,e5⟩:=es6 hesc;have F:=ai8 RY.eq_1 RYe.eq_1 e0 e1 e2 e3 e4 e5;repeat refine st ?_
 refine lq l.length (by omega) (fun i vs'=>[(0, .loc 1000 (vs' 1000) 0 0),(1, .seq 1 (l.map aB)),(9, .seq 1 (l.map aB)),(10,I l.length),(11,I i)]) (fun i vs'=>RY c d now r vs') (fun i vs' esc'=>(vs' 1000=vs 1000/\vs' 1001=vs 1001/\vs' 1002=vs 1002/\vs' 1003=vs 1003/\vs' 1004=vs 1004/\vs' 1005=vs 1005)/\esc' 1000=false/\esc' 1001=false/\esc' 1002=false/\esc' 1003=false/\esc' 1004=false/\esc' 1005=false) ⟨by simp only[go_sem,Kk],by simp only[go_sem,e0,e1,e2,e3,e4,e5,Kk]⟩ ?_ ?_
 ·try clear e0 e1 e2 e3 e4 e5
  rintro i ws es hlt q1 q2 ⟨⟨v0,v1,v2,v3,v4,v5⟩,e0,e1,e2,e3,e4,e5⟩;obtain⟨n,hx⟩:=gE hlt;obtain⟨t,ht,hs⟩:=hF.real n (K4 hx);have hn:=(K0.1 ht).1;have f0:=fC n t ht hs;have q3: ¬(n:Int)<0:=by omega
  have q4: ¬(c.trans.length:Int)<=(n:Int):=by omega
  have q5:(n:Int)< (c.trans.length:Int):=by omega
  have q6:(l.take i).length=i:=by rw[Kg];omega
  have q7:(i:Int)<=(l.length:Int):=by omega
  have F:=ai12 az.eq_1 aB.eq_1 RY.eq_1 RYe.eq_1 hx ht q1 q3 q4 q5 q7<|ai6 e0 e1 e2 e3 e4 e5;repeat refine st ?_
  refine lL f0 ?_;repeat refine st ?_
  generalize hT:l.take i=T at*;refine lp (D:=Nat) (fun j vs'=>[(0, .loc 1000 (vs' 1000) 0 0),(1, .seq 1 (l.map aB)),(6,I n),(9, .seq 1 (l.map aB)),(10,I l.length),(11,I i),(48, .seq 1 (T.map aB)),(49,I T.length),(50,I j)]) (fun j vs'=>RY c d now r vs') (fun j vs' esc'=>j<=i/\(vs' 1000=vs 1000/\vs' 1001=vs 1001/\vs' 1002=vs 1002/\vs' 1003=vs 1003/\vs' 1004=vs 1004/\vs' 1005=vs 1005)/\esc' 1000=false/\esc' 1001=false/\esc' 1002=false/\esc' 1003=false/\esc' 1004=false/\esc' 1005=false) (fun j=>i-j) 0 ⟨Kj _,by simp only[go_sem,v0,v1,v2,v3,v4,v5,Kk],by simp only[go_sem,e0,e1,e2,e3,e4,e5,Kk]⟩ ?_;try clear e0 e1 e2 e3 e4 e5 v0 v1 v2 v3 v4 v5
  rintro j us fs ⟨hj,⟨v0,v1,v2,v3,v4,v5⟩,e0,e1,e2,e3,e4,e5⟩;by_cases hlt2:j<i
  ·obtain⟨k,hk⟩: ∃a,T[j]? =some a:=⟨T[j]'(by omega),KZ (by omega)⟩;have hk2:l[j]? =some k:=by rw[<-hT,LG,K5 hlt2]at hk;exact hk
   obtain⟨tk,htk,_⟩:=hF.real k (K4 hk2);have hkn:=(K0.1 htk).1;have hp:=htwo j i (by omega) hlt hlt2;rw[(K0.1 hk2).2,(K0.1 hx).2]at hp;have f1:=fK k n hkn hn;rw[hp.2]at f1;have p1:(j:Int)< (T.length:Int):=by omega
   have p2:IntKind.i64.wrap ((j:Int)+1)=((j+1:Nat):Int):=aD (show j<l.length by omega) (by omega);have p3:((k:Int)==(n:Int))=false:=by have:=hp.1;simp;omega
   have F:=ai12 aB.eq_1 RY.eq_1 RYe.eq_1 hk p1 p2 p3 e0 e1 e2 e3<|ai e4 e5;repeat refine st ?_
   refine lL f1 ?_;repeat refine st ?_
   exact qn (j+1) ⟨hlt2,by simp only[go_sem,v0,v1,v2,v3,v4,v5,Kk],by simp only[go_sem,e0,e1,e2,e3,e4,e5,Kk]⟩
  ·obtain rfl:j=i:=by omega
   have p1: ¬(j:Int)< (T.length:Int):=by omega
   have F:=ai10 RY.eq_1 RYe.eq_1 p1 q2 e0 e1 e2 e3 e4 e5;repeat refine st ?_
   exact qn (j+1) ⟨hlt,by simp only[go_sem,v0,v1,v2,v3,v4,v5,Kk],by simp only[go_sem,e0,e1,e2,e3,e4,e5,Kk]⟩
 ·try clear e0 e1 e2 e3 e4 e5
  rintro ws es q1 ⟨⟨v0,v1,v2,v3,v4,v5⟩,e0,e1,e2,e3,e4,e5⟩;have F:=ai12 RY.eq_1 RYe.eq_1 q1 v0 v1 v2 v3 v4 v5 e0 e1<|ai4 e2 e3 e4 e5;repeat refine st ?_
  exact rI
end

end Go.Proofs.YtdpjgflalmnkdaaGreatDoor