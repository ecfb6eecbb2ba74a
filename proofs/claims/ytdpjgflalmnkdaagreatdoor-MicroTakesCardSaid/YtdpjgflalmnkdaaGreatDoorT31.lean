/- The document's word on a step. -/
import Derived.Test.YtdpjgflalmnkdaaGreatDoorT30
set_option maxRecDepth 100000
set_option maxHeartbeats 16000000
set_option linter.unusedSimpArgs false
namespace Go.Proofs.YtdpjgflalmnkdaaGreatDoor
open Go.Proofs.Tryz
open Go.RowKit
section
def qQ (c:ChD) (t:TrD):Int:=domE c t.src t.target
def mY (c:ChD) (t:TrD) (x:Int):Prop:=0<=t.target/\aboveB c (qQ c t) x=true
def ToT (c:ChD) (mem:List MemD) (t:TrD) (x:Int):Prop:=0<=t.target/\Gr c (upsL c (leadL c t.target mem) (qQ c t)) x
def iC (c:ChD) (act:List Int) (mem:List MemD) (ts:List Nat) (x:Int):Prop:=(x∈act/\ ∀n∈ts,¬mY c (dm c n) x)\/ ∃n∈ts,ToT c mem (dm c n) x
theorem C2 {c:ChD} (h:Full c) {d:Int} {P:List Int} (hu: ∀k∈P,aboveB c d k=true) {x:Int} (g:Gr c P x):aboveB c d x=true:=by
 have hr:=h.toRight
 induction g with
 |base hx=>exact hu _ hx
 | ini g hp hn h0 ih=>
   have hk:=iK h hp h0;obtain⟨k1,k2,_⟩:=bK hr hk;exact(aZ hr k1).2 (.inr (by rw[k2];exact ih))
 | par g hp hk ih=>
   obtain⟨k1,k2,_⟩:=bK hr hk;exact(aZ hr k1).2 (.inr (by rw[k2];exact ih))
theorem JG {c:ChD} {act:List Int} {a b:Nat} {x:Int} (h1:x∈leaveR c act (dm c a)) (h2:x∈leaveR c act (dm c b)):eH c act a b=true:=by
 unfold eH;rw[Lj];exact⟨x,h1,K6.2 h2⟩
structure TrOk (c:ChD) (act:List Int) (mem:List MemD) (t:TrD):Prop where
 src:t.src∈act
 bel:0<=t.target->aboveB c (qQ c t) t.src=true
 dom:0<=t.target->qQ c t= -1\/(qQ c t∈act/\ah c (qQ c t)=true)
 uni:0<=t.target->Uni c (qQ c t) (upsL c (leadL c t.target mem) (qQ c t))
 left: ∀x,x∈leaveR c act t↔x∈act/\mY c t x
 to: ∀x,x∈zL (targetR c t mem)↔ToT c mem t x
theorem wm {c:ChD} (h:Full c) {act:List Int} (hb:lgB c act=true) {mem:List MemD} (hm:bU c mem=true) {n:Nat} {t:TrD} (ht:c.trans[n]? =some t) (hsrc:t.src∈act):TrOk c act mem t:=by
 obtain⟨s1,s2⟩:=h.src ht;have hg:=cx hb;have hz:0<=t.target->inZ c t.target=true:=fun h0=>s2.resolve_left (by omega);refine⟨hsrc,fun h0=> ?_,fun h0=> ?_,fun h0=> ?_,fun x=> ?_,fun x=> ?_⟩
 ·exact K6.2 (uM h s1 (hz h0)).2.1
 ·obtain⟨_,d2,d3⟩:=uM h s1 (hz h0);exact d3.imp id fun e=>⟨hg.up h.toRight (t.src.toNat+1) t.src _ (by have:=(aH.1 s1).1;omega) hsrc d2 e.1,e.2⟩
 ·obtain⟨d1,_,d3⟩:=uM h s1 (hz h0);exact sr h (hz h0) hm d1 (by unfold qQ;rcases d3 with e|e<;>omega)
 ·by_cases h0:0<=t.target
  ·unfold leaveR;rw[K2 (by omega),Ns];unfold undR
   rw[Ke,jD h.toRight fun y hy=>by
    obtain⟨_,_,hz,_⟩:=hg.of hy
    exact hz]
   exact⟨fun q=>⟨q.1,h0,q.2⟩,fun q=>⟨q.1,q.2.2⟩⟩
  ·unfold leaveR mY;rw[K5 (by omega)];simp[h0]
 ·by_cases h0:0<=t.target
  ·obtain⟨d1,_,d3⟩:=uM h s1 (hz h0);have hu:=sr h (hz h0) hm d1 (by rcases d3 with e|e<;>omega);have hin: ∀y∈upsL c (leadL c t.target mem) (domE c t.src t.target),inZ c y=true:=fun y hy=>aY (hu.bel y hy);have hn:=(gV (c:=c) (d:=domE c t.src t.target) (l:=leadL c t.target mem)).1;unfold targetR GF ToT qQ;rw[K2 (by omega),jD h.toRight fun y hy=>((eS h hn).1 hy).in h hin,eS h hn];exact⟨fun q=>⟨h0,q⟩,fun q=>q.2⟩
  ·unfold targetR ToT;rw[K5 (by omega)];simp[h0,zL]
theorem AQ {c:ChD} (h:Full c) {act:List Int} {mem:List MemD} {a b:Nat} (ha:TrOk c act mem (dm c a)) (hb:TrOk c act mem (dm c b)) (hc:eH c act a b=false) {x:Int} (h1:mY c (dm c a) x) (h2:mY c (dm c b) x):False:=by
 have hr:=h.toRight
 have key: ∀y,y∈act->mY c (dm c a) y->mY c (dm c b) y->False:=fun y hy k1 k2=>by
  have:=JG ((ha.left y).2 ⟨hy,k1⟩) ((hb.left y).2 ⟨hy,k2⟩);rw[hc]at this;cases this
 have hz:=aH.1 (aY h1.2);rcases pE hr (c.states.length) x hz.2 (K6.1 h1.2) (K6.1 h2.2) with e|e|e
 ·exact key _ ha.src ⟨h1.1,ha.bel h1.1⟩ ⟨h2.1,by rw[<-e];exact ha.bel h1.1⟩
 ·exact key _ hb.src ⟨h1.1,ia hr (K6.2 e) (hb.bel h2.1)⟩ ⟨h2.1,hb.bel h2.1⟩
 ·exact key _ ha.src ⟨h1.1,ha.bel h1.1⟩ ⟨h2.1,ia hr (K6.2 e) (ha.bel h1.1)⟩
theorem Fit.front {c:ChD} {act:List Int} {l:List Nat} {n:Nat} (h:Fit c act (l++[n])):Fit c act l/\ ∀k∈l,eH c act k n=false:=by
 obtain⟨h1,_,h3⟩:=NB.1 h.two;exact⟨⟨fun m hm=>h.real m (LW _ hm),h1⟩,fun k hk=>(h3 k hk n (by simp)).2⟩
theorem rQ {c:ChD} (h:Full c) {act:List Int} (hb:lgB c act=true) {mem:List MemD} (hm:bU c mem=true): ∀(m:Nat) (ts:List Nat),ts.length=m->Fit c act ts-> ∃O:List Nat,O.Pairwise (· < ·)/\lgB c (zL O)=true/\ ∀x,x∈zL O↔iC c act mem ts x
 | 0,ts,hl,hf=>by
   obtain rfl:ts=[]:=Lz.1 hl;have hg:=cx hb;obtain⟨l,e,hk⟩:=DC hb
   have hr:l.Pairwise (· < ·):=by
    have:=hg.rise;rw[e]at this;unfold zL at this;exact(Ni.1 this).imp fun h=>by omega
   exact⟨l,hr,by rw[<-e];exact hb,fun x=>by rw[<-e];simp[iC]⟩
 | m+1,ts,hl,hf=>by
   rcases List.eq_nil_or_concat ts with rfl|⟨l,n,rfl⟩
   ·simp at hl
   rw[List.concat_eq_append]at hf hl |-;obtain⟨hf1,hno⟩:=hf.front;obtain⟨O,o1,o2,o3⟩:=rQ h hb hm m l (by simpa using hl) hf1;obtain⟨t,ht,hsrc⟩:=hf.real n (by simp);have hT:=wm h hb hm ht hsrc
   have hok: ∀k∈l,TrOk c act mem (dm c k):=fun k hk=>by
    obtain⟨t',ht',hs'⟩:=hf1.real k hk;rw[eY ht'];exact wm h hb hm ht' hs'
   rw[<-eY ht]at hT;by_cases h0:0<=(dm c n).target
   ·have hgO:=cx o2;have hu:=hT.uni h0;have bel: ∀k∈l,∀x,ToT c mem (dm c k) x->mY c (dm c k) x:=fun k hk x q=>⟨q.1,C2 h ((hok k hk).uni q.1).bel q.2⟩
    have hd:qQ c (dm c n)= -1\/(qQ c (dm c n)∈zL O/\ah c (qQ c (dm c n))=true):=by
     refine(hT.dom h0).imp id fun e=>⟨(o3 _).2 (.inl ⟨e.1,fun k hk hl=> ?_⟩),e.2⟩;exact AQ h (hok k hk) hT (hno k hk) (x:=(dm c n).src) ⟨hl.1,ia h.toRight hl.2 (hT.bel h0)⟩ ⟨h0,hT.bel h0⟩
    classical
    let O':List Nat:=(List.range c.states.length).filter fun k:Nat=>decide (iC c act mem (l++[n]) (k:Int))
    have hz: ∀x,iC c act mem (l++[n]) x->inZ c x=true:=fun x hx=>by
     rcases hx with⟨hx,_⟩|⟨k,hk,q⟩
     ·obtain⟨_,_,hz,_⟩:=(cx hb).of hx;exact hz
     ·rcases Kx.1 hk with hk|hk
      ·exact aY (bel k hk x q).2
      ·rw[Kl.1 hk]at q;exact aY (C2 h hu.bel q.2)
    have hmem: ∀x,x∈zL O'↔iC c act mem (l++[n]) x:=fun x=>by
     constructor
     ·intro hx;obtain⟨k,hk,rfl⟩:=Kb.1 hx;simpa using (Ke.1 hk).2
     ·intro hx;obtain⟨k,rfl⟩: ∃k:Nat,x=k:=⟨x.toNat,by have:=aH.1 (hz x hx);omega⟩;exact Kb.2 ⟨k,Ke.2 ⟨Kw.2 (aV.1 (hz _ hx)),by simpa using hx⟩,rfl⟩
    refine⟨O',Ao,(BO h hgO hu hd Ao fun x=> ?_).1,hmem⟩;rw[hmem,o3];constructor
    ·rintro(⟨q1,q2⟩|⟨k,hk,q⟩)
     ·refine .inl ⟨.inl ⟨q1,fun k hk=>q2 k (LW _ hk)⟩,?_⟩;cases hh:aboveB c (qQ c (dm c n)) x
      ·rfl
      ·exact absurd ⟨h0,hh⟩ (q2 n (by simp))
     ·rcases Kx.1 hk with hk|hk
      ·refine .inl ⟨.inr ⟨k,hk,q⟩,?_⟩;cases hh:aboveB c (qQ c (dm c n)) x
       ·rfl
       ·exact(AQ h (hok k hk) hT (hno k hk) (bel k hk x q) ⟨h0,hh⟩).elim
      ·rw[Kl.1 hk]at q;exact .inr q.2
    ·rintro(⟨⟨q1,q2⟩|⟨k,hk,q⟩,hn⟩|q)
     ·refine .inl ⟨q1,fun k hk hl=> ?_⟩;rcases Kx.1 hk with hk|hk
      ·exact q2 k hk hl
      ·rw[Kl.1 hk]at hl;rw[hl.2]at hn;cases hn
     ·exact .inr ⟨k,LW _ hk,q⟩
     ·exact .inr ⟨n,by simp,h0,q⟩
   ·refine⟨O,o1,o2,fun x=> ?_⟩;rw[o3];have n1: ¬mY c (dm c n) x:=fun q=>h0 q.1;have n2: ¬ToT c mem (dm c n) x:=fun q=>h0 q.1;constructor
    ·rintro(⟨q1,q2⟩|⟨k,hk,q⟩)
     ·refine .inl ⟨q1,fun k hk=> ?_⟩;rcases Kx.1 hk with hk|hk
      ·exact q2 k hk
      ·rw[Kl.1 hk];exact n1
     ·exact .inr ⟨k,LW _ hk,q⟩
    ·rintro(⟨q1,q2⟩|⟨k,hk,q⟩)
     ·exact .inl ⟨q1,fun k hk=>q2 k (LW _ hk)⟩
     ·rcases Kx.1 hk with hk|hk
      ·exact .inr ⟨k,hk,q⟩
      ·rw[Kl.1 hk]at q;exact absurd q n2
end
section
theorem H8 {c:ChD} (h:(chk c).1=0):c.vars.length<=8/\ ∀v∈c.vars,aL v.start=true:=by
 unfold chk at h;split at h
 ·simp at h
 rename_i h1;split at h
 ·simp at h
 split at h
 ·simp at h
 rename_i h3;refine⟨by omega,fun v hv=> ?_⟩;obtain⟨k,hk,rfl⟩:=Lr hv;have:=cP h3 k hk;unfold jW pH at this;rw[KZ hk]at this;simp only[K3,Kh]at this;rw[bm];exact⟨this.1.2,this.2⟩
def startR (c:ChD):RunD:=⟨[],c.vars.map (·.start),[],[],false,[],[]⟩
theorem zD {c:ChD} (hv: ∀v∈c.vars,aL v.start=true):RunOk c (startR c):=⟨by unfold startR;simp,fun x hx=>by
 obtain⟨v,hvm,rfl⟩:=Kb.1 hx
 exact hv v hvm,⟨.nil,by simp[startR]⟩,by simp[startR],by simp[startR],by simp[startR],by simp[startR]⟩
theorem IQ {c:ChD} (h:Full c):tbegL c (-1)=sbL c (iniN c):=by
 obtain⟨s,hs,hini,_⟩:=h.topS;have hi:=(K0.1 hs).1;have hz:inZ c c.initial=true:=by rw[hini];exact aV.2 hi
 unfold tbegL;simp only[L1];rw[hz,K5 rfl];rfl
theorem yz {c:ChD} (h:Full c) {k:Nat} (hk:k∈tbegL c (-1)):k<c.states.length:=by
 obtain⟨s,hs,_⟩:=h.topS;have hi:=(K0.1 hs).1;rw[IQ h,Hp h hi, <-jK h]at hk;exact Kw.1 (Ke.1 hk).1
theorem yK {c:ChD} (h:Full c):qt c (tbegL c (-1))=qJ c:=by
 rw[IQ h];unfold qt qJ;apply MG;intro k _;rw[LC,lZ,decide_eq_true_iff]
theorem xy {c:ChD} (h:Full c) {now:Int} (hn:0<=now/\now<=1099511627776) (hv: ∀v∈c.vars,aL v.start=true) (he:(ak c 0 now (startR c) [] (zL (tbegL c (-1)))).1.2=none):lgB c (ak c 0 now (startR c) [] (zL (tbegL c (-1)))).1.1.act=true/\(ak c 0 now (startR c) [] (zL (tbegL c (-1)))).1.1.act=zL (qt c (tbegL c (-1))):=by
 obtain⟨_,k⟩:=ix (cS h) (l:=zL (tbegL c (-1))) (f:=[]) (show aL 0=true by rfl) hn (zD hv) .nil;have kc:=k he;have hb:=yf h;rw[<-yK h]at hb
 have e:(ak c 0 now (startR c) [] (zL (tbegL c (-1)))).1.1.act=zL (qt c (tbegL c (-1))):=oM kc.rise (by unfold qt;exact wa) fun x=>by
  rw[kc.mem];simp only[startR,List.not_mem_nil,false_or];constructor
  ·intro hx;obtain⟨j,hj,rfl⟩:=Kb.1 hx;refine Kb.2 ⟨j,Ke.2 ⟨Kw.2 ?_,lZ.2 hj⟩,rfl⟩;exact yz h hj
  ·intro hx;obtain⟨j,hj,rfl⟩:=Kb.1 hx;exact Kb.2 ⟨j,lZ.1 (Ke.1 hj).2,rfl⟩
 exact⟨by rw[e];exact hb,e⟩
theorem rO (env:Env) (now:Int):Con prog env 30 [I now] (B (decide (0<=now/\now<=1099511627776))):=by
 by_cases h0:0<=now
 ·by_cases h1:now<=1099511627776
  ·have k:decide (0<=now/\now<=1099511627776)=true:=by simp[h0,h1]
   rw[k];refine qf func30 call30 ntmps30 results30 ?_;have F:=ai h0 h1;repeat refine st ?_
   exact aR
  ·have k:decide (0<=now/\now<=1099511627776)=false:=by simp[h1]
   rw[k];refine qf func30 call30 ntmps30 results30 ?_;have F:=ai h0 h1;repeat refine st ?_
   exact aR
 ·have k:decide (0<=now/\now<=1099511627776)=false:=by simp[h0]
  rw[k];refine qf func30 call30 ntmps30 results30 ?_;have F:=h0;repeat refine st ?_
  exact aR
def xh (a2 a8:Addr):RunD×ErD->AV
 |(r,none)=> .tuple [.agg [ints34 r.act,ints34 r.vars, .seq 2 (r.mem.map mmAV), .seq 2 (r.tms.map tmAV),B r.over], .agg [ints34 r.outs, .seq 2 (r.rais.map tmAV)],nilE]
 |(_,some e)=> .tuple [.agg [nilS,nilS,nilS,nilS,B false], .agg [nilS,nilS],errV (-1) (cv a2 a8 (some e))]
theorem CR (env:Env) (a1 a2 a8:Addr) (c:ChD) (now:Int) (E:RunEnv env a1 a2 a8 c 0 now) (hv: ∀v∈c.vars,aL v.start=true):Con prog env 20 [aJ c,I now] (xh a2 a8 (C3 c now)):=by
 have hvl:=E.hs.vars;have f0:=rO env now;rw[LK E.hn]at f0;have f1:=ao env c E.hs;have f2:=oe env c E.hs;have f3:=((wG env c E.h (-1)).lend (ag (fun _=>rfl) _)).seen
 have hbl:(tbegL c (-1)).length<=1000:=by
  rw[IQ E.h];have:=CW E.h (iniN c);omega
 have f4:=vi env a1 a2 a8 c 0 now E (startR c) (zD hv) .nil (Kj _) (tbegL c (-1)) (fun i hi=>yz E.h hi) hbl (fun hh=>(xy E.h E.hn hv hh).1);unfold C3;rw[show (⟨[],c.vars.map (·.start),[],[],false,[],[]⟩:RunD)=startR c from rfl];generalize tbegL c (-1)=G at*;unfold aJ at f1 f3 |-;unfold aA at f1 f2;have hF: ∀k,k<=c.vars.length->((c.vars.take k).map (·.start)).length=k:=fun k hk=>by simp;omega
 refine qf func20 call20 ntmps20 results20 ?_;repeat refine GE f0 f1 f2 ?_
 refine nC0 29 9001 0 0 3 1 ?_;refine nC0 29 9002 0 1 3 1 ?_;refine nC0 29 9006 0 2 134 2 ?_;refine nC0 29 9003 0 3 92 2 ?_;refine nC0 29 9004 0 5 3 1 ?_;refine nC0 29 9005 0 6 210 2 ?_;refine fV [(9006,⟨2,[],134,true⟩)] ?_ ?_
 ·exact qe0
 refine aI (D:=Nat) (fun j vs=>[(0, .ref 9 [tabCells c] 0 0),(4, .loc 4 (vs 4) 0 0),(5, .loc 5 (vs 5) 0 0),(6,nilE),(7, .loc 29 (vs 29) 0 0),(34,varsAV c.vars),(35,I c.vars.length),(36,I j)]) (fun j vs=>[(4,⟨5,[[nilS,nilS,nilS,nilS,B false]],31,false⟩),(5,⟨2,[[nilS,nilS]],46,false⟩),(29,⟨15,[[.row 9001 (vs 9001), .row 9002 (vs 9002), .seq 2 [], .row 9003 (vs 9003),B false, .row 9004 (vs 9004), .row 9005 (vs 9005), .ref 9 [tabCells c] 0 0,Sg c.name,I c.initial,varsAV c.vars,stsAV c.states,trsAV c.trans,I 0,I now]],71,false⟩),(9001,⟨1,[],3,true⟩),(9002,⟨1,((c.vars.take j).map (·.start)).map intAV,3,true⟩),(9003,⟨2,[],92,true⟩),(9004,⟨1,[],3,true⟩),(9005,⟨2,[],210,true⟩)]) (fun j _ esc=>j<=c.vars.length/\esc 4=false/\esc 5=false/\esc 29=false/\esc 9001=false/\esc 9002=false/\esc 9003=false/\esc 9004=false/\esc 9005=false) (fun j=>c.vars.length-j) 0 ?_ ?_ ?_ ?_
 ·refine⟨Kj _,?_⟩;simp only[seenSt,seesR,fB,NX,OT,go_sem];try simp
 ·simp only[seenSt,seesR,fB,Row.see,AV.see,AV.see.seeL,M5,Lb,go_sem];try rfl
 ·simp only[seenSt,seesR,fB,Row.see,AV.see,AV.see.seeL,M5,Lb,go_sem];try rfl
 rintro j ws es ⟨hj,b4,b5,b29,b1,b2,b3,b6,b7⟩;by_cases hlt:j<c.vars.length
 ·obtain⟨v,hx⟩:=gE hlt;have q1:=nlt hlt;have q2:=aD hlt (by omega);have q3:Fits (((c.vars.take j).map (·.start)).length+1) 8:=by rw[hF j hj];exact aC (by omega) (by omega)
  have q4:((c.vars.take (j+1)).map (·.start)).map intAV=((c.vars.take j).map (·.start)).map intAV++[[I v.start]]:=by rw[bQ hx];simp
  generalize hU:(c.vars.take j).map (·.start)=U at*;have F:=ai12 gh.eq_1 hx q1 q2 q3 b4 b5 b29 b1 b2 b3<|ai b6 b7;repeat refine st ?_
  refine⟨j+1,⟨hlt,?_⟩,?_,?_,by omega⟩
  ·simp only[go_sem,b4,b5,b29,b1,b2,b3,b6,b7,Kk]
  ·exact qe
  ·simp only[q4];exact qe
 ·obtain rfl:j=c.vars.length:=by omega
  have q1:=nl c.vars.length;have q5:((c.vars.take c.vars.length).map (·.start)).map intAV=(startR c).vars.map intAV:=by rw[Kt];rfl
  generalize enterP c 0 now (startR c) (zL G)=X at*;rcases X with⟨r1,_|⟨k,ps⟩⟩
  ·unfold xh;unfold cv RY RYe at f4;simp only at f4;simp only[q5];have F:=ai12 RY.eq_1 gr5.eq_1 startR.eq_1 q1 b4 b5 b29 b1 b2 b3 b6 b7;repeat refine st ?_
   refine lL f3 ?_;repeat refine st ?_
   refine iL [(1000,29),(1001,9001),(1002,9002),(1003,9003),(1004,9004),(1005,9005)] f4 ?_;repeat refine st ?_
   exact aR
  ·unfold xh;unfold cv RY RYe at f4;simp only at f4;unfold cv;simp only;have f5:=nN env [109,105,99,114,111,46,70,105,114,115,116] (ps.headD (-1)) (chainV ps.tail (sentV (if k=2 then a2 else a8)));simp only[q5];have F:=ai12 RY.eq_1 gr5.eq_1 startR.eq_1 q1 b4 b5 b29 b1 b2 b3 b6 b7;repeat refine st ?_
   refine lL f3 ?_;repeat refine st ?_
   refine iL [(1000,29),(1001,9001),(1002,9002),(1003,9003),(1004,9004),(1005,9005)] f4 ?_;repeat refine tz1 f5 ?_
   exact aR
end
section
theorem BZ (env:Env) (x:InD) (hA:x.1.length<=4096) (hV:x.2.1.length<=4096) (hM:x.2.2.1.length<=4096) (hMs: ∀m∈x.2.2.1,Fits m.2.length 8) (hT:Fits x.2.2.2.1.length 24):
 ConI prog env 29 [8,11,14] (fun i=>i==8||(i==11||i==14)) (fun _=>[.agg [.seq 1 (x.1.map intAV), .seq 1 (x.2.1.map intAV), .seq 2 (x.2.2.1.map mmAV), .seq 2 (x.2.2.2.1.map tmAV),B x.2.2.2.2]]) (fun _=>[]) (fun _=>[(8,⟨1,x.1.map intAV,3,true⟩),(11,⟨1,x.2.1.map intAV,3,true⟩),(14,⟨2,x.2.2.2.1.map tmAV,92,true⟩)]) (fun g=> .agg [.row 8 (g 8), .row 11 (g 11), .seq 2 (x.2.2.1.map mmAV), .row 14 (g 14),B x.2.2.2.2]):=by
 have f0:=kP env (x.1.map intAV) (by rw[Ko];exact aC hA (by omega));have f1:=kP env (x.2.1.map intAV) (by rw[Ko];exact aC hV (by omega));have f2:=ym env (x.2.2.2.1.map tmAV) (by rw[Ko];exact hT);obtain⟨A,V,M,T,O⟩:=x;simp only at*;refine qi func29 call29 ntmps29 results29 ?_;intro vs esc hesc;obtain⟨e0,e1,e5⟩:=es3 hesc;have F:=ai3 e0 e1 e5;repeat refine tz3 f0 f1 f2 ?_
 refine nC 3 9000 0 2 134 2 ?_
 refine aI (D:=Nat) (fun j vs=>[(1, .loc 1 (vs 1) 0 0),(2, .loc 2 (vs 2) 0 0),(3, .loc 3 (vs 3) 0 0),(19, .seq 2 (M.map mmAV)),(20,I M.length),(21,I j)])
  (fun j vs=>[(1,⟨5,[[.seq 1 (A.map intAV), .seq 1 (V.map intAV), .seq 2 (M.map mmAV), .seq 2 (T.map tmAV),B O]],31,false⟩),(2,⟨5,[[nilS,nilS,nilS,nilS,B false]],31,false⟩),(3,⟨5,[[.row 8 (vs 8), .row 11 (vs 11), .row 9000 (vs 9000), .row 14 (vs 14),B O]],31,false⟩),(8,⟨1,A.map intAV,3,true⟩),(11,⟨1,V.map intAV,3,true⟩),(14,⟨2,T.map tmAV,92,true⟩),(9000,⟨2,(M.take j).map mmAV,134,true⟩)])
  (fun j _ esc=>j<=M.length/\esc 2=false/\esc 3=false/\esc 8=false/\esc 11=false/\esc 9000=false/\esc 14=false) (fun j=>M.length-j) 0 ?_ ?_ ?_ ?_
 ·refine⟨Kj _,?_,?_,?_,?_,?_,?_⟩<;>simp only[go_sem,e0,e1,e5]
 ·exact qe
 ·exact qe
 try clear e0 e1 e5
 rintro j ws esc ⟨hj,e2,e3,e0,e1,e4,e5⟩;by_cases hlt:j<M.length
 ·obtain⟨m,hm⟩:=gE hlt;have q1:=nlt hlt;have q2:=aD hlt (by omega);have f3:=kP env (m.2.map intAV) (by rw[Ko];exact hMs m (K4 hm));have htl:(M.take j).length=j:=by rw[Kg];omega
  have hf:Fits (j+1) 32:=aC (by omega) (by omega);have htk:M.take (j+1)=M.take j++[m]:=by rw[Ky,hm];rfl
  have F:=ai12 mmAV.eq_1 q1 q2 hm htl hf e0 e1 e2 e3 e4 e5;repeat refine tz1 f3 ?_
  refine⟨j+1,⟨hlt,?_,?_,?_,?_,?_,?_⟩,?_,?_,by omega⟩;all_goals (first|(show _=false;simp only[go_sem,e0,e1,e2,e3,e4,e5];done)|skip)
  ·exact qe
  ·have F:=ai9 mmAV.eq_1 htk @Ka.{0,0} e0 e1 e2 e3 e4 e5;exact qe
 obtain rfl:j=M.length:=by omega
 have q1:=nl M.length;have hta:M.take M.length=M:=Kt;have F:=ai8 q1 hta e0 e1 e2 e3 e4 e5;repeat refine st ?_
 refine fV [(9000,⟨2,M.map mmAV,134,true⟩)] ?_ ?_
 ·exact qe
 have F:=ai6 e0 e1 e2 e3 e4 e5;exact rI
def uS (a2 a8:Addr):RunD×ErD->AV
 |(r,none)=> .tuple [.agg [ints34 r.act,ints34 r.vars, .seq 2 (r.mem.map mmAV), .seq 2 (r.tms.map tmAV),B r.over], .agg [ints34 r.outs, .seq 2 (r.rais.map tmAV)],nilE]
 |(_,some e)=> .tuple [.agg [nilS,nilS,nilS,nilS,B false], .agg [nilS,nilS],errV (-1) (cv a2 a8 (some e))]
def dD (x:InD):RunD:=⟨x.1,x.2.1,x.2.2.1,x.2.2.2.1,x.2.2.2.2,[],[]⟩
theorem Fz (env:Env) (a1 a2 a8:Addr) (c:ChD) (d now:Int) (E:RunEnv env a1 a2 a8 c d now) (x:InD) (hA:x.1.length<=100) (hV:x.2.1.length<=4096) (hM:x.2.2.1.length<=4096) (hMs: ∀m∈x.2.2.1,Fits m.2.length 8) (hT:Fits x.2.2.2.1.length 24) (ts:List Nat)
 (fr:Con prog env 21 [Sg [109,105,99,114,111,46,83,116,101,112],aJ c, .agg (inE x),I d] nilE)
 (ff:ConI prog env 31 [1000,1001,1002,1003,1004,1005] (fun _=>false) (fun g=>[.loc 1000 (g 1000) 0 0, .seq 1 (ts.map aB)]) (RY c d now (dD x)) (RY c d now (dD x)) (fun _=>B true))
 (fs:ConI prog env 33 [1000,1001,1002,1003,1004,1005] gr5 (fun g=>[.loc 1000 (g 1000) 0 0, .seq 1 (ts.map aB)]) (RY c d now (dD x)) (RY c d now (stepP c d now (dD x) ts).1) (fun _=>cv a2 a8 (stepP c d now (dD x) ts).2)):
 Con prog env 10 [aJ c, .agg (inE x), .seq 1 (ts.map aB),I d,I now] (uS a2 a8 (stepP c d now (dD x) ts)):=by
 have f1:=ao env c E.hs;have f2:=BZ env x (by omega) hV hM hMs hT;have f3:=rO env now;rw[LK E.hn]at f3;unfold inE at fr |-;unfold aJ at f1 fr |-;unfold aA at f1;unfold RY RYe at ff;obtain⟨A,V,M,T,O⟩:=x;unfold dD at ff fs |-;simp only at*;generalize stepP c d now _ ts=X at*;refine qf func10 call10 ntmps10 results10 ?_;repeat refine kB fr ?_
 refine iL0 [(8,9001),(11,9002),(14,9003)] f2 ?_
 iterate 9 (first|refine st0 ?_|refine cC0 f1 ?_)
 show awp _ _ _ _ _ _;refine nC0 33 9004 0 5 3 1 ?_;refine nC0 33 9005 0 6 210 2 ?_;repeat refine kB f3 ?_
 refine iL0 [(1000,33),(1001,9001),(1002,9002),(1003,9003),(1004,9004),(1005,9005)] ff ?_;repeat refine st0 ?_
 rcases X with⟨r1,_|⟨k,ps⟩⟩
 ·unfold cv RY RYe at fs;simp only at fs;unfold uS;have F:=gr5.eq_1;repeat refine st ?_
  refine iL [(1000,33),(1001,9001),(1002,9002),(1003,9003),(1004,9004),(1005,9005)] fs ?_;repeat refine st ?_
  exact aR
 ·unfold cv RY RYe at fs;simp only at fs;unfold uS cv;simp only;have f5:=nN env [109,105,99,114,111,46,83,116,101,112] (ps.headD (-1)) (chainV ps.tail (sentV (if k=2 then a2 else a8)));have F:=gr5.eq_1;repeat refine st ?_
  refine iL [(1000,33),(1001,9001),(1002,9002),(1003,9003),(1004,9004),(1005,9005)] fs ?_;repeat refine tz1 f5 ?_
  exact aR
end
section
theorem Con.seenY {P:Program} {env:Env} {f:FuncId} {cs:List AV} {e:TypeId} {sz:Nat} {es:List (List AV)} (h:Con P env f cs (.own e sz es)):Con P env f cs (.seq sz es):=by
 refine⟨h.enter,fun w S vs hE hl hv=>(h.calls w S vs hE hl hv).mono ?_⟩;rintro ex w' ⟨v,rfl,hb,S1,h1,h2,h3,hr⟩;obtain⟨S2,k1,k2,k3⟩:=JS.seq hr;exact⟨v,rfl,hb,S2,fun b o hh=>k1 b o (h1 b o hh),fun b o hh=>(k2 b o hh).elim (h2 b o) fun q=> .inr q.1,fun b o hh=>(k2 b o hh).elim (h3 b o) fun q=>q.2,k3⟩
theorem zd (c:ChD) (d now:Int): ∀(l:List Int) (r:RunD),wC (bP c d now r l).2
 |[],r=>fun x h=>by cases h
 | i::l,r=>by
   unfold bP;split
   ·exact zd c d now l _
   ·exact uQ _ _ _ _ _
theorem Dp (c:ChD) (d now:Int): ∀(l:List Nat) (r:RunD),wC (da c d now r l).2
 |[],r=>fun x h=>by cases h
 | i::l,r=>by
   unfold da;split
   ·exact Dp c d now l _
   ·exact uQ _ _ _ _ _
theorem Ci (c:ChD) (d now:Int) (r:RunD) (ts:List Nat):wC (stepP c d now r ts).2:=by
 unfold stepP;simp only;have h1:=zd c d now (zL (sortL c (goneR c r.act ts))).reverse { r with mem:=remL c r.act (zL (sortL c (goneR c r.act ts))) r.mem };split
 ·rename_i r1 e1;have h2:=Dp c d now ts r1;split
  ·exact HS _ _ _ _ _
  ·exact h2
 ·exact h1
def rsA (d now:Int):RunD×ErD->AV
 |(r,none)=> .agg (rrA r d now none)
 |(_,some (k,_))=> .agg [.any, .any, .any, .any, .any, .any, .any,I d,I now,I (k:Nat),I (-1)]
theorem Ck (x0 x1 x2 x3 x4 x5 x6:AV) (d now k:Int):fo (.agg [x0,x1,x2,x3,x4,x5,x6,I d,I now,I k,I (-1)]) (.agg [.any, .any, .any, .any, .any, .any, .any,I d,I now,I k,I (-1)]):=
 .of (.agg (.cons (.any _) (.cons (.any _) (.cons (.any _) (.cons (.any _) (.cons (.any _) (.cons (.any _) (.cons (.any _) (.cons (.refl _) (.cons (.refl _) (.cons (.refl _) (.cons (.refl _) .nil)))))))))))) (fun _ _ _ h=>by cases h) (fun _ _ _ h=>by cases h)
theorem EZ (env:Env) (c:ChD) (h:Full c) (hcv:c.vars.length<=1000) (d now:Int) (hd:aL d=true) (hn:0<=now/\now<=1099511627776) (x:InD) (hr:RunOk c (dD x)) (hl:x.1.length<=100) (hb:lgB c x.1=true) (hml:x.2.2.1.length<=1000000) (ts:List Nat) (hts: ∀n∈ts,∃t,c.trans[n]? =some t) (htl:ts.length<=64) (G0:List Nat) (hG0:goneR c x.1 ts=zL G0)
 (hmem:bU c (remL c x.1 (zL (sortL c (goneR c x.1 ts))) x.2.2.1)=true) (hmem2:(remL c x.1 (zL (sortL c (goneR c x.1 ts))) x.2.2.1).length<=1000000) (hsame:Av c x.1 (zL (sortL c (goneR c x.1 ts))) x.2.2.1=remL c x.1 (zL (sortL c (goneR c x.1 ts))) x.2.2.1)
 (hleg: ∀r2:RunD,RunOk c r2->r2.act=x.1.filter (fun k=> !(zL (sortL c (goneR c x.1 ts))).reverse.contains k)->(ak c d now r2 [] (zL (sortL c (zL (toR c (remL c x.1 (zL (sortL c (goneR c x.1 ts))) x.2.2.1) ts))))).1.2=none->lgB c (ak c d now r2 [] (zL (sortL c (zL (toR c (remL c x.1 (zL (sortL c (goneR c x.1 ts))) x.2.2.1) ts))))).1.1.act=true):
 Con prog env 11 [.agg (aA c), .agg (inE x), .seq 1 (ts.map aB),I d,I now] (rsA d now (stepP c d now (dD x) ts)):=by
 have hfew:=h.few;have hact0: ∀y∈x.1,0<=y:=fun y hy=>(GA hb y hy).1;have fL:=fun(n:Nat) (t:TrD) (ht:c.trans[n]? =some t)=>wQ env c h x.1 (by omega) hact0 n t ht;have hgl:=tJ h x.1;have hlf:=fun t=>jG h x.1 t;have fS:=(ob env c h.toRight G0 (by have:=hgl ts;rw[hG0,an]at this;omega)).lend (ag (fun _=>rfl) _);rw[<-hG0]at fS;have hSl:=cH h.toRight (goneR c x.1 ts);have fT:=((lQ env (zL (sortL c (goneR c x.1 ts))) (by rw[an];omega)).lend (ag (fun _=>rfl) _)).seen;rw[bc]at fT;have fR:=((tu env c h x.1 (zL (sortL c (goneR c x.1 ts))).reverse (by omega) hact0 (by rw[MO,an];omega) x.2.2.1 hml).seenY);rw[GW,hsame]at fR;have fTg:=fun(n:Nat) (t:TrD) (ht:c.trans[n]? =some t)=>wM env c h (remL c x.1 (zL (sortL c (goneR c x.1 ts))) x.2.2.1) hmem2 n t ht hmem;obtain⟨S,hS⟩: ∃S,stepP c d now (dD x) ts=S:=⟨_,rfl⟩;have hSE:wC S.2:=by rw[<-hS];exact Ci c d now (dD x) ts
 rw[hS]
 replace hS:(match bP c d now { dD x with mem:=remL c x.1 (zL (sortL c (goneR c x.1 ts))) x.2.2.1 } (zL (sortL c (goneR c x.1 ts))).reverse with
  |(r1,none)=>(match da c d now r1 ts with
    |(r2,none)=>enterP c d now r2 (zL (sortL c (zL (toR c (remL c x.1 (zL (sortL c (goneR c x.1 ts))) x.2.2.1) ts))))
    |y=>y)
  |y=>y)=S:=hS
 generalize hM:remL c x.1 (zL (sortL c (goneR c x.1 ts))) x.2.2.1=mem at*;generalize hGG:sortL c (goneR c x.1 ts)=G at*;unfold aA at fL fS fR fTg;unfold inE;refine qw func11 call11 ntmps11 results11 ?_;have F:=aA.eq_1;repeat refine st ?_
 refine nC 11 9004 0 5 3 1 ?_;refine nC 11 9005 0 6 210 2 ?_;refine fV [(9004,⟨1,[],3,true⟩),(9005,⟨2,[],210,true⟩)] ?_ ?_
 ·exact qe
 refine aI (D:=Nat) (fun j vs=>[(2, .seq 1 (ts.map aB)),(5, .loc 5 (vs 5) 0 0),(6, .loc 6 (vs 6) 0 0),(10, .loc 10 (vs 10) 0 0),(11, .loc 11 (vs 11) 0 0),(12, .row 22 (vs 22)),(13, .row 23 (vs 23)),(14,I j)]) (fun j vs=>[(5,⟨5,[aA c],26,false⟩),(6,⟨5,[inE x],31,false⟩),(10,⟨11,[[nilS,nilS,nilS,nilS,B false,nilS,nilS,I 0,I 0,I 0,I 0]],50,false⟩),(11,⟨11,[rrA (dD x) d now none],50,false⟩),(22,⟨1,(goneR c x.1 (ts.take j)).map intAV,3,true⟩),(23,⟨1,[],3,true⟩)]) (fun j _ esc=>j<=ts.length/\esc 10=false/\esc 11=false/\esc 22=false/\esc 23=false) (fun j=>ts.length-j) 0 ?_ ?_ ?_ ?_
 ·refine⟨Kj _,?_⟩;simp only[seenSt,seesR,fB,NX,OT,go_sem];try simp
 ·simp only[seenSt,seesR,fB,Row.see,AV.see,AV.see.seeL,M5,Lb,go_sem];try rfl
 ·simp only[seenSt,seesR,fB,Row.see,AV.see,AV.see.seeL,M5,Lb,aA,inE,rrA,dD,go_sem];exact⟨rfl,rfl⟩
 rintro j ws es ⟨hj,e0,e1,e2,e3⟩;by_cases hlt:j<ts.length
 ·obtain⟨n,hx⟩:=gE hlt;obtain⟨t,ht⟩:=hts n (K4 hx);have hnl:=(K0.1 ht).1;have q1:=nlt hlt;have q2:=aD hlt (by omega);have q3:=nlt hnl;have hlft:=hlf t;have q4:(goneR c x.1 (ts.take (j+1))).map intAV=(goneR c x.1 (ts.take j)).map intAV++(leaveR c x.1 t).map intAV:=by rw[vO hx ht,Ka]
  have q6:(goneR c x.1 (ts.take j)).length<=32*j:=Km (hgl _) (by rw[Kg];omega);have f0:=fL n t ht;generalize goneR c x.1 (ts.take j)=A at*;generalize leaveR c x.1 t=Lv at*;have q5:Fits (A.length+Lv.length) 8:=aC (by omega) (by omega);unfold az at f0;have F:=ai12 aA.eq_1 inE.eq_1 az.eq_1 aB.eq_1 hx ht q1 q2 q3 q5 e0<|ai3 e1 e2 e3;repeat refine tz1 f0 ?_
  refine⟨j+1,⟨hlt,by simp only[go_sem,e0,e1,e2,e3,Kk]⟩,?_,?_,by omega⟩
  ·exact qe
  ·simp only[q4];exact qe
 obtain rfl:j=ts.length:=by omega
 have q1:=nl ts.length;rw[Kt,hG0,bc];unfold memsAV at fR;have hto:=CU h mem;have F:=ai10 aA.eq_1 inE.eq_1 rrA.eq_1 rrA.eq_2 dD.eq_1 q1 e0 e1 e2 e3;repeat refine st ?_
 refine lL fS ?_;repeat refine st ?_
 refine lL fT ?_;repeat refine tz1 fR ?_
 refine lp (D:=Nat) (fun j vs=>[(2, .seq 1 (ts.map aB)),(5, .loc 5 (vs 5) 0 0),(6, .loc 6 (vs 6) 0 0),(10, .loc 10 (vs 10) 0 0),(11, .loc 11 (vs 11) 0 0),(12, .seq 1 ((zL G).reverse.map intAV)),(13, .row 23 (vs 23)),(15,I j)]) (fun j vs=>[(5,⟨5,[aA c],26,false⟩),(6,⟨5,[inE x],31,false⟩),(10,⟨11,[[nilS,nilS,nilS,nilS,B false,nilS,nilS,I 0,I 0,I 0,I 0]],50,false⟩),(11,⟨11,[rrA { dD x with mem:=mem } d now none],50,false⟩),(23,⟨1,(toR c mem (ts.take j)).map aB,3,true⟩)]) (fun j _ esc=>j<=ts.length/\esc 10=false/\esc 11=false/\esc 23=false) (fun j=>ts.length-j) 0 ⟨Kj _,by simp only[go_sem,e0,e1,e3,Kk]⟩ ?_;try clear e0 e1 e2 e3 hlt q1 hj
 rintro j us fs ⟨hj,e0,e1,e3⟩;by_cases hlt:j<ts.length
 ·obtain⟨n,hx⟩:=gE hlt;obtain⟨t,ht⟩:=hts n (K4 hx);have hnl:=(K0.1 ht).1;have q1:=nlt hlt;have q2:=aD hlt (by omega);have q3:=nlt hnl;have q4:(toR c mem (ts.take (j+1))).map aB=(toR c mem (ts.take j)).map aB++(targetR c t mem).map aB:=by rw[qg hx ht,Ka]
  have q6:(toR c mem (ts.take j)).length<=32*j:=Km (hto _) (by rw[Kg];omega);have q7:(toR c mem (ts.take (j+1))).length<=32*(j+1):=Km (hto _) (by rw[Kg];omega);rw[qg hx ht,K8]at q7;have f0:=fTg n t ht;generalize toR c mem (ts.take j)=A at*;generalize targetR c t mem=Tg at*;have q5:Fits (A.length+Tg.length) 8:=aC (by omega) (by omega);unfold az memsAV at f0;have F:=ai12 aA.eq_1 rrA.eq_1 rrA.eq_2 dD.eq_1 az.eq_1 aB.eq_1 hx ht q1 q2 q3<|ai4 q5 e0 e1 e3;repeat refine tz1 f0 ?_
  refine⟨j+1,⟨hlt,by simp only[go_sem,e0,e1,e3,Kk]⟩,?_,?_,by omega⟩
  ·exact qe
  ·simp only[q4];exact qe
 obtain rfl:j=ts.length:=by omega
 have q1:=nl ts.length;rw[Kt];have hrev:(zL G).reverse=zL G.reverse:=by unfold zL;rw[List.map_reverse]
 rw[hrev]
 have hGk: ∀k∈G.reverse,k<c.states.length:=fun k hk=>by
  rw[<-hGG]at hk;exact kS h.toRight (Ns.1 hk)
 have hal:=fun(r:RunD) hr hl (l:List ActD) hll ha=>zO env c (by omega) hcv d now hd hn r hr hl l hll ha;have hok:=fun(r:RunD) (hr:RunOk c r) (l:List ActD) ha=>jX hd hn (l:=l) hr ha;have hgo:=fun(l:List Int) (hl:l.length<=4000) (n:Int)=>((E4 env l hl n).lend (ag (fun _=>rfl) _)).seen;have hRl:G.reverse.length<=32:=by rw[MO];exact hSl
 have hrise:=(cx hb).rise
 have hin0: ∀y∈x.1,inZ c y=true:=fun y hy=>by
  obtain⟨_,_,hz,_⟩:=(cx hb).of hy;exact hz
 have hS2l:=cH h.toRight (zL (toR c mem ts));have hS2k:=fun(k:Nat) (hk:k∈sortL c (zL (toR c mem ts)))=>kS h.toRight hk;have fS2:=((ob env c h.toRight (toR c mem ts) (by have:=hto ts;omega)).lend (ag (fun _=>rfl) _)).seen;have hen:=fun(r2:RunD) hr hrise hin hl hleg=>BD env c h hcv d now hd hn r2 hr hrise hin hl (sortL c (zL (toR c mem ts))) hS2k (by omega) hleg;rw[hrev]at hS hleg;have hlk:=nc (cS h) hd hn (l:=zL G.reverse) (r:={ dD x with mem:=mem }) { hr with };generalize hTT:sortL c (zL (toR c mem ts))=T2 at*;generalize G.reverse=R at*;obtain⟨X,hX⟩: ∃X,bP c d now { dD x with mem:=mem } (zL R)=X:=⟨_,rfl⟩;rw[hX]at hS hlk;have hSX: ∀r e,X=(r,some e)->S.2=some e:=fun r e he=>by rw[<-hS,he]
 have hSA: ∀r1 r e,X=(r1,none)->da c d now r1 ts=(r,some e)->S.2=some e:=fun r1 r e h1 h2=>by
  rw[<-hS,h1];simp only[h2]
 have hSN: ∀r1 r,X=(r1,none)->da c d now r1 ts=(r,none)->enterP c d now r (zL T2)=S:=fun r1 r h1 h2=>by
  rw[<-hS,h1];simp only[h2]
 try clear hS hTT
 unfold aA at hal hen fS2;rw[bc R];have F:=ai8 aA.eq_1 rrA.eq_1 rrA.eq_2 dD.eq_1 q1 e0 e1 e3;repeat refine st ?_
 refine nH (D:=RunD×ErD) (fun _ vs=>[(2, .seq 1 (ts.map aB)),(5, .loc 5 (vs 5) 0 0),(10, .loc 10 (vs 10) 0 0),(11, .loc 11 (vs 11) 0 0),(13, .row 23 (vs 23))]) (fun y vs=>[(5,⟨5,[aA c],26,false⟩),(10,⟨11,[[nilS,nilS,nilS,nilS,B false,nilS,nilS,I 0,I 0,I 0,I 0]],50,false⟩),(11,⟨11,[rrA y.1 d now y.2],50,false⟩),(23,⟨1,(toR c mem ts).map aB,3,true⟩)]) (fun y _ esc=>(y.1.act.length<=100/\(match y.2 with
  |none=>X=(y.1,none)/\RunOk c y.1
  |some e=>S.2=some e))/\esc 10=false/\esc 11=false/\esc 23=false) ?_ ?_
 ·refine aI (D:=Nat×RunD×ErD) (fun y vs=>[(2, .seq 1 (ts.map aB)),(5, .loc 5 (vs 5) 0 0),(10, .loc 10 (vs 10) 0 0),(11, .loc 11 (vs 11) 0 0),(12, .seq 1 (R.map aB)),(13, .row 23 (vs 23)),(16,I y.1)]) (fun y vs=>[(5,⟨5,[aA c],26,false⟩),(10,⟨11,[[nilS,nilS,nilS,nilS,B false,nilS,nilS,I 0,I 0,I 0,I 0]],50,false⟩),(11,⟨11,[rrA y.2.1 d now y.2.2],50,false⟩),(23,⟨1,(toR c mem ts).map aB,3,true⟩)]) (fun y _ esc=>(y.1<=R.length/\y.2.1.act.length<=100/\(match y.2.2 with
   |none=>X=bP c d now y.2.1 ((zL R).drop y.1)/\RunOk c y.2.1
   |some e=>S.2=some e))/\esc 10=false/\esc 11=false/\esc 23=false) (fun y=>(R.length-y.1)+(if y.2.2.isSome=true then 0 else 1)) (0,{ dD x with mem:=mem },none) ?_ ?_ ?_ ?_
  ·exact⟨⟨Kj _,hl,hX.symm,{ hr with }⟩,by simp only[go_sem,e0,e1,e3,Kk]⟩
  ·exact qe
  ·(simp only[go_sem,F])
   try rfl
  try clear e0 e1 e3 hlt q1 hj
  rintro⟨j,r1,e⟩ us fs ⟨⟨hj,ha,heq⟩,e0,e1,e3⟩;simp only at hj ha heq;rcases e with _|⟨k,ps⟩
  ·obtain⟨heq,hr1⟩:=heq;by_cases hlt:j<R.length
   ·obtain⟨i,hx⟩:=gE hlt;have hil:=hGk i (K4 hx);obtain⟨s,hs⟩:=gE hil;obtain⟨⟨s1,s2⟩,_⟩:=sU h hs;have ho:zV c i=s.out:=by unfold zV;rw[bI,hs]
    have f0:=hal r1 hr1 (by omega) s.out (by omega) s2;obtain⟨k1,k2⟩:=hok r1 hr1 s.out s2;have q1:=nlt hlt;have q2:=aD hlt (by omega);have q3:=nlt hil;rw[rU (pm hx),ho]at heq;have ha2:(allP c d now r1 s.out).1.act.length<=100:=by rw[k2.act];exact ha
    rcases hXX:allP c d now r1 s.out with⟨r2,_|⟨k,ps⟩⟩
    ·rw[hXX]at heq f0 k1 ha2;simp only at heq k1 ha2;have f1:=hgo r2.act (by omega) i;unfold rrA at f0;simp only at f0;have F:=ai12 rrA.eq_1 rrA.eq_2 aA.eq_1 aK.eq_1 aB.eq_1 intAV.eq_1 actsAV.eq_1 hx hs q1 q2<|ai4 q3 e0 e1 e3;repeat refine tz1 f0 ?_
     refine lL f1 ?_;repeat refine st ?_
     exact qn (j+1,{ r2 with act:=r2.act.filter fun k=> !(k==(i:Int)) },none) ⟨⟨hlt,Km (Kq ..) ha2,heq,{ k1 with }⟩,by simp only[go_sem,e0,e1,e3,Kk]⟩
    ·rw[hXX]at heq f0 ha2;simp only at heq ha2;have f1:=hgo r2.act (by omega) i;unfold rrA at f0;simp only at f0;have F:=ai12 rrA.eq_1 rrA.eq_2 aA.eq_1 aK.eq_1 aB.eq_1 intAV.eq_1 actsAV.eq_1 hx hs q1 q2<|ai4 q3 e0 e1 e3;repeat refine tz1 f0 ?_
     refine lL f1 ?_;repeat refine st ?_
     exact qn (j+1,{ r2 with act:=r2.act.filter fun k=> !(k==(i:Int)) },some (k,ps)) ⟨⟨hlt,Km (Kq ..) ha2,hSX _ _ heq⟩,by simp only[go_sem,e0,e1,e3,Kk]⟩
   ·obtain rfl:j=R.length:=by omega
    have q1:=nl R.length;rw[La (by rw[an];omega)]at heq;have F:=ai7 rrA.eq_1 rrA.eq_2 aA.eq_1 q1 e0 e1 e3;repeat refine st ?_
    refine⟨(r1,none),⟨⟨ha,heq,hr1⟩,by simp only[go_sem,e0,e1,e3,Kk]⟩,?_,?_⟩
    ·exact qe
    ·exact qe
  ·have hk0:=uZ hSE heq;by_cases hlt:(j:Int)< (R.length:Int)
   ·have F:=ai8 rrA.eq_1 rrA.eq_2 aA.eq_1 hlt hk0 e0 e1 e3;repeat refine st ?_
    refine⟨(r1,some (k,ps)),⟨⟨ha,heq⟩,by simp only[go_sem,e0,e1,e3,Kk]⟩,?_,?_⟩
    ·exact qe
    ·exact qe
   ·have F:=ai8 rrA.eq_1 rrA.eq_2 aA.eq_1 hlt hk0 e0 e1 e3;repeat refine st ?_
    refine⟨(r1,some (k,ps)),⟨⟨ha,heq⟩,by simp only[go_sem,e0,e1,e3,Kk]⟩,?_,?_⟩
    ·exact qe
    ·exact qe
 try clear e0 e1 e3 hlt q1 hj
 rintro⟨r1,e⟩ us fs ⟨⟨ha,heq⟩,e0,e1,e3⟩;simp only at ha heq;have hSA:=hSA;have F:=ai3 e0 e1 e3;repeat refine st ?_
 refine nH (D:=RunD×ErD) (fun _ vs=>[(5, .loc 5 (vs 5) 0 0),(10, .loc 10 (vs 10) 0 0),(11, .loc 11 (vs 11) 0 0),(13, .row 23 (vs 23))]) (fun y vs=>[(5,⟨5,[aA c],26,false⟩),(10,⟨11,[[nilS,nilS,nilS,nilS,B false,nilS,nilS,I 0,I 0,I 0,I 0]],50,false⟩),(11,⟨11,[rrA y.1 d now y.2],50,false⟩),(23,⟨1,(toR c mem ts).map aB,3,true⟩)]) (fun y _ esc=>(match y.2 with
  |none=> ∃r0,X=(r0,none)/\da c d now r0 ts=(y.1,none)/\RunOk c y.1/\y.1.act=r0.act
  |some e=>S.2=some e)/\esc 10=false/\esc 11=false/\esc 23=false) ?_ ?_
 ·refine aI (D:=Nat×RunD×ErD) (fun y vs=>[(2, .seq 1 (ts.map aB)),(5, .loc 5 (vs 5) 0 0),(10, .loc 10 (vs 10) 0 0),(11, .loc 11 (vs 11) 0 0),(13, .row 23 (vs 23)),(17,I y.1)]) (fun y vs=>[(5,⟨5,[aA c],26,false⟩),(10,⟨11,[[nilS,nilS,nilS,nilS,B false,nilS,nilS,I 0,I 0,I 0,I 0]],50,false⟩),(11,⟨11,[rrA y.2.1 d now y.2.2],50,false⟩),(23,⟨1,(toR c mem ts).map aB,3,true⟩)]) (fun y _ esc=>(y.1<=ts.length/\y.2.1.act.length<=100/\(match y.2.2 with
   |none=> ∃r0,X=(r0,none)/\da c d now r0 ts=da c d now y.2.1 (ts.drop y.1)/\RunOk c y.2.1/\y.2.1.act=r0.act
   |some e=>S.2=some e))/\esc 10=false/\esc 11=false/\esc 23=false) (fun y=>(ts.length-y.1)+(if y.2.2.isSome=true then 0 else 1)) (0,r1,e) ?_ ?_ ?_ ?_
  ·refine⟨⟨Kj _,ha,?_⟩,by simp only[go_sem,e0,e1,e3,Kk]⟩;rcases e with _|e
   ·exact⟨r1,heq.1,rfl,heq.2,rfl⟩
   ·exact heq
  ·exact qe
  ·exact qe
  try clear e0 e1 e3 ha heq e r1
  rintro⟨j,r1,e⟩ us fs ⟨⟨hj,ha,heq⟩,e0,e1,e3⟩;simp only at hj ha heq;rcases e with _|⟨k,ps⟩
  ·obtain⟨r0,hX0,heq,hr1,hact⟩:=heq;by_cases hlt:j<ts.length
   ·obtain⟨n,hx⟩:=gE hlt;obtain⟨t,ht⟩:=hts n (K4 hx);obtain⟨s1,s2⟩:=Cf h ht;have f0:=hal r1 hr1 (by omega) t.acts (by omega) s2;obtain⟨k1,k2⟩:=hok r1 hr1 t.acts s2;have q1:=nlt hlt;have q2:=aD hlt (by omega);have q3:=nlt (K0.1 ht).1;rw[vx hx ht]at heq;have ha2:=k2.act;rcases hXX:allP c d now r1 t.acts with⟨r2,_|⟨k,ps⟩⟩
    ·rw[hXX]at heq f0 k1 ha2;simp only at heq k1 ha2;unfold rrA at f0;simp only at f0;have F:=ai12 rrA.eq_1 rrA.eq_2 aA.eq_1 az.eq_1 aB.eq_1 actsAV.eq_1 hx ht q1 q2 q3<|ai3 e0 e1 e3;repeat refine tz1 f0 ?_
     exact qn (j+1,r2,none) ⟨⟨hlt,by rw[ha2];exact ha,r0,hX0,heq,k1,ha2.trans hact⟩,by simp only[go_sem,e0,e1,e3,Kk]⟩
    ·rw[hXX]at heq f0 ha2;simp only at heq ha2;unfold rrA at f0;simp only at f0;have F:=ai12 rrA.eq_1 rrA.eq_2 aA.eq_1 az.eq_1 aB.eq_1 actsAV.eq_1 hx ht q1 q2 q3<|ai3 e0 e1 e3;repeat refine tz1 f0 ?_
     exact qn (j+1,r2,some (k,ps)) ⟨⟨hlt,by rw[ha2];exact ha,hSA _ _ _ hX0 heq⟩,by simp only[go_sem,e0,e1,e3,Kk]⟩
   ·obtain rfl:j=ts.length:=by omega
    have q1:=nl ts.length;rw[Ls]at heq;have F:=ai7 rrA.eq_1 rrA.eq_2 aA.eq_1 q1 e0 e1 e3;repeat refine st ?_
    refine⟨(r1,none),⟨⟨r0,hX0,heq,hr1,hact⟩,by simp only[go_sem,e0,e1,e3,Kk]⟩,?_,?_⟩
    ·exact qe
    ·exact qe
  ·have hk0:=uZ hSE heq;by_cases hlt:(j:Int)< (ts.length:Int)
   ·have F:=ai8 rrA.eq_1 rrA.eq_2 aA.eq_1 hlt hk0 e0 e1 e3;repeat refine st ?_
    refine⟨(r1,some (k,ps)),⟨heq,by simp only[go_sem,e0,e1,e3,Kk]⟩,?_,?_⟩
    ·exact qe
    ·exact qe
   ·have F:=ai8 rrA.eq_1 rrA.eq_2 aA.eq_1 hlt hk0 e0 e1 e3;repeat refine st ?_
    refine⟨(r1,some (k,ps)),⟨heq,by simp only[go_sem,e0,e1,e3,Kk]⟩,?_,?_⟩
    ·exact qe
    ·exact qe
 try clear e0 e1 e3 ha heq e r1
 rintro⟨r1,_|⟨k,ps⟩⟩ us fs ⟨heq,e0,e1,e3⟩
 ·obtain⟨r0,hX0,heq,hr1,hact⟩:=heq;have ka:=hlk.2.2.2 (by rw[hX0]);rw[hX0]at ka;have hS:=hSN _ _ hX0 heq;have kact:r1.act=x.1.filter fun k=> !(zL R).contains k:=hact.trans ka;have f9:=hen r1 hr1 (by rw[kact];exact hrise.sublist Lp) (fun y hy=>hin0 y (by rw[kact]at hy;exact(Ke.1 hy).1)) (by rw[kact];exact Km (Kq ..) (by omega)) (hleg r1 hr1 kact);rw[hS]at f9;obtain⟨r2,_|⟨k,ps⟩⟩:=S
  ·unfold rrA at f9;unfold rsA rrA;simp only at f9 |-;have F:=ai6 rrA.eq_1 rrA.eq_2 aA.eq_1 e0 e1 e3;repeat refine st ?_
   refine lL fS2 ?_;repeat refine tz1 f9 ?_
   (refine aM ?_;refine⟨_,(by show (ae _ _ _).run _=some _;simp only[go_sem,F];rfl),?_⟩)
   exact .refl _
  ·unfold rrA at f9;unfold rsA;simp only at f9 |-;have F:=ai6 rrA.eq_1 rrA.eq_2 aA.eq_1 e0 e1 e3;repeat refine st ?_
   refine lL fS2 ?_;repeat refine tz1 f9 ?_
   (refine aM ?_;refine⟨_,(by show (ae _ _ _).run _=some _;simp only[go_sem,F];rfl),?_⟩)
   exact Ck _ _ _ _ _ _ _ _ _ _
 ·simp only at heq;have f9:=yX env c h d now r1 T2 k ps (uZ hSE heq);obtain⟨r2,e⟩:=S;simp only at heq;subst heq;unfold rrA aA at f9;unfold rsA;simp only;have F:=ai6 rrA.eq_1 rrA.eq_2 aA.eq_1 e0 e1 e3;repeat refine st ?_
  refine lL fS2 ?_;repeat refine tz1 f9 ?_
  (refine aM ?_;refine⟨_,(by show (ae _ _ _).run _=some _;simp only[go_sem,F];rfl),?_⟩)
  exact Ck _ _ _ _ _ _ _ _ _ _
end

end Go.Proofs.YtdpjgflalmnkdaaGreatDoor