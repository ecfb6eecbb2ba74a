/- The law MicroEnabled. -/
import Derived.Test.YtbjldjekgepopaaGreatDoorT27
set_option maxRecDepth 100000
set_option maxHeartbeats 16000000
set_option linter.unusedSimpArgs false
namespace Go.Proofs.YtbjldjekgepopaaGreatDoor
open Go.Proofs.Tryz
section
open Go.RowKit
def xJ (a2:Addr):Except Nat (List Nat)->AV
 | .ok l=> .tuple [.seq 1 (l.map aB),nilE]
 | .error n=> .tuple [nilS,errV (1000+(n:Nat)) (sentV a2)]
theorem Gm {c:ChD} {w:WoD} {ev:List UInt8} {i:Nat} {l o:List Nat} (h:eJ c w ev ((i:Int)::upL c i)= .no):dX c w ev (i::l) o=dX c w ev l o:=by
 conv=>lhs;unfold dX
 rw[h]
theorem FN {c:ChD} {w:WoD} {ev:List UInt8} {i n:Nat} {l o:List Nat} (h:eJ c w ev ((i:Int)::upL c i)= .one n):dX c w ev (i::l) o=dX c w ev l (if o.contains n then o else o++[n]):=by
 conv=>lhs;unfold dX
 rw[h]
theorem FO {c:ChD} {w:WoD} {ev:List UInt8} {i n:Nat} {l o:List Nat} (h:eJ c w ev ((i:Int)::upL c i)= .bad n):dX c w ev (i::l) o= .error n:=by
 unfold dX;rw[h]
theorem Im {c:ChD} {w:WoD} {ev:List UInt8} {n:Nat} {l:List Int} (h:eJ c w ev l= .one n):n<c.trans.length:=by
 obtain⟨_,_,t,ht,_⟩:=xA h;exact(KW.1 ht).1
theorem take_len (c:ChD) (act:List Int) (l:List Nat) (n:Nat):(takeL c act l n).length<=l.length+1:=by
 unfold takeL;split
 ·rw[K4,Le];have:=Kw (fun k=> !dx c act k n) l;omega
 ·omega
theorem JY (l:List Nat):l.map aB=(zL l).map intAV:=(eB l).symm
theorem yn (env:Env) (a1 a2 a8:Addr) (he:ChEnv env a1 a8) (h2:env 2=some (sentV a2)) (c:ChD) (h:Full c) (hs:Small c) (x:InD) (d:Int) (hx:Asked c x d) (ev:List UInt8)
 (fr:Con prog env 93 [Sg [109,105,99,114,111,46,69,110,97,98,108,101,100],aC c, .agg (inE x),I d] nilE) (l:List Nat) (hl:x.1=zL l) (hk: ∀k∈l,k<c.states.length):
 Con prog env 49 [aC c, .agg (inE x),Sg ev,I d] (xJ a2 (xm c x.1 (woX c x.1 x.2.1 d) ev (innL c l))):=by
 have hfew:=h.few;have hxl:=hx.act;have f1:=ak env c hs
 have f2:Con prog env 94 [aC c,ints34 x.1] (.tuple [.seq 1 ((innL c l).map aB),nilE]):=by
  have:=Ec env a1 a8 he c h hs l (by rw[hl,bg]at hxl;omega) hk (by rw[<-hl];exact hx.lg);rwa [JY l, <-hl]at this
 have f3:=fun k:Nat=>Gt env a1 a2 a8 he h2 c h hs x d hx k ev;have f4:=fun(o:List Nat) (n:Nat) (ho:o.length<=1000)=>(bA env (zL o) n (by rw[bg];omega)).lend rfl;have f5:=fun(o:List Nat) (ho:o.length<=1000) (hk: ∀n∈o,n<c.trans.length) (n:Nat) (hn:n<c.trans.length)=>GD env a1 a8 he c h hs x d hx o ho hk n hn
 have hil:(innL c l).length<=32:=by
  have:=(qm h.toRight (zL (lnTo c l l.length))).length_le_of_subset (l₂:=List.range c.states.length) fun m hm=>by
   have hm:m∈innL c l:=hm;unfold innL sortL at hm;split at hm
   ·exact Kr.2 ((jG h.toRight m).1 (Kb.1 hm).1)
   ·simp at hm
  simp at this;show (sortL c (zL (lnTo c l l.length))).length<=32;omega
 unfold xm;generalize hW:woX c x.1 x.2.1 d=W at*;generalize innL c l=R at*;unfold rnE at f3 f5;unfold inE at fr |-;unfold aC at f1 f2 fr |-;unfold aA at f1;refine qf func49 call49 ntmps49 results49 ?_;repeat refine Aa fr f1 f2 ?_
 refine aZ 14 14 3 1 ?_;refine iB (Turned.nil 15 1 (by simp only[go_sem])) ?_
 refine aK (D:=Nat×List Nat) (fun e vs=>[(2,Sg ev),(11, .loc 35 (vs 35) 0 0),(14, .row 14 (vs 14)),(15, .seq 1 []),(47, .seq 1 (R.map aB)),(48,I R.length),(49,I e.1)])
  (fun e _=>[(14,⟨1,e.2.map aB,3,true⟩),(35,⟨15,[[ints34 x.1,ints34 x.2.1, .seq 2 (x.2.2.1.map mmAV), .seq 2 (x.2.2.2.1.map tmAV),B x.2.2.2.2,nilS,nilS, .ref 9 [tabCells c] 0 0,Sg c.name,I c.initial,varsAV c.vars,stsAV c.states,trsAV c.trans,I d,I 0]],185,false⟩)])
  (fun e _ esc=>(e.1<=R.length/\dX c W ev R []=dX c W ev (R.drop e.1) e.2/\e.2.length<=e.1/\ ∀n∈e.2,n<c.trans.length)/\esc 14=false) (fun e=>R.length-e.1) (0,[]) ?_ ?_ ?_ ?_
 ·exact⟨⟨Ke _,rfl,K8 _,fun n hn=>by simp at hn⟩,by simp only[go_sem]⟩
 ·exact qe0
 ·(simp only[go_sem])
  try rfl
 rintro⟨j,o⟩ ws esc ⟨⟨hj,hq,hol,hok⟩,e0⟩;simp only at hj hq hol hok;by_cases hlt:j<R.length
 ·obtain⟨k,hkk⟩:=gE hlt;have q1:=nlt hlt;have q2:=aD hlt (by omega);have f6:=f3 k;rw[bE hkk]at hq;have q4: ¬(0:Int)<= -1:=by omega
  cases hv:eJ c W ev ((k:Int)::upL c k) with
  | no=>
    rw[hv]at f6;unfold ri at f6;rw[Gm hv]at hq;have F:=ai6 aB.eq_1 hkk q1 q2 q4 e0;repeat refine tz1 f6 ?_
    exact qn (j+1,o) ⟨⟨hlt,hq,Nat.le_succ_of_le hol,hok⟩,by simp only[go_sem,e0]⟩
  | bad n=>
    rw[hv]at f6;unfold ri at f6;rw[FO hv]at hq;rw[hq];show awp _ _ _ _ _ _;unfold xJ;have F:=ai4 aB.eq_1 hkk q1 e0;repeat refine tz1 f6 ?_
    exact aR
  | one n=>
    have hnl:=Im hv;rw[hv]at f6;unfold ri at f6;rw[FN hv]at hq;have q3:(0:Int)<=(n:Int):=by omega
    have f7:=f4 o n (by omega);rw[eB]at f7;have hf:Fits (o.length+1) 8:=aG (by omega) (by omega);cases hc:o.contains n with
    | true=>
      have hz:(zL o).contains (n:Int)=true:=tP.2 (K3.1 hc);rw[hz]at f7;rw[hc]at hq;simp only[L4]at hq;have F:=ai6 aB.eq_1 hkk q1 q2 q3 e0;repeat refine tz1 f6 ?_
      refine lL f7 ?_;repeat refine st ?_
      exact qn (j+1,o) ⟨⟨hlt,hq,Nat.le_succ_of_le hol,hok⟩,by simp only[go_sem,e0]⟩
    | false=>
      have hz:(zL o).contains (n:Int)=false:=by
       cases hh:(zL o).contains (n:Int) with
       |false=>rfl
       | true=>
         have:=K3.2 (tP.1 hh);rw[hc]at this;cases this
      rw[hz]at f7;rw[hc]at hq;simp only[LA,Lf]at hq;have F:=ai7 aB.eq_1 hkk q1 q2 q3 hf e0;repeat refine tz1 f6 ?_
      refine lL f7 ?_;repeat refine st ?_
      refine⟨(j+1,o++[n]),⟨⟨hlt,hq,by simp only[K4,Le];omega,fun m hm=> ?_⟩,by simp only[go_sem,e0]⟩,?_,?_,by simp only;omega⟩
      ·rcases Kt.1 hm with hm|hm
       ·exact hok m hm
       ·rw[Km.1 hm];exact hnl
      ·exact qe
      ·have F:=ai aB.eq_1 @Ki.{0,0};exact qe
 ·obtain rfl:j=R.length:=by omega
  have q1:=nl R.length;rw[MP]at hq;have hq2:dX c W ev R []= .ok o:=hq;rw[hq2];show awp _ _ _ _ _ _;unfold H6 xJ
  have hfo: ∀m,m<=o.length->((o.take m).foldl (takeL c x.1) []).length<=m/\ ∀n∈(o.take m).foldl (takeL c x.1) [],n<c.trans.length:=fun m=>by
   induction m with
   |zero=>exact fun _=>⟨by simp,fun n hn=>by simp at hn⟩
   | succ m ih=>
     intro hm;obtain⟨i1,i2⟩:=ih (by omega);obtain⟨n,hn⟩: ∃n,o[m]? =some n:=⟨o[m],KV (by omega)⟩;rw[bm _ _ hn];refine⟨Kh (take_len ..) (by omega),fun k hk=> ?_⟩;rcases yx hk with hk|rfl
     ·exact i2 k hk
     ·exact hok _ (K1 hn)
  have F:=ai q1 e0;repeat refine st ?_
  try clear f4 f6
  refine aK (D:=Nat) (fun m vs=>[(11, .loc 35 (vs 35) 0 0),(15, .seq 1 (((o.take m).foldl (takeL c x.1) []).map aB)),(76, .row 14 (vs 14)),(77,I o.length),(78,I m)])
   (fun m _=>[(14,⟨1,o.map aB,3,true⟩),(35,⟨15,[[ints34 x.1,ints34 x.2.1, .seq 2 (x.2.2.1.map mmAV), .seq 2 (x.2.2.2.1.map tmAV),B x.2.2.2.2,nilS,nilS, .ref 9 [tabCells c] 0 0,Sg c.name,I c.initial,varsAV c.vars,stsAV c.states,trsAV c.trans,I d,I 0]],185,false⟩)])
   (fun m _ _=>m<=o.length) (fun m=>o.length-m) 0 ?_ ?_ ?_ ?_
  ·exact Ke _
  ·(simp only[go_sem,F])
   try rfl
  ·exact qe
  rintro m us es hm;obtain⟨i1,i2⟩:=hfo m hm;by_cases hlt2:m<o.length
  ·obtain⟨n,hn⟩:=gE hlt2;have p1:=nlt hlt2;have p2:=aD hlt2 (by omega);have f6:=f5 _ (by omega) i2 n (hok n (K1 hn));have hnx:=bm (takeL c x.1) [] hn;rw[<-hnx]at f6;generalize (o.take m).foldl (takeL c x.1) []=A at*;generalize hA2:(o.take (m+1)).foldl (takeL c x.1) []=A2 at*;have F:=ai4 aB.eq_1 hn p1 p2;repeat refine tz1 f6 ?_
   refine⟨m+1,hlt2,?_,?_,by omega⟩
   ·have F:=ai aB.eq_1 hA2;exact qe
   ·(simp only[go_sem,aB,hA2])
  ·obtain rfl:m=o.length:=by omega
   have p1:=nl o.length;rw[Kp];have F:=p1;repeat refine st ?_
   exact aR
end
section
open Go.RowKit
theorem EF {l:List (List UInt8×Int)} (h:TmsOk l) (hl:l.length<=8):cx l=true:=by
 unfold cx;rw[LC hl,Oj];refine om fun j hj=> ?_;have e:l.getD j ([],0)=l[j]:=by simp[Ko,KV hj]
 obtain⟨e1,e2,e3⟩:=h.each _ (MI hj);unfold jq;rw[e,e1];have hc:AO l[j].2=true:=by unfold AO;simp[e2,e3]
 rw[hc];by_cases h0:j=0
 ·simp[h0]
 ·have hp:=LH.1 h.rise (j-1) j (by omega) hj (by omega);have e4:l.getD (j-1) ([],0)=l[j-1]'(by omega):=by simp[Ko,KV (show j-1<l.length by omega)]
  rw[e4,hp];simp
def inR (r:RunD):InD:=(r.act,r.vars,r.mem,r.tms,r.over)
theorem uZ {c:ChD} {r:RunD} (h:RunOk c r) (hb:lgB c r.act=true) (hm:bY c r.mem=true) (ho:r.over=j6 c r.act):ap c (rcI (inR r))=true:=by
 unfold ap;show (lgB c r.act&&bY c r.mem&&(r.vars.length==c.vars.length)&&cx r.tms&&(r.over==j6 c r.act)&&kh r.vars)=true;rw[hb,hm,h.len,EF h.tms h.tml,ho,show kh r.vars=true from K2.2 h.vars];simp
theorem w9 {c:ChD} {act:List Int} (h: ∀x∈act,inZ c x=true):j6 c act=act.any fun x=>d4 c x==3&&decide (aO c x<0):=by
 unfold j6;rw[LD,L8,L8]
 have e: ∀x∈act,fZ c x=(d4 c x==3&&decide (aO c x<0)):=fun x hx=>by
  obtain⟨k,s,rfl,hs,_⟩:=dD (h x hx);unfold fZ;rw[Lj,hs,rW hs,C5 hs,Bool.and_comm]
 exact⟨fun⟨x,hx,q⟩=>⟨x,hx,by rw[<-e x hx];exact q⟩,fun⟨x,hx,q⟩=>⟨x,hx,by rw[e x hx];exact q⟩⟩
theorem pU {c:ChD} (h:Full c) {now:Int} (hn:0<=now/\now<=1099511627776) (hv: ∀v∈c.vars,aJ v.start=true) (he:(cq c now).2=none):ap c (rcI (inR (cq c now).1))=true/\RunOk c (cq c now).1/\(cq c now).1.mem=[]:=by
 obtain⟨k1,k2⟩:=AK (cK h) (l:=zL (tbegL c (-1))) (show aJ 0=true by rfl) hn (my hv) .nil
 have hce:(aj c 0 now (startR c) [] (zL (tbegL c (-1)))).1.2=none:=by
  cases hx:(aj c 0 now (startR c) [] (zL (tbegL c (-1)))).1.2 with
  |none=>rfl
  |some e=>rw[show cq c now=enterP c 0 now (startR c) (zL (tbegL c (-1))) from rfl,vX hx,hx]at he;cases he
 have hb:=(ox h hn hv hce);have kE:=k2 he;change ap c (rcI (inR (enterP c 0 now (startR c) (zL (tbegL c (-1)))).1))=true/\RunOk c (enterP c 0 now (startR c) (zL (tbegL c (-1)))).1/\(enterP c 0 now (startR c) (zL (tbegL c (-1)))).1.mem=[]
 have hact:(enterP c 0 now (startR c) (zL (tbegL c (-1)))).1.act=zL (qt c (tbegL c (-1))):=by
  obtain⟨_,kc⟩:=il (cK h) (l:=zL (tbegL c (-1))) (f:=[]) (show aJ 0=true by rfl) hn (my hv) .nil;rw[<-hb.2];exact nj kE.rise (kc hce).rise fun x=>by rw[kE.mem,(kc hce).mem]
 have hin: ∀x∈zL (qt c (tbegL c (-1))),inZ c x=true:=fun x hx=>by
  obtain⟨j,hj,rfl⟩:=K9.1 hx;exact aW.2 (Kr.1 (Kb.1 hj).1)
 refine⟨uZ k1 (by rw[hact, <-hb.2];exact hb.1) (by rw[kE.mm];rfl) ?_,k1,kE.mm⟩;rw[kE.over,hact,w9 hin,LD];show (false||_)=true↔_;rw[Lu,L8,L8]
 have hm: ∀x,x∈zL (qt c (tbegL c (-1)))↔x∈zL (tbegL c (-1)):=fun x=>by
  rw[<-hact,kE.mem];simp[startR]
 constructor
 ·rintro⟨x,hx,q⟩;exact⟨x,(hm x).2 hx,by simpa[startR]using q⟩
 ·rintro⟨x,hx,q⟩;exact⟨x,(hm x).1 hx,by simpa[startR]using q⟩
theorem Gb {c:ChD} {act:List Int} (h:lgB c act=true):act.length<=c.states.length:=by
 have hL:=e9 h
 have:=hL.nodup.length_le_of_subset (l₂:=zL (List.range c.states.length)) fun x hx=>by
  obtain⟨_,_,hz,_⟩:=hL.of hx;obtain⟨h0,h1⟩:=aI.1 hz;exact K9.2 ⟨x.toNat,Kr.2 (by omega),by simp;omega⟩
 rw[bg,OH]at this;exact this
end
section
open Go.RowKit
theorem J0 {l:List (List UInt8×Int)} (h:cx l=true):TmsOk l/\l.length<=8:=by
 unfold cx at h;rw[KY,K6]at h;obtain⟨h1,h2⟩:=h;have at_: ∀j (hj:j<l.length),l.getD j ([],0)=l[j]:=fun j hj=>by simp[Ko,KV hj]
 have k:=fun j (hj:j<l.length)=>JA h1 j hj;refine⟨⟨LH.2 fun i j hi hj hij=> ?_,fun x hx=> ?_⟩,h2⟩
 ·have key: ∀m,(hm:i+1+m<l.length)->Op.bytesLess l[i].1 l[i+1+m].1=true:=fun m=>by
   have step: ∀j (hj:j+1<l.length),Op.bytesLess l[j].1 l[j+1].1=true:=fun j hj=>by
    have:=k (j+1) hj;unfold jq at this;rw[at_ _ hj,show j+1-1=j by omega,at_ j (by omega)]at this;simp only[KY,Lb,K6]at this;exact this.2.resolve_left (by omega)
   induction m with
   |zero=>exact fun hm=>step i hm
   |succ m ih=>exact fun hm=>eM (ih (by omega)) (step (i+1+m) hm)
  have:=key (j-i-1) (by omega);simpa[show i+1+(j-i-1)=j by omega]using this
 ·obtain⟨j,hj,rfl⟩:=NO.1 hx;have:=k j hj;unfold jq AO at this;rw[at_ j hj]at this;simp only[KY,K6]at this;exact⟨this.1.1,this.1.2⟩
structure InstOk (c:ChD) (x:InD):Prop where
 lg:lgB c x.1=true
 mem:bY c x.2.2.1=true
 len:x.2.1.length=c.vars.length
 fit: ∀v∈x.2.1,aJ v=true
 tms:TmsOk x.2.2.2.1
 tml:x.2.2.2.1.length<=8
 over:x.2.2.2.2=j6 c x.1
theorem eS {c:ChD} {x:InD} (hb:ap c (rcI x)=true):InstOk c x:=by
 unfold ap at hb;simp only[KY,LW]at hb;obtain⟨⟨⟨⟨⟨b1,b2⟩,b3⟩,b4⟩,b5⟩,b6⟩:=hb;obtain⟨t1,t2⟩:=J0 b4;exact⟨b1,b2,b3,K2.1 b6,t1,t2,b5⟩
theorem InstOk.beg {c:ChD} {x:InD} (h:InstOk c x):RunOk c (fp x):=⟨h.len,h.fit,h.tms,h.tml,Ke _,Ke _,fun e he=>by simp[fp]at he⟩
section
variable {c:ChD} (h:Full c) {act:List Int} (hb:lgB c act=true) {ts:List Nat} (hf:Fit c act ts)
include h hb hf
theorem Ac {mem:List MemD} (hm:bY c mem=true) {n:Nat} (hn:n∈ts):TrOk c act mem (dR c n):=by
 obtain⟨t,ht,hs⟩:=hf.real n hn;rw[eP ht];exact wW h hb hm ht hs
theorem DZ {y:Int} :y∈goneR c act ts↔y∈act/\ ∃n∈ts,mJ c (dR c n) y:=by
 have hm:bY c []=true:=rfl;unfold goneR;rw[M4];constructor
 ·rintro⟨n,hn,hy⟩;obtain⟨q1,q2⟩:=((Ac h hb hf hm hn).left y).1 hy;exact⟨q1,n,hn,q2⟩
 ·rintro⟨q1,n,hn,q2⟩;exact⟨n,hn,((Ac h hb hf hm hn).left y).2 ⟨q1,q2⟩⟩
theorem zn {y:Int} :y∈zL (sortL c (goneR c act ts))↔y∈act/\ ∃n∈ts,mJ c (dR c n) y:=by
 rw[iy h.toRight fun y hy=>by
  obtain⟨_,_,hz,_⟩:=(e9 hb).of ((DZ h hb hf).1 hy).1
  exact hz]
 exact DZ h hb hf
theorem xi: ∀y∈zL (sortL c (goneR c act ts)),y∈act:=fun _ hy=>((zn h hb hf).1 hy).1
theorem Jz {mem:List MemD} (hm:bY c mem=true) {y:Int} :y∈zL (sortL c (zL (toR c mem ts)))↔ ∃n∈ts,ToT c mem (dR c n) y:=by
 have e: ∀y,y∈zL (toR c mem ts)↔ ∃n∈ts,ToT c mem (dR c n) y:=fun y=>by
  unfold toR zL;rw[K9];constructor
  ·rintro⟨k,hk,rfl⟩;obtain⟨n,hn,hk⟩:=M4.1 hk;exact⟨n,hn,((Ac h hb hf hm hn).to _).1 (K9.2 ⟨k,hk,rfl⟩)⟩
  ·rintro⟨n,hn,q⟩;obtain⟨k,hk,e⟩:=K9.1 (((Ac h hb hf hm hn).to y).2 q);exact⟨k,M4.2 ⟨n,hn,hk⟩,e⟩
 rw[iy h.toRight fun y hy=>by
  obtain⟨n,hn,q⟩:=(e y).1 hy
  exact aU (C9 h ((Ac h hb hf hm hn).uni q.1).bel q.2)]
 exact e y
theorem yz {d now:Int} (hd:aJ d=true) (hn:0<=now/\now<=1099511627776) {mem:List MemD} (hm:bY c mem=true) {r2:RunD} (hr:RunOk c r2) (ha:r2.act=act.filter (fun k=> !(zL (sortL c (goneR c act ts))).reverse.contains k)) (he:(aj c d now r2 [] (zL (sortL c (zL (toR c mem ts))))).1.2=none):
 lgB c (aj c d now r2 [] (zL (sortL c (zL (toR c mem ts))))).1.1.act=true/\ ∀y,y∈(aj c d now r2 [] (zL (sortL c (zL (toR c mem ts))))).1.1.act↔gg c act mem ts y:=by
 have hrise:r2.act.Pairwise (· < ·):=by rw[ha];exact(e9 hb).rise.sublist Lk
 obtain⟨_,kc⟩:=il (cK h) (l:=zL (sortL c (zL (toR c mem ts)))) (f:=[]) hd hn hr hrise;have kc:=kc he;obtain⟨O,o1,o2,o3⟩:=rP h hb hm ts.length ts rfl hf
 have key: ∀y,y∈(aj c d now r2 [] (zL (sortL c (zL (toR c mem ts))))).1.1.act↔gg c act mem ts y:=fun y=>by
  rw[kc.mem,ha,Kb,Jz h hb hf hm,L3];unfold gg;refine or_congr ?_ Iff.rfl;refine and_congr_right fun hy=> ?_;rw[<-Ot,K3,Ou,zn h hb hf];constructor
  ·exact fun q n hn ql=>q ⟨hy,n,hn,ql⟩
  ·rintro q ⟨_,n,hn,ql⟩;exact q n hn ql
 refine⟨?_,key⟩;have e:(aj c d now r2 [] (zL (sortL c (zL (toR c mem ts))))).1.1.act=zL O:=nj kc.rise (N7.2 (o1.imp fun q=>by omega)) fun y=>(key y).trans (o3 y).symm;rw[e];exact o2
end
theorem qh {c:ChD} (h:Full c) {d now:Int} (hd:aJ d=true) (hn:0<=now/\now<=1099511627776) {x:InD} (hI:InstOk c x) (ho:x.2.2.2.2=false) {ts:List Nat} (hf:Fit c x.1 ts) (he:(stepP c d now (fp x) ts).2=none):
 RunOk c (stepP c d now (fp x) ts).1/\ap c (rcI (inR (stepP c d now (fp x) ts).1))=true/\ ∀y,y∈(stepP c d now (fp x) ts).1.act↔gg c x.1 (remL c x.1 (zL (sortL c (goneR c x.1 ts))) x.2.2.1) ts y:=by
 have hA:=cK h;have hm:=(kx h hI.lg hI.mem (xi h hI.lg hf)).2
 have hts: ∀n∈ts,∃t,c.trans[n]? =some t:=fun n hn=>by
  obtain⟨t,ht,_⟩:=hf.real n hn;exact⟨t,ht⟩
 have hov:j6 c x.1=false:=by rw[<-hI.over];exact ho
 have hz: ∀y∈x.1,inZ c y=true:=fun y hy=>by
  obtain⟨_,_,hz,_⟩:=(e9 hI.lg).of hy;exact hz
 have hG: ∀y∈zL (sortL c (goneR c x.1 ts)),y∈x.1:=xi h hI.lg hf;have leg:=fun(r2:RunD) hr ha he=>yz h hI.lg hf hd hn hm (r2:=r2) hr ha he;have hb0:RunOk c (fp x):=hI.beg
 change (match bM c d now { fp x with mem:=remL c x.1 (zL (sortL c (goneR c x.1 ts))) x.2.2.1 } (zL (sortL c (goneR c x.1 ts))).reverse with
  |(r1,none)=>(match eo c d now r1 ts with
    |(r2,none)=>enterP c d now r2 (zL (sortL c (zL (toR c (remL c x.1 (zL (sortL c (goneR c x.1 ts))) x.2.2.1) ts))))
    |y=>y)
  |y=>y).2=none at he
 show RunOk c (match bM c d now { fp x with mem:=remL c x.1 (zL (sortL c (goneR c x.1 ts))) x.2.2.1 } (zL (sortL c (goneR c x.1 ts))).reverse with
  |(r1,none)=>(match eo c d now r1 ts with
    |(r2,none)=>enterP c d now r2 (zL (sortL c (zL (toR c (remL c x.1 (zL (sortL c (goneR c x.1 ts))) x.2.2.1) ts))))
    |y=>y)
  |y=>y).1/\ap c (rcI (inR (match bM c d now { fp x with mem:=remL c x.1 (zL (sortL c (goneR c x.1 ts))) x.2.2.1 } (zL (sortL c (goneR c x.1 ts))).reverse with
  |(r1,none)=>(match eo c d now r1 ts with
    |(r2,none)=>enterP c d now r2 (zL (sortL c (zL (toR c (remL c x.1 (zL (sortL c (goneR c x.1 ts))) x.2.2.1) ts))))
    |y=>y)
  |y=>y).1))=true/\ ∀y,y∈(match bM c d now { fp x with mem:=remL c x.1 (zL (sortL c (goneR c x.1 ts))) x.2.2.1 } (zL (sortL c (goneR c x.1 ts))).reverse with
  |(r1,none)=>(match eo c d now r1 ts with
    |(r2,none)=>enterP c d now r2 (zL (sortL c (zL (toR c (remL c x.1 (zL (sortL c (goneR c x.1 ts))) x.2.2.1) ts))))
    |y=>y)
  |y=>y).1.act↔_
 generalize remL c x.1 (zL (sortL c (goneR c x.1 ts))) x.2.2.1=mem at*;obtain⟨k1,k2,k3,k4⟩:=si hA (l:=(zL (sortL c (goneR c x.1 ts))).reverse) hd hn (r:={ fp x with mem:=mem }) { hb0 with };rcases hX:bM c d now { fp x with mem:=mem } (zL (sortL c (goneR c x.1 ts))).reverse with⟨r1,_|e⟩
 ·rw[hX]at he k1 k2 k3 k4;have k4:=k4 rfl;simp only at he k1 k2 k3 k4 |-;obtain⟨a1,a2⟩:=Dq hA hd hn (l:=ts) (r:=r1) hts k1;rcases hY:eo c d now r1 ts with⟨r2,_|e⟩
  ·rw[hY]at he a1 a2;simp only at he a1 a2 |-;have ha:r2.act=x.1.filter fun k=> !(zL (sortL c (goneR c x.1 ts))).reverse.contains k:=a2.act.trans k4;have hrise:r2.act.Pairwise (· < ·):=by rw[ha];exact(e9 hI.lg).rise.sublist Lk
   obtain⟨n1,n2⟩:=AK hA (l:=zL (sortL c (zL (toR c mem ts)))) hd hn a1 hrise;have n2:=n2 he
   have hce:(aj c d now r2 [] (zL (sortL c (zL (toR c mem ts))))).1.2=none:=by
    cases hx:(aj c d now r2 [] (zL (sortL c (zL (toR c mem ts))))).1.2 with
    |none=>rfl
    |some e=>rw[vX hx,hx]at he;cases he
   obtain⟨l1,l2⟩:=leg r2 a1 ha hce;obtain⟨_,kc⟩:=il hA (l:=zL (sortL c (zL (toR c mem ts)))) (f:=[]) hd hn a1 hrise;have kc:=kc hce;have hact:(enterP c d now r2 (zL (sortL c (zL (toR c mem ts))))).1.act=(aj c d now r2 [] (zL (sortL c (zL (toR c mem ts))))).1.1.act:=nj n2.rise kc.rise fun y=>by rw[n2.mem,kc.mem]
   refine⟨n1,uZ n1 (by rw[hact];exact l1) (by rw[n2.mm,a2.mem,k2];exact hm) ?_,fun y=>by rw[hact];exact l2 y⟩
   have hin: ∀y∈(enterP c d now r2 (zL (sortL c (zL (toR c mem ts))))).1.act,inZ c y=true:=fun y hy=>by
    rw[hact]at hy;obtain⟨_,_,hz,_⟩:=(e9 l1).of hy;exact hz
   rw[n2.over,a2.over,k3,w9 hin,LD];rw[w9 hz]at hov;have ho2:(fp x).over=false:=ho;show ((fp x).over||_)=true↔_;rw[ho2,Lu,L8,L8]
   have hno: ∀y∈r2.act,(d4 c y==3&&decide (aO c y<0))=false:=fun y hy=>by
    rw[ha]at hy;exact Ml.2 fun q=>Ml.1 hov (L8.2 ⟨y,(Kb.1 hy).1,q⟩)
   constructor
   ·rintro⟨y,hy,q⟩;refine⟨y,(n2.mem y).2 (.inr hy),?_⟩;simp only[KY]at q |-;exact⟨q.1.2,q.2⟩
   ·rintro⟨y,hy,q⟩;rcases (n2.mem y).1 hy with hy|hy
    ·rw[hno y hy]at q;cases q
    ·refine⟨y,hy,?_⟩
     have hc:r2.act.contains y=false:=by
      cases hh:r2.act.contains y with
      |false=>rfl
      | true=>
        rw[hno y (K3.1 hh)]at q;cases q
     rw[hc];simpa using q
  ·rw[hY]at he;cases he
 ·rw[hX]at he;cases he
end
section
open Go.RowKit
structure MaD where
 x:InD
 said:List Int
 steps:Nat
 wait:List (List UInt8×Int)
 data:Int
def d7 (c:ChD) (m:MaD) (ev:List UInt8):Except Nat (List Nat):=xm c m.x.1 (woX c m.x.1 m.x.2.1 m.data) ev (innL c (m.x.1.map Int.toNat))
def addP (m:MaD) (outs:List Int) (rais:List (List UInt8×Int)):MaD×ErD:=
 if 256< (m.said++outs).length\/16< (m.wait++rais).length then({ m with said:=m.said++outs,wait:=m.wait++rais },some (8,[-1])) else({ m with said:=m.said++outs,wait:=m.wait++rais },none)
def JU (m:MaD) (r:RunD):MaD×ErD:=addP ⟨inR r,m.said,m.steps+1,m.wait,m.data⟩ r.outs r.rais
def mstepM (c:ChD) (now:Int) (F:Nat) (m:MaD) (l:List Nat):MaD×ErD:=
 if F<=m.steps then(m,some (6,[-1]))
 else match stepP c m.data now (fp m.x) l with
  |(_,some e)=>(m,some (e.1, -1::e.2.headD (-1)::e.2.tail))
  |(r,none)=>JU m r
def atM (c:ChD) (now:Int) (F:Nat) (m:MaD) (ev:List UInt8):(MaD×ErD)×Bool:=
 match d7 c m ev with
 | .error n=>((m,some (2,[1000+(n:Int)])),false)
 | .ok []=>((m,none),false)
 | .ok (k::l)=>(mstepM c now F m (k::l),true)
def onM (c:ChD) (now:Int) (F:Nat):Nat->MaD->MaD×ErD
 |0,m=>(m,some (0,[]))
 | n+1,m=>if m.x.2.2.2.2=true then(m,none)
   else match atM c now F m []with
    |((m1,some e),_)=>(m1,some e)
    |((m1,none),true)=>onM c now F n m1
    |((m1,none),false)=>match m1.wait with
      |[]=>(m1,none)
      | e::w=>match atM c now F { m1 with wait:=w,data:=e.2 } e.1 with
        |((m2,some e),_)=>(m2,some e)
        |((m2,none),_)=>onM c now F n m2
def rj (F:Nat) (m:MaD):Nat:=(F-m.steps)*17+m.wait.length
structure MaOk (c:ChD) (F:Nat) (m:MaD):Prop where
 inst:ap c (rcI m.x)=true
 data:aJ m.data=true
 wait:m.wait.length<=16
 waf: ∀e∈m.wait,aJ e.2=true
 said:m.said.length<=256
 steps:m.steps<=F
 fuel:F<=256
theorem DD {act:List Int} {l:List Nat} (h:act=zL l):act.map Int.toNat=l:=by
 rw[h];unfold zL;rw[Mk]
 conv=>rhs;rw[<-List.map_id l]
 exact MF fun k _=>by simp
theorem v7 {c:ChD} (h:Full c) {m:MaD} (hb:lgB c m.x.1=true) {ev:List UInt8} {f:List Nat} (e:d7 c m ev= .ok f):Fit c m.x.1 f:=by
 obtain⟨l,hl,hk⟩:=wt hb;unfold d7 at e;rw[DD hl]at e;refine HB h (e9 hb) (fun i hi=> ?_) e;rw[hl];exact K9.2 ⟨i,Ig h hk hi,rfl⟩
section
variable {c:ChD} (h:Full c) {now:Int} (hn:0<=now/\now<=1099511627776)
include h hn
theorem G7 {F:Nat} {m:MaD} (hm:MaOk c F m) (ho:m.x.2.2.2.2=false) {l:List Nat} (hf:Fit c m.x.1 l) (he:(mstepM c now F m l).2=none):MaOk c F (mstepM c now F m l).1/\(mstepM c now F m l).1.steps=m.steps+1/\m.steps<F/\(mstepM c now F m l).1.data=m.data:=by
 unfold mstepM at he |-;split at he
 ·cases he
 rename_i hF;rw[KZ hF];have hs:=qh h hm.data hn (eS hm.inst) ho hf;rcases hX:stepP c m.data now (fp m.x) l with⟨r,_|e⟩
 ·rw[hX]at he hs;obtain⟨k1,k2,_⟩:=hs rfl;simp only at he k1 k2 |-;unfold JU addP at he |-;simp only at he |-;split at he
  ·cases he
  rename_i hc;rw[KZ hc];refine⟨⟨k2,hm.data,show (m.wait++r.rais).length<=16 by omega,fun e he=> ?_,show (m.said++r.outs).length<=256 by omega,show m.steps+1<=F by omega,hm.fuel⟩,rfl,by omega,rfl⟩;rcases Kt.1 he with q|q
  ·exact hm.waf e q
  ·exact k1.raf e q
 ·rw[hX]at he;cases he
theorem nf {F:Nat} {m:MaD} (hm:MaOk c F m) (ho:m.x.2.2.2.2=false) {ev:List UInt8} (he:(atM c now F m ev).1.2=none):MaOk c F (atM c now F m ev).1.1/\(atM c now F m ev).1.1.data=m.data/\(((atM c now F m ev).2=true/\(atM c now F m ev).1.1.steps=m.steps+1/\m.steps<F)\/((atM c now F m ev).2=false/\(atM c now F m ev).1.1=m)):=by
 unfold atM at he |-;cases hv:d7 c m ev with
 |error n=>rw[hv]at he;cases he
 | ok f=>
   rw[hv]at he;cases f with
   |nil=>exact⟨hm,rfl, .inr ⟨rfl,rfl⟩⟩
   | cons k l=>
     obtain⟨q1,q2,q3,q4⟩:=G7 h hn hm ho (v7 h (eS hm.inst).lg hv) he;exact⟨q1,q4, .inl ⟨rfl,q2,q3⟩⟩
end
end
section
open Go.RowKit
theorem C3 {c:ChD} {F:Nat} {m:MaD} (hm:MaOk c F m) {e:List UInt8×Int} {w:List (List UInt8×Int)} (hw:m.wait=e::w):MaOk c F { m with wait:=w,data:=e.2 } :=
 { hm with data:=hm.waf e (by rw[hw];simp),wait:=by have:=hm.wait;rw[hw]at this;simp at this |-;omega,waf:=fun x hx=>hm.waf x (by rw[hw];simp[hx]) }
section
variable {c:ChD} (h:Full c) {now:Int} (hn:0<=now/\now<=1099511627776)
include h hn
theorem Hy {F:Nat} {m:MaD} (hm:MaOk c F m) (ho:m.x.2.2.2.2=false) {ev:List UInt8} (he:(atM c now F m ev).1.2=none):rj F (atM c now F m ev).1.1<=rj F m/\((atM c now F m ev).2=true->rj F (atM c now F m ev).1.1<rj F m):=by
 obtain⟨a1,_,a3⟩:=nf h hn hm ho he;have hw:=a1.wait;rcases a3 with⟨q1,q2,q3⟩|⟨q1,q2⟩
 ·have:rj F (atM c now F m ev).1.1<rj F m:=by
   unfold rj;rw[q2];have e:F-m.steps=(F-(m.steps+1))+1:=by omega
   rw[e];omega
  exact⟨by omega,fun _=>this⟩
 ·rw[q2];exact⟨K8 _,fun e=>by rw[q1]at e;cases e⟩
theorem BN {F:Nat} : ∀(n:Nat) (m:MaD),MaOk c F m->(onM c now F n m).2=none->MaOk c F (onM c now F n m).1/\m.steps<=(onM c now F n m).1.steps/\((onM c now F n m).1.x.2.2.2.2=true\/((onM c now F n m).1.x.2.2.2.2=false/\d7 c (onM c now F n m).1 []= .ok []/\(onM c now F n m).1.wait=[]))
 |0,m,_,he=>by cases he
 | n+1,m,hm,he=>by
   unfold onM at he |-;by_cases ho:m.x.2.2.2.2=true
   ·rw[K0 ho];exact⟨hm,K8 _, .inl ho⟩
   rw[KZ ho]at he |-;have ho:m.x.2.2.2.2=false:=by simpa using ho
   have ha:=nf h hn hm ho (ev:=[]);rcases hA:atM c now F m []with⟨⟨m1,_|e⟩,_|_⟩
   ·rw[hA]at he ha;obtain⟨a1,a2,a3⟩:=ha rfl;obtain rfl:m1=m:=by rcases a3 with⟨q,_⟩|⟨_,q⟩;cases q;exact q
    simp only at he |-;cases hw:m1.wait with
    | nil=>
      refine⟨hm,K8 _, .inr ⟨ho,?_,hw⟩⟩;unfold atM at hA;cases hv:d7 c m1 []with
      |error n=>rw[hv]at hA;cases hA
      | ok f=>
        rw[hv]at hA;cases f with
        |nil=>rfl
        | cons k l=>
          have:=Kx Prod.snd hA;cases this
    | cons e w=>
      rw[hw]at he;have hm2:=C3 hm hw;have hb:=nf h hn hm2 ho (ev:=e.1);simp only at he |-;rcases hB:atM c now F { m1 with wait:=w,data:=e.2 } e.1 with⟨⟨m2,_|e⟩,b⟩
      ·rw[hB]at he hb;obtain⟨b1,_,b3⟩:=hb rfl;obtain⟨r1,r2,r3⟩:=BN n m2 b1 he;refine⟨r1,?_,r3⟩
       have:m1.steps<=m2.steps:=by
        rcases b3 with⟨_,q,_⟩|⟨_,q⟩
        ·simp only at q;have q:m2.steps=m1.steps+1:=q;omega
        ·simp only at q;rw[q];exact K8 _
       exact Kh this r2
      ·rw[hB]at he;cases he
   ·rw[hA]at he ha;obtain⟨a1,a2,a3⟩:=ha rfl;obtain⟨r1,r2,r3⟩:=BN n m1 a1 he;refine⟨r1,?_,r3⟩;rcases a3 with⟨_,q,_⟩|⟨q,_⟩
    ·simp only at q r2 |-;omega
    ·cases q
   ·rw[hA]at he;cases he
   ·rw[hA]at he;cases he
end
theorem BQ {c:ChD} {now:Int} {F F':Nat} (hF:F<=F') {m:MaD} {l:List Nat} (he:(mstepM c now F m l).2=none):mstepM c now F' m l=mstepM c now F m l:=by
 unfold mstepM at he |-;split at he
 ·cases he
 ·rename_i h1;rw[KZ h1,KZ (by omega)]
theorem xS {c:ChD} {now:Int} {F F':Nat} (hF:F<=F') {m:MaD} {ev:List UInt8} (he:(atM c now F m ev).1.2=none):atM c now F' m ev=atM c now F m ev:=by
 unfold atM at he |-;cases hv:d7 c m ev with
 |error n=>rfl
 | ok f=>
   rw[hv]at he;cases f with
   |nil=>rfl
   | cons k l=>
     simp only at he |-;rw[BQ hF he]
theorem wh {c:ChD} {now:Int} {F F':Nat} (hF:F<=F'): ∀(n:Nat) (m:MaD),(onM c now F n m).2=none->onM c now F' n m=onM c now F n m
 |0,m,he=>by cases he
 | n+1,m,he=>by
   unfold onM at he |-;by_cases ho:m.x.2.2.2.2=true
   ·rw[K0 ho,K0 ho]
   rw[KZ ho]at he |-;rw[KZ ho];have hfu:=xS hF (c:=c) (now:=now) (m:=m) (ev:=[]);rcases hA:atM c now F m []with⟨⟨m1,_|e⟩,_|_⟩
   ·rw[hA]at he hfu;rw[hfu rfl];simp only at he |-;cases hw:m1.wait with
    |nil=>rfl
    | cons e w=>
      rw[hw]at he;have hfb:=xS hF (c:=c) (now:=now) (m:={ m1 with wait:=w,data:=e.2 }) (ev:=e.1);simp only at he |-;rcases hB:atM c now F { m1 with wait:=w,data:=e.2 } e.1 with⟨⟨m2,_|e⟩,b⟩
      ·rw[hB]at he hfb;rw[hfb rfl];exact wh hF n m2 he
      ·rw[hB]at he;cases he
   ·rw[hA]at he hfu;rw[hfu rfl];exact wh hF n m1 he
   ·rw[hA]at he;cases he
   ·rw[hA]at he;cases he
theorem BP {c:ChD} {now:Int} {F F1:Nat} {m:MaD} {l:List Nat} (he:(mstepM c now F m l).2=none) (h1:m.steps<=F1) (_hF:F1<=F):(m.steps=F1/\mstepM c now F1 m l=(m,some (6,[-1])))\/(m.steps<F1/\mstepM c now F1 m l=mstepM c now F m l):=by
 by_cases h:F1<=m.steps
 ·refine .inl ⟨by omega,?_⟩;unfold mstepM;rw[K0 h]
 ·refine .inr ⟨by omega,?_⟩;unfold mstepM at he |-;split at he
  ·cases he
  ·rename_i h2;rw[KZ h,KZ h2]
theorem xR {c:ChD} {now:Int} {F F1:Nat} {m:MaD} {ev:List UInt8} (he:(atM c now F m ev).1.2=none) (h1:m.steps<=F1) (hF:F1<=F):(atM c now F1 m ev).1.2=some (6,[-1])\/(atM c now F1 m ev=atM c now F m ev/\((atM c now F m ev).2=true->m.steps<F1)):=by
 unfold atM at he |-;cases hv:d7 c m ev with
 |error n=>rw[hv]at he;cases he
 | ok f=>
   rw[hv]at he;cases f with
   |nil=>exact .inr ⟨rfl,fun e=>by cases e⟩
   | cons k l=>
     simp only at he |-;rcases BP he h1 hF with⟨_,q⟩|⟨q1,q⟩
     ·rw[q];exact .inl rfl
     ·rw[q];exact .inr ⟨rfl,fun _=>q1⟩
theorem wb {c:ChD} (h:Full c) {now:Int} (hn:0<=now/\now<=1099511627776) {F F1:Nat} (hF:F1<=F): ∀(n:Nat) (m:MaD),MaOk c F m->(onM c now F n m).2=none->m.steps<=F1->F1< (onM c now F n m).1.steps->(onM c now F1 n m).2=some (6,[-1])
 |0,m,_,he,_,_=>by cases he
 | n+1,m,hm,he,h1,h2=>by
   unfold onM at he h2 |-;by_cases ho:m.x.2.2.2.2=true
   ·rw[K0 ho]at h2;simp only at h2;omega
   rw[KZ ho]at he h2 |-;have ho:m.x.2.2.2.2=false:=by simpa using ho
   have ha:=nf h hn hm ho (ev:=[]);have hl:=xR (c:=c) (now:=now) (F:=F) (F1:=F1) (m:=m) (ev:=[]);rcases hA:atM c now F m []with⟨⟨m1,_|e⟩,_|_⟩
   ·rw[hA]at he h2 ha hl;obtain⟨a1,a2,a3⟩:=ha rfl;obtain rfl:m1=m:=by rcases a3 with⟨q,_⟩|⟨_,q⟩;cases q;exact q
    rcases hl rfl h1 hF with q|⟨q,_⟩
    ·rcases hB:atM c now F1 m1 []with⟨⟨m2,_|e⟩,b⟩
     ·rw[hB]at q;cases q
     ·rw[hB]at q;exact q
    rw[q];simp only at he h2 |-;cases hw:m1.wait with
    | nil=>
      rw[hw]at h2;simp only at h2;omega
    | cons e w=>
      rw[hw]at he h2;have hm2:=C3 hm hw;have hb:=nf h hn hm2 ho (ev:=e.1);have hlb:=xR (c:=c) (now:=now) (F:=F) (F1:=F1) (m:={ m1 with wait:=w,data:=e.2 }) (ev:=e.1);simp only at he h2 |-;rcases hB:atM c now F { m1 with wait:=w,data:=e.2 } e.1 with⟨⟨m2,_|e2⟩,b⟩
      ·rw[hB]at he h2 hb hlb;obtain⟨b1,_,b3⟩:=hb rfl;rcases hlb rfl h1 hF with q|⟨q,q2⟩
       ·rcases hC:atM c now F1 { m1 with wait:=w,data:=e.2 } e.1 with⟨⟨m3,_|e3⟩,b'⟩
        ·rw[hC]at q;cases q
        ·rw[hC]at q;exact q
       rw[q];refine wb h hn hF n m2 b1 he ?_ h2;rcases b3 with⟨q3,q4,_⟩|⟨_,q4⟩
       ·have:=q2 q3;simp only at q4 this;omega
       ·simp only at q4;rw[q4];exact h1
      ·rw[hB]at he;cases he
   ·rw[hA]at he h2 ha hl;obtain⟨a1,a2,a3⟩:=ha rfl;rcases hl rfl h1 hF with q|⟨q,q2⟩
    ·rcases hB:atM c now F1 m []with⟨⟨m2,_|e⟩,b⟩
     ·rw[hB]at q;cases q
     ·rw[hB]at q;exact q
    rw[q];refine wb h hn hF n m1 a1 he ?_ h2;rcases a3 with⟨_,q4,_⟩|⟨q4,_⟩
    ·have:=q2 rfl;simp only at q4;omega
    ·cases q4
   ·rw[hA]at he;cases he
   ·rw[hA]at he;cases he
end
section
open Go.RowKit
end
section
open Go.RowKit
end
section
open Go.RowKit
end
section
open Go.RowKit
end
section
open Go.RowKit
end
section
open Go.RowKit
end
section
open Go.RowKit
end
section
open Go.RowKit
end
section
open Go.RowKit
end
section
open Go.RowKit
end
section
open Go.RowKit
end
section
open Go.RowKit Go.ChangeShapes Go.WideShapes Go.ChangeAt Go.Deep
def WB {H:Type} (P:Program) (t:TypeId) (d:DataW H):Prop:= ∀z∈DataW.weights P t d,z<=reachBytes
section
variable {H:Type} {enc:TypeId×Value->H} {P:Program} {w:World} {base:Nat} {spare:Nat->Bool} {held:Bool}
theorem yr {e:TypeId} {d:DataW H} : ∀ {l:List (DataW H)},d∈l-> ∀z∈DataW.weights P e d,z∈DataW.weightsAll P e l
 | a::r,h,z,hz=>by
   unfold DataW.weightsAll;rcases Kk.1 h with rfl|h
   ·exact LR _ hz
   ·exact MW _ (yr h z hz)
theorem WB.elem {t e:TypeId} {es rs:List (DataW H)} (ht:P.underlying t=some (.slice e)) (h:WB P t (.slice es rs)) {d:DataW H} (hd:d∈es):WB P e d:=fun z hz=>by
 refine h z ?_;unfold DataW.weights;rw[ht];exact Lq _ (LR _ (yr hd z hz))
theorem WB.size {t e:TypeId} {es rs:List (DataW H)} (ht:P.underlying t=some (.slice e)) (h:WB P t (.slice es rs)):es.length*P.bytesOf e<=reachBytes:=by
 refine Kh ?_ (h ((es.length+rs.length)*P.bytesOf e) ?_)
 ·exact LE _ (Om ..)
 ·unfold DataW.weights;rw[ht];exact NW ..
theorem kT: ∀ {ts:List TypeId} {l:List (DataW H)} {i:Nat} {t:TypeId} {d:DataW H},ts[i]? =some t->l[i]? =some d-> ∀z∈DataW.weights P t d,z∈DataW.weightsEach P ts l
 |t::ts,d::l,0,_,_,rfl,rfl,z,hz=>by unfold DataW.weightsEach;exact LR _ hz
 | t::ts,d::l,i+1,_,_,h1,h2,z,hz=>by
   unfold DataW.weightsEach;exact MW _ (kT (i:=i) (by simpa using h1) (by simpa using h2) z hz)
 |[],_,i,_,_,h1,_,z,hz=>by simp at h1
 |_::_,[],i,_,_,_,h2,z,hz=>by simp at h2
theorem WB.part {t:TypeId} {fs:Array Field} {ps:List (DataW H)} (ht:P.underlying t=some (.struct fs)) (h:WB P t (.agg ps)) {i:Nat} {f:Field} {d:DataW H} (hf:fs[i]? =some f) (hd:ps[i]? =some d):WB P f.type d:=fun z hz=>by
 refine h z ?_;unfold DataW.weights;rw[ht];refine kT (i:=i) ?_ hd z hz;rw[K5,Mr,hf];rfl
theorem BL {α:Type} {t e:TypeId} {size fuel:Nat} {R:List Value->α->Prop} {cs:List Value} {x:DataW H×List MemPlace} (ht:P.underlying t=some (.slice e)) (hC:P.cellsOf e=size) (hpos:0<size)
 (hR: ∀(m:Nat) (cs:List Value) (y:DataW H×List MemPlace),DataW.trod enc P w base spare held m e cs=some y->WB P e y.1-> ∃a,R cs a) (hw:WB P t x.1)
 (h:DataW.trod enc P w base spare held fuel t cs=some x): ∃v l,cs=[v]/\eG w w.heap.size size R v l:=by
 rcases open_slice ht h with⟨rfl,_⟩|⟨a,len,cap,m,n,D,Pl,rfl,hb,hl,hm,hmm,rfl,hx⟩
 ·exact⟨_,[],rfl,none,0,[],rfl,K8 _,Ke _,Reads.empty _ _ _ _,by simp,fun i hi=>by simp at hi⟩
 have hlm:len<=m:=by rw[hmm];split<;>omega
 rw[hC]at hx
 have hch: ∀i,∃cs':List Value,i<len->w.cells? base (a.add (i*size)) size=some cs'/\DataW.trod enc P w base spare held n e cs'=some (D i,Pl i):=fun i=>by
  by_cases hi:i<len
  ·obtain⟨cs',h1,h2⟩:=hx i (by omega);exact⟨cs',fun _=>⟨h1,h2⟩⟩
  ·exact⟨[],fun h=>absurd h hi⟩
 let f:Nat->List Value:=fun i=>(hch i).choose
 have hf: ∀i,i<len->w.cells? base (a.add (i*size)) size=some (f i)/\DataW.trod enc P w base spare held n e (f i)=some (D i,Pl i):=fun i hi=>(hch i).choose_spec hi;have hfl: ∀i,i<len->(f i).length=size:=fun i hi=>(NN (hf i hi).1).2.1;obtain⟨l,hll,hl2⟩:=DJ (n:=len) (p:=fun i a=>R (f i) a) fun i hi=>hR _ _ _ (hf i hi).2 (WB.elem ht hw (K9.2 ⟨i,Kr.2 hi,rfl⟩));refine⟨_,l,rfl,some a,cap,(List.range len).flatMap f,by rw[hll],by omega,by omega,⟨by rw[hll,flat_len f size len hfl],fun hn=> ?_⟩,by rw[hll,flat_len f size len hfl],fun i hi=> ?_⟩
 ·rw[hll]at hn;have h0:=NN (hf 0 hn).1;have hc0:=h0.2.2 0 hpos
  have hsp:a.spot=none:=by
   rw[Mu]at hc0;have:(f 0)[0]? =some ((f 0)[0]'(by rw[hfl 0 hn];exact hpos)):=KV _;rw[this]at hc0;have e:(a.add 0).add 0=a:=rfl;rw[e]at hc0;unfold World.cell? at hc0;cases hs:a.spot with
   |none=>rfl
   | some s=>
     rw[hs]at hc0;split at hc0<;>simp at hc0
  obtain⟨b,off,sp⟩:=a;simp only at hsp;subst hsp
  have hcell: ∀j u,((List.range len).flatMap f)[j]? =some u->w.cell? ⟨b,off+j,none⟩=some u:=by
   intro j u hu
   have hj:j<len*size:=by
    rcases Mt j (len*size) with h|h
    ·exact h
    ·rw[K7 (by rw[flat_len f size len hfl];exact h)]at hu;cases hu
   have hq:j/size<len:=NK (by rw[Mf];exact hj);have hr:j%size<size:=N9 _ hpos;have hpart:=jB f size len hfl (j/size) hq;have e:j=j/size*size+j%size:=by rw[Mf];exact(Nat.div_add_mod j size).symm
   have hget:(f (j/size))[j%size]? =some u:=by
    rw[<-hpart,Kz,K0 hr,La, <-e];exact hu
   have:=(NN (hf _ hq).1).2.2 (j%size) hr;rw[hget,add_plain,add_plain,N1, <-e]at this;exact this
  refine⟨b,off,rfl,?_,hcell⟩;have hx0:((List.range len).flatMap f)[0]? =some (((List.range len).flatMap f)[0]'(by rw[flat_len f size len hfl];exact Nat.mul_pos hn hpos)):=KV _;exact Nz w ⟨b,off+0,none⟩ (hcell 0 _ hx0)
 ·rw[jB f size len hfl i (by omega)];exact hl2 i hi
end
section
variable {H:Type} {enc:TypeId×Value->H} {P:Program} {w:World} {base:Nat} {spare:Nat->Bool} {held:Bool}
theorem lk {α:Type} {t e:TypeId} {size fuel:Nat} {cs:List Value} {x:DataW H×List MemPlace} (en:α->List AV) (few:α->Prop) (hen: ∀a,(en a).length=size) (ht:P.underlying t=some (.slice e)) (hC:P.cellsOf e=size) (hpos:0<size)
 (hR: ∀(m:Nat) (cs:List Value) (y:DataW H×List MemPlace),DataW.trod enc P w base spare held m e cs=some y->WB P e y.1-> ∃a,RE w en few cs a) (hw:WB P t x.1)
 (h:DataW.trod enc P w base spare held fuel t cs=some x): ∃(v:Value) (l:List α),cs=[v]/\(v.oneCell'=true/\RV (fun b _=>b<w.heap.size) w v (.seq size (l.map en)))/\(l.length<=maxLen/\l.length*P.bytesOf e<=reachBytes)/\ ∀a∈l,few a:=by
 obtain⟨v,l,e1,hl⟩:=BL (R:=RE w en few) ht hC hpos hR hw h;have hrv:=DI en hen hl fun cs a _ hr j u c hu hc=>hr.1.at_.2 j u c hu hc;obtain⟨A,c,xs,rfl,_,h2,_,hrow⟩:=hl;refine⟨_,l,e1,⟨rfl,hrv⟩,⟨h2,?_⟩,fun a ha=> ?_⟩
 ·rcases DataW.trod_slice ht h with⟨e2,_⟩|⟨a,len,cap,elems,rest,n,_,e2,e3,_,_,_,hlen,_⟩
  ·rw[e1]at e2;have e4:l.length=0:=by injection e2 with q1 _;injection q1
   rw[e4,Mu];exact Ke _
  ·rw[e1]at e2;have e4:l.length=len:=by injection e2 with q1 _;injection q1
   rw[e3]at hw;have:=hw.size ht;rw[Kl,hlen]at this;rw[e4];exact this
 ·obtain⟨i,hi,rfl⟩:=Lp ha;exact(hrow.2 i hi).2
end
theorem Jm:prog.bytesOf 3=8:=by kernel_rfl
def D3 (m:MemD):Prop:=m.2.length<=maxLen/\m.2.length*8<=reachBytes
section
variable {H:Type} {enc:TypeId×Value->H} {w:World} {base:Nat} {spare:Nat->Bool} {held:Bool}
theorem Ei (m:Nat) (cs:List Value) (y:DataW H×List MemPlace) (h:DataW.trod enc prog w base spare held m 162 cs=some y) (hw:WB prog 162 y.1): ∃a:MemD,RE w mmAV D3 cs a:=by
 obtain⟨xs,n,_,hx,hl,hxl,hg⟩:=MS Tryz.underlying162 h;rw[JP]at hl;obtain⟨c0,c1,rfl⟩:=B6 hl;obtain⟨y0,h0⟩:=bL hxl hg 0 _ rfl 3 0 1 rfl rfl c_int;obtain⟨x0,e0, -, -⟩:=Lr Tryz.underlying3 (show DataW.trod enc prog w base spare held n 3 [c0]=some y0 from h0);cases e0;have hx2:xs.length=2:=hxl;obtain⟨y1,hy1⟩: ∃y1,xs[1]? =some y1:=⟨xs[1]'(by omega),KV _⟩;obtain⟨y2,h1⟩:=bL hxl hg 1 _ rfl 27 1 1 rfl rfl Cc
 have h2:DataW.trod enc prog w base spare held n 27 [c1]=xs[1]? :=by
  have:=hg 1 _ rfl;exact this
 have h1:DataW.trod enc prog w base spare held n 27 [c1]=some y1:=h2.trans hy1;rw[hx]at hw;have hw1:WB prog 27 y1.1:=WB.part (i:=1) Tryz.underlying162 hw rfl (by rw[K5,hy1];rfl);obtain⟨x1,l1,e1,r1,⟨n1,n2⟩, -⟩:=lk (size:=1) intAV (fun _=>True) (fun _=>rfl) Tryz.underlying27 c_int (by decide) (fun m cs y h _=>open_int1 m cs y h) hw1 h1;cases e1;rw[Jm]at n2;exact⟨(x0,l1),⟨⟨rfl, .lit _⟩,r1,trivial⟩,n1,n2⟩
end
end
section
open Go.RowKit Go.ChangeShapes Go.WideShapes Go.ChangeAt Go.Deep
theorem KL:prog.bytesOf 108=24:=by kernel_rfl
def oD (x:InD):Prop:=Ca x/\(∀m∈x.2.2.1,m.2.length*8<=reachBytes)/\x.2.2.2.1.length*24<=reachBytes
section
variable {H:Type} {enc:TypeId×Value->H} {w:World} {base:Nat} {spare:Nat->Bool} {held:Bool}
theorem BM (m:Nat) (cs:List Value) (y:DataW H×List MemPlace) (h:DataW.trod enc prog w base spare held m 31 cs=some y) (hw:WB prog 31 y.1): ∃a:InD,RE w inE oD cs a:=by
 obtain⟨xs,n,_,hx,hl,hxl,hg⟩:=MS Tryz.underlying31 h;rw[hx]at hw;have hxk:xs.length=5:=hxl;rw[Jk]at hl;obtain⟨c0,c1,c2,c3,c4,rfl⟩:=IC hl;obtain⟨y0,h0⟩:=bL hxl hg 0 _ rfl 27 0 1 rfl rfl Cc;obtain⟨x0,l0,e0,r0,n0, -⟩:=cj (size:=1) intAV (fun _=>True) (fun _=>rfl) Tryz.underlying27 c_int (by decide) open_int1 (show DataW.trod enc prog w base spare held n 27 [c0]=some y0 from h0);cases e0;obtain⟨y1,h1⟩:=bL hxl hg 1 _ rfl 27 1 1 rfl rfl Cc;obtain⟨x1,l1,e1,r1,n1, -⟩:=cj (size:=1) intAV (fun _=>True) (fun _=>rfl) Tryz.underlying27 c_int (by decide) open_int1 (show DataW.trod enc prog w base spare held n 27 [c1]=some y1 from h1);cases e1;obtain⟨y2,hy2⟩: ∃z,xs[2]? =some z:=⟨xs[2]'(by omega),KV _⟩
 have h2:DataW.trod enc prog w base spare held n 28 [c2]=some y2:=by
  have:=hg 2 _ rfl;exact Eq.trans (show DataW.trod enc prog w base spare held n 28 [c2]=xs[2]? from this) hy2
 have hw2:WB prog 28 y2.1:=WB.part (i:=2) Tryz.underlying31 hw rfl (by rw[K5,hy2];rfl);obtain⟨x2,l2,e2,r2,⟨n2, -⟩,p2⟩:=lk (size:=2) mmAV D3 (fun _=>rfl) Tryz.underlying28 JP (by decide) Ei hw2 h2;cases e2;obtain⟨y3,hy3⟩: ∃z,xs[3]? =some z:=⟨xs[3]'(by omega),KV _⟩
 have h3:DataW.trod enc prog w base spare held n 29 [c3]=some y3:=by
  have:=hg 3 _ rfl;exact Eq.trans (show DataW.trod enc prog w base spare held n 29 [c3]=xs[3]? from this) hy3
 have hw3:WB prog 29 y3.1:=WB.part (i:=3) Tryz.underlying31 hw rfl (by rw[K5,hy3];rfl);obtain⟨x3,l3,e3,r3,⟨n3,k3⟩,p3⟩:=lk (size:=2) tmAV ml (fun _=>rfl) Tryz.underlying29 c_tm (by decide) (fun m cs y h _=>IW m cs y h) hw3 h3;cases e3;rw[KL]at k3;obtain⟨y4,h4⟩:=bL hxl hg 4 _ rfl 4 4 1 rfl rfl Jl;obtain⟨x4,e4, -⟩:=DataW.trod_bool Tryz.underlying4 (show DataW.trod enc prog w base spare held n 4 [c4]=some y4 from h4);cases e4;exact⟨(l0,l1,l2,l3,x4),⟨r0,r1,r2,r3,⟨rfl, .lit _⟩,trivial⟩,⟨⟨n0,n1⟩,⟨n2,fun m hm=>(p2 m hm).1⟩,n3,p3⟩,fun m hm=>(p2 m hm).2,k3⟩
end
end
section
open Go.RowKit
theorem zq {x:InD} (h:oD x):(∀m∈x.2.2.1,Fits m.2.length 8)/\Fits x.2.2.2.1.length 24:=⟨fun m hm=>⟨Kh (h.2.1 m hm) (by decide),lm (h.1.2.1.2 m hm)⟩,Kh h.2.2 (by decide),lm h.1.2.2.1⟩
theorem wR (env:Env) (c:ChD) (x:InD) (d:Int) (ev:List UInt8) (p:Int) (e:AV) (fr:Con prog env 93 [Sg [109,105,99,114,111,46,69,110,97,98,108,101,100],aC c, .agg (inE x),I d] (errV p e)):Con prog env 49 [aC c, .agg (inE x),Sg ev,I d] (.tuple [nilS,errV p e]):=by
 unfold aC inE at fr |-;refine qf func49 call49 ntmps49 results49 ?_;repeat refine lZ fr ?_
 exact aR0
end

end Go.Proofs.YtbjldjekgepopaaGreatDoor