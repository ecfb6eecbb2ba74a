/- awake of layer 31, by what is so of any chart: for the laws that walk steps of any instance. -/
import Derived.Test.YtdpjgflalmnkdaaGreatDoorT31
set_option maxRecDepth 100000
set_option maxHeartbeats 16000000
set_option linter.unusedSimpArgs false
namespace Go.Proofs.YtdpjgflalmnkdaaGreatDoor
open Go.Proofs.Tryz
section
open Go.RowKit
def IG (a2:Addr):Except Nat (List Nat)->AV
 | .ok l=> .tuple [.seq 1 (l.map aB),nilE]
 | .error n=> .tuple [nilS,errV (1000+(n:Nat)) (sentV a2)]
theorem Gz {c:ChD} {w:WoD} {ev:List UInt8} {i:Nat} {l o:List Nat} (h:eV c w ev ((i:Int)::upL c i)= .no):d6 c w ev (i::l) o=d6 c w ev l o:=by
 conv=>lhs;unfold d6
 rw[h]
theorem FV {c:ChD} {w:WoD} {ev:List UInt8} {i n:Nat} {l o:List Nat} (h:eV c w ev ((i:Int)::upL c i)= .one n):d6 c w ev (i::l) o=d6 c w ev l (if o.contains n then o else o++[n]):=by
 conv=>lhs;unfold d6
 rw[h]
theorem FW {c:ChD} {w:WoD} {ev:List UInt8} {i n:Nat} {l o:List Nat} (h:eV c w ev ((i:Int)::upL c i)= .bad n):d6 c w ev (i::l) o= .error n:=by
 unfold d6;rw[h]
theorem JB {c:ChD} {w:WoD} {ev:List UInt8} {n:Nat} {l:List Int} (h:eV c w ev l= .one n):n<c.trans.length:=by
 obtain⟨_,_,t,ht,_⟩:=xG h;exact(K0.1 ht).1
theorem take_len (c:ChD) (act:List Int) (l:List Nat) (n:Nat):(takeL c act l n).length<=l.length+1:=by
 unfold takeL;split
 ·rw[K8,LI];have:=Kq (fun k=> !eH c act k n) l;omega
 ·omega
theorem J6 (l:List Nat):l.map aB=(zL l).map intAV:=(bc l).symm
theorem pk (env:Env) (a1 a2 a8:Addr) (he:ChEnv env a1 a8) (h2:env 2=some (sentV a2)) (c:ChD) (h:Full c) (hs:Small c) (x:InD) (d:Int) (hx:Asked c x d) (ev:List UInt8)
 (fr:Con prog env 21 [Sg [109,105,99,114,111,46,69,110,97,98,108,101,100],aJ c, .agg (inE x),I d] nilE) (l:List Nat) (hl:x.1=zL l) (hk: ∀k∈l,k<c.states.length):
 Con prog env 8 [aJ c, .agg (inE x),Sg ev,I d] (IG a2 (u0 c x.1 (woX c x.1 x.2.1 d) ev (innL c l))):=by
 have hfew:=h.few;have hxl:=hx.act;have f1:=ao env c hs
 have f2:Con prog env 23 [aJ c,ints34 x.1] (.tuple [.seq 1 ((innL c l).map aB),nilE]):=by
  have:=Ec env a1 a8 he c h hs l (by rw[hl,an]at hxl;omega) hk (by rw[<-hl];exact hx.lg);rwa [J6 l, <-hl]at this
 have f3:=fun k:Nat=>HK env a1 a2 a8 he h2 c h hs x d hx k ev;have f4:=fun(o:List Nat) (n:Nat) (ho:o.length<=1000)=>(bG env (zL o) n (by rw[an];omega)).lend rfl;have f5:=fun(o:List Nat) (ho:o.length<=1000) (hk: ∀n∈o,n<c.trans.length) (n:Nat) (hn:n<c.trans.length)=>GP env a1 a8 he c h hs x d hx o ho hk n hn
 have hil:(innL c l).length<=32:=by
  have:=(qm h.toRight (zL (lnTo c l l.length))).length_le_of_subset (l₂:=List.range c.states.length) fun m hm=>by
   have hm:m∈innL c l:=hm;unfold innL sortL at hm;split at hm
   ·exact Kw.2 ((iD h.toRight m).1 (Ke.1 hm).1)
   ·simp at hm
  simp at this;show (sortL c (zL (lnTo c l l.length))).length<=32;omega
 unfold u0;generalize hW:woX c x.1 x.2.1 d=W at*;generalize innL c l=R at*;unfold rnE at f3 f5;unfold inE at fr |-;unfold aJ at f1 f2 fr |-;unfold aA at f1;refine qf func8 call8 ntmps8 results8 ?_;repeat refine GE fr f1 f2 ?_
 refine aj 14 14 3 1 ?_;refine iO (Turned.nil 15 1 (by simp only[go_sem])) ?_
 refine aI (D:=Nat×List Nat) (fun e vs=>[(2,Sg ev),(11, .loc 35 (vs 35) 0 0),(14, .row 14 (vs 14)),(15, .seq 1 []),(47, .seq 1 (R.map aB)),(48,I R.length),(49,I e.1)])
  (fun e _=>[(14,⟨1,e.2.map aB,3,true⟩),(35,⟨15,[[ints34 x.1,ints34 x.2.1, .seq 2 (x.2.2.1.map mmAV), .seq 2 (x.2.2.2.1.map tmAV),B x.2.2.2.2,nilS,nilS, .ref 9 [tabCells c] 0 0,Sg c.name,I c.initial,varsAV c.vars,stsAV c.states,trsAV c.trans,I d,I 0]],71,false⟩)])
  (fun e _ esc=>(e.1<=R.length/\d6 c W ev R []=d6 c W ev (R.drop e.1) e.2/\e.2.length<=e.1/\ ∀n∈e.2,n<c.trans.length)/\esc 14=false) (fun e=>R.length-e.1) (0,[]) ?_ ?_ ?_ ?_
 ·exact⟨⟨Kj _,rfl,Kc _,fun n hn=>by simp at hn⟩,by simp only[go_sem]⟩
 ·exact qe0
 ·(simp only[go_sem])
  try rfl
 rintro⟨j,o⟩ ws esc ⟨⟨hj,hq,hol,hok⟩,e0⟩;simp only at hj hq hol hok;by_cases hlt:j<R.length
 ·obtain⟨k,hkk⟩:=gE hlt;have q1:=nlt hlt;have q2:=aD hlt (by omega);have f6:=f3 k;rw[bB hkk]at hq;have q4: ¬(0:Int)<= -1:=by omega
  cases hv:eV c W ev ((k:Int)::upL c k) with
  | no=>
    rw[hv]at f6;unfold rl at f6;rw[Gz hv]at hq;have F:=ai6 aB.eq_1 hkk q1 q2 q4 e0;repeat refine tz1 f6 ?_
    exact qn (j+1,o) ⟨⟨hlt,hq,Nat.le_succ_of_le hol,hok⟩,by simp only[go_sem,e0]⟩
  | bad n=>
    rw[hv]at f6;unfold rl at f6;rw[FW hv]at hq;rw[hq];show awp _ _ _ _ _ _;unfold IG;have F:=ai4 aB.eq_1 hkk q1 e0;repeat refine tz1 f6 ?_
    exact aR
  | one n=>
    have hnl:=JB hv;rw[hv]at f6;unfold rl at f6;rw[FV hv]at hq;have q3:(0:Int)<=(n:Int):=by omega
    have f7:=f4 o n (by omega);rw[bc]at f7;have hf:Fits (o.length+1) 8:=aC (by omega) (by omega);cases hc:o.contains n with
    | true=>
      have hz:(zL o).contains (n:Int)=true:=tZ.2 (K6.1 hc);rw[hz]at f7;rw[hc]at hq;simp only[L1]at hq;have F:=ai6 aB.eq_1 hkk q1 q2 q3 e0;repeat refine tz1 f6 ?_
      refine lL f7 ?_;repeat refine st ?_
      exact qn (j+1,o) ⟨⟨hlt,hq,Nat.le_succ_of_le hol,hok⟩,by simp only[go_sem,e0]⟩
    | false=>
      have hz:(zL o).contains (n:Int)=false:=by
       cases hh:(zL o).contains (n:Int) with
       |false=>rfl
       | true=>
         have:=K6.2 (tZ.1 hh);rw[hc]at this;cases this
      rw[hz]at f7;rw[hc]at hq;simp only[Ku,Ld]at hq;have F:=ai7 aB.eq_1 hkk q1 q2 q3 hf e0;repeat refine tz1 f6 ?_
      refine lL f7 ?_;repeat refine st ?_
      refine⟨(j+1,o++[n]),⟨⟨hlt,hq,by simp only[K8,LI];omega,fun m hm=> ?_⟩,by simp only[go_sem,e0]⟩,?_,?_,by simp only;omega⟩
      ·rcases Kx.1 hm with hm|hm
       ·exact hok m hm
       ·rw[Kl.1 hm];exact hnl
      ·exact qe
      ·have F:=ai aB.eq_1 @Ka.{0,0};exact qe
 ·obtain rfl:j=R.length:=by omega
  have q1:=nl R.length;rw[Ls]at hq;have hq2:d6 c W ev R []= .ok o:=hq;rw[hq2];show awp _ _ _ _ _ _;unfold Hm IG
  have hfo: ∀m,m<=o.length->((o.take m).foldl (takeL c x.1) []).length<=m/\ ∀n∈(o.take m).foldl (takeL c x.1) [],n<c.trans.length:=fun m=>by
   induction m with
   |zero=>exact fun _=>⟨by simp,fun n hn=>by simp at hn⟩
   | succ m ih=>
     intro hm;obtain⟨i1,i2⟩:=ih (by omega);obtain⟨n,hn⟩: ∃n,o[m]? =some n:=⟨o[m],KZ (by omega)⟩;rw[bu _ _ hn];refine⟨Km (take_len ..) (by omega),fun k hk=> ?_⟩;rcases zA hk with hk|rfl
     ·exact i2 k hk
     ·exact hok _ (K4 hn)
  have F:=ai q1 e0;repeat refine st ?_
  try clear f4 f6
  refine aI (D:=Nat) (fun m vs=>[(11, .loc 35 (vs 35) 0 0),(15, .seq 1 (((o.take m).foldl (takeL c x.1) []).map aB)),(76, .row 14 (vs 14)),(77,I o.length),(78,I m)])
   (fun m _=>[(14,⟨1,o.map aB,3,true⟩),(35,⟨15,[[ints34 x.1,ints34 x.2.1, .seq 2 (x.2.2.1.map mmAV), .seq 2 (x.2.2.2.1.map tmAV),B x.2.2.2.2,nilS,nilS, .ref 9 [tabCells c] 0 0,Sg c.name,I c.initial,varsAV c.vars,stsAV c.states,trsAV c.trans,I d,I 0]],71,false⟩)])
   (fun m _ _=>m<=o.length) (fun m=>o.length-m) 0 ?_ ?_ ?_ ?_
  ·exact Kj _
  ·(simp only[go_sem,F])
   try rfl
  ·exact qe
  rintro m us es hm;obtain⟨i1,i2⟩:=hfo m hm;by_cases hlt2:m<o.length
  ·obtain⟨n,hn⟩:=gE hlt2;have p1:=nlt hlt2;have p2:=aD hlt2 (by omega);have f6:=f5 _ (by omega) i2 n (hok n (K4 hn));have hnx:=bu (takeL c x.1) [] hn;rw[<-hnx]at f6;generalize (o.take m).foldl (takeL c x.1) []=A at*;generalize hA2:(o.take (m+1)).foldl (takeL c x.1) []=A2 at*;have F:=ai4 aB.eq_1 hn p1 p2;repeat refine tz1 f6 ?_
   refine⟨m+1,hlt2,?_,?_,by omega⟩
   ·have F:=ai aB.eq_1 hA2;exact qe
   ·(simp only[go_sem,aB,hA2])
  ·obtain rfl:m=o.length:=by omega
   have p1:=nl o.length;rw[Kt];have F:=p1;repeat refine st ?_
   exact aR
end
section
open Go.RowKit
theorem ED {l:List (List UInt8×Int)} (h:TmsOk l) (hl:l.length<=8):dF l=true:=by
 unfold dF;rw[LK hl,O4];refine pC fun j hj=> ?_;have e:l.getD j ([],0)=l[j]:=by simp[Kv,KZ hj]
 obtain⟨e1,e2,e3⟩:=h.each _ (MS hj);unfold kC;rw[e,e1];have hc:AJ l[j].2=true:=by unfold AJ;simp[e2,e3]
 rw[hc];by_cases h0:j=0
 ·simp[h0]
 ·have hp:=LQ.1 h.rise (j-1) j (by omega) hj (by omega);have e4:l.getD (j-1) ([],0)=l[j-1]'(by omega):=by simp[Kv,KZ (show j-1<l.length by omega)]
  rw[e4,hp];simp
def inR (r:RunD):InD:=(r.act,r.vars,r.mem,r.tms,r.over)
theorem ES {c:ChD} {r:RunD} (h:RunOk c r) (hb:lgB c r.act=true) (hm:bU c r.mem=true) (ho:r.over=jh c r.act):bW c (rcI (inR r))=true:=by
 unfold bW;show (lgB c r.act&&bU c r.mem&&(r.vars.length==c.vars.length)&&dF r.tms&&(r.over==jh c r.act)&&lC r.vars)=true;rw[hb,hm,h.len,ED h.tms h.tml,ho,show lC r.vars=true from K7.2 h.vars];simp
theorem Cr {c:ChD} {act:List Int} (h: ∀x∈act,inZ c x=true):jh c act=act.any fun x=>bS c x==3&&decide (aO c x<0):=by
 unfold jh;rw[LC,Lj,Lj]
 have e: ∀x∈act,gH c x=(bS c x==3&&decide (aO c x<0)):=fun x hx=>by
  obtain⟨k,s,rfl,hs,_⟩:=cF (h x hx);unfold gH;rw[Ln,hs,gy hs,nK hs,Bool.and_comm]
 exact⟨fun⟨x,hx,q⟩=>⟨x,hx,by rw[<-e x hx];exact q⟩,fun⟨x,hx,q⟩=>⟨x,hx,by rw[e x hx];exact q⟩⟩
theorem Gi {c:ChD} {act:List Int} (h:lgB c act=true):act.length<=c.states.length:=by
 have hL:=cx h
 have:=hL.nodup.length_le_of_subset (l₂:=zL (List.range c.states.length)) fun x hx=>by
  obtain⟨_,_,hz,_⟩:=hL.of hx;obtain⟨h0,h1⟩:=aH.1 hz;exact Kb.2 ⟨x.toNat,Kw.2 (by omega),by simp;omega⟩
 rw[an,ND]at this;exact this
theorem tf (env:Env) (l:List Int) (hl:l.length<=1000000):Con prog env 14 [.seq 1 (l.map intAV), .seq 1 (l.map intAV)] (B true):=by
 refine qf func14 call14 ntmps14 results14 ?_;repeat refine st0 ?_
 refine lq0 l.length (by omega) (fun j vs=>[(0, .seq 1 (l.map intAV)),(1, .seq 1 (l.map intAV)),(5,I j)]) (fun _ _=>[]) (fun _ _ _=>True) trivial ?_ ?_
 ·rintro j ws es hlt q1 q2 _;obtain⟨x,hx⟩:=gE hlt;have F:=ai4 intAV.eq_1 hx q1 q2;repeat refine st ?_
  exact qn (j+1) ⟨hlt,trivial⟩
 ·rintro ws es q1 _;have F:=q1;repeat refine st ?_
  exact aR
end
section
open Go.RowKit
theorem J8 {l:List (List UInt8×Int)} (h:dF l=true):TmsOk l/\l.length<=8:=by
 unfold dF at h;rw[K3,Kh]at h;obtain⟨h1,h2⟩:=h;have at_: ∀j (hj:j<l.length),l.getD j ([],0)=l[j]:=fun j hj=>by simp[Kv,KZ hj]
 have k:=fun j (hj:j<l.length)=>JO h1 j hj;refine⟨⟨LQ.2 fun i j hi hj hij=> ?_,fun x hx=> ?_⟩,h2⟩
 ·have key: ∀m,(hm:i+1+m<l.length)->Op.bytesLess l[i].1 l[i+1+m].1=true:=fun m=>by
   have step: ∀j (hj:j+1<l.length),Op.bytesLess l[j].1 l[j+1].1=true:=fun j hj=>by
    have:=k (j+1) hj;unfold kC at this;rw[at_ _ hj,show j+1-1=j by omega,at_ j (by omega)]at this;simp only[K3,Ll,Kh]at this;exact this.2.resolve_left (by omega)
   induction m with
   |zero=>exact fun hm=>step i hm
   |succ m ih=>exact fun hm=>eX (ih (by omega)) (step (i+1+m) hm)
  have:=key (j-i-1) (by omega);simpa[show i+1+(j-i-1)=j by omega]using this
 ·obtain⟨j,hj,rfl⟩:=NV.1 hx;have:=k j hj;unfold kC AJ at this;rw[at_ j hj]at this;simp only[K3,Kh]at this;exact⟨this.1.1,this.1.2⟩
structure InstOk (c:ChD) (x:InD):Prop where
 lg:lgB c x.1=true
 mem:bU c x.2.2.1=true
 len:x.2.1.length=c.vars.length
 fit: ∀v∈x.2.1,aL v=true
 tms:TmsOk x.2.2.2.1
 tml:x.2.2.2.1.length<=8
 over:x.2.2.2.2=jh c x.1
theorem xA {c:ChD} {x:InD} (hb:bW c (rcI x)=true):InstOk c x:=by
 unfold bW at hb;simp only[K3,L5]at hb;obtain⟨⟨⟨⟨⟨b1,b2⟩,b3⟩,b4⟩,b5⟩,b6⟩:=hb;obtain⟨t1,t2⟩:=J8 b4;exact⟨b1,b2,b3,K7.1 b6,t1,t2,b5⟩
theorem InstOk.beg {c:ChD} {x:InD} (h:InstOk c x):RunOk c (dD x):=⟨h.len,h.fit,h.tms,h.tml,Kj _,Kj _,fun e he=>by simp[dD]at he⟩
section
variable {c:ChD} (h:Full c) {act:List Int} (hb:lgB c act=true) {ts:List Nat} (hf:Fit c act ts)
include h hb hf
theorem AZ {mem:List MemD} (hm:bU c mem=true) {n:Nat} (hn:n∈ts):TrOk c act mem (dm c n):=by
 obtain⟨t,ht,hs⟩:=hf.real n hn;rw[eY ht];exact wm h hb hm ht hs
theorem xF {y:Int} :y∈goneR c act ts↔y∈act/\ ∃n∈ts,mY c (dm c n) y:=by
 have hm:bU c []=true:=rfl;unfold goneR;rw[Md];constructor
 ·rintro⟨n,hn,hy⟩;obtain⟨q1,q2⟩:=((AZ h hb hf hm hn).left y).1 hy;exact⟨q1,n,hn,q2⟩
 ·rintro⟨q1,n,hn,q2⟩;exact⟨n,hn,((AZ h hb hf hm hn).left y).2 ⟨q1,q2⟩⟩
theorem zn {y:Int} :y∈zL (sortL c (goneR c act ts))↔y∈act/\ ∃n∈ts,mY c (dm c n) y:=by
 rw[jD h.toRight fun y hy=>by
  obtain⟨_,_,hz,_⟩:=(cx hb).of ((xF h hb hf).1 hy).1
  exact hz]
 exact xF h hb hf
theorem uA: ∀y∈zL (sortL c (goneR c act ts)),y∈act:=fun _ hy=>((zn h hb hf).1 hy).1
theorem Jl: ∃G0:List Nat,goneR c act ts=zL G0:=⟨_,IP fun _ hy=>(GA hb _ ((xF h hb hf).1 hy).1).1⟩
theorem KE {mem:List MemD} (hm:bU c mem=true) {y:Int} :y∈zL (sortL c (zL (toR c mem ts)))↔ ∃n∈ts,ToT c mem (dm c n) y:=by
 have e: ∀y,y∈zL (toR c mem ts)↔ ∃n∈ts,ToT c mem (dm c n) y:=fun y=>by
  unfold toR zL;rw[Kb];constructor
  ·rintro⟨k,hk,rfl⟩;obtain⟨n,hn,hk⟩:=Md.1 hk;exact⟨n,hn,((AZ h hb hf hm hn).to _).1 (Kb.2 ⟨k,hk,rfl⟩)⟩
  ·rintro⟨n,hn,q⟩;obtain⟨k,hk,e⟩:=Kb.1 (((AZ h hb hf hm hn).to y).2 q);exact⟨k,Md.2 ⟨n,hn,hk⟩,e⟩
 rw[jD h.toRight fun y hy=>by
  obtain⟨n,hn,q⟩:=(e y).1 hy
  exact aY (C2 h ((AZ h hb hf hm hn).uni q.1).bel q.2)]
 exact e y
theorem sa {d now:Int} (hd:aL d=true) (hn:0<=now/\now<=1099511627776) {mem:List MemD} (hm:bU c mem=true) {r2:RunD} (hr:RunOk c r2) (ha:r2.act=act.filter (fun k=> !(zL (sortL c (goneR c act ts))).reverse.contains k)) (he:(ak c d now r2 [] (zL (sortL c (zL (toR c mem ts))))).1.2=none):
 lgB c (ak c d now r2 [] (zL (sortL c (zL (toR c mem ts))))).1.1.act=true/\ ∀y,y∈(ak c d now r2 [] (zL (sortL c (zL (toR c mem ts))))).1.1.act↔iC c act mem ts y:=by
 have hrise:r2.act.Pairwise (· < ·):=by rw[ha];exact(cx hb).rise.sublist Lp
 obtain⟨_,kc⟩:=ix (cS h) (l:=zL (sortL c (zL (toR c mem ts)))) (f:=[]) hd hn hr hrise;have kc:=kc he;obtain⟨O,o1,o2,o3⟩:=rQ h hb hm ts.length ts rfl hf
 have key: ∀y,y∈(ak c d now r2 [] (zL (sortL c (zL (toR c mem ts))))).1.1.act↔iC c act mem ts y:=fun y=>by
  rw[kc.mem,ha,Ke,KE h hb hf hm,Lm];unfold iC;refine or_congr ?_ Iff.rfl;refine and_congr_right fun hy=> ?_;rw[<-Bool.not_eq_true,K6,Ns,zn h hb hf];constructor
  ·exact fun q n hn ql=>q ⟨hy,n,hn,ql⟩
  ·rintro q ⟨_,n,hn,ql⟩;exact q n hn ql
 refine⟨?_,key⟩;have e:(ak c d now r2 [] (zL (sortL c (zL (toR c mem ts))))).1.1.act=zL O:=oM kc.rise (Ni.2 (o1.imp fun q=>by omega)) fun y=>(key y).trans (o3 y).symm;rw[e];exact o2
end
theorem A6 {c:ChD} (h:Full c) {d now:Int} (hd:aL d=true) (hn:0<=now/\now<=1099511627776) {x:InD} (hI:InstOk c x) (ho:x.2.2.2.2=false) {ts:List Nat} (hf:Fit c x.1 ts) (he:(stepP c d now (dD x) ts).2=none):
 RunOk c (stepP c d now (dD x) ts).1/\bW c (rcI (inR (stepP c d now (dD x) ts).1))=true/\ ∀y,y∈(stepP c d now (dD x) ts).1.act↔iC c x.1 (remL c x.1 (zL (sortL c (goneR c x.1 ts))) x.2.2.1) ts y:=by
 have hA:=cS h;have hm:=(ig h hI.lg hI.mem (uA h hI.lg hf)).2
 have hts: ∀n∈ts,∃t,c.trans[n]? =some t:=fun n hn=>by
  obtain⟨t,ht,_⟩:=hf.real n hn;exact⟨t,ht⟩
 have hov:jh c x.1=false:=by rw[<-hI.over];exact ho
 have hz: ∀y∈x.1,inZ c y=true:=fun y hy=>by
  obtain⟨_,_,hz,_⟩:=(cx hI.lg).of hy;exact hz
 have hG: ∀y∈zL (sortL c (goneR c x.1 ts)),y∈x.1:=uA h hI.lg hf;have leg:=fun(r2:RunD) hr ha he=>sa h hI.lg hf hd hn hm (r2:=r2) hr ha he;have hb0:RunOk c (dD x):=hI.beg
 change (match bP c d now { dD x with mem:=remL c x.1 (zL (sortL c (goneR c x.1 ts))) x.2.2.1 } (zL (sortL c (goneR c x.1 ts))).reverse with
  |(r1,none)=>(match da c d now r1 ts with
    |(r2,none)=>enterP c d now r2 (zL (sortL c (zL (toR c (remL c x.1 (zL (sortL c (goneR c x.1 ts))) x.2.2.1) ts))))
    |y=>y)
  |y=>y).2=none at he
 show RunOk c (match bP c d now { dD x with mem:=remL c x.1 (zL (sortL c (goneR c x.1 ts))) x.2.2.1 } (zL (sortL c (goneR c x.1 ts))).reverse with
  |(r1,none)=>(match da c d now r1 ts with
    |(r2,none)=>enterP c d now r2 (zL (sortL c (zL (toR c (remL c x.1 (zL (sortL c (goneR c x.1 ts))) x.2.2.1) ts))))
    |y=>y)
  |y=>y).1/\bW c (rcI (inR (match bP c d now { dD x with mem:=remL c x.1 (zL (sortL c (goneR c x.1 ts))) x.2.2.1 } (zL (sortL c (goneR c x.1 ts))).reverse with
  |(r1,none)=>(match da c d now r1 ts with
    |(r2,none)=>enterP c d now r2 (zL (sortL c (zL (toR c (remL c x.1 (zL (sortL c (goneR c x.1 ts))) x.2.2.1) ts))))
    |y=>y)
  |y=>y).1))=true/\ ∀y,y∈(match bP c d now { dD x with mem:=remL c x.1 (zL (sortL c (goneR c x.1 ts))) x.2.2.1 } (zL (sortL c (goneR c x.1 ts))).reverse with
  |(r1,none)=>(match da c d now r1 ts with
    |(r2,none)=>enterP c d now r2 (zL (sortL c (zL (toR c (remL c x.1 (zL (sortL c (goneR c x.1 ts))) x.2.2.1) ts))))
    |y=>y)
  |y=>y).1.act↔_
 generalize remL c x.1 (zL (sortL c (goneR c x.1 ts))) x.2.2.1=mem at*;obtain⟨k1,k2,k3,k4⟩:=nc hA (l:=(zL (sortL c (goneR c x.1 ts))).reverse) hd hn (r:={ dD x with mem:=mem }) { hb0 with };rcases hX:bP c d now { dD x with mem:=mem } (zL (sortL c (goneR c x.1 ts))).reverse with⟨r1,_|e⟩
 ·rw[hX]at he k1 k2 k3 k4;have k4:=k4 rfl;simp only at he k1 k2 k3 k4 |-;obtain⟨a1,a2⟩:=Do hA hd hn (l:=ts) (r:=r1) hts k1;rcases hY:da c d now r1 ts with⟨r2,_|e⟩
  ·rw[hY]at he a1 a2;simp only at he a1 a2 |-;have ha:r2.act=x.1.filter fun k=> !(zL (sortL c (goneR c x.1 ts))).reverse.contains k:=a2.act.trans k4;have hrise:r2.act.Pairwise (· < ·):=by rw[ha];exact(cx hI.lg).rise.sublist Lp
   obtain⟨n1,n2⟩:=HR hA (l:=zL (sortL c (zL (toR c mem ts)))) hd hn a1 hrise;have n2:=n2 he
   have hce:(ak c d now r2 [] (zL (sortL c (zL (toR c mem ts))))).1.2=none:=by
    cases hx:(ak c d now r2 [] (zL (sortL c (zL (toR c mem ts))))).1.2 with
    |none=>rfl
    |some e=>rw[vh hx,hx]at he;cases he
   obtain⟨l1,l2⟩:=leg r2 a1 ha hce;obtain⟨_,kc⟩:=ix hA (l:=zL (sortL c (zL (toR c mem ts)))) (f:=[]) hd hn a1 hrise;have kc:=kc hce;have hact:(enterP c d now r2 (zL (sortL c (zL (toR c mem ts))))).1.act=(ak c d now r2 [] (zL (sortL c (zL (toR c mem ts))))).1.1.act:=oM n2.rise kc.rise fun y=>by rw[n2.mem,kc.mem]
   refine⟨n1,ES n1 (by rw[hact];exact l1) (by rw[n2.mm,a2.mem,k2];exact hm) ?_,fun y=>by rw[hact];exact l2 y⟩
   have hin: ∀y∈(enterP c d now r2 (zL (sortL c (zL (toR c mem ts))))).1.act,inZ c y=true:=fun y hy=>by
    rw[hact]at hy;obtain⟨_,_,hz,_⟩:=(cx l1).of hy;exact hz
   rw[n2.over,a2.over,k3,Cr hin,LC];rw[Cr hz]at hov;have ho2:(dD x).over=false:=ho;show ((dD x).over||_)=true↔_;rw[ho2,M2,Lj,Lj]
   have hno: ∀y∈r2.act,(bS c y==3&&decide (aO c y<0))=false:=fun y hy=>by
    rw[ha]at hy;exact Mt.2 fun q=>Mt.1 hov (Lj.2 ⟨y,(Ke.1 hy).1,q⟩)
   constructor
   ·rintro⟨y,hy,q⟩;refine⟨y,(n2.mem y).2 (.inr hy),?_⟩;simp only[K3]at q |-;exact⟨q.1.2,q.2⟩
   ·rintro⟨y,hy,q⟩;rcases (n2.mem y).1 hy with hy|hy
    ·rw[hno y hy]at q;cases q
    ·refine⟨y,hy,?_⟩
     have hc:r2.act.contains y=false:=by
      cases hh:r2.act.contains y with
      |false=>rfl
      | true=>
        rw[hno y (K6.1 hh)]at q;cases q
     rw[hc];simpa using q
  ·rw[hY]at he;cases he
 ·rw[hX]at he;cases he
end
section
open Go.RowKit
end
section
open Go.RowKit
end
section
open Go.RowKit
end
section
open Go.RowKit
end
section
open Go.RowKit
end
section
open Go.RowKit
end
section
open Go.RowKit
end
section
open Go.RowKit
end
section
open Go.RowKit
end
section
open Go.RowKit
end
section
open Go.RowKit
end
section
open Go.RowKit Go.ChangeShapes Go.WideShapes Go.ChangeAt Go.Deep
def WB {H:Type} (P:Program) (t:TypeId) (d:DataW H):Prop:= ∀z∈DataW.weights P t d,z<=reachBytes
section
variable {H:Type} {enc:TypeId×Value->H} {P:Program} {w:World} {base:Nat} {spare:Nat->Bool} {held:Bool}
theorem yw {e:TypeId} {d:DataW H} : ∀ {l:List (DataW H)},d∈l-> ∀z∈DataW.weights P e d,z∈DataW.weightsAll P e l
 | a::r,h,z,hz=>by
   unfold DataW.weightsAll;rcases Kr.1 h with rfl|h
   ·exact LW _ hz
   ·exact M6 _ (yw h z hz)
theorem WB.elem {t e:TypeId} {es rs:List (DataW H)} (ht:P.underlying t=some (.slice e)) (h:WB P t (.slice es rs)) {d:DataW H} (hd:d∈es):WB P e d:=fun z hz=>by
 refine h z ?_;unfold DataW.weights;rw[ht];exact Ly _ (LW _ (yw hd z hz))
theorem WB.size {t e:TypeId} {es rs:List (DataW H)} (ht:P.underlying t=some (.slice e)) (h:WB P t (.slice es rs)):es.length*P.bytesOf e<=reachBytes:=by
 refine Km ?_ (h ((es.length+rs.length)*P.bytesOf e) ?_)
 ·exact LP _ (Ov ..)
 ·unfold DataW.weights;rw[ht];exact N6 ..
theorem o7: ∀ {ts:List TypeId} {l:List (DataW H)} {i:Nat} {t:TypeId} {d:DataW H},ts[i]? =some t->l[i]? =some d-> ∀z∈DataW.weights P t d,z∈DataW.weightsEach P ts l
 |t::ts,d::l,0,_,_,rfl,rfl,z,hz=>by unfold DataW.weightsEach;exact LW _ hz
 | t::ts,d::l,i+1,_,_,h1,h2,z,hz=>by
   unfold DataW.weightsEach;exact M6 _ (o7 (i:=i) (by simpa using h1) (by simpa using h2) z hz)
 |[],_,i,_,_,h1,_,z,hz=>by simp at h1
 |_::_,[],i,_,_,_,h2,z,hz=>by simp at h2
theorem WB.part {t:TypeId} {fs:Array Field} {ps:List (DataW H)} (ht:P.underlying t=some (.struct fs)) (h:WB P t (.agg ps)) {i:Nat} {f:Field} {d:DataW H} (hf:fs[i]? =some f) (hd:ps[i]? =some d):WB P f.type d:=fun z hz=>by
 refine h z ?_;unfold DataW.weights;rw[ht];refine o7 (i:=i) ?_ hd z hz;rw[K9,Mx,hf];rfl
theorem BK {α:Type} {t e:TypeId} {size fuel:Nat} {R:List Value->α->Prop} {cs:List Value} {x:DataW H×List MemPlace} (ht:P.underlying t=some (.slice e)) (hC:P.cellsOf e=size) (hpos:0<size)
 (hR: ∀(m:Nat) (cs:List Value) (y:DataW H×List MemPlace),DataW.trod enc P w base spare held m e cs=some y->WB P e y.1-> ∃a,R cs a) (hw:WB P t x.1)
 (h:DataW.trod enc P w base spare held fuel t cs=some x): ∃v l,cs=[v]/\eR w w.heap.size size R v l:=by
 rcases open_slice ht h with⟨rfl,_⟩|⟨a,len,cap,m,n,D,Pl,rfl,hb,hl,hm,hmm,rfl,hx⟩
 ·exact⟨_,[],rfl,none,0,[],rfl,Kc _,Kj _,Reads.empty _ _ _ _,by simp,fun i hi=>by simp at hi⟩
 have hlm:len<=m:=by rw[hmm];split<;>omega
 rw[hC]at hx
 have hch: ∀i,∃cs':List Value,i<len->w.cells? base (a.add (i*size)) size=some cs'/\DataW.trod enc P w base spare held n e cs'=some (D i,Pl i):=fun i=>by
  by_cases hi:i<len
  ·obtain⟨cs',h1,h2⟩:=hx i (by omega);exact⟨cs',fun _=>⟨h1,h2⟩⟩
  ·exact⟨[],fun h=>absurd h hi⟩
 let f:Nat->List Value:=fun i=>(hch i).choose
 have hf: ∀i,i<len->w.cells? base (a.add (i*size)) size=some (f i)/\DataW.trod enc P w base spare held n e (f i)=some (D i,Pl i):=fun i hi=>(hch i).choose_spec hi;have hfl: ∀i,i<len->(f i).length=size:=fun i hi=>(NS (hf i hi).1).2.1;obtain⟨l,hll,hl2⟩:=Cz (n:=len) (p:=fun i a=>R (f i) a) fun i hi=>hR _ _ _ (hf i hi).2 (WB.elem ht hw (Kb.2 ⟨i,Kw.2 hi,rfl⟩));refine⟨_,l,rfl,some a,cap,(List.range len).flatMap f,by rw[hll],by omega,by omega,⟨by rw[hll,flat_len f size len hfl],fun hn=> ?_⟩,by rw[hll,flat_len f size len hfl],fun i hi=> ?_⟩
 ·rw[hll]at hn;have h0:=NS (hf 0 hn).1;have hc0:=h0.2.2 0 hpos
  have hsp:a.spot=none:=by
   rw[Mz]at hc0;have:(f 0)[0]? =some ((f 0)[0]'(by rw[hfl 0 hn];exact hpos)):=KZ _;rw[this]at hc0;have e:(a.add 0).add 0=a:=rfl;rw[e]at hc0;unfold World.cell? at hc0;cases hs:a.spot with
   |none=>rfl
   | some s=>
     rw[hs]at hc0;split at hc0<;>simp at hc0
  obtain⟨b,off,sp⟩:=a;simp only at hsp;subst hsp
  have hcell: ∀j u,((List.range len).flatMap f)[j]? =some u->w.cell? ⟨b,off+j,none⟩=some u:=by
   intro j u hu
   have hj:j<len*size:=by
    rcases My j (len*size) with h|h
    ·exact h
    ·rw[Kf (by rw[flat_len f size len hfl];exact h)]at hu;cases hu
   have hq:j/size<len:=NQ (by rw[Mm];exact hj);have hr:j%size<size:=Nk _ hpos;have hpart:=jI f size len hfl (j/size) hq;have e:j=j/size*size+j%size:=by rw[Mm];exact(Nat.div_add_mod j size).symm
   have hget:(f (j/size))[j%size]? =some u:=by
    rw[<-hpart,LG,K5 hr,Lh, <-e];exact hu
   have:=(NS (hf _ hq).1).2.2 (j%size) hr;rw[hget,add_plain,add_plain,N9, <-e]at this;exact this
  refine⟨b,off,rfl,?_,hcell⟩;have hx0:((List.range len).flatMap f)[0]? =some (((List.range len).flatMap f)[0]'(by rw[flat_len f size len hfl];exact Nat.mul_pos hn hpos)):=KZ _;exact OL w ⟨b,off+0,none⟩ (hcell 0 _ hx0)
 ·rw[jI f size len hfl i (by omega)];exact hl2 i hi
end
section
variable {H:Type} {enc:TypeId×Value->H} {P:Program} {w:World} {base:Nat} {spare:Nat->Bool} {held:Bool}
theorem mE {α:Type} {t e:TypeId} {size fuel:Nat} {cs:List Value} {x:DataW H×List MemPlace} (en:α->List AV) (few:α->Prop) (hen: ∀a,(en a).length=size) (ht:P.underlying t=some (.slice e)) (hC:P.cellsOf e=size) (hpos:0<size)
 (hR: ∀(m:Nat) (cs:List Value) (y:DataW H×List MemPlace),DataW.trod enc P w base spare held m e cs=some y->WB P e y.1-> ∃a,RE w en few cs a) (hw:WB P t x.1)
 (h:DataW.trod enc P w base spare held fuel t cs=some x): ∃(v:Value) (l:List α),cs=[v]/\(v.oneCell'=true/\RV (fun b _=>b<w.heap.size) w v (.seq size (l.map en)))/\(l.length<=maxLen/\l.length*P.bytesOf e<=reachBytes)/\ ∀a∈l,few a:=by
 obtain⟨v,l,e1,hl⟩:=BK (R:=RE w en few) ht hC hpos hR hw h;have hrv:=Cy en hen hl fun cs a _ hr j u c hu hc=>hr.1.at_.2 j u c hu hc;obtain⟨A,c,xs,rfl,_,h2,_,hrow⟩:=hl;refine⟨_,l,e1,⟨rfl,hrv⟩,⟨h2,?_⟩,fun a ha=> ?_⟩
 ·rcases DataW.trod_slice ht h with⟨e2,_⟩|⟨a,len,cap,elems,rest,n,_,e2,e3,_,_,_,hlen,_⟩
  ·rw[e1]at e2;have e4:l.length=0:=by injection e2 with q1 _;injection q1
   rw[e4,Mz];exact Kj _
  ·rw[e1]at e2;have e4:l.length=len:=by injection e2 with q1 _;injection q1
   rw[e3]at hw;have:=hw.size ht;rw[Ko,hlen]at this;rw[e4];exact this
 ·obtain⟨i,hi,rfl⟩:=Lr ha;exact(hrow.2 i hi).2
end
theorem Js:prog.bytesOf 3=8:=by kernel_rfl
def DZ (m:MemD):Prop:=m.2.length<=maxLen/\m.2.length*8<=reachBytes
section
variable {H:Type} {enc:TypeId×Value->H} {w:World} {base:Nat} {spare:Nat->Bool} {held:Bool}
theorem Ei (m:Nat) (cs:List Value) (y:DataW H×List MemPlace) (h:DataW.trod enc prog w base spare held m 134 cs=some y) (hw:WB prog 134 y.1): ∃a:MemD,RE w mmAV DZ cs a:=by
 obtain⟨xs,n,_,hx,hl,hxl,hg⟩:=M9 Tryz.underlying134 h;rw[J1]at hl;obtain⟨c0,c1,rfl⟩:=GB hl;obtain⟨y0,h0⟩:=bZ hxl hg 0 _ rfl 3 0 1 rfl rfl c_int;obtain⟨x0,e0, -, -⟩:=MC Tryz.underlying3 (show DataW.trod enc prog w base spare held n 3 [c0]=some y0 from h0);cases e0;have hx2:xs.length=2:=hxl;obtain⟨y1,hy1⟩: ∃y1,xs[1]? =some y1:=⟨xs[1]'(by omega),KZ _⟩;obtain⟨y2,h1⟩:=bZ hxl hg 1 _ rfl 27 1 1 rfl rfl C6
 have h2:DataW.trod enc prog w base spare held n 27 [c1]=xs[1]? :=by
  have:=hg 1 _ rfl;exact this
 have h1:DataW.trod enc prog w base spare held n 27 [c1]=some y1:=h2.trans hy1;rw[hx]at hw;have hw1:WB prog 27 y1.1:=WB.part (i:=1) Tryz.underlying134 hw rfl (by rw[K9,hy1];rfl);obtain⟨x1,l1,e1,r1,⟨n1,n2⟩, -⟩:=mE (size:=1) intAV (fun _=>True) (fun _=>rfl) Tryz.underlying27 c_int (by decide) (fun m cs y h _=>open_int1 m cs y h) hw1 h1;cases e1;rw[Js]at n2;exact⟨(x0,l1),⟨⟨rfl, .lit _⟩,r1,trivial⟩,n1,n2⟩
end
end
section
open Go.RowKit Go.ChangeShapes Go.WideShapes Go.ChangeAt Go.Deep
theorem KP:prog.bytesOf 92=24:=by kernel_rfl
theorem JJ:prog.cellsOf 33=13:=by kernel_rfl
def rj (x:InD):Prop:=C4 x/\(∀m∈x.2.2.1,m.2.length*8<=reachBytes)/\x.2.2.2.1.length*24<=reachBytes
theorem Jh {l:List Value} (h:l.length=13): ∃a b c d e f g i j k m n o,l=[a,b,c,d,e,f,g,i,j,k,m,n,o]:=by
 match l,h with
 |[a,b,c,d,e,f,g,i,j,k,m,n,o],_=>exact⟨a,b,c,d,e,f,g,i,j,k,m,n,o,rfl⟩
section
variable {H:Type} {enc:TypeId×Value->H} {w:World} {base:Nat} {spare:Nat->Bool} {held:Bool}
theorem BL (m:Nat) (cs:List Value) (y:DataW H×List MemPlace) (h:DataW.trod enc prog w base spare held m 31 cs=some y) (hw:WB prog 31 y.1): ∃a:InD,RE w inE rj cs a:=by
 obtain⟨xs,n,_,hx,hl,hxl,hg⟩:=M9 Tryz.underlying31 h;rw[hx]at hw;have hxk:xs.length=5:=hxl;rw[Jq]at hl;obtain⟨c0,c1,c2,c3,c4,rfl⟩:=IU hl;obtain⟨y0,h0⟩:=bZ hxl hg 0 _ rfl 27 0 1 rfl rfl C6;obtain⟨x0,l0,e0,r0,n0, -⟩:=cu (size:=1) intAV (fun _=>True) (fun _=>rfl) Tryz.underlying27 c_int (by decide) open_int1 (show DataW.trod enc prog w base spare held n 27 [c0]=some y0 from h0);cases e0;obtain⟨y1,h1⟩:=bZ hxl hg 1 _ rfl 27 1 1 rfl rfl C6;obtain⟨x1,l1,e1,r1,n1, -⟩:=cu (size:=1) intAV (fun _=>True) (fun _=>rfl) Tryz.underlying27 c_int (by decide) open_int1 (show DataW.trod enc prog w base spare held n 27 [c1]=some y1 from h1);cases e1;obtain⟨y2,hy2⟩: ∃z,xs[2]? =some z:=⟨xs[2]'(by omega),KZ _⟩
 have h2:DataW.trod enc prog w base spare held n 28 [c2]=some y2:=by
  have:=hg 2 _ rfl;exact Eq.trans (show DataW.trod enc prog w base spare held n 28 [c2]=xs[2]? from this) hy2
 have hw2:WB prog 28 y2.1:=WB.part (i:=2) Tryz.underlying31 hw rfl (by rw[K9,hy2];rfl);obtain⟨x2,l2,e2,r2,⟨n2, -⟩,p2⟩:=mE (size:=2) mmAV DZ (fun _=>rfl) Tryz.underlying28 J1 (by decide) Ei hw2 h2;cases e2;obtain⟨y3,hy3⟩: ∃z,xs[3]? =some z:=⟨xs[3]'(by omega),KZ _⟩
 have h3:DataW.trod enc prog w base spare held n 29 [c3]=some y3:=by
  have:=hg 3 _ rfl;exact Eq.trans (show DataW.trod enc prog w base spare held n 29 [c3]=xs[3]? from this) hy3
 have hw3:WB prog 29 y3.1:=WB.part (i:=3) Tryz.underlying31 hw rfl (by rw[K9,hy3];rfl);obtain⟨x3,l3,e3,r3,⟨n3,k3⟩,p3⟩:=mE (size:=2) tmAV uD (fun _=>rfl) Tryz.underlying29 c_tm (by decide) (fun m cs y h _=>Ig m cs y h) hw3 h3;cases e3;rw[KP]at k3;obtain⟨y4,h4⟩:=bZ hxl hg 4 _ rfl 4 4 1 rfl rfl Jr;obtain⟨x4,e4, -⟩:=DataW.trod_bool Tryz.underlying4 (show DataW.trod enc prog w base spare held n 4 [c4]=some y4 from h4);cases e4;exact⟨(l0,l1,l2,l3,x4),⟨r0,r1,r2,r3,⟨rfl, .lit _⟩,trivial⟩,⟨⟨n0,n1⟩,⟨n2,fun m hm=>(p2 m hm).1⟩,n3,p3⟩,fun m hm=>(p2 m hm).2,k3⟩
theorem BM {r0:Reach} {b0:Nat} {v:Value} {d:DataW H} {p:List MemPlace} (hv:Value.okWide prog w r0 b0 33 v) (hw:WB prog 33 d) (h:DataW.Trod enc prog w base spare held 33 v d p):
 ∃(c:ChD) (x:InD) (ev:List UInt8) (dt n:Int),jS c/\rj x/\RV (fun b _=>b<w.heap.size) w v (.agg (jk c x ev dt n)):=by
 obtain⟨cs,rfl,hsz⟩:=okWide_struct Tryz.underlying33 hv;obtain⟨l⟩:=cs;obtain⟨fuel,hf⟩:=h;obtain⟨xs,n,_,hx,hl,hxl,hg⟩:=M9 Tryz.underlying33 hf;rw[JJ]at hl;obtain⟨c0,c1,c2,c3,c4,c5,c6,c7,c8,c9,c10,c11,c12,rfl⟩:=Jh (show l.length=13 from hl);have hxk:xs.length=5:=hxl;have hd:d= .agg (xs.map (·.1)):=LF (·.1) hx;rw[hd]at hw;obtain⟨y0,h0⟩:=bZ hxl hg 0 _ rfl 26 0 5 rfl rfl KU;obtain⟨c,q1,q2⟩:=Ih _ _ _ h0;obtain⟨y1,hy1⟩: ∃z,xs[1]? =some z:=⟨xs[1]'(by omega),KZ _⟩
 have h1:DataW.trod enc prog w base spare held n 31 [c5,c6,c7,c8,c9]=some y1:=by
  have:=hg 1 _ rfl;exact Eq.trans (show DataW.trod enc prog w base spare held n 31 [c5,c6,c7,c8,c9]=xs[1]? from this) hy1
 have hw1:WB prog 31 y1.1:=WB.part (i:=1) Tryz.underlying33 hw rfl (by rw[K9,hy1];rfl);obtain⟨x,k1,k2⟩:=BL _ _ _ h1 hw1;obtain⟨y2,h2⟩:=bZ hxl hg 2 _ rfl 9 10 1 rfl rfl iN;obtain⟨x2,e2, -,s2⟩:=NE Tryz.underlying9 (show DataW.trod enc prog w base spare held n 9 [c10]=some y2 from h2);cases e2;obtain⟨⟨t2⟩⟩:=x2;obtain⟨y3,h3⟩:=bZ hxl hg 3 _ rfl 3 11 1 rfl rfl c_int;obtain⟨x3,e3, -, -⟩:=MC Tryz.underlying3 (show DataW.trod enc prog w base spare held n 3 [c11]=some y3 from h3);cases e3;obtain⟨y4,h4⟩:=bZ hxl hg 4 _ rfl 3 12 1 rfl rfl c_int;obtain⟨x4,e4, -, -⟩:=MC Tryz.underlying3 (show DataW.trod enc prog w base spare held n 3 [c12]=some y4 from h4);cases e4;exact⟨c,x,t2,x3,x4,q2,k2,RVs.agg (show RVs _ w ([c0,c1,c2,c3,c4]++([c5,c6,c7,c8,c9]++[.string ⟨⟨t2⟩⟩, .int .i64 x3, .int .i64 x4])) (aA c++(inE x++[Sg t2,I x3,I x4])) from RVs.app q1 (RVs.app k1 ⟨⟨rfl, .lit _⟩,⟨rfl, .lit _⟩,⟨rfl, .lit _⟩,trivial⟩))⟩
end
end
section
open Go.RowKit
theorem yb (env:Env) (c:ChD) (h:mP c=false):Con prog env 4 [.agg (aA c)] (.lit (.pointer none)):=by
 have f0:=kJ env c;have f1:=mD env c;unfold mP at h;cases h1:rR c
 ·rw[h1]at f0;refine qf func4 call4 ntmps4 results4 ?_;repeat refine Ce f0 f1 ?_
  exact aR0
 rw[h1]at f0;rw[h1,LN]at h;rw[h]at f1;refine qf func4 call4 ntmps4 results4 ?_;repeat refine Ce f0 f1 ?_
 exact aR0
theorem HF {x:InD} (h:rj x):(∀m∈x.2.2.1,Fits m.2.length 8)/\Fits x.2.2.2.1.length 24:=⟨fun m hm=>⟨Km (h.2.1 m hm) (by decide),nZ (h.1.2.1.2 m hm)⟩,Km h.2.2 (by decide),nZ h.1.2.2.1⟩
def rdyI (c:ChD) (x:InD) (d:Int):Int:=if bW c (rcI x)=false then 1 else if x.2.2.2.2=true then 7 else if aL d=false then 1 else 0
theorem yQ (env:Env) (c:ChD) (h:Full c) (x:InD) (hL:LiteI (rcI x)) (hF: ∀m∈x.2.2.1,Fits m.2.length 8) (ev:List UInt8) (d n:Int):Con prog env 6 [.agg (jk c x ev d n)] (I (rdyI c x d)):=by
 have f0:=mg env c h (rcI x) hL hF;have f1:=dV env d;rw[DJ]at f0;unfold aA inE at f0;refine qf func6 call6 ntmps6 results6 ?_;have F:=ai jk.eq_1 rdyI.eq_1;exact gz2 f0 f1
theorem Hf {c:ChD} {x:InD} {d:Int} (hb:bW c (rcI x)=true) (hd:aL d=true) (hl:x.1.length<=60):Asked c x d:=by
 unfold bW at hb;simp only[K3,L5]at hb;obtain⟨⟨⟨⟨⟨b1,b2⟩,b3⟩,b4⟩,b5⟩,b6⟩:=hb;exact⟨by omega,b3,K7.1 b6,hd,b1⟩
end
section
open Go.RowKit
theorem Al (env:Env) (l:List MemD) (hl:l.length<=9223372036854775807) (hm: ∀m∈l,m.2.length<=9223372036854775807):Con prog env 42 [.seq 2 (l.map mmAV), .seq 2 (l.map mmAV)] (B true):=by
 refine qf func42 call42 ntmps42 results42 ?_;repeat refine st0 ?_
 refine lq0 l.length (by omega) (fun j vs=>[(0, .seq 2 (l.map mmAV)),(1, .seq 2 (l.map mmAV)),(5,I j)]) (fun _ _=>[]) (fun _ _ _=>True) trivial ?_ ?_
 ·rintro j ws esc hlt q1 q2 _;obtain⟨x,hx⟩:=gE hlt;have hxl:=hm x (K4 hx);have F:=ai3 mmAV.eq_1 hx q1;repeat refine st ?_
  refine lq x.2.length (by omega) (fun k vs=>[(0, .seq 2 (l.map mmAV)),(1, .seq 2 (l.map mmAV)),(5,I j),(6,I k)]) (fun _ _=>[]) (fun _ _ _=>True) trivial ?_ ?_
  ·rintro k us es hlt2 p1 p2 _;obtain⟨y,hy⟩:=gE hlt2;have F:=ai7 mmAV.eq_1 intAV.eq_1 hx hy q1 p1 p2;repeat refine st ?_
   exact qn (k+1) ⟨hlt2,trivial⟩
  ·rintro us es p1 _;have F:=ai5 mmAV.eq_1 hx q1 q2 p1;repeat refine st ?_
   exact qn (j+1) ⟨hlt,trivial⟩
 ·rintro ws esc q1 _;have F:=q1;repeat refine st ?_
  exact aR
theorem yR (env:Env) (A V:List Int) (x:InD) (h:C4 x) (hA:A.length=x.1.length) (hV:V.length=x.2.1.length):Con prog env 12 [.agg (inE (A,V,x.2.2)), .agg (inE x)] (B ((A==x.1)&&(V==x.2.1))):=by
 have h0:maxLen=9223372036854775807:=rfl;have f0:=Al env x.2.2.1 (h0 ▸ h.2.1.1) fun m hm=>h0 ▸ h.2.1.2 m hm;have hT:x.2.2.2.1.length<=9223372036854775807:=h0 ▸ h.2.2.1;have hA2:x.1.length<=9223372036854775807:=h0 ▸ h.1.1;have hV2:x.2.1.length<=9223372036854775807:=h0 ▸ h.1.2;have k1:((A.length:Int) != (x.1.length:Int))=false:=by simp[hA]
 have k2:((V.length:Int) != (x.2.1.length:Int))=false:=by simp[hV]
 refine qf func12 call12 ntmps12 results12 ?_;have F:=ai3 inE.eq_1 k1 k2;repeat refine tz1 f0 ?_
 refine aI (D:=Nat) (fun i vs=>[(2, .loc 2 (vs 2) 0 0),(3, .loc 3 (vs 3) 0 0),(5,I i)]) (fun _ _=>[(2,⟨5,[inE (A,V,x.2.2)],31,false⟩),(3,⟨5,[inE x],31,false⟩)]) (fun i _ _=>i<=x.2.2.2.1.length) (fun i=>x.2.2.2.1.length-i) 0 ?_ ?_ ?_ ?_
 ·exact Kj _
 ·exact qe
 ·have F:=inE.eq_1;exact qe
 rintro i ws esc hi;by_cases hlt:i<x.2.2.2.1.length
 ·obtain⟨t,ht⟩:=gE hlt;have q1:=nlt hlt;have q2:=aD hlt (by omega);have F:=ai5 inE.eq_1 tmAV.eq_1 q1 q2 ht;repeat refine st ?_
  refine⟨i+1,hlt,?_,?_,by omega⟩
  ·exact qe
  ·have F:=inE.eq_1;exact qe
 have q1: ¬(i:Int)< (x.2.2.2.1.length:Int):=by omega
 have F:=ai inE.eq_1 q1;repeat refine st ?_
 try clear hi hlt q1
 refine aI (D:=Nat) (fun i vs=>[(2, .loc 2 (vs 2) 0 0),(3, .loc 3 (vs 3) 0 0),(6,I i)]) (fun _ _=>[(2,⟨5,[inE (A,V,x.2.2)],31,false⟩),(3,⟨5,[inE x],31,false⟩)]) (fun i _ _=>i<=A.length/\A.take i=x.1.take i) (fun i=>A.length-i) 0 ?_ ?_ ?_ ?_
 ·exact⟨Kj _,rfl⟩
 ·exact qe
 ·have F:=inE.eq_1;exact qe
 try clear ws esc
 rintro i ws esc ⟨hi,ht⟩;by_cases hlt:i<A.length
 ·obtain⟨u,hu,_⟩:=aQ hlt;obtain⟨v,hv,_⟩:=aQ (show i<x.1.length by omega);have q1:=nlt hlt;have q3:=nlt (show i<x.1.length by omega);have q2:=aD hlt (by omega);cases e:(u==v)
  ·rw[u7 hu hv (by simpa using e)];have F:=ai9 inE.eq_1 intAV.eq_1 q1 q2 q3 hu hv e im;repeat refine st ?_
   exact aR
  ·have F:=ai9 inE.eq_1 intAV.eq_1 q1 q2 q3 hu hv e im;repeat refine st ?_
   refine⟨i+1,⟨hlt,take_same ht hu hv (by simpa using e)⟩,?_,?_,by omega⟩
   ·exact qe
   ·have F:=inE.eq_1;exact qe
 have q1: ¬(i:Int)< (A.length:Int):=by omega
 rw[zI ht (by omega) (by omega),LN];have F:=ai inE.eq_1 q1;repeat refine st ?_
 try clear hi hlt q1 ht
 have F:=inE.eq_1;refine lq V.length (by omega) (fun i vs=>[(2, .loc 2 (vs 2) 0 0),(3, .loc 3 (vs 3) 0 0),(7,I i)]) (fun _ _=>[(2,⟨5,[inE (A,V,x.2.2)],31,false⟩),(3,⟨5,[inE x],31,false⟩)]) (fun i _ _=>V.take i=x.2.1.take i) rfl ?_ ?_
 ·try clear ws esc
  rintro i ws esc hlt q1 q2 ht;obtain⟨u,hu,_⟩:=aQ hlt;obtain⟨v,hv,_⟩:=aQ (show i<x.2.1.length by omega);have q3:=nlt (show i<x.2.1.length by omega);cases e:(u==v)
  ·rw[u7 hu hv (by simpa using e)];have F:=ai9 inE.eq_1 intAV.eq_1 q1 q2 q3 hu hv e im;repeat refine st ?_
   exact aR
  ·have F:=ai9 inE.eq_1 intAV.eq_1 q1 q2 q3 hu hv e im;repeat refine st ?_
   refine⟨i+1,⟨hlt,take_same ht hu hv (by simpa using e)⟩,?_,?_,by omega⟩
   ·exact qe
   ·have F:=inE.eq_1;exact qe
 try clear ws esc
 rintro ws esc q1 ht;rw[zI ht (by omega) (by omega)];have F:=ai inE.eq_1 q1;repeat refine st ?_
 exact aR
end
section
open Go.RowKit
end
section
open Go.RowKit
theorem k7 {c:ChD} (h:Full c) {mem:List MemD} (hm:bU c mem=true):mem.length<=32/\ ∀m∈mem,Fits m.2.length 8:=
 ⟨Km (wv (Ht hm)) h.few,fun m hm'=>aC (Km (rL h hm m hm').2 (by decide)) (by omega)⟩
theorem DY {c:ChD} (h:Full c) {act:List Int} {f:List Nat} (hF:Fit c act f):f.length<=64:=by
 have hnd:f.Nodup:=hF.two.imp fun h=>h.1
 have:=hnd.length_le_of_subset (l₂:=List.range c.trans.length) fun n hn=>by
  obtain⟨t,ht,_⟩:=hF.real n hn;exact Kw.2 (K0.1 ht).1
 have hftr:=h.ftr;simp at this;omega
theorem Hz {c:ChD} {act:List Int} {f:List Nat} (hF:Fit c act f): ∀n∈f,∃t,c.trans[n]? =some t:=fun n hn=>by
 obtain⟨t,ht,_⟩:=hF.real n hn;exact⟨t,ht⟩
theorem wA (env:Env) (a1 a2 a8:Addr) (c:ChD) (d now:Int) (E:RunEnv env a1 a2 a8 c d now) (x:InD) (hI:InstOk c x) (hA:x.1.length<=100) (hV:x.2.1.length<=4096) (hT:Fits x.2.2.2.1.length 24) (ts:List Nat) (hf:Fit c x.1 ts) (fr:Con prog env 21 [Sg [109,105,99,114,111,46,83,116,101,112],aJ c, .agg (inE x),I d] nilE):
 Con prog env 10 [aJ c, .agg (inE x), .seq 1 (ts.map aB),I d,I now] (uS a2 a8 (stepP c d now (dD x) ts)):=by
 obtain⟨m1,m2⟩:=k7 E.h hI.mem;obtain⟨_,hmem⟩:=ig E.h hI.lg hI.mem (uA E.h hI.lg hf);obtain⟨m3,m4⟩:=k7 E.h hmem;have htl:=DY E.h hf
 exact Fz env a1 a2 a8 c d now E x hA hV (by omega) m2 hT ts fr (Iz env a1 a8 E.he c E.h E.hs d now (dD x) (show x.1.length<=1000 by omega) hI.lg ts hf (by omega))
  (GQ env a1 a2 a8 c d now E (dD x) hI.beg hA hI.lg hI.mem (show x.2.2.1.length<=1000000 by omega) m2 ts (Hz hf) htl (uA E.h hI.lg hf) hmem ⟨show (remL c x.1 (zL (sortL c (goneR c x.1 ts))) x.2.2.1).length<=1000000 by omega,m4⟩ fun r2 k1 k2 k3=>(sa E.h hI.lg hf E.hd E.hn hmem k1 k2 k3).1)
theorem BA (env:Env) (c:ChD) (h:Full c) (hcv:c.vars.length<=8) (d now:Int) (hd:aL d=true) (hn:0<=now/\now<=1099511627776) (x:InD) (hI:InstOk c x) (hA:x.1.length<=100) (ts:List Nat) (hf:Fit c x.1 ts):
 Con prog env 11 [.agg (aA c), .agg (inE x), .seq 1 (ts.map aB),I d,I now] (rsA d now (stepP c d now (dD x) ts)):=by
 obtain⟨m1,m2⟩:=k7 h hI.mem;obtain⟨hsame,hmem⟩:=ig h hI.lg hI.mem (uA h hI.lg hf);obtain⟨m3,m4⟩:=k7 h hmem;obtain⟨G0,hG0⟩:=Jl h hI.lg hf;exact EZ env c h (by omega) d now hd hn x hI.beg hA hI.lg (by omega) ts (Hz hf) (DY h hf) G0 hG0 hmem (by omega) hsame.symm fun r2 k1 k2 k3=>(sa h hI.lg hf hd hn hmem k1 k2 k3).1
structure RunFew (c:ChD) (r:RunD):Prop where
 act:r.act.length<=100
 vars:r.vars.length<=8
 mem:r.mem.length<=32
 mems: ∀m∈r.mem,Fits m.2.length 8
 tms:r.tms.length<=8
 nms: ∀t∈r.tms,t.1.length<=32
theorem I5 {c:ChD} (h:Full c) (hv:c.vars.length<=8) {r:RunD} (hr:RunOk c r) (hi:bW c (rcI (inR r))=true):RunFew c r:=by
 have hI:=xA hi;have hal:=Gi hI.lg;have hfew:=h.few;obtain⟨m1,m2⟩:=k7 h hI.mem;have hal:r.act.length<=c.states.length:=hal
 exact⟨by omega,by rw[hr.len];exact hv,m1,m2,hr.tml,fun t ht=>by
  have:=(hr.tms.each t ht).1;unfold bd at this;simp only[K3,Kh]at this
  exact this.1.1⟩
theorem JD {c:ChD} {r:RunD} (h:RunFew c r):C4 (inR r)/\LiteI (rcI (inR r)):=by
 have hml:maxLen=9223372036854775807:=rfl;have h1:=h.act;have h2:=h.vars;have h3:=h.mem;have h4:=h.tms;refine⟨⟨⟨show r.act.length<=maxLen by omega,show r.vars.length<=maxLen by omega⟩,⟨show r.mem.length<=maxLen by omega,fun m hm=> ?_⟩,show r.tms.length<=maxLen by omega,fun t ht=> ?_⟩,⟨show r.act.length<=1000000 by omega,show r.vars.length<=1000000 by omega,show r.mem.length<=1000000 by omega,show r.tms.length<=9223372036854775807 by omega⟩⟩
 ·have:=(h.mems m hm).2;unfold IA;omega
 ·have:=h.nms t ht;unfold uD;omega
theorem GY {c:ChD} {x:InD} {d:Int} (h:rdyI c x d=0):bW c (rcI x)=true/\x.2.2.2.2=false/\aL d=true:=by
 unfold rdyI at h;split at h
 ·cases h
 rename_i h1;split at h
 ·cases h
 rename_i h2;split at h
 ·cases h
 rename_i h3;exact⟨by simpa using h1,by simpa using h2,by simpa using h3⟩
end
section
open Go.RowKit
def x0M:InD:=([0],[],[],[],false)
theorem yu:bW wakeM (rcI x0M)=true:=by decide+kernel
theorem Du:C3 wakeM 0=(dD x0M,none):=by kernel_rfl
theorem GJ:u0 wakeM x0M.1 (woX wakeM x0M.1 x0M.2.1 0) [120] (innL wakeM [0])= .ok [0]:=by kernel_rfl
theorem GI:stepP wakeM 0 0 (dD x0M) [0]=(⟨[1],[],[],[],false,[],[]⟩,none):=by kernel_rfl
theorem I0:Fit wakeM x0M.1 [0]:=⟨fun n hn=>⟨⟨0,[120],[],[],1⟩,by rw[Kl.1 hn];rfl,Kl.2 rfl⟩,NF ..⟩
theorem rD (env:Env) (n:List UInt8):Con prog env 19 [Sg n] (.agg [Sg n,I 1,I (-1),I (-1),nilS,nilS]):=by
 refine qf func19 call19 ntmps19 results19 ?_;repeat refine st0 ?_
 exact aR0
theorem CK (env:Env) (a1 a2 a8:Addr) (he:ChEnv env a1 a8) (h2:env 2=some (sentV a2)) (hT: ∀W,env.inv W->TabAt W):Con prog env 7 [] (B true):=by
 have h0:(chk wakeM).1=0:=by rw[u5]
 have h:=full_of h0;have hs:=sb h0;have E:RunEnv env a1 a2 a8 wakeM 0 0:=⟨he,h2,h,hs,rfl,by omega⟩;have hI:=xA yu;have rdy:=fun op=>uh env a1 a8 he wakeM h hs x0M ⟨by simp[rcI,x0M],by simp[rcI,x0M],by simp[rcI,x0M],by simp[rcI,x0M]⟩ (by simp[x0M]) (by simp[x0M]) op 0 yu rfl rfl;have f0:=(ub env a1 a8 he hT wakeM u5 Dy).args Dw;have f1:=CR env a1 a2 a8 wakeM 0 E (by simp[wakeM]);have f2:=pk env a1 a2 a8 he h2 wakeM h hs x0M 0 ⟨by simp[x0M],rfl,by simp[x0M],rfl,Dx⟩ [120] (rdy _) [0] rfl (by simp[wakeM]);have f3:=wA env a1 a2 a8 wakeM 0 0 E x0M hI (by simp[x0M]) (by simp[x0M]) (aC (by simp[x0M]) (by omega)) [0] I0 (rdy _);rw[Du]at f1;rw[GJ]at f2;rw[GI]at f3
 have f4:Con prog env 14 [.seq 1 [[I 1]], .seq 1 [[I 1]]] (B true):=by
  have:=wJ env [1] [1] (by decide);rw[LK rfl]at this;exact this
 have p1:=rD env [97];have p2:=rD env [98];unfold C9 at f0;unfold xh at f1;unfold dD at f1;unfold IG at f2;unfold uS at f3;unfold inE at f2 f3;unfold x0M at f1 f2 f3;simp only[MD,LR]at f1 f2 f3;unfold ints34 at f1 f2 f3;unfold aJ at f0 f1 f2 f3;generalize tabCells wakeM=T at*;refine qf func7 call7 ntmps7 results7 ?_;repeat refine KW p1 p2 f0 f1 f2 f3 f4 ?_
 exact aR0
end

end Go.Proofs.YtdpjgflalmnkdaaGreatDoor