/- A step in which nothing is done, as a whole. -/
import Derived.Test.YtknkhdgfhbogdaaGreatDoorP31
set_option maxRecDepth 100000
set_option maxHeartbeats 16000000
set_option linter.unusedSimpArgs false
set_option linter.defProp false
namespace Go.Proofs.YtknkhdgfhbogdaaGreatDoor
open Go.Proofs.Tryz
open Go.RowKit
section
def HL(a:Addr):Except Nat (List Nat)->AV
 | .ok l=> .tuple [.seq 1 (l.map aB),h8]
 | .error n=> .tuple [ct,fc (1000+(n:Nat)) (cf a)]
def Ao{c:aq}{w:ph}{ev:List UInt8}{i:Nat}{l o:List Nat}(h:cv c w ev ((i:Int)::i' c i)= .no):cM c w ev (i::l) o=cM c w ev l o:=by
 conv=>lhs;unfold cM
 rw[h]
def wK{c:aq}{w:ph}{ev:List UInt8}{i n:Nat}{l o:List Nat}(h:cv c w ev ((i:Int)::i' c i)= .one n):cM c w ev (i::l) o=cM c w ev l (if o.contains n then o else o++[n]):=by
 conv=>lhs;unfold cM
 rw[h]
def wL{c:aq}{w:ph}{ev:List UInt8}{i n:Nat}{l o:List Nat}(h:cv c w ev ((i:Int)::i' c i)= .bad n):cM c w ev (i::l) o= .error n:=by
 unfold cM;rw[h]
def EV{c:aq}{w:ph}{ev:List UInt8}{n:Nat}{l:List Int}(h:cv c w ev l= .one n):n<c.trans.length:=by
 obtain⟨_,_,t,a,_⟩:=yB h;exact(Ld.1 a).1
def take_len(c:aq)(act:List Int)(l:List Nat)(n:Nat):(k5 c act l n).length<=l.length+1:=by
 unfold k5;split
 ·rw[Ll,MX];have:=MF (fun k=> !bd c act k n) l;omega
 omega
def DU(l:List Nat):l.map aB=(zL l).map aa:=(b9 l).symm
def zt(env:b6)(z J C:Addr)(L:fq env z C)(h2:env 5=some (cf J))(c:aq)(h:b8 c)(G:g6 c)(x:pb)(d:Int)(H:DQ c x d)(ev:List UInt8)
 (K:b7 prog env 85 [Sg [109,105,99,114,111,46,69,110,97,98,108,101,100],aH c, .agg (k0 x),I d] h8)(l:List Nat)(N:x.1=zL l)(r: ∀k∈l,k<c.Z9.length):
 b7 prog env 49 [aH c, .agg (k0 x),Sg ev,I d] (HL J (mo c x.1 (GS c x.1 x.2.1 d) ev (u' c l))):=by
 have Y:=h.Z6;have S:=H.act;have f1:=au env c G
 have f2:b7 prog env 86 [aH c,b0 x.1] (.tuple [.seq 1 ((u' c l).map aB),h8]):=by
  have:=Fb env z C L c h G l (by rw[N,ak]at S;omega) r (by rw[<-N];exact H.lg);rwa [DU l, <-N]at this
 have f3:=fun k:Nat=>IJ env z J C L h2 c h G x d H k ev;have f4:=fun(o:List Nat)(n:Nat)(Z:o.length<=1000)=>(bJ env (zL o) n (by rw[ak];omega)).lend rfl;have f5:=fun(o:List Nat)(Z:o.length<=1000)(r: ∀n∈o,n<c.trans.length)(n:Nat)(i:n<c.trans.length)=>HU env z C L c h G x d H o Z r n i
 have hil:(u' c l).length<=32:=by
  have:=(mQ h.toRight (zL (sT c l l.length))).length_le_of_subset (l₂:=List.range c.Z9.length) fun m hm=>by
   have hm:m∈u' c l:=hm;unfold u' bt at hm;split at hm
   ·exact MK.2 ((gJ h.toRight m).1 (Lq.1 hm).1)
   simp at hm
  simp at this;show (bt c (zL (sT c l l.length))).length<=32;omega
 unfold mo;generalize hW:GS c x.1 x.2.1 d=W at*;generalize u' c l=R at*;unfold Qj at f3 f5;unfold k0 at K |-;unfold aH at f1 f2 K |-;unfold aA at f1;refine qf func49 call49 ntmps49 results49 ?_;repeat refine HF K f1 f2 ?_
 refine am 14 14 3 1 ?_;refine eh (cU.nil 15 1 (by simp only[go_sem])) ?_
 refine aG (D:=Nat×List Nat) (fun e y=>[(2,Sg ev),(11, .loc 35 (y 35) 0 0),(14, .row 14 (y 14)),(15, .seq 1 []),(47, .seq 1 (R.map aB)),(48,I R.length),(49,I e.1)])
  (fun e _=>[(14,⟨1,e.2.map aB,3,true⟩),(35,⟨15,[[b0 x.1,b0 x.2.1, .seq 2 (x.2.2.1.map eg), .seq 2 (x.2.2.2.1.map cR),B x.2.2.2.2,ct,ct, .ref 9 [ca c] 0 0,Sg c.name,I c.initial,n7 c.vars,o' c.Z9,rk c.trans,I d,I 0]],157,false⟩)])
  (fun e _ v=>(e.1<=R.length/\cM c W ev R []=cM c W ev (R.drop e.1) e.2/\e.2.length<=e.1/\ ∀n∈e.2,n<c.trans.length)/\v 14=false) (fun e=>R.length-e.1) (0,[]) ?_ ?_ ?_ ?_
 ·exact⟨⟨Lx _,rfl,Lr _,fun n i=>by simp at i⟩,by simp only[go_sem]⟩
 ·exact Sp
 ·(simp only[go_sem])
  try rfl
 rintro⟨j,o⟩ ws v ⟨⟨hj,a,s,g⟩,q⟩;simp only at hj a s g;by_cases f:j<R.length
 ·obtain⟨k,p⟩:=gE f;have u:=h9 f;have X:=aD f (by omega);have f6:=f3 k;rw[ar p]at a;have q4: ¬(0:Int)<= -1:=by omega
  cases t:cv c W ev ((k:Int)::i' c k) with
  | no=>
    rw[t]at f6;unfold sd at f6;rw[Ao t]at a;have F:=ip SU p u X q4 q;repeat refine ef f6 ?_
    exact qn (j+1,o) ⟨⟨f,a,Pb s,g⟩,by simp only[go_sem,q]⟩
  | bad n=>
    rw[t]at f6;unfold sd at f6;rw[wL t]at a;rw[a];show fk _ _ _ _ _ _;unfold HL;have F:=hH SU p u q;exact g9 f6
  | one n=>
    have O:=EV t;rw[t]at f6;unfold sd at f6;rw[wK t]at a;have q3:(0:Int)<=(n:Int):=by omega
    have f7:=f4 o n (by omega);rw[b9]at f7;have hf:cI (o.length+1) 8:=aC (by omega) (by omega);cases E:o.contains n with
    | true=>
      have T:(zL o).contains (n:Int)=true:=nY.2 (Lk.1 E);rw[T]at f7;rw[E]at a;simp only[Mb]at a;have F:=ip SU p u X q3 q;repeat refine ef f6 ?_
      refine lL f7 ?_;repeat refine st ?_
      exact qn (j+1,o) ⟨⟨f,a,Pb s,g⟩,by simp only[go_sem,q]⟩
    | false=>
      have T:(zL o).contains (n:Int)=false:=by
       cases hh:(zL o).contains (n:Int) with
       |false=>rfl
       | true=>
         have:=Lk.2 (nY.1 hh);rw[E]at this;cases this
      rw[T]at f7;rw[E]at a;simp only[MH,Mi]at a;have F:=lP SU p u X q3 hf q;repeat refine ef f6 ?_
      refine lL f7 ?_;repeat refine st ?_
      refine⟨(j+1,o++[n]),⟨⟨f,a,by simp only[Ll,MX];omega,fun m hm=> ?_⟩,by simp only[go_sem,q]⟩,?_,?_,by simp only;omega⟩
      ·rcases ML.1 hm with hm|hm
       ·exact g m hm
       rw[MA.1 hm];exact O
      ·exact qe
      have F:=ai SU @Ln.{0,0};exact qe
 obtain rfl:j=R.length:=by omega
 have u:=nl R.length;rw[Mu]at a;have Q:cM c W ev R []= .ok o:=a;rw[Q];show fk _ _ _ _ _ _;unfold DY HL
 have M: ∀m,m<=o.length->((o.take m).foldl (k5 c x.1) []).length<=m/\ ∀n∈(o.take m).foldl (k5 c x.1) [],n<c.trans.length:=fun m=>by
  induction m with
  |zero=>exact fun _=>⟨by simp,fun n i=>by simp at i⟩
  | succ m ih=>
    intro hm;obtain⟨i1,U⟩:=ih (by omega);obtain⟨n,i⟩: ∃n,o[m]? =some n:=⟨o[m],Lc (by omega)⟩;rw[bX _ _ i];refine⟨Ly (take_len ..) (by omega),fun k r=> ?_⟩;rcases tZ r with r|rfl
    ·exact U k r
    exact g _ (Lh i)
 have F:=ai u q;repeat refine st ?_
 try clear f4 f6
 refine aG (D:=Nat) (fun m y=>[(11, .loc 35 (y 35) 0 0),(15, .seq 1 (((o.take m).foldl (k5 c x.1) []).map aB)),(76, .row 14 (y 14)),(77,I o.length),(78,I m)])
  (fun m _=>[(14,⟨1,o.map aB,3,true⟩),(35,⟨15,[[b0 x.1,b0 x.2.1, .seq 2 (x.2.2.1.map eg), .seq 2 (x.2.2.2.1.map cR),B x.2.2.2.2,ct,ct, .ref 9 [ca c] 0 0,Sg c.name,I c.initial,n7 c.vars,o' c.Z9,rk c.trans,I d,I 0]],157,false⟩)])
  (fun m _ _=>m<=o.length) (fun m=>o.length-m) 0 ?_ ?_ ?_ ?_
 ·exact Lx _
 ·(simp only[go_sem,F])
  try rfl
 ·exact qe
 rintro m us es hm;obtain⟨i1,U⟩:=M m hm;by_cases b:m<o.length
 ·obtain⟨n,i⟩:=gE b;have V:=h9 b;have p2:=aD b (by omega);have f6:=f5 _ (by omega) U n (g n (Lh i));have P:=bX (k5 c x.1) [] i;rw[<-P]at f6;generalize (o.take m).foldl (k5 c x.1) []=A at*;generalize w:(o.take (m+1)).foldl (k5 c x.1) []=A2 at*;have F:=hH SU i V p2;repeat refine ef f6 ?_
  refine⟨m+1,b,?_,?_,by omega⟩
  ·have F:=ai SU w;exact qe
  ·(simp only[go_sem,aB,w])
 obtain rfl:m=o.length:=by omega
 have V:=nl o.length;rw[MC];have F:=V;exact dT
end
section
def Ew{l:List (List UInt8×Int)}(h:D0 l)(k:l.length<=8):dL l=true:=by
 unfold dL;rw[M2 k,Pn];refine pW fun j a=> ?_;have e:l.getD j ([],0)=l[j]:=by simp[MJ,Lc a]
 obtain⟨b,c,d⟩:=h.each _ (N4 a);unfold kR;rw[e,b];have i:BM l[j].2=true:=by unfold BM;simp[c,d]
 rw[i];by_cases g:j=0
 ·simp[g]
 have m:=M6.1 h.ZZ (j-1) j (by omega) a (by omega);have f:l.getD (j-1) ([],0)=l[j-1]'(by omega):=by simp[MJ,Lc (show j-1<l.length by omega)]
 rw[f,m];simp
def Qi(r:ch):pb:=(r.act,r.vars,r.mem,r.Z0,r.over)
def vU{c:aq}{r:ch}(h:ek c r)(a:rx c r.act=true)(b:bZ c r.mem=true)(d:r.over=jx c r.act):bM c (D' (Qi r))=true:=by
 unfold bM;show (rx c r.act&&bZ c r.mem&&(r.vars.length==c.vars.length)&&dL r.Z0&&(r.over==jx c r.act)&&lV r.vars)=true;rw[a,b,h.len,Ew h.Z0 h.ZN,d,show lV r.vars=true from Lm.2 h.vars];simp
def xm{c:aq}{act:List Int}(h: ∀x∈act,ed c x=true):jx c act=act.any fun x=>bW c x==3&&decide (aP c x<0):=by
 unfold jx;rw[MP,Ml,Ml]
 have e: ∀x∈act,gQ c x=(bW c x==3&&decide (aP c x<0)):=fun x a=>by
  obtain⟨k,s,rfl,b,_⟩:=cO (h x a);unfold gQ;rw[Mz,b,iG b,nf b,Bool.and_comm]
 exact⟨fun⟨x,a,q⟩=>⟨x,a,by rw[<-e x a];exact q⟩,fun⟨x,a,q⟩=>⟨x,a,by rw[e x a];exact q⟩⟩
def qJ{c:aq}(h:b8 c){now:Int}(n:0<=now/\now<=1099511627776)(o: ∀v∈c.vars,aL v.start=true)(k:(dJ c now).2=none):bM c (D' (Qi (dJ c now).1))=true/\ek c (dJ c now).1/\(dJ c now).1.mem=[]:=by
 obtain⟨r,u⟩:=uQ (bT h) (l:=zL (kv c (-1))) (show aL 0=true by rfl) n (nj o) .nil
 have d:(ah c 0 now (ik c) [] (zL (kv c (-1)))).1.2=none:=by
  cases b:(ah c 0 now (ik c) [] (zL (kv c (-1)))).1.2 with
  |none=>rfl
  |some e=>rw[show dJ c now=go c 0 now (ik c) (zL (kv c (-1))) from rfl,pR b,b]at k;cases k
 have i:=(pg h n o d);have g:=u k;change bM c (D' (Qi (go c 0 now (ik c) (zL (kv c (-1)))).1))=true/\ek c (go c 0 now (ik c) (zL (kv c (-1)))).1/\(go c 0 now (ik c) (zL (kv c (-1)))).1.mem=[]
 have a:(go c 0 now (ik c) (zL (kv c (-1)))).1.act=zL (mV c (kv c (-1))):=by
  obtain⟨_,s⟩:=iK (bT h) (l:=zL (kv c (-1))) (f:=[]) (show aL 0=true by rfl) n (nj o) .nil;rw[<-i.2];exact lh g.ZZ (s d).ZZ fun x=>by rw[g.mem,(s d).mem]
 have m: ∀x∈zL (mV c (kv c (-1))),ed c x=true:=fun x b=>by
  obtain⟨j,t,rfl⟩:=Lp.1 b;exact aV.2 (MK.1 (Lq.1 t).1)
 refine⟨vU r (by rw[a, <-i.2];exact i.1) (by rw[g.mm];rfl) ?_,r,g.mm⟩;rw[g.over,a,xm m,MP];show (false||_)=true↔_;rw[NY,Ml,Ml]
 have p: ∀x,x∈zL (mV c (kv c (-1)))↔x∈zL (kv c (-1)):=fun x=>by
  rw[<-a,g.mem];simp[ik]
 constructor
 ·rintro⟨x,b,q⟩;exact⟨x,(p x).2 b,by simpa[ik]using q⟩
 rintro⟨x,b,q⟩;exact⟨x,(p x).1 b,by simpa[ik]using q⟩
def Hr{c:aq}{act:List Int}(h:rx c act=true):act.length<=c.Z9.length:=by
 have a:=cr h
 have:=a.nodup.length_le_of_subset (l₂:=zL (List.range c.Z9.length)) fun x b=>by
  obtain⟨_,_,d,_⟩:=a.of b;obtain⟨e,f⟩:=aI.1 d;exact Lp.2 ⟨x.toNat,MK.2 (by omega),by simp;omega⟩
 rw[ak,OT]at this;exact this
end
section
def K9{l:List (List UInt8×Int)}(h:dL l=true):D0 l/\l.length<=8:=by
 unfold dL at h;rw[Li,Lt]at h;obtain⟨d,e⟩:=h;have at_: ∀j (a:j<l.length),l.getD j ([],0)=l[j]:=fun j a=>by simp[MJ,Lc a]
 have k:=fun j (a:j<l.length)=>KL d j a;refine⟨⟨M6.2 fun i j o a f=> ?_,fun x g=> ?_⟩,e⟩
 ·have c: ∀m,(b:i+1+m<l.length)->Op.bytesLess l[i].1 l[i+1+m].1=true:=fun m=>by
   have step: ∀j (a:j+1<l.length),Op.bytesLess l[j].1 l[j+1].1=true:=fun j a=>by
    have:=k (j+1) a;unfold kR at this;rw[at_ _ a,show j+1-1=j by omega,at_ j (by omega)]at this;simp only[Li,Mx,Lt]at this;exact this.2.resolve_left (by omega)
   induction m with
   |zero=>exact fun b=>step i b
   |succ m n=>exact fun b=>e9 (n (by omega)) (step (i+1+m) b)
  have:=c (j-i-1) (by omega);simpa[show i+1+(j-i-1)=j by omega]using this
 obtain⟨j,a,rfl⟩:=O9.1 g;have:=k j a;unfold kR BM at this;rw[at_ j a]at this;simp only[Li,Lt]at this;exact⟨this.1.1,this.1.2⟩
structure Bx(c:aq)(x:pb):Prop where
 lg:rx c x.1=true
 mem:bZ c x.2.2.1=true
 len:x.2.1.length=c.vars.length
 fit: ∀v∈x.2.1,aL v=true
 Z0:D0 x.2.2.2.1
 ZN:x.2.2.2.1.length<=8
 over:x.2.2.2.2=jx c x.1
def gM{c:aq}{x:pb}(a:bM c (D' x)=true):Bx c x:=by
 unfold bM at a;simp only[Li,Mh]at a;obtain⟨⟨⟨⟨⟨b,d⟩,e⟩,f⟩,g⟩,h⟩:=a;obtain⟨t1,t2⟩:=K9 f;exact⟨b,d,e,Lm.1 h,t1,t2,g⟩
def Bx.beg{c:aq}{x:pb}(h:Bx c x):ek c (bj x):=⟨h.len,h.fit,h.Z0,h.ZN,Lx _,Lx _,fun e a=>by simp[bj]at a⟩
section
variable {c:aq} (h:b8 c) {act:List Int} (hb:rx c act=true) {ts:List Nat} (hf:Fit c act ts)
include h hb hf
theorem B4{mem:List dg}(b:bZ c mem=true){n:Nat}(d:n∈ts):RB c act mem (da c n):=by
 obtain⟨t,a,e⟩:=hf.real n d;rw[cx a];exact xf h hb b a e
theorem yA{y:Int} :y∈c0 c act ts↔y∈act/\ ∃n∈ts,nE c (da c n) y:=by
 have e:bZ c []=true:=rfl;unfold c0;rw[Nq];constructor
 ·rintro⟨n,a,f⟩;obtain⟨b,d⟩:=((B4 h hb hf e a).left y).1 f;exact⟨b,n,a,d⟩
 rintro⟨b,n,a,d⟩;exact⟨n,a,((B4 h hb hf e a).left y).2 ⟨b,d⟩⟩
theorem Am{y:Int} :y∈zL (bt c (c0 c act ts))↔y∈act/\ ∃n∈ts,nE c (da c n) y:=by
 rw[gh h.toRight fun y a=>by
  obtain⟨_,_,b,_⟩:=(cr hb).of ((yA h hb hf).1 a).1
  exact b]
 exact yA h hb hf
theorem uj: ∀y∈zL (bt c (c0 c act ts)),y∈act:=fun _ a=>((Am h hb hf).1 a).1
theorem Ko: ∃a:List Nat,c0 c act ts=zL a:=⟨_,Gy fun _ b=>(Gz hb _ ((yA h hb hf).1 b).1).1⟩
theorem LM{mem:List dg}(d:bZ c mem=true){y:Int} :y∈zL (bt c (zL (toR c mem ts)))↔ ∃n∈ts,R8 c mem (da c n) y:=by
 have e: ∀y,y∈zL (toR c mem ts)↔ ∃n∈ts,R8 c mem (da c n) y:=fun y=>by
  unfold toR zL;rw[Lp];constructor
  ·rintro⟨k,b,rfl⟩;obtain⟨n,a,b⟩:=Nq.1 b;exact⟨n,a,((B4 h hb hf d a).to _).1 (Lp.2 ⟨k,b,rfl⟩)⟩
  rintro⟨n,a,q⟩;obtain⟨k,b,e⟩:=Lp.1 (((B4 h hb hf d a).to y).2 q);exact⟨k,Nq.2 ⟨n,a,b⟩,e⟩
 rw[gh h.toRight fun y f=>by
  obtain⟨n,a,q⟩:=(e y).1 f
  exact aZ (D8 h ((B4 h hb hf d a).uni q.1).Z3 q.2)]
 exact e y
theorem t7{d now:Int}(p:aL d=true)(b:0<=now/\now<=1099511627776){mem:List dg}(o:bZ c mem=true){r2:ch}(s:ek c r2)(m:r2.act=act.filter (fun k=> !(zL (bt c (c0 c act ts))).reverse.contains k))(r:(ah c d now r2 [] (zL (bt c (zL (toR c mem ts))))).1.2=none):
 rx c (ah c d now r2 [] (zL (bt c (zL (toR c mem ts))))).1.1.act=true/\ ∀y,y∈(ah c d now r2 [] (zL (bt c (zL (toR c mem ts))))).1.1.act↔iN c act mem ts y:=by
 have a:r2.act.Pairwise (· < ·):=by rw[m];exact(cr hb).ZZ.sublist My
 obtain⟨_,i⟩:=iK (bT h) (l:=zL (bt c (zL (toR c mem ts)))) (f:=[]) p b s a;have i:=i r;obtain⟨O,u,v,w⟩:=sD h hb o ts.length ts rfl hf
 have g: ∀y,y∈(ah c d now r2 [] (zL (bt c (zL (toR c mem ts))))).1.1.act↔iN c act mem ts y:=fun y=>by
  rw[i.mem,m,Lq,LM h hb hf o,Mo];unfold iN;refine or_congr ?_ Iff.rfl;refine and_congr_right fun t=> ?_;rw[<-Bool.not_eq_true,Lk,Of,Am h hb hf];constructor
  ·exact fun q n b j=>q ⟨t,n,b,j⟩
  rintro q ⟨_,n,b,j⟩;exact q n b j
 refine⟨?_,g⟩;have e:(ah c d now r2 [] (zL (bt c (zL (toR c mem ts))))).1.1.act=zL O:=lh i.ZZ (Oz.2 (u.imp fun q=>by omega)) fun y=>(g y).trans (w y).symm;rw[e];exact v
end
def rQ{c:aq}(h:b8 c){d now:Int}(B:aL d=true)(u:0<=now/\now<=1099511627776){x:pb}(p:Bx c x)(V:x.2.2.2.2=false){ts:List Nat}(I:Fit c x.1 ts)(i:(ld c d now (bj x) ts).2=none):
 ek c (ld c d now (bj x) ts).1/\bM c (D' (Qi (ld c d now (bj x) ts).1))=true/\ ∀y,y∈(ld c d now (bj x) ts).1.act↔iN c x.1 (m7 c x.1 (zL (bt c (c0 c x.1 ts))) x.2.2.1) ts y:=by
 have H:=bT h;have U:=(iz h p.lg p.mem (uj h p.lg I)).2
 have N: ∀n∈ts,∃t,c.trans[n]? =some t:=fun n u=>by
  obtain⟨t,ht,_⟩:=I.real n u;exact⟨t,ht⟩
 have D:jx c x.1=false:=by rw[<-p.over];exact V
 have E: ∀y∈x.1,ed c y=true:=fun y g=>by
  obtain⟨_,_,E,_⟩:=(cr p.lg).of g;exact E
 have hG: ∀y∈zL (bt c (c0 c x.1 ts)),y∈x.1:=uj h p.lg I;have R:=fun(a:ch) hr z i=>t7 h p.lg I B u U (r2:=a) hr z i;have K:ek c (bj x):=p.beg
 change (match bS c d now { bj x with mem:=m7 c x.1 (zL (bt c (c0 c x.1 ts))) x.2.2.1 } (zL (bt c (c0 c x.1 ts))).reverse with
  |(o,none)=>(match dR c d now o ts with
    |(a,none)=>go c d now a (zL (bt c (zL (toR c (m7 c x.1 (zL (bt c (c0 c x.1 ts))) x.2.2.1) ts))))
    |y=>y)
  |y=>y).2=none at i
 show ek c (match bS c d now { bj x with mem:=m7 c x.1 (zL (bt c (c0 c x.1 ts))) x.2.2.1 } (zL (bt c (c0 c x.1 ts))).reverse with
  |(o,none)=>(match dR c d now o ts with
    |(a,none)=>go c d now a (zL (bt c (zL (toR c (m7 c x.1 (zL (bt c (c0 c x.1 ts))) x.2.2.1) ts))))
    |y=>y)
  |y=>y).1/\bM c (D' (Qi (match bS c d now { bj x with mem:=m7 c x.1 (zL (bt c (c0 c x.1 ts))) x.2.2.1 } (zL (bt c (c0 c x.1 ts))).reverse with
  |(o,none)=>(match dR c d now o ts with
    |(a,none)=>go c d now a (zL (bt c (zL (toR c (m7 c x.1 (zL (bt c (c0 c x.1 ts))) x.2.2.1) ts))))
    |y=>y)
  |y=>y).1))=true/\ ∀y,y∈(match bS c d now { bj x with mem:=m7 c x.1 (zL (bt c (c0 c x.1 ts))) x.2.2.1 } (zL (bt c (c0 c x.1 ts))).reverse with
  |(o,none)=>(match dR c d now o ts with
    |(a,none)=>go c d now a (zL (bt c (zL (toR c (m7 c x.1 (zL (bt c (c0 c x.1 ts))) x.2.2.1) ts))))
    |y=>y)
  |y=>y).1.act↔_
 generalize m7 c x.1 (zL (bt c (c0 c x.1 ts))) x.2.2.1=b at*;obtain⟨O,P,Q,G⟩:=ky H (l:=(zL (bt c (c0 c x.1 ts))).reverse) B u (r:={ bj x with mem:=b }) { K with };rcases S:bS c d now { bj x with mem:=b } (zL (bt c (c0 c x.1 ts))).reverse with⟨o,_|e⟩
 ·rw[S]at i O P Q G;have G:=G rfl;simp only at i O P Q G |-;obtain⟨v,w⟩:=yQ H B u (l:=ts) (r:=o) N O;rcases T:dR c d now o ts with⟨a,_|e⟩
  ·rw[T]at i v w;simp only at i v w |-;have z:a.act=x.1.filter fun k=> !(zL (bt c (c0 c x.1 ts))).reverse.contains k:=w.act.trans G;have m:a.act.Pairwise (· < ·):=by rw[z];exact(cr p.lg).ZZ.sublist My
   obtain⟨Y,s⟩:=uQ H (l:=zL (bt c (zL (toR c b ts)))) B u v m;have s:=s i
   have A:(ah c d now a [] (zL (bt c (zL (toR c b ts))))).1.2=none:=by
    cases W:(ah c d now a [] (zL (bt c (zL (toR c b ts))))).1.2 with
    |none=>rfl
    |some e=>rw[pR W,W]at i;cases i
   obtain⟨X,l2⟩:=R a v z A;obtain⟨_,J⟩:=iK H (l:=zL (bt c (zL (toR c b ts)))) (f:=[]) B u v m;have J:=J A;have j:(go c d now a (zL (bt c (zL (toR c b ts))))).1.act=(ah c d now a [] (zL (bt c (zL (toR c b ts))))).1.1.act:=lh s.ZZ J.ZZ fun y=>by rw[s.mem,J.mem]
   refine⟨Y,vU Y (by rw[j];exact X) (by rw[s.mm,w.mem,P];exact U) ?_,fun y=>by rw[j];exact l2 y⟩
   have L: ∀y∈(go c d now a (zL (bt c (zL (toR c b ts))))).1.act,ed c y=true:=fun y g=>by
    rw[j]at g;obtain⟨_,_,E,_⟩:=(cr X).of g;exact E
   rw[s.over,w.over,Q,xm L,MP];rw[xm E]at D;have M:(bj x).over=false:=V;show ((bj x).over||_)=true↔_;rw[M,NY,Ml,Ml]
   have C: ∀y∈a.act,(bW c y==3&&decide (aP c y<0))=false:=fun y g=>by
    rw[z]at g;exact OL.2 fun q=>OL.1 D (Ml.2 ⟨y,(Lq.1 g).1,q⟩)
   constructor
   ·rintro⟨y,g,q⟩;refine⟨y,(s.mem y).2 (.inr g),?_⟩;simp only[Li]at q |-;exact⟨q.1.2,q.2⟩
   rintro⟨y,g,q⟩;rcases (s.mem y).1 g with g|g
   ·rw[C y g]at q;cases q
   refine⟨y,g,?_⟩
   have Z:a.act.contains y=false:=by
    cases hh:a.act.contains y with
    |false=>rfl
    | true=>
      rw[C y (Lk.1 hh)]at q;cases q
   rw[Z];simpa using q
  rw[T]at i;cases i
 rw[S]at i;cases i
end
section
structure qa where
 x:pb
 said:List Int
 steps:Nat
 wait:List (List UInt8×Int)
 data:Int
def ir(c:aq)(m:qa)(ev:List UInt8):Except Nat (List Nat):=mo c m.x.1 (GS c m.x.1 m.x.2.1 m.data) ev (u' c (m.x.1.map Int.toNat))
def AT(m:qa)(outs:List Int)(rais:List (List UInt8×Int)):qa×r5:=
 if 256< (m.said++outs).length\/16< (m.wait++rais).length then({ m with said:=m.said++outs,wait:=m.wait++rais },some (8,[-1])) else({ m with said:=m.said++outs,wait:=m.wait++rais },none)
def Es(m:qa)(r:ch):qa×r5:=AT ⟨Qi r,m.said,m.steps+1,m.wait,m.data⟩ r.outs r.Z7
def o3(c:aq)(now:Int)(F:Nat)(m:qa)(l:List Nat):qa×r5:=
 if F<=m.steps then(m,some (6,[-1]))
 else match ld c m.data now (bj m.x) l with
  |(_,some e)=>(m,some (e.1, -1::e.2.headD (-1)::e.2.tail))
  |(r,none)=>Es m r
def tn(c:aq)(now:Int)(F:Nat)(m:qa)(ev:List UInt8):(qa×r5)×Bool:=
 match ir c m ev with
 | .error n=>((m,some (2,[1000+(n:Int)])),false)
 | .ok []=>((m,none),false)
 | .ok (k::l)=>(o3 c now F m (k::l),true)
def DM(c:aq)(now:Int)(F:Nat):Nat->qa->qa×r5
 |0,m=>(m,some (0,[]))
 | n+1,m=>if m.x.2.2.2.2=true then(m,none)
   else match tn c now F m []with
    |((a,some e),_)=>(a,some e)
    |((a,none),true)=>DM c now F n a
    |((a,none),false)=>match a.wait with
      |[]=>(a,none)
      | e::w=>match tn c now F { a with wait:=w,data:=e.2 } e.1 with
        |((b,some e),_)=>(b,some e)
        |((b,none),_)=>DM c now F n b
def jI(F:Nat)(m:qa):Nat:=(F-m.steps)*17+m.wait.length
structure tg(c:aq)(F:Nat)(m:qa):Prop where
 inst:bM c (D' m.x)=true
 data:aL m.data=true
 wait:m.wait.length<=16
 waf: ∀e∈m.wait,aL e.2=true
 said:m.said.length<=256
 steps:m.steps<=F
 ZO:F<=256
def xo{act:List Int}{l:List Nat}(h:act=zL l):act.map Int.toNat=l:=by
 rw[h];unfold zL;rw[OE]
 conv=>rhs;rw[<-Q2 l]
 exact NO fun k _=>by simp
def pS{c:aq}(h:b8 c){m:qa}(a:rx c m.x.1=true){ev:List UInt8}{f:List Nat}(e:ir c m ev= .ok f):Fit c m.x.1 f:=by
 obtain⟨l,b,g⟩:=sI a;unfold ir at e;rw[xo b]at e;refine IQ h (cr a) (fun i d=> ?_) e;rw[b];exact Lp.2 ⟨i,Ju h g d,rfl⟩
section
variable {c:aq} (h:b8 c) {now:Int} (hn:0<=now/\now<=1099511627776)
include h hn
theorem Hl{F:Nat}{m:qa}(b:tg c F m)(o:m.x.2.2.2.2=false){l:List Nat}(n:Fit c m.x.1 l)(a:(o3 c now F m l).2=none):tg c F (o3 c now F m l).1/\(o3 c now F m l).1.steps=m.steps+1/\m.steps<F/\(o3 c now F m l).1.data=m.data:=by
 unfold o3 at a |-;split at a
 ·cases a
 rename_i j;rw[Lf j];have f:=rQ h b.data hn (gM b.inst) o n;rcases d:ld c m.data now (bj m.x) l with⟨r,_|e⟩
 ·rw[d]at a f;obtain⟨g,i,_⟩:=f rfl;simp only at a g i |-;unfold Es AT at a |-;simp only at a |-;split at a
  ·cases a
  rename_i k;rw[Lf k];refine⟨⟨i,b.data,show (m.wait++r.Z7).length<=16 by omega,fun e a=> ?_,show (m.said++r.outs).length<=256 by omega,show m.steps+1<=F by omega,b.ZO⟩,rfl,by omega,rfl⟩;rcases ML.1 a with q|q
  ·exact b.waf e q
  exact g.raf e q
 rw[d]at a;cases a
theorem tK{F:Nat}{m:qa}(b:tg c F m)(e:m.x.2.2.2.2=false){ev:List UInt8}(a:(tn c now F m ev).1.2=none):tg c F (tn c now F m ev).1.1/\(tn c now F m ev).1.1.data=m.data/\(((tn c now F m ev).2=true/\(tn c now F m ev).1.1.steps=m.steps+1/\m.steps<F)\/((tn c now F m ev).2=false/\(tn c now F m ev).1.1=m)):=by
 unfold tn at a |-;cases d:ir c m ev with
 |error n=>rw[d]at a;cases a
 | ok f=>
   rw[d]at a;cases f with
   |nil=>exact⟨b,rfl, .inr ⟨rfl,rfl⟩⟩
   | cons k l=>
     obtain⟨g,i,j,o⟩:=Hl h hn b e (pS h (gM b.inst).lg d) a;exact⟨g,o, .inl ⟨rfl,i,j⟩⟩
end
end
section
def K5(e:r5):Prop:= ∀x,e=some x->x.1=2\/x.1=6\/x.1=8
def Hm(c:aq)(now:Int)(F:Nat)(m:qa)(l:List Nat):K5 (o3 c now F m l).2:=by
 unfold o3;split
 ·intro x a;cases a;exact .inr (.inl rfl)
 split
 ·rename_i y e b;intro x a;cases a;have:=rR c m.data now (bj m.x) l e (by rw[b]);exact this.elim .inl fun q=> .inr (.inr q)
 unfold Es AT;split
 ·intro x a;cases a;exact .inr (.inr rfl)
 intro x a;cases a
def K4(c:aq)(now:Int)(F:Nat)(m:qa)(ev:List UInt8):K5 (tn c now F m ev).1.2:=by
 unfold tn;split
 ·intro x a;cases a;exact .inl rfl
 ·intro x a;cases a
 exact Hm _ _ _ _ _
def D1{c:aq}{F:Nat}{m:qa}(a:tg c F m){e:List UInt8×Int}{w:List (List UInt8×Int)}(b:m.wait=e::w):tg c F { m with wait:=w,data:=e.2 } :=
 { a with data:=a.waf e (by rw[b];simp),wait:=by have:=a.wait;rw[b]at this;simp at this |-;omega,waf:=fun x d=>a.waf x (by rw[b];simp[d]) }
section
variable {c:aq} (h:b8 c) {now:Int} (hn:0<=now/\now<=1099511627776)
include h hn
theorem qq{F:Nat}{m:qa}(i:tg c F m)(j:m.x.2.2.2.2=false){ev:List UInt8}(g:(tn c now F m ev).1.2=none):jI F (tn c now F m ev).1.1<=jI F m/\((tn c now F m ev).2=true->jI F (tn c now F m ev).1.1<jI F m):=by
 obtain⟨d,_,f⟩:=tK h hn i j g;have k:=d.wait;rcases f with⟨b,a,l⟩|⟨b,a⟩
 ·have:jI F (tn c now F m ev).1.1<jI F m:=by
   unfold jI;rw[a];have e:F-m.steps=(F-(m.steps+1))+1:=by omega
   rw[e];omega
  exact⟨by omega,fun _=>this⟩
 rw[a];exact⟨Lr _,fun e=>by rw[b]at e;cases e⟩
theorem D3{F:Nat} : ∀(n:Nat)(m:qa),tg c F m->jI F m<n->K5 (DM c now F n m).2
 |0,m,_,y=>by omega
 | n+1,m,p,y=>by
   unfold DM;by_cases d:m.x.2.2.2.2=true
   ·rw[Lj d];intro x r;cases r
   rw[Lf d];have d:m.x.2.2.2.2=false:=by simpa using d
   have o:=tK h hn p d (ev:=[]);have i:=qq h hn p d (ev:=[]);have a:=K4 c now F m [];rcases l:tn c now F m []with⟨⟨f,_|e⟩,_|_⟩
   ·rw[l]at o;obtain⟨B,C,v⟩:=o rfl;obtain rfl:f=m:=by rcases v with⟨q,_⟩|⟨_,q⟩;cases q;exact q
    simp only;cases u:f.wait with
    |nil=>intro x r;cases r
    | cons e w=>
      have k:=D1 p u;have t:=tK h hn k d (ev:=e.1);have j:=qq h hn k d (ev:=e.1);have g:=K4 c now F { f with wait:=w,data:=e.2 } e.1;have z:jI F { f with wait:=w,data:=e.2 } <jI F f:=by unfold jI;rw[u];simp
      simp only;rcases s:tn c now F { f with wait:=w,data:=e.2 } e.1 with⟨⟨A,_|e⟩,b⟩
      ·rw[s]at t j;exact D3 n A (t rfl).1 (by have:=(j rfl).1;simp only at this;omega)
      rw[s]at g;exact g
   ·rw[l]at o i;exact D3 n f (o rfl).1 (by have:=(i rfl).2 rfl;simp only at this;omega)
   ·rw[l]at a;exact a
   rw[l]at a;exact a
end
end
section
def SC:Option Bool->AV
 |some b=> .tuple [B b,I 0]
 |none=> .tuple [B false,I 2]
def CE(env:b6)(c:aq)(h:b8 c)(p:g6 c)(x:pb)(d:Int)(f:DQ c x d)(n:Nat)(t:sh)(b:c.trans[n]? =some t):b7 prog env 182 [.agg (aA c), .agg (k0 x),I n,I d] (SC (fP (GS c x.1 x.2.1 d) t.guard)):=by
 have l:=h.Z6;have i:=(Ld.1 b).1;have k:=h9 i;have j:(GS c x.1 x.2.1 d).vars.length<=1000000:=by show x.2.1.length<=_;have:=f.len;have:=p.vars;omega
 have f0:=r6 env c (by omega) x (by have:=f.act;omega) d;have g:=uI h b;unfold fP;by_cases a:t.guard=[]
 ·rw[Lj a];show b7 _ _ _ _ (.tuple [B true,I 0]);unfold k0 at f0 |-;refine qf func182 call182 ntmps182 results182 ?_;have F:=g7 SR SV b k a;exact g9 f0
 rw[Lf a];have f1:=vZ env (GS c x.1 x.2.1 d) f.ok j t.guard (by rw[o8];show bn t.guard (x.2.1.length:Int) _=true;rw[f.len];exact g.resolve_left a)
 have o:((t.guard.length:Int)==0)=false:=by
  have:t.guard.length≠0:=fun e=>a (NE.1 e);simp;omega
 unfold aA k0 at f0;unfold k0;generalize GS c x.1 x.2.1 d=W at*;unfold dm at f0 f1;cases m:kO W t.guard with
 | none=>
   rw[m]at f1;unfold Ci at f1;show b7 _ _ _ _ (.tuple [B false,I 2]);refine qf func182 call182 ntmps182 results182 ?_;have F:=g7 SR SV b k o;exact m5 f0 f1
 | some v=>
   rw[m]at f1;unfold Ci at f1;show b7 _ _ _ _ (.tuple [B (v != 0),I 0]);refine qf func182 call182 ntmps182 results182 ?_;have F:=g7 SR SV b k o;exact m5 f0 f1
def Sh:Fd->AV
 | .no=> .tuple [I (-1),I 0,I (-1)]
 | .one n=> .tuple [I (n:Nat),I 0,I (-1)]
 | .bad n=> .tuple [I (-1),I 2,I (1000+(n:Nat))]
def zR(env:b6)(c:aq)(h:b8 c)(S:g6 c)(x:pb)(d:Int)(V:DQ c x d)(i:Int)(ev:List UInt8):b7 prog env 124 [.agg (aA c), .agg (k0 x),I i,Sg ev,I d] (Sh (cv c (GS c x.1 x.2.1 d) ev (i::i' c i))):=by
 have J:=h.ZP;have f1:=pA env c h.toRight i;have f2:=fun k=>Jb env c (by omega) k ev;have f3:=fun(n:Nat)(t:sh)(y:c.trans[n]? =some t)=>CE env c h S x d V n t y;have T:(i' c i).length<=40:=kJ ..;have Q:cI (1+(i' c i).length) 8:=aC (by omega) (by omega);have N:[[I i]]++(i' c i).map aa=(i::i' c i).map aa:=rfl;have U:(i::i' c i).length<=4000:=by simp only[MB];omega
 generalize GS c x.1 x.2.1 d=W at*;generalize Y:(i::i' c i)=R at*;unfold aA at f1 f2 f3;unfold k0 at f3 |-;refine qf func124 call124 ntmps124 results124 ?_;have F:=fI SR Q N;repeat refine ef f1 ?_
 have F:=aA.eq_1;refine lq R.length (by omega) (fun j e=>[(3,Sg ev),(4,I d),(5, .loc 5 (e 5) 0 0),(6, .loc 6 (e 6) 0 0),(13, .row 20 (e 20)),(14,I j)]) (fun _ _=>[(5,⟨5,[aA c],26,false⟩),(6,⟨5,[[b0 x.1,b0 x.2.1, .seq 2 (x.2.2.1.map eg), .seq 2 (x.2.2.2.1.map cR),B x.2.2.2.2]],31,false⟩),(20,⟨1,R.map aa,3,true⟩)]) (fun j _ _=>cv c W ev R=cv c W ev (R.drop j)) rfl ?_ ?_
 ·rintro j e z r H M p;obtain⟨k,K⟩:=gE r;have f4:=f2 k;rw[ar K]at p;have P:(g5 c k ev c.trans.length).length<=c.trans.length:=fo (jA c k ev) c.trans.length;have A: ∀n∈g5 c k ev c.trans.length,n<c.trans.length:=fun n o=>AO o;have D:=EU (c:=c) (w:=W) (ev:=ev) (k:=k) (l:=R.drop (j+1));have s: ∀n,_:=fun n=>Aw (c:=c) (w:=W) (ev:=ev) (k:=k) (l:=R.drop (j+1)) (n:=n);have q: ∀n,_:=fun n=>Ax (c:=c) (w:=W) (ev:=ev) (k:=k) (l:=R.drop (j+1)) (n:=n);generalize g5 c k ev c.trans.length=L at*;have F:=g7 SR S3 K H M;repeat refine ef f4 ?_
  have F:=aA.eq_1;refine lq L.length (by omega) (fun m e=>[(3,Sg ev),(4,I d),(5, .loc 5 (e 5) 0 0),(6, .loc 6 (e 6) 0 0),(13, .row 20 (e 20)),(14,I j),(15, .row 37 (e 37)),(16,I m)]) (fun _ _=>[(5,⟨5,[aA c],26,false⟩),(6,⟨5,[[b0 x.1,b0 x.2.1, .seq 2 (x.2.2.1.map eg), .seq 2 (x.2.2.2.1.map cR),B x.2.2.2.2]],31,false⟩),(20,⟨1,R.map aa,3,true⟩),(37,⟨1,L.map aB,3,true⟩)]) (fun m _ _=>cN c W L=cN c W (L.drop m)) rfl ?_ ?_
  ·rintro m X O f v G a;obtain⟨n,o⟩:=gE f;have C:=A n (Lh o);obtain⟨t,y⟩:=gE C;have p4:IntKind.i64.wrap (1000+(n:Int))=1000+(n:Int):=aW (by omega) (by omega);have g:jH c n=t.guard:=by unfold jH;rw[y]
   have f5:=f3 n t y;rw[ar o]at a;cases u:fP W t.guard with
   | none=>
     rw[u]at f5;unfold SC at f5;rw[sZ (by rw[g];exact u)]at a;rw[p,q n a];show fk _ _ _ _ _ _;unfold Sh;have F:=ip SR SU o v G p4;exact g9 f5
   | some b=>
     rw[u]at f5;unfold SC at f5;cases b with
     | true=>
       rw[wO (by rw[g];exact u)]at a;rw[p,s n a];show fk _ _ _ _ _ _;unfold Sh;have F:=g7 SR SU o v G;exact g9 f5
     | false=>
       rw[Au (by rw[g];exact u)]at a;have F:=g7 SR SU o v G;repeat refine ef f5 ?_
       refine⟨m+1,⟨f,a⟩,?_,?_,by omega⟩
       ·exact qe
       have F:=aA.eq_1;exact qe
  rintro X O v a;rw[Mu]at a;have E:=D a;have F:=fI SR v M;repeat refine st ?_
  refine⟨j+1,⟨r,p.trans E⟩,?_,?_,by omega⟩
  ·exact qe
  have F:=aA.eq_1;exact qe
 rintro e z H p;rw[Mu]at p;rw[p];show fk _ _ _ _ _ _;unfold cv Sh;have F:=H;exact dT
end
section
def Jn{c:aq}(h:b8 c){act:List Int}(b: ∀x∈act,ed c x=true)(t:sh): ∀x∈fe c act t,0<=x:=fun x a=>by
 unfold fe at a;split at a
 ·simp at a
 rw[Of]at a;unfold F' at a;have:=(Lq.1 a).1;rw[gh h.toRight b]at this;exact(aI.1 (b x this)).1
def Hp{A:List Int}{ks:List Nat} :(0<bx A ks)↔A.any (fun i=>(zL ks).contains i)=true:=by
 unfold bx;rw[List.length_pos_iff_exists_mem,Ml];constructor
 ·rintro⟨k,a⟩;obtain⟨b,c⟩:=Lq.1 a;exact⟨k,Lk.1 c,Lk.2 (Lp.2 ⟨k,b,rfl⟩)⟩
 rintro⟨x,e,d⟩;obtain⟨k,a,rfl⟩:=Lp.1 (Lk.1 d);exact⟨k,Lq.2 ⟨a,Lk.2 e⟩⟩
def uf(env:b6)(c:aq)(h:b8 c)(act:List Int)(n:act.length<=1000000)(p: ∀x∈act,ed c x=true)(a b:Nat)(l:a<c.trans.length)(m:b<c.trans.length):b7 prog env 183 [.agg (aA c),b0 act,I a,I b] (B (bd c act a b)):=by
 obtain⟨g,d⟩:=gE l;obtain⟨f,e⟩:=gE m;have j: ∀x∈act,0<=x:=fun x r=>(aI.1 (p x r)).1;have f0:=jf env c h act n j a g d;have f1:=jf env c h act n j b f e;have u:=fh h act g;have v:=fh h act f;have k:=Gy (Jn h p f);have f2:=fg env (fe c act g) ((fe c act f).map Int.toNat) (by omega) (by rw[ME];omega);rw[DU, <-k]at f2;have o:=Hp (A:=fe c act g) (ks:=(fe c act f).map Int.toNat);rw[<-k]at o;unfold bd;rw[cx d,cx e];have s:=h9 l;have t:=h9 m;generalize bx (fe c act g) ((fe c act f).map Int.toNat)=M at*;generalize fe c act g=A at*;generalize fe c act f=C at*
 have q:decide ((0:Int)< (M:Int))=A.any fun i=>C.contains i:=by
  rw[MP,Lt, <-o];omega
 rw[<-q];unfold aA an at f0 f1;refine qf func183 call183 ntmps183 results183 ?_;have F:=ip SR SV d e s t;exact x5 f0 f1 f2
def FV(env:b6)(c:aq)(h:b8 c)(act:List Int)(z:act.length<=1000000)(T: ∀x∈act,ed c x=true)(l:List Nat)(V:l.length<=1000)(y: ∀n∈l,n<c.trans.length)(n:Nat)(A:n<c.trans.length):
 b7 prog env 125 [.agg (aA c),b0 act, .seq 1 (l.map aB),I n] (.seq 1 ((k5 c act l n).map aB)):=by
 have J:=h.Z6;have f0:=fun k y=>uf env c h act z T k n y A;have f2:=fun i k=>eM env c h.toRight i k;obtain⟨G,p⟩:=gE A;have M:=h9 A;unfold aA at f0 f2;refine qf func125 call125 ntmps125 results125 ?_;have F:=aA.eq_1;repeat refine st ?_
 refine aG (D:=Nat) (fun j N=>[(1,b0 act),(2, .seq 1 (l.map aB)),(3,I n),(4, .loc 4 (N 4) 0 0),(9, .row 11 (N 11)),(10,I j)]) (fun j _=>[(4,⟨5,[aA c],26,false⟩),(11,⟨1,((l.take j).filter fun k=> !bd c act k n).map aB,3,true⟩)]) (fun j _ r=>(j<=l.length/\(l.take j).all (lR c act n)=true)/\r 11=false) (fun j=>l.length-j) 0 ?_ ?_ ?_ ?_
 ·exact⟨⟨Lx _,rfl⟩,rfl⟩
 ·exact qe
 ·have F:=aA.eq_1
  (simp only[go_sem,F])
  try rfl
 rintro j W r ⟨⟨U,e⟩,q⟩;have P:((l.take j).filter fun k=> !bd c act k n).length<=l.length:=Ly (MF ..) (by rw[Lw];omega);have w:cI (((l.take j).filter fun k=> !bd c act k n).length+1) 8:=aC (by omega) (by omega);by_cases g:j<l.length
 ·obtain⟨k,f⟩:=gE g;have u:=Lh f;have m:=y k u;obtain⟨E,o⟩:=gE m;have v:=h9 g;have B:=aD g (by omega);have C:=h9 m;have f3:=f0 k m;have f4:=f2 E.src G.src;have L:=bE f
  have d:((l.take (j+1)).filter fun k=> !bd c act k n)=((l.take j).filter fun k=> !bd c act k n)++if bd c act k n=true then [] else [k]:=by
   rw[L,MR]
   congr 1
   cases R:bd c act k n<;>simp[R]
  have a:lR c act n k=(!bd c act k n||aE c E.src G.src):=by unfold lR;rw[cx o,cx p]
  have t: ∀b,lR c act n k=b->(l.take (j+1)).all (lR c act n)=b:=fun b O=>by rw[L,Oo,e];simp[O]
  cases H:bd c act k n with
  | false=>
    rw[H]at f3 d a;simp only[MH,Mi]at d;have F:=ns SR SU f v B C w q;repeat refine ef f3 ?_
    refine⟨j+1,⟨⟨g,t _ (by rw[a];rfl)⟩,by simp only[go_sem,q]⟩,?_,?_,by omega⟩
    ·exact qe
    have F:=hH SR SU d @Ln.{0,0};exact qe
  | true=>
    rw[H]at f3 d a;simp only[Mb,Mw]at d;simp only[N7,NY]at a;cases s:aE c E.src G.src with
    | true=>
      rw[s]at f4 a;have F:=pc SR SV SU f o p v B C M q;repeat refine vb f3 f4 ?_
      refine⟨j+1,⟨⟨g,t _ a⟩,by simp only[go_sem,q]⟩,?_,?_,by omega⟩
      ·exact qe
      have F:=fI SR SU d;exact qe
    | false=>
      rw[s]at f4 a;rw[Ah u a];have F:=pc SR SV SU f o p v B C M q;exact m5 f3 f4
 obtain rfl:j=l.length:=by omega
 have v:=nl l.length;rw[MC]at e w;have S:k5 c act l n=(l.filter fun k=> !bd c act k n)++[n]:=by unfold k5;rw[Lj e]
 have Q:(k5 c act l n).map aB=((l.filter fun k=> !bd c act k n).map aB)++[[I (n:Int)]]:=by rw[S,Ln];rfl
 rw[Q,MC];generalize (l.filter fun k=> !bd c act k n)=K at*;have F:=g7 SR SU v w q;repeat refine st ?_
 refine eh (cU.frozen 11 8 ⟨1,K.map aB++[[I (n:Int)]],3,true⟩ rfl (MZ 0) (by simp only[go_sem]) (by simp only[go_sem])) ?_;exact aR
def RD:Except Nat (List Nat)->AV
 | .ok l=> .tuple [.seq 1 (l.map aB),I 0,I (-1)]
 | .error n=> .tuple [ct,I 2,I (1000+(n:Nat))]
def xO(env:b6)(c:aq)(h:b8 c)(hs:g6 c)(x:pb)(d:Int)(T:DQ c x d)(ev:List UInt8)(l:List Nat)(H:x.1=zL l)(r: ∀k∈l,k<c.Z9.length):b7 prog env 77 [.agg (aA c), .agg (k0 x),Sg ev,I d] (RD (mo c x.1 (GS c x.1 x.2.1 d) ev (u' c l))):=by
 have M:=T.act
 have z: ∀y∈x.1,ed c y=true:=fun y U=>by
  rw[H]at U;obtain⟨k,a,rfl⟩:=Lp.1 U;exact aV.2 (r k a)
 have f2:b7 prog env 123 [.agg (aA c),b0 x.1] (.own 3 1 ((u' c l).map aB)):=by
  have:=xN env c h l (by rw[H,ak]at M;omega) r;rwa [DU l, <-H]at this
 have f3:=fun k:Nat=>zR env c h hs x d T k ev;have f4:=fun(o:List Nat)(n:Nat)(S:o.length<=1000)=>(cF env (zL o) n (by rw[ak];omega)).lend rfl;have f5:=fun(o:List Nat)(S:o.length<=1000)(r: ∀n∈o,n<c.trans.length)(n:Nat)(p:n<c.trans.length)=>FV env c h x.1 (by omega) z o S r n p
 have Z:(u' c l).length<=1000:=by
  have:=(mQ h.toRight (zL (sT c l l.length))).length_le_of_subset (l₂:=List.range c.Z9.length) fun m hm=>by
   have hm:m∈u' c l:=hm;unfold u' bt at hm;split at hm
   ·exact MK.2 ((gJ h.toRight m).1 (Lq.1 hm).1)
   simp at hm
  simp at this;have Q:=h.Z6;show (bt c (zL (sT c l l.length))).length<=1000;omega
 unfold mo;generalize hW:GS c x.1 x.2.1 d=W at*;generalize u' c l=R at*;unfold k0 at f3 |-;unfold aA at f2 f3 f5;refine qf func77 call77 ntmps77 results77 ?_;have F:=aA.eq_1;repeat refine ef f2 ?_
 refine aG (D:=Nat×List Nat) (fun e s=>[(2,Sg ev),(3,I d),(4, .loc 4 (s 4) 0 0),(5, .loc 5 (s 5) 0 0),(11, .row 22 (s 22)),(12, .row 23 (s 23)),(13,I e.1)])
  (fun e _=>[(4,⟨5,[aA c],26,false⟩),(5,⟨5,[[b0 x.1,b0 x.2.1, .seq 2 (x.2.2.1.map eg), .seq 2 (x.2.2.2.1.map cR),B x.2.2.2.2]],31,false⟩),(22,⟨1,R.map aB,3,true⟩),(23,⟨1,e.2.map aB,3,true⟩)])
  (fun e _ w=>(e.1<=R.length/\cM c W ev R []=cM c W ev (R.drop e.1) e.2/\e.2.length<=e.1/\ ∀n∈e.2,n<c.trans.length)/\w 23=false) (fun e=>R.length-e.1) (0,[]) ?_ ?_ ?_ ?_
 ·exact⟨⟨Lx _,rfl,Lr _,fun n p=>by simp at p⟩,by simp only[go_sem]⟩
 ·exact qe
 ·have F:=aA.eq_1
  (simp only[go_sem,F])
  try rfl
 rintro⟨j,o⟩ ws w ⟨⟨hj,b,t,i⟩,q⟩;simp only at hj b t i;by_cases g:j<R.length
 ·obtain⟨k,a⟩:=gE g;have v:=h9 g;have P:=aD g (by omega);have f6:=f3 k;rw[ar a]at b;have q4: ¬(0:Int)<= -1:=by omega
  cases u:cv c W ev ((k:Int)::i' c k) with
  | no=>
    rw[u]at f6;unfold Sh at f6;rw[Ao u]at b;have F:=lP SR SU a v P q4 q;repeat refine ef f6 ?_
    refine⟨(j+1,o),⟨⟨g,b,Pb t,i⟩,by simp only[go_sem,q]⟩,?_,?_,by simp only;omega⟩
    ·exact qe
    have F:=aA.eq_1;exact qe
  | bad n=>
    rw[u]at f6;unfold Sh at f6;rw[wL u]at b;rw[b];show fk _ _ _ _ _ _;unfold RD;have F:=g7 SR SU a v q;exact g9 f6
  | one n=>
    have J:=EV u;rw[u]at f6;unfold Sh at f6;rw[wK u]at b;have V:(0:Int)<=(n:Int):=by omega
    have f7:=f4 o n (by omega);rw[b9]at f7;have X:cI (o.length+1) 8:=aC (by omega) (by omega);cases C:o.contains n with
    | true=>
      have z:(zL o).contains (n:Int)=true:=nY.2 (Lk.1 C);rw[z]at f7;rw[C]at b;simp only[Mb]at b;have F:=lP SR SU a v P V q;repeat refine ef f6 ?_
      refine lL f7 ?_;repeat refine st ?_
      refine⟨(j+1,o),⟨⟨g,b,Pb t,i⟩,by simp only[go_sem,q]⟩,?_,?_,by simp only;omega⟩
      ·exact qe
      have F:=aA.eq_1;exact qe
    | false=>
      have z:(zL o).contains (n:Int)=false:=by
       cases Y:(zL o).contains (n:Int) with
       |false=>rfl
       | true=>
         have:=Lk.2 (nY.1 Y);rw[C]at this;cases this
      rw[z]at f7;rw[C]at b;simp only[MH,Mi]at b;have F:=ns SR SU a v P V X q;repeat refine ef f6 ?_
      refine lL f7 ?_;repeat refine st ?_
      refine⟨(j+1,o++[n]),⟨⟨g,b,by simp only[Ll,MX];omega,fun m hm=> ?_⟩,by simp only[go_sem,q]⟩,?_,?_,by simp only;omega⟩
      ·rcases ML.1 hm with hm|hm
       ·exact i m hm
       rw[MA.1 hm];exact J
      ·exact qe
      have F:=fI SR SU @Ln.{0,0};exact qe
 obtain rfl:j=R.length:=by omega
 have v:=nl R.length;rw[Mu]at b;have L:cM c W ev R []= .ok o:=b;rw[L];show fk _ _ _ _ _ _;unfold DY RD
 have G: ∀m,m<=o.length->((o.take m).foldl (k5 c x.1) []).length<=m/\ ∀n∈(o.take m).foldl (k5 c x.1) [],n<c.trans.length:=fun m=>by
  induction m with
  |zero=>exact fun _=>⟨by simp,fun n p=>by simp at p⟩
  | succ m ih=>
    intro hm;obtain⟨i1,N⟩:=ih (by omega);obtain⟨n,p⟩: ∃n,o[m]? =some n:=⟨o[m],Lc (by omega)⟩;rw[bX _ _ p];refine⟨Ly (take_len ..) (by omega),fun k r=> ?_⟩;rcases tZ r with r|rfl
    ·exact N k r
    exact i _ (Lh p)
 have F:=fI SR v q;repeat refine st ?_
 refine eh (cU.frozen 59 17 ⟨1,[],3,true⟩ rfl (MZ 0) (by simp only[go_sem]) (by simp only[go_sem])) ?_;try clear f4 f6
 refine aG (D:=Nat) (fun m s=>[(4, .loc 4 (s 4) 0 0),(5, .loc 5 (s 5) 0 0),(12, .row 23 (s 23)),(17, .seq 1 (((o.take m).foldl (k5 c x.1) []).map aB)),(18,I m)])
  (fun m _=>[(4,⟨5,[aA c],26,false⟩),(5,⟨5,[[b0 x.1,b0 x.2.1, .seq 2 (x.2.2.1.map eg), .seq 2 (x.2.2.2.1.map cR),B x.2.2.2.2]],31,false⟩),(23,⟨1,o.map aB,3,true⟩)])
  (fun m _ _=>m<=o.length) (fun m=>o.length-m) 0 ?_ ?_ ?_ ?_
 ·exact Lx _
 ·(simp only[go_sem,F])
  try rfl
 ·have F:=aA.eq_1;exact qe
 rintro m us es hm;obtain⟨i1,N⟩:=G m hm;by_cases f:m<o.length
 ·obtain⟨n,p⟩:=gE f;have O:=h9 f;have p2:=aD f (by omega);have f6:=f5 _ (by omega) N n (i n (Lh p));have K:=bX (k5 c x.1) [] p;rw[<-K]at f6;generalize (o.take m).foldl (k5 c x.1) []=A at*;generalize E:(o.take (m+1)).foldl (k5 c x.1) []=A2 at*;have F:=g7 SR SU p O p2;repeat refine ef f6 ?_
  refine⟨m+1,f,?_,?_,by omega⟩
  ·have F:=ai SU E;exact qe
  have F:=aA.eq_1;exact qe
 obtain rfl:m=o.length:=by omega
 have O:=nl o.length;rw[MC];have F:=O;exact dT
end
section
end
section
end
section
end
section
end
section
end
section
end
end Go.Proofs.YtknkhdgfhbogdaaGreatDoor
