/- A step of a right instance with transitions that may be taken together, on both sides. -/
import Derived.Test.YtfcdkaolcdglmaaGreatDoorP26
set_option maxRecDepth 100000
set_option maxHeartbeats 16000000
set_option linter.unusedSimpArgs false
set_option linter.defProp false
namespace Go.Proofs.YtfcdkaolcdglmaaGreatDoor
open Go.Proofs.Tryz
section
open Go.RowKit
def sn(env:b7)(x:E')(u:x.1.length<=4096)(w:x.2.1.length<=4096)(C:x.2.2.1.length<=4096)(o: ∀m∈x.2.2.1,ek m.2.length 8)(v:ek x.2.2.2.1.length 24):
 g6 prog env 59 [8,11,14] (fun i=>i==8||(i==11||i==14)) (fun _=>[.agg [.seq 1 (x.1.map aa), .seq 1 (x.2.1.map aa), .seq 2 (x.2.2.1.map fi), .seq 2 (x.2.2.2.1.map ew),B x.2.2.2.2]]) (fun _=>[]) (fun _=>[(8,⟨1,x.1.map aa,3,true⟩),(11,⟨1,x.2.1.map aa,3,true⟩),(14,⟨2,x.2.2.2.1.map ew,95,true⟩)]) (fun g=> .agg [.row 8 (g 8), .row 11 (g 11), .seq 2 (x.2.2.1.map fi), .row 14 (g 14),B x.2.2.2.2]):=by
 have f0:=lG env (x.1.map aa) (by rw[O4];exact aG u (by omega));have f1:=lG env (x.2.1.map aa) (by rw[O4];exact aG w (by omega));have f2:=AU env (x.2.2.2.1.map ew) (by rw[O4];exact v);obtain⟨A,V,M,T,O⟩:=x;simp only at*;refine qi func59 call59 ntmps59 results59 ?_;intro f a n;obtain⟨b,c,d⟩:=Vf n;have F:=jw b c d;repeat refine V6 f0 f1 f2 ?_
 refine nC 3 9000 0 2 93 2 ?_
 refine aN (D:=Nat) (fun j f=>[(1, .loc 1 (f 1) 0 0),(2, .loc 2 (f 2) 0 0),(3, .loc 3 (f 3) 0 0),(19, .seq 2 (M.map fi)),(20,I M.length),(21,I j)])
  (fun j f=>[(1,⟨5,[[.seq 1 (A.map aa), .seq 1 (V.map aa), .seq 2 (M.map fi), .seq 2 (T.map ew),B O]],39,false⟩),(2,⟨5,[[gb,gb,gb,gb,B false]],39,false⟩),(3,⟨5,[[.row 8 (f 8), .row 11 (f 11), .row 9000 (f 9000), .row 14 (f 14),B O]],39,false⟩),(8,⟨1,A.map aa,3,true⟩),(11,⟨1,V.map aa,3,true⟩),(14,⟨2,T.map ew,95,true⟩),(9000,⟨2,(M.take j).map fi,93,true⟩)])
  (fun j _ a=>j<=M.length/\a 2=false/\a 3=false/\a 8=false/\a 11=false/\a 9000=false/\a 14=false) (fun j=>M.length-j) 0 ?_ ?_ ?_ ?_
 ·refine⟨O6 _,?_,?_,?_,?_,?_,?_⟩<;>simp only[go_sem,b,c,d]
 ·exact qe
 ·exact qe
 try clear b c d
 rintro j G a ⟨E,h,k,b,c,l,d⟩;by_cases e:j<M.length
 ·obtain⟨m,p⟩:=gE e;have t:=mc e;have z:=aD e (by omega);have f3:=lG env (m.2.map aa) (by rw[O4];exact o m (OM p));have s:(M.take j).length=j:=by rw[OZ];omega
  have y:ek (j+1) 32:=aG (by omega) (by omega);have r:M.take (j+1)=M.take j++[m]:=by rw[Ot,p];rfl
  have F:=fb WS t z p s y b c h k l d;repeat refine g8 f3 ?_
  refine⟨j+1,⟨e,?_,?_,?_,?_,?_,?_⟩,?_,?_,by omega⟩;all_goals (first|(show _=false;simp only[go_sem,b,c,h,k,l,d];done)|skip)
  ·exact qe
  have F:=y' WS r @Oa.{0,0} b c h k l d;exact qe
 obtain rfl:j=M.length:=by omega
 have t:=nl M.length;have q:M.take M.length=M:=Ob;have F:=L7 t q b c h k l d;repeat refine st ?_
 refine dH [(9000,⟨2,M.map fi,93,true⟩)] ?_ ?_
 ·exact qe
 have F:=pf b c h k l d;exact rI
def vP(a b:Addr):dg×M'->AV
 |(r,none)=> .tuple [.agg [cI r.act,cI r.vars, .seq 2 (r.mem.map fi), .seq 2 (r.Z4.map ew),B r.over], .agg [cI r.outs, .seq 2 (r.Z1.map ew)],gc]
 |(_,some e)=> .tuple [.agg [gb,gb,gb,gb,B false], .agg [gb,gb],dj (-1) (cj a b (some e))]
def gP(x:E'):dg:=⟨x.1,x.2.1,x.2.2.1,x.2.2.2.1,x.2.2.2.2,[],[]⟩
def IX(env:b7)(o f h:Addr)(c:aq)(d a:Int)(E:I' env o f h c d a)(x:E')(s:x.1.length<=100)(r:x.2.1.length<=4096)(p:x.2.2.1.length<=4096)(l: ∀m∈x.2.2.1,ek m.2.length 8)(q:ek x.2.2.2.1.length 24)(e:List Nat)
 (j:cy prog env 154 [Sg [109,105,99,114,111,46,83,116,101,112],aH c, .agg (o' x),I d] gc)
 (i:g6 prog env 184 [1000,1001,1002,1003,1004,1005] (fun _=>false) (fun g=>[.loc 1000 (g 1000) 0 0, .seq 1 (e.map aB)]) (RY c d a (gP x)) (RY c d a (gP x)) (fun _=>B true))
 (b:g6 prog env 185 [1000,1001,1002,1003,1004,1005] qr (fun g=>[.loc 1000 (g 1000) 0 0, .seq 1 (e.map aB)]) (RY c d a (gP x)) (RY c d a (tS c d a (gP x) e).1) (fun _=>cj f h (tS c d a (gP x) e).2)):
 cy prog env 159 [aH c, .agg (o' x), .seq 1 (e.map aB),I d,I a] (vP f h (tS c d a (gP x) e)):=by
 have f1:=ap env c E.hs;have f2:=sn env x (by omega) r p l q;have f3:=sf env a;rw[Ou E.hn]at f3;unfold o' at j |-;unfold aH at f1 j |-;unfold aA at f1;unfold RY la at i;obtain⟨A,V,M,T,O⟩:=x;unfold gP at i b |-;simp only at*;generalize tS c d a _ e=X at*;refine qf func159 call159 ntmps159 results159 ?_;repeat refine nf j ?_
 refine Ww [(8,9001),(11,9002),(14,9003)] f2 ?_
 iterate 9 (first|refine sm ?_|refine VZ f1 ?_)
 show gu _ _ _ _ _ _;refine VP 33 9004 0 5 3 1 ?_;refine VP 33 9005 0 6 81 2 ?_;repeat refine nf f3 ?_
 refine Ww [(1000,33),(1001,9001),(1002,9002),(1003,9003),(1004,9004),(1005,9005)] i ?_;repeat refine sm ?_
 rcases X with⟨t,_|⟨k,n⟩⟩
 ·unfold cj RY la at b;simp only at b;unfold vP;have F:=qr.eq_1;repeat refine st ?_
  refine iL [(1000,33),(1001,9001),(1002,9002),(1003,9003),(1004,9004),(1005,9005)] b ?_;exact fl
 unfold cj RY la at b;simp only at b;unfold vP cj;simp only;have f5:=du env [109,105,99,114,111,46,83,116,101,112] (n.headD (-1)) (ik n.tail (b6 (if k=2 then f else h)));have F:=qr.eq_1;repeat refine st ?_
 refine iL [(1000,33),(1001,9001),(1002,9002),(1003,9003),(1004,9004),(1005,9005)] b ?_;exact nb f5
def BX(c:aq)(d a:Int): ∀(l:List Int)(r:dg),xS (bd c d a r l).2
 |[],r=>fun x h=>by cases h
 | i::l,r=>by
   unfold bd;split
   ·exact BX c d a l _
   exact zT _ _ _ _ _
def Fh(c:aq)(d a:Int): ∀(l:List Nat)(r:dg),xS (gW c d a r l).2
 |[],r=>fun x h=>by cases h
 | i::l,r=>by
   unfold gW;split
   ·exact Fh c d a l _
   exact zT _ _ _ _ _
def Ec(c:aq)(d a:Int)(r:dg)(b:List Nat):xS (tS c d a r b).2:=by
 unfold tS;simp only;have e:=BX c d a (zL (ca c (fj c r.act b))).reverse { r with mem:=u5 c r.act (zL (ca c (fj c r.act b))) r.mem };split
 ·rename_i g h;have f:=Fh c d a b g;split
  ·exact ub _ _ _ _ _
  exact f
 exact e
def Ig(a:Addr):Except Nat (List Nat)->AV
 | .ok l=> .tuple [.seq 1 (l.map aB),gc]
 | .error n=> .tuple [gb,dj (1000+(n:Nat)) (b6 a)]
def Jo{c:aq}{w:u0}{ev:List UInt8}{i:Nat}{l o:List Nat}(h:eh c w ev ((i:Int)::mu c i)= .no):dq c w ev (i::l) o=dq c w ev l o:=by
 conv=>lhs;unfold dq
 rw[h]
def Hn{c:aq}{w:u0}{ev:List UInt8}{i n:Nat}{l o:List Nat}(h:eh c w ev ((i:Int)::mu c i)= .one n):dq c w ev (i::l) o=dq c w ev l (if o.contains n then o else o++[n]):=by
 conv=>lhs;unfold dq
 rw[h]
def Ho{c:aq}{w:u0}{ev:List UInt8}{i n:Nat}{l o:List Nat}(h:eh c w ev ((i:Int)::mu c i)= .bad n):dq c w ev (i::l) o= .error n:=by
 unfold dq;rw[h]
def MM{c:aq}{w:u0}{ev:List UInt8}{n:Nat}{l:List Int}(h:eh c w ev l= .one n):n<c.trans.length:=by
 obtain⟨_,_,t,a,_⟩:=yY h;exact(OG.1 a).1
def take_len(c:aq)(act:List Int)(l:List Nat)(n:Nat):(rx c act l n).length<=l.length+1:=by
 unfold rx;split
 ·rw[ON,Pa];have:=Ol (fun k=> !eQ c act k n) l;omega
 omega
def Mz(l:List Nat):l.map aB=(zL l).map aa:=(gL l).symm
def Ad(env:b7)(z J C:Addr)(L:fk env z C)(h2:env 3=some (b6 J))(c:aq)(h:cD c)(G:h9 c)(x:E')(d:Int)(H:Uu c x d)(ev:List UInt8)
 (K:cy prog env 154 [Sg [109,105,99,114,111,46,69,110,97,98,108,101,100],aH c, .agg (o' x),I d] gc)(l:List Nat)(N:x.1=zL l)(r: ∀k∈l,k<c.Z9.length):
 cy prog env 116 [aH c, .agg (o' x),Sg ev,I d] (Ig J (zN c x.1 (UV c x.1 x.2.1 d) ev (Ul c l))):=by
 have Y:=h.Z6;have S:=H.act;have f1:=ap env c G
 have f2:cy prog env 155 [aH c,cI x.1] (.tuple [.seq 1 ((Ul c l).map aB),gc]):=by
  have:=Gh env z C L c h G l (by rw[N,cQ]at S;omega) r (by rw[<-N];exact H.lg);rwa [Mz l, <-N]at this
 have f3:=fun k:Nat=>Jv env z J C L h2 c h G x d H k ev;have f4:=fun(o:List Nat)(n:Nat)(Z:o.length<=1000)=>(bG env (zL o) n (by rw[cQ];omega)).lend rfl;have f5:=fun(o:List Nat)(Z:o.length<=1000)(r: ∀n∈o,n<c.trans.length)(n:Nat)(i:n<c.trans.length)=>Iv env z C L c h G x d H o Z r n i
 have hil:(Ul c l).length<=32:=by
  have:=(sE h.toRight (zL (RK c l l.length))).length_le_of_subset (l₂:=List.range c.Z9.length) fun m hm=>by
   have hm:m∈Ul c l:=hm;unfold Ul ca at hm;split at hm
   ·exact Oh.2 ((jc h.toRight m).1 (OY.1 hm).1)
   simp at hm
  simp at this;show (ca c (zL (RK c l l.length))).length<=32;omega
 unfold zN;generalize hW:UV c x.1 x.2.1 d=W at*;generalize Ul c l=R at*;unfold UJ at f3 f5;unfold o' at K |-;unfold aH at f1 f2 K |-;unfold aA at f1;refine qf func116 call116 ntmps116 results116 ?_;repeat refine Md K f1 f2 ?_
 refine am 14 14 3 1 ?_;refine iX (dT.nil 15 1 (by simp only[go_sem])) ?_
 refine aN (D:=Nat×List Nat) (fun e y=>[(2,Sg ev),(11, .loc 35 (y 35) 0 0),(14, .row 14 (y 14)),(15, .seq 1 []),(47, .seq 1 (R.map aB)),(48,I R.length),(49,I e.1)])
  (fun e _=>[(14,⟨1,e.2.map aB,3,true⟩),(35,⟨15,[[cI x.1,cI x.2.1, .seq 2 (x.2.2.1.map fi), .seq 2 (x.2.2.2.1.map ew),B x.2.2.2.2,gb,gb, .ref 9 [aK c] 0 0,Sg c.name,I c.initial,ur c.vars,u6 c.Z9,CD c.trans,I d,I 0]],189,false⟩)])
  (fun e _ v=>(e.1<=R.length/\dq c W ev R []=dq c W ev (R.drop e.1) e.2/\e.2.length<=e.1/\ ∀n∈e.2,n<c.trans.length)/\v 14=false) (fun e=>R.length-e.1) (0,[]) ?_ ?_ ?_ ?_
 ·exact⟨⟨O6 _,rfl,OO _,fun n i=>by simp at i⟩,by simp only[go_sem]⟩
 ·exact Wg
 ·(simp only[go_sem])
  try rfl
 rintro⟨j,o⟩ ws v ⟨⟨hj,a,s,g⟩,q⟩;simp only at hj a s g;by_cases f:j<R.length
 ·obtain⟨k,p⟩:=gE f;have u:=mc f;have X:=aD f (by omega);have f6:=f3 k;rw[bV p]at a;have q4: ¬(0:Int)<= -1:=by omega
  cases t:eh c W ev ((k:Int)::mu c k) with
  | no=>
    rw[t]at f6;unfold tM at f6;rw[Jo t]at a;have F:=pf WJ p u X q4 q;repeat refine g8 f6 ?_
    exact qn (j+1,o) ⟨⟨f,a,Nat.le_succ_of_le s,g⟩,by simp only[go_sem,q]⟩
  | bad n=>
    rw[t]at f6;unfold tM at f6;rw[Ho t]at a;rw[a];show gu _ _ _ _ _ _;unfold Ig;have F:=mX WJ p u q;exact nb f6
  | one n=>
    have O:=MM t;rw[t]at f6;unfold tM at f6;rw[Hn t]at a;have q3:(0:Int)<=(n:Int):=by omega
    have f7:=f4 o n (by omega);rw[gL]at f7;have hf:ek (o.length+1) 8:=aG (by omega) (by omega);cases E:o.contains n with
    | true=>
      have T:(zL o).contains (n:Int)=true:=ul.2 (OQ.1 E);rw[T]at f7;rw[E]at a;simp only[PW]at a;have F:=pf WJ p u X q3 q;repeat refine g8 f6 ?_
      refine lL f7 ?_;repeat refine st ?_
      exact qn (j+1,o) ⟨⟨f,a,Nat.le_succ_of_le s,g⟩,by simp only[go_sem,q]⟩
    | false=>
      have T:(zL o).contains (n:Int)=false:=by
       cases hh:(zL o).contains (n:Int) with
       |false=>rfl
       | true=>
         have:=OQ.2 (ul.1 hh);rw[E]at this;cases this
      rw[T]at f7;rw[E]at a;simp only[On,P8]at a;have F:=vb WJ p u X q3 hf q;repeat refine g8 f6 ?_
      refine lL f7 ?_;repeat refine st ?_
      refine⟨(j+1,o++[n]),⟨⟨f,a,by simp only[ON,Pa];omega,fun m hm=> ?_⟩,by simp only[go_sem,q]⟩,?_,?_,by simp only;omega⟩
      ·rcases Of.1 hm with hm|hm
       ·exact g m hm
       rw[O2.1 hm];exact O
      ·exact qe
      have F:=ai WJ @Oa.{0,0};exact qe
 obtain rfl:j=R.length:=by omega
 have u:=nl R.length;rw[Q3]at a;have Q:dq c W ev R []= .ok o:=a;rw[Q];show gu _ _ _ _ _ _;unfold Ki Ig
 have M: ∀m,m<=o.length->((o.take m).foldl (rx c x.1) []).length<=m/\ ∀n∈(o.take m).foldl (rx c x.1) [],n<c.trans.length:=fun m=>by
  induction m with
  |zero=>exact fun _=>⟨by simp,fun n i=>by simp at i⟩
  | succ m ih=>
    intro hm;obtain⟨i1,U⟩:=ih (by omega);obtain⟨n,i⟩: ∃n,o[m]? =some n:=⟨o[m],OE (by omega)⟩;rw[bz _ _ i];refine⟨O3 (take_len ..) (by omega),fun k r=> ?_⟩;rcases Al r with r|rfl
    ·exact U k r
    exact g _ (OM i)
 have F:=ai u q;repeat refine st ?_
 try clear f4 f6
 refine aN (D:=Nat) (fun m y=>[(11, .loc 35 (y 35) 0 0),(15, .seq 1 (((o.take m).foldl (rx c x.1) []).map aB)),(76, .row 14 (y 14)),(77,I o.length),(78,I m)])
  (fun m _=>[(14,⟨1,o.map aB,3,true⟩),(35,⟨15,[[cI x.1,cI x.2.1, .seq 2 (x.2.2.1.map fi), .seq 2 (x.2.2.2.1.map ew),B x.2.2.2.2,gb,gb, .ref 9 [aK c] 0 0,Sg c.name,I c.initial,ur c.vars,u6 c.Z9,CD c.trans,I d,I 0]],189,false⟩)])
  (fun m _ _=>m<=o.length) (fun m=>o.length-m) 0 ?_ ?_ ?_ ?_
 ·exact O6 _
 ·(simp only[go_sem,F])
  try rfl
 ·exact qe
 rintro m us es hm;obtain⟨i1,U⟩:=M m hm;by_cases b:m<o.length
 ·obtain⟨n,i⟩:=gE b;have V:=mc b;have p2:=aD b (by omega);have f6:=f5 _ (by omega) U n (g n (OM i));have P:=bz (rx c x.1) [] i;rw[<-P]at f6;generalize (o.take m).foldl (rx c x.1) []=A at*;generalize w:(o.take (m+1)).foldl (rx c x.1) []=A2 at*;have F:=mX WJ i V p2;repeat refine g8 f6 ?_
  refine⟨m+1,b,?_,?_,by omega⟩
  ·have F:=ai WJ w;exact qe
  ·(simp only[go_sem,aB,w])
 obtain rfl:m=o.length:=by omega
 have V:=nl o.length;rw[Ob];have F:=V;exact fl
def Fx{l:List (List UInt8×Int)}(h:RM l)(k:l.length<=8):ay l=true:=by
 unfold ay;rw[Ou k,Bool.and_true];refine ba fun j a=> ?_;have e:l.getD j ([],0)=l[j]:=by simp[Oe,OE a]
 obtain⟨b,c,d⟩:=h.each _ (PV a);unfold jV;rw[e,b];have i:jP l[j].2=true:=by unfold jP;simp[c,d]
 rw[i];by_cases g:j=0
 ·simp[g]
 have m:=Ow.1 h.ZY (j-1) j (by omega) a (by omega);have f:l.getD (j-1) ([],0)=l[j-1]'(by omega):=by simp[Oe,OE (show j-1<l.length by omega)]
 rw[f,m];simp
def U4(r:dg):E':=(r.act,r.vars,r.mem,r.Z4,r.over)
def vn{c:aq}{r:dg}(h:fy c r)(a:F' c r.act=true)(b:bu c r.mem=true)(d:r.over=mr c r.act):cM c (UF (U4 r))=true:=by
 unfold cM;show (F' c r.act&&bu c r.mem&&(r.vars.length==c.vars.length)&&ay r.Z4&&(r.over==mr c r.act)&&tK r.vars)=true;rw[a,b,h.len,Fx h.Z4 h.ZE,d,show tK r.vars=true from OP.2 h.vars];simp
def yG{c:aq}{act:List Int}(h: ∀x∈act,fe c x=true):mr c act=act.any fun x=>eP c x==3&&decide (aQ c x<0):=by
 unfold mr;rw[PC,P1,P1]
 have e: ∀x∈act,jf c x=(eP c x==3&&decide (aQ c x<0)):=fun x a=>by
  obtain⟨k,s,rfl,b,_⟩:=fB (h x a);unfold jf;rw[Pd,b,sq b,EO b,Bool.and_comm]
 exact⟨fun⟨x,a,q⟩=>⟨x,a,by rw[<-e x a];exact q⟩,fun⟨x,a,q⟩=>⟨x,a,by rw[e x a];exact q⟩⟩
def qk{c:aq}(h:cD c){a:Int}(o:0<=a/\a<=1099511627776)(p: ∀v∈c.vars,aL v.start=true)(m:(cK c a).2=none):cM c (UF (U4 (cK c a).1))=true/\fy c (cK c a).1/\(cK c a).1.mem=[]:=by
 obtain⟨s,w⟩:=CE (cc h) (l:=zL (kf c (-1))) (show aL 0=true by rfl) o (o6 p) .nil
 have g:(bA c 0 a (g5 c) [] (zL (kf c (-1)))).1.2=none:=by
  cases d:(bA c 0 a (g5 c) [] (zL (kf c (-1)))).1.2 with
  |none=>rfl
  |some e=>rw[show cK c a=ip c 0 a (g5 c) (zL (kf c (-1))) from rfl,wy d,d]at m;cases m
 have k:=(qK h o p g);have i:=w m;change cM c (UF (U4 (ip c 0 a (g5 c) (zL (kf c (-1)))).1))=true/\fy c (ip c 0 a (g5 c) (zL (kf c (-1)))).1/\(ip c 0 a (g5 c) (zL (kf c (-1)))).1.mem=[]
 have b:(ip c 0 a (g5 c) (zL (kf c (-1)))).1.act=zL (sM c (kf c (-1))):=by
  obtain⟨_,t⟩:=jO (cc h) (l:=zL (kf c (-1))) (f:=[]) (show aL 0=true by rfl) o (o6 p) .nil;rw[<-k.2];exact pK i.ZY (t g).ZY fun x=>by rw[i.mem,(t g).mem]
 have n: ∀x∈zL (sM c (kf c (-1))),fe c x=true:=fun x d=>by
  obtain⟨j,u,rfl⟩:=OW.1 d;exact ak.2 (Oh.1 (OY.1 u).1)
 refine⟨vn s (by rw[b, <-k.2];exact k.1) (by rw[i.mm];rfl) ?_,s,i.mm⟩;rw[i.over,b,yG n,PC];show (false||_)=true↔_;rw[Qq,P1,P1]
 have r: ∀x,x∈zL (sM c (kf c (-1)))↔x∈zL (kf c (-1)):=fun x=>by
  rw[<-b,i.mem];simp[g5]
 constructor
 ·rintro⟨x,d,q⟩;exact⟨x,(r x).2 d,by simpa[g5]using q⟩
 rintro⟨x,d,q⟩;exact⟨x,(r x).1 d,by simpa[g5]using q⟩
def J6{c:aq}{act:List Int}(h:F' c act=true):act.length<=c.Z9.length:=by
 have a:=eW h
 have:=a.nodup.length_le_of_subset (l₂:=zL (List.range c.Z9.length)) fun x b=>by
  obtain⟨_,_,d,_⟩:=a.of b;obtain⟨e,f⟩:=aJ.1 d;exact OW.2 ⟨x.toNat,Oh.2 (by omega),by simp;omega⟩
 rw[cQ,SU]at this;exact this
def NA{l:List (List UInt8×Int)}(h:ay l=true):RM l/\l.length<=8:=by
 unfold ay at h;rw[OJ,OR]at h;obtain⟨d,e⟩:=h;have at_: ∀j (a:j<l.length),l.getD j ([],0)=l[j]:=fun j a=>by simp[Oe,OE a]
 have k:=fun j (a:j<l.length)=>dC d j a;refine⟨⟨Ow.2 fun i j o a f=> ?_,fun x g=> ?_⟩,e⟩
 ·have c: ∀m,(b:i+1+m<l.length)->Op.bytesLess l[i].1 l[i+1+m].1=true:=fun m=>by
   have step: ∀j (a:j+1<l.length),Op.bytesLess l[j].1 l[j+1].1=true:=fun j a=>by
    have:=k (j+1) a;unfold jV at this;rw[at_ _ a,show j+1-1=j by omega,at_ j (by omega)]at this;simp only[OJ,PS,OR]at this;exact this.2.resolve_left (by omega)
   induction m with
   |zero=>exact fun b=>step i b
   |succ m n=>exact fun b=>ej (n (by omega)) (step (i+1+m) b)
  have:=c (j-i-1) (by omega);simpa[show i+1+(j-i-1)=j by omega]using this
 obtain⟨j,a,rfl⟩:=RS.1 g;have:=k j a;unfold jV jP at this;rw[at_ j a]at this;simp only[OJ,OR]at this;exact⟨this.1.1,this.1.2⟩
structure Uj(c:aq)(x:E'):Prop where
 lg:F' c x.1=true
 mem:bu c x.2.2.1=true
 len:x.2.1.length=c.vars.length
 fit: ∀v∈x.2.1,aL v=true
 Z4:RM x.2.2.2.1
 ZE:x.2.2.2.1.length<=8
 over:x.2.2.2.2=mr c x.1
def gI{c:aq}{x:E'}(a:cM c (UF x)=true):Uj c x:=by
 unfold cM at a;simp only[OJ,P4]at a;obtain⟨⟨⟨⟨⟨b,d⟩,e⟩,f⟩,g⟩,h⟩:=a;obtain⟨t1,t2⟩:=NA f;exact⟨b,d,e,OP.1 h,t1,t2,g⟩
def Uj.beg{c:aq}{x:E'}(h:Uj c x):fy c (gP x):=⟨h.len,h.fit,h.Z4,h.ZE,O6 _,O6 _,fun e a=>by simp[gP]at a⟩
section
variable {c:aq} (h:cD c) {act:List Int} (hb:F' c act=true) {ts:List Nat} (hf:Fit c act ts)
include h hb hf
theorem CW{mem:List ed}(b:bu c mem=true){n:Nat}(d:n∈ts):Vw c act mem (dw c n):=by
 obtain⟨t,a,e⟩:=hf.real n d;rw[fF a];exact xz h hb b a e
theorem FM{y:Int} :y∈fj c act ts↔y∈act/\ ∃n∈ts,nY c (dw c n) y:=by
 have e:bu c []=true:=rfl;unfold fj;rw[Q4];constructor
 ·rintro⟨n,a,f⟩;obtain⟨b,d⟩:=((CW h hb hf e a).left y).1 f;exact⟨b,n,a,d⟩
 rintro⟨b,n,a,d⟩;exact⟨n,a,((CW h hb hf e a).left y).2 ⟨b,d⟩⟩
theorem Bf{y:Int} :y∈zL (ca c (fj c act ts))↔y∈act/\ ∃n∈ts,nY c (dw c n) y:=by
 rw[jY h.toRight fun y a=>by
  obtain⟨_,_,b,_⟩:=(eW hb).of ((FM h hb hf).1 a).1
  exact b]
 exact FM h hb hf
theorem zG: ∀y∈zL (ca c (fj c act ts)),y∈act:=fun _ a=>((Bf h hb hf).1 a).1
theorem Ng{mem:List ed}(d:bu c mem=true){y:Int} :y∈zL (ca c (zL (toR c mem ts)))↔ ∃n∈ts,VY c mem (dw c n) y:=by
 have e: ∀y,y∈zL (toR c mem ts)↔ ∃n∈ts,VY c mem (dw c n) y:=fun y=>by
  unfold toR zL;rw[OW];constructor
  ·rintro⟨k,b,rfl⟩;obtain⟨n,a,b⟩:=Q4.1 b;exact⟨n,a,((CW h hb hf d a).to _).1 (OW.2 ⟨k,b,rfl⟩)⟩
  rintro⟨n,a,q⟩;obtain⟨k,b,e⟩:=OW.1 (((CW h hb hf d a).to y).2 q);exact⟨k,Q4.2 ⟨n,a,b⟩,e⟩
 rw[jY h.toRight fun y f=>by
  obtain⟨n,a,q⟩:=(e y).1 f
  exact ah (EU h ((CW h hb hf d a).uni q.1).bel q.2)]
 exact e y
theorem Ap{d a:Int}(r:aL d=true)(g:0<=a/\a<=1099511627776){mem:List ed}(p:bu c mem=true){r2:dg}(t:fy c r2)(o:r2.act=act.filter (fun k=> !(zL (ca c (fj c act ts))).reverse.contains k))(s:(bA c d a r2 [] (zL (ca c (zL (toR c mem ts))))).1.2=none):
 F' c (bA c d a r2 [] (zL (ca c (zL (toR c mem ts))))).1.1.act=true/\ ∀y,y∈(bA c d a r2 [] (zL (ca c (zL (toR c mem ts))))).1.1.act↔iN c act mem ts y:=by
 have b:r2.act.Pairwise (· < ·):=by rw[o];exact(eW hb).ZY.sublist Pf
 obtain⟨_,j⟩:=jO (cc h) (l:=zL (ca c (zL (toR c mem ts)))) (f:=[]) r g t b;have j:=j s;obtain⟨O,v,w,x⟩:=sk h hb p ts.length ts rfl hf
 have i: ∀y,y∈(bA c d a r2 [] (zL (ca c (zL (toR c mem ts))))).1.1.act↔iN c act mem ts y:=fun y=>by
  rw[j.mem,o,OY,Ng h hb hf p,PT];unfold iN;refine or_congr ?_ Iff.rfl;refine and_congr_right fun u=> ?_;rw[<-Bool.not_eq_true,OQ,TU,Bf h hb hf];constructor
  ·exact fun q n g m=>q ⟨u,n,g,m⟩
  rintro q ⟨_,n,g,m⟩;exact q n g m
 refine⟨?_,i⟩;have e:(bA c d a r2 [] (zL (ca c (zL (toR c mem ts))))).1.1.act=zL O:=pK j.ZY (Rq.2 (v.imp fun q=>by omega)) fun y=>(i y).trans (x y).symm;rw[e];exact w
end
def sB{c:aq}(h:cD c){d a:Int}(D:aL d=true)(w:0<=a/\a<=1099511627776){x:E'}(u:Uj c x)(X:x.2.2.2.2=false){b:List Nat}(K:Fit c x.1 b)(m:(tS c d a (gP x) b).2=none):
 fy c (tS c d a (gP x) b).1/\cM c (UF (U4 (tS c d a (gP x) b).1))=true/\ ∀y,y∈(tS c d a (gP x) b).1.act↔iN c x.1 (u5 c x.1 (zL (ca c (fj c x.1 b))) x.2.2.1) b y:=by
 have J:=cc h;have W:=(lz h u.lg u.mem (zG h u.lg K)).2
 have P: ∀n∈b,∃t,c.trans[n]? =some t:=fun n w=>by
  obtain⟨t,ht,_⟩:=K.real n w;exact⟨t,ht⟩
 have G:mr c x.1=false:=by rw[<-u.over];exact X
 have H: ∀y∈x.1,fe c y=true:=fun y j=>by
  obtain⟨_,_,H,_⟩:=(eW u.lg).of j;exact H
 have hG: ∀y∈zL (ca c (fj c x.1 b)),y∈x.1:=zG h u.lg K;have T:=fun(g:dg) hr B m=>Ap h u.lg K D w W (r2:=g) hr B m;have M:fy c (gP x):=u.beg
 change (match bd c d a { gP x with mem:=u5 c x.1 (zL (ca c (fj c x.1 b))) x.2.2.1 } (zL (ca c (fj c x.1 b))).reverse with
  |(s,none)=>(match gW c d a s b with
    |(g,none)=>ip c d a g (zL (ca c (zL (toR c (u5 c x.1 (zL (ca c (fj c x.1 b))) x.2.2.1) b))))
    |y=>y)
  |y=>y).2=none at m
 show fy c (match bd c d a { gP x with mem:=u5 c x.1 (zL (ca c (fj c x.1 b))) x.2.2.1 } (zL (ca c (fj c x.1 b))).reverse with
  |(s,none)=>(match gW c d a s b with
    |(g,none)=>ip c d a g (zL (ca c (zL (toR c (u5 c x.1 (zL (ca c (fj c x.1 b))) x.2.2.1) b))))
    |y=>y)
  |y=>y).1/\cM c (UF (U4 (match bd c d a { gP x with mem:=u5 c x.1 (zL (ca c (fj c x.1 b))) x.2.2.1 } (zL (ca c (fj c x.1 b))).reverse with
  |(s,none)=>(match gW c d a s b with
    |(g,none)=>ip c d a g (zL (ca c (zL (toR c (u5 c x.1 (zL (ca c (fj c x.1 b))) x.2.2.1) b))))
    |y=>y)
  |y=>y).1))=true/\ ∀y,y∈(match bd c d a { gP x with mem:=u5 c x.1 (zL (ca c (fj c x.1 b))) x.2.2.1 } (zL (ca c (fj c x.1 b))).reverse with
  |(s,none)=>(match gW c d a s b with
    |(g,none)=>ip c d a g (zL (ca c (zL (toR c (u5 c x.1 (zL (ca c (fj c x.1 b))) x.2.2.1) b))))
    |y=>y)
  |y=>y).1.act↔_
 generalize u5 c x.1 (zL (ca c (fj c x.1 b))) x.2.2.1=i at*;obtain⟨Q,R,S,I⟩:=uN J (l:=(zL (ca c (fj c x.1 b))).reverse) D w (r:={ gP x with mem:=i }) { M with };rcases U:bd c d a { gP x with mem:=i } (zL (ca c (fj c x.1 b))).reverse with⟨s,_|e⟩
 ·rw[U]at m Q R S I;have I:=I rfl;simp only at m Q R S I |-;obtain⟨z,A⟩:=Ff J D w (l:=b) (r:=s) P Q;rcases V:gW c d a s b with⟨g,_|e⟩
  ·rw[V]at m z A;simp only at m z A |-;have B:g.act=x.1.filter fun k=> !(zL (ca c (fj c x.1 b))).reverse.contains k:=A.act.trans I;have p:g.act.Pairwise (· < ·):=by rw[B];exact(eW u.lg).ZY.sublist Pf
   obtain⟨n1,v⟩:=CE J (l:=zL (ca c (zL (toR c i b)))) D w z p;have v:=v m
   have C:(bA c d a g [] (zL (ca c (zL (toR c i b))))).1.2=none:=by
    cases Y:(bA c d a g [] (zL (ca c (zL (toR c i b))))).1.2 with
    |none=>rfl
    |some e=>rw[wy Y,Y]at m;cases m
   obtain⟨Z,l2⟩:=T g z B C;obtain⟨_,L⟩:=jO J (l:=zL (ca c (zL (toR c i b)))) (f:=[]) D w z p;have L:=L C;have o:(ip c d a g (zL (ca c (zL (toR c i b))))).1.act=(bA c d a g [] (zL (ca c (zL (toR c i b))))).1.1.act:=pK v.ZY L.ZY fun y=>by rw[v.mem,L.mem]
   refine⟨n1,vn n1 (by rw[o];exact Z) (by rw[v.mm,A.mem,R];exact W) ?_,fun y=>by rw[o];exact l2 y⟩
   have N: ∀y∈(ip c d a g (zL (ca c (zL (toR c i b))))).1.act,fe c y=true:=fun y j=>by
    rw[o]at j;obtain⟨_,_,H,_⟩:=(eW Z).of j;exact H
   rw[v.over,A.over,S,yG N,PC];rw[yG H]at G;have O:(gP x).over=false:=X;show ((gP x).over||_)=true↔_;rw[O,Qq,P1,P1]
   have E: ∀y∈g.act,(eP c y==3&&decide (aQ c y<0))=false:=fun y j=>by
    rw[B]at j;exact Qj.2 fun q=>Qj.1 G (P1.2 ⟨y,(OY.1 j).1,q⟩)
   constructor
   ·rintro⟨y,j,q⟩;refine⟨y,(v.mem y).2 (.inr j),?_⟩;simp only[OJ]at q |-;exact⟨q.1.2,q.2⟩
   rintro⟨y,j,q⟩;rcases (v.mem y).1 j with j|j
   ·rw[E y j]at q;cases q
   refine⟨y,j,?_⟩
   have hc:g.act.contains y=false:=by
    cases hh:g.act.contains y with
    |false=>rfl
    | true=>
      rw[E y (OQ.1 hh)]at q;cases q
   rw[hc];simpa using q
  rw[V]at m;cases m
 rw[U]at m;cases m
end
section
open Go.RowKit
structure r5 where
 x:E'
 said:List Int
 steps:Nat
 wait:List (List UInt8×Int)
 data:Int
def tW(c:aq)(m:r5)(ev:List UInt8):Except Nat (List Nat):=zN c m.x.1 (UV c m.x.1 m.x.2.1 m.data) ev (Ul c (m.x.1.map Int.toNat))
def T'(m:r5)(outs:List Int)(rais:List (List UInt8×Int)):r5×M':=
 if 256< (m.said++outs).length\/16< (m.wait++rais).length then({ m with said:=m.said++outs,wait:=m.wait++rais },some (8,[-1])) else({ m with said:=m.said++outs,wait:=m.wait++rais },none)
def Mv(m:r5)(r:dg):r5×M':=T' ⟨U4 r,m.said,m.steps+1,m.wait,m.data⟩ r.outs r.Z1
def wk(c:aq)(a:Int)(F:Nat)(m:r5)(l:List Nat):r5×M':=
 if F<=m.steps then(m,some (6,[-1]))
 else match tS c m.data a (gP m.x) l with
  |(_,some e)=>(m,some (e.1, -1::e.2.headD (-1)::e.2.tail))
  |(r,none)=>Mv m r
def Sh(c:aq)(a:Int)(F:Nat)(m:r5)(ev:List UInt8):(r5×M')×Bool:=
 match tW c m ev with
 | .error n=>((m,some (2,[1000+(n:Int)])),false)
 | .ok []=>((m,none),false)
 | .ok (k::l)=>(wk c a F m (k::l),true)
def Ug(c:aq)(a:Int)(F:Nat):Nat->r5->r5×M'
 |0,m=>(m,some (0,[]))
 | n+1,m=>if m.x.2.2.2.2=true then(m,none)
   else match Sh c a F m []with
    |((b,some e),_)=>(b,some e)
    |((b,none),true)=>Ug c a F n b
    |((b,none),false)=>match b.wait with
      |[]=>(b,none)
      | e::w=>match Sh c a F { b with wait:=w,data:=e.2 } e.1 with
        |((d,some e),_)=>(d,some e)
        |((d,none),_)=>Ug c a F n d
def oH(F:Nat)(m:r5):Nat:=(F-m.steps)*17+m.wait.length
structure n5(c:aq)(F:Nat)(m:r5):Prop where
 inst:cM c (UF m.x)=true
 data:aL m.data=true
 wait:m.wait.length<=16
 waf: ∀e∈m.wait,aL e.2=true
 said:m.said.length<=256
 steps:m.steps<=F
 ZJ:F<=256
def Eu{act:List Int}{l:List Nat}(h:act=zL l):act.map Int.toNat=l:=by
 rw[h];unfold zL;rw[Q1]
 conv=>rhs;rw[<-List.map_id l]
 exact Po fun k _=>by simp
def xA{c:aq}(h:cD c){m:r5}(a:F' c m.x.1=true){ev:List UInt8}{f:List Nat}(e:tW c m ev= .ok f):Fit c m.x.1 f:=by
 obtain⟨l,b,g⟩:=yM a;unfold tW at e;rw[Eu b]at e;refine KC h (eW a) (fun i d=> ?_) e;rw[b];exact OW.2 ⟨i,ME h g d,rfl⟩
section
variable {c:aq} (h:cD c) {now:Int} (hn:0<=now/\now<=1099511627776)
include h hn
theorem JY{F:Nat}{m:r5}(b:n5 c F m)(o:m.x.2.2.2.2=false){l:List Nat}(n:Fit c m.x.1 l)(a:(wk c now F m l).2=none):n5 c F (wk c now F m l).1/\(wk c now F m l).1.steps=m.steps+1/\m.steps<F/\(wk c now F m l).1.data=m.data:=by
 unfold wk at a |-;split at a
 ·cases a
 rename_i j;rw[OK j];have f:=sB h b.data hn (gI b.inst) o n;rcases d:tS c m.data now (gP m.x) l with⟨r,_|e⟩
 ·rw[d]at a f;obtain⟨g,i,_⟩:=f rfl;simp only at a g i |-;unfold Mv T' at a |-;simp only at a |-;split at a
  ·cases a
  rename_i k;rw[OK k];refine⟨⟨i,b.data,show (m.wait++r.Z1).length<=16 by omega,fun e a=> ?_,show (m.said++r.outs).length<=256 by omega,show m.steps+1<=F by omega,b.ZJ⟩,rfl,by omega,rfl⟩;rcases Of.1 a with q|q
  ·exact b.waf e q
  exact g.raf e q
 rw[d]at a;cases a
theorem pF{F:Nat}{m:r5}(b:n5 c F m)(e:m.x.2.2.2.2=false){ev:List UInt8}(a:(Sh c now F m ev).1.2=none):n5 c F (Sh c now F m ev).1.1/\(Sh c now F m ev).1.1.data=m.data/\(((Sh c now F m ev).2=true/\(Sh c now F m ev).1.1.steps=m.steps+1/\m.steps<F)\/((Sh c now F m ev).2=false/\(Sh c now F m ev).1.1=m)):=by
 unfold Sh at a |-;cases d:tW c m ev with
 |error n=>rw[d]at a;cases a
 | ok f=>
   rw[d]at a;cases f with
   |nil=>exact⟨b,rfl, .inr ⟨rfl,rfl⟩⟩
   | cons k l=>
     obtain⟨g,i,j,o⟩:=JY h hn b e (xA h (gI b.inst).lg d) a;exact⟨g,o, .inl ⟨rfl,i,j⟩⟩
end
end
section
open Go.RowKit
def Mb(e:M'):Prop:= ∀x,e=some x->x.1=2\/x.1=6\/x.1=8
def JZ(c:aq)(b:Int)(F:Nat)(m:r5)(l:List Nat):Mb (wk c b F m l).2:=by
 unfold wk;split
 ·intro x a;cases a;exact .inr (.inl rfl)
 split
 ·rename_i y e d;intro x a;cases a;have:=Ec c m.data b (gP m.x) l e (by rw[d]);exact this.elim .inl fun q=> .inr (.inr q)
 unfold Mv T';split
 ·intro x a;cases a;exact .inr (.inr rfl)
 intro x a;cases a
def LZ(c:aq)(b:Int)(F:Nat)(m:r5)(ev:List UInt8):Mb (Sh c b F m ev).1.2:=by
 unfold Sh;split
 ·intro x a;cases a;exact .inl rfl
 ·intro x a;cases a
 exact JZ _ _ _ _ _
def EM{c:aq}{F:Nat}{m:r5}(a:n5 c F m){e:List UInt8×Int}{w:List (List UInt8×Int)}(b:m.wait=e::w):n5 c F { m with wait:=w,data:=e.2 } :=
 { a with data:=a.waf e (by rw[b];simp),wait:=by have:=a.wait;rw[b]at this;simp at this |-;omega,waf:=fun x d=>a.waf x (by rw[b];simp[d]) }
section
variable {c:aq} (h:cD c) {now:Int} (hn:0<=now/\now<=1099511627776)
include h hn
theorem zS{F:Nat}{m:r5}(i:n5 c F m)(j:m.x.2.2.2.2=false){ev:List UInt8}(g:(Sh c now F m ev).1.2=none):oH F (Sh c now F m ev).1.1<=oH F m/\((Sh c now F m ev).2=true->oH F (Sh c now F m ev).1.1<oH F m):=by
 obtain⟨d,_,f⟩:=pF h hn i j g;have k:=d.wait;rcases f with⟨b,a,l⟩|⟨b,a⟩
 ·have:oH F (Sh c now F m ev).1.1<oH F m:=by
   unfold oH;rw[a];have e:F-m.steps=(F-(m.steps+1))+1:=by omega
   rw[e];omega
  exact⟨by omega,fun _=>this⟩
 rw[a];exact⟨OO _,fun e=>by rw[b]at e;cases e⟩
theorem EP{F:Nat} : ∀(n:Nat)(m:r5),n5 c F m->oH F m<n->Mb (Ug c now F n m).2
 |0,m,_,y=>by omega
 | n+1,m,p,y=>by
   unfold Ug;by_cases d:m.x.2.2.2.2=true
   ·rw[OL d];intro x r;cases r
   rw[OK d];have d:m.x.2.2.2.2=false:=by simpa using d
   have o:=pF h hn p d (ev:=[]);have i:=zS h hn p d (ev:=[]);have a:=LZ c now F m [];rcases l:Sh c now F m []with⟨⟨f,_|e⟩,_|_⟩
   ·rw[l]at o;obtain⟨B,C,v⟩:=o rfl;obtain rfl:f=m:=by rcases v with⟨q,_⟩|⟨_,q⟩;cases q;exact q
    simp only;cases u:f.wait with
    |nil=>intro x r;cases r
    | cons e w=>
      have k:=EM p u;have t:=pF h hn k d (ev:=e.1);have j:=zS h hn k d (ev:=e.1);have g:=LZ c now F { f with wait:=w,data:=e.2 } e.1;have z:oH F { f with wait:=w,data:=e.2 } <oH F f:=by unfold oH;rw[u];simp
      simp only;rcases s:Sh c now F { f with wait:=w,data:=e.2 } e.1 with⟨⟨A,_|e⟩,b⟩
      ·rw[s]at t j;exact EP n A (t rfl).1 (by have:=(j rfl).1;simp only at this;omega)
      rw[s]at g;exact g
   ·rw[l]at o i;exact EP n f (o rfl).1 (by have:=(i rfl).2 rfl;simp only at this;omega)
   ·rw[l]at a;exact a
   rw[l]at a;exact a
theorem LU{F:Nat} : ∀(n:Nat)(m:r5),n5 c F m->(Ug c now F n m).2=none->n5 c F (Ug c now F n m).1/\m.steps<=(Ug c now F n m).1.steps/\((Ug c now F n m).1.x.2.2.2.2=true\/((Ug c now F n m).1.x.2.2.2.2=false/\tW c (Ug c now F n m).1 []= .ok []/\(Ug c now F n m).1.wait=[]))
 |0,m,_,a=>by cases a
 | n+1,m,o,a=>by
   unfold Ug at a |-;by_cases g:m.x.2.2.2.2=true
   ·rw[OL g];exact⟨o,OO _, .inl g⟩
   rw[OK g]at a |-;have g:m.x.2.2.2.2=false:=by simpa using g
   have j:=pF h hn o g (ev:=[]);rcases d:Sh c now F m []with⟨⟨i,_|e⟩,_|_⟩
   ·rw[d]at a j;obtain⟨y,C,p⟩:=j rfl;obtain rfl:i=m:=by rcases p with⟨q,_⟩|⟨_,q⟩;cases q;exact q
    simp only at a |-;cases s:i.wait with
    | nil=>
      refine⟨o,OO _, .inr ⟨g,?_,s⟩⟩;unfold Sh at d;cases B:tW c i []with
      |error n=>rw[B]at d;cases d
      | ok f=>
        rw[B]at d;cases f with
        |nil=>rfl
        | cons k l=>
          have:=Oj Prod.snd d;cases this
    | cons e w=>
      rw[s]at a;have r:=EM o s;have A:=pF h hn r g (ev:=e.1);simp only at a |-;rcases z:Sh c now F { i with wait:=w,data:=e.2 } e.1 with⟨⟨t,_|e⟩,b⟩
      ·rw[z]at a A;obtain⟨D,_,E⟩:=A rfl;obtain⟨u,v,x⟩:=LU n t D a;refine⟨u,?_,x⟩
       have:i.steps<=t.steps:=by
        rcases E with⟨_,q,_⟩|⟨_,q⟩
        ·simp only at q;have q:t.steps=i.steps+1:=q;omega
        simp only at q;rw[q];exact OO _
       exact O3 this v
      rw[z]at a;cases a
   ·rw[d]at a j;obtain⟨y,C,p⟩:=j rfl;obtain⟨u,v,x⟩:=LU n i y a;refine⟨u,?_,x⟩;rcases p with⟨_,q,_⟩|⟨q,_⟩
    ·simp only at q v |-;omega
    cases q
   ·rw[d]at a;cases a
   rw[d]at a;cases a
end
end
section
open Go.RowKit Go.ChangeShapes Go.WideShapes Go.ChangeAt Go.Deep
def WB{H:Type}(P:Program)(t:TypeId)(d:DataW H):Prop:= ∀z∈DataW.weights P t d,z<=reachBytes
section
variable {H:Type} {enc:TypeId×Value->H} {P:Program} {w:World} {base:Nat} {spare:Nat->Bool} {held:Bool}
theorem Ag{e:TypeId}{d:DataW H} : ∀ {l:List (DataW H)},d∈l-> ∀z∈DataW.weights P e d,z∈DataW.weightsAll P e l
 | a::r,h,z,b=>by
   unfold DataW.weightsAll;rcases O7.1 h with rfl|h
   ·exact PN _ b
   exact QR _ (Ag h z b)
theorem WB.elem{t e:TypeId}{es rs:List (DataW H)}(b:P.underlying t=some (.slice e))(h:WB P t (.slice es rs)){d:DataW H}(a:d∈es):WB P e d:=fun z c=>by
 refine h z ?_;unfold DataW.weights;rw[b];exact Pi _ (PN _ (Ag a z c))
theorem WB.size{t e:TypeId}{es rs:List (DataW H)}(a:P.underlying t=some (.slice e))(h:WB P t (.slice es rs)):es.length*P.bytesOf e<=reachBytes:=by
 refine O3 ?_ (h ((es.length+rs.length)*P.bytesOf e) ?_)
 ·exact Oz _ (TN ..)
 unfold DataW.weights;rw[a];exact Rh ..
theorem vY: ∀ {b:List TypeId}{l:List (DataW H)}{i:Nat}{t:TypeId}{d:DataW H},b[i]? =some t->l[i]? =some d-> ∀z∈DataW.weights P t d,z∈DataW.weightsEach P b l
 |t::b,d::l,0,_,_,rfl,rfl,z,a=>by unfold DataW.weightsEach;exact PN _ a
 | t::b,d::l,i+1,_,_,c,e,z,a=>by
   unfold DataW.weightsEach;exact QR _ (vY (i:=i) (by simpa using c) (by simpa using e) z a)
 |[],_,i,_,_,c,_,z,a=>by simp at c
 |_::_,[],i,_,_,_,e,z,a=>by simp at e
theorem WB.part{t:TypeId}{a:Array Field}{ps:List (DataW H)}(e:P.underlying t=some (.struct a))(h:WB P t (.agg ps)){i:Nat}{f:Field}{d:DataW H}(c:a[i]? =some f)(b:ps[i]? =some d):WB P f.type d:=fun z g=>by
 refine h z ?_;unfold DataW.weights;rw[e];refine vY (i:=i) ?_ b z g;rw[OS,Qo,c];rfl
end
section
variable {H:Type} {enc:TypeId×Value->H} {P:Program} {w:World} {base:Nat} {spare:Nat->Bool} {held:Bool}
end
section
variable {H:Type} {enc:TypeId×Value->H} {w:World} {base:Nat} {spare:Nat->Bool} {held:Bool}
end
end
section
open Go.RowKit Go.ChangeShapes Go.WideShapes Go.ChangeAt Go.Deep
section
variable {H:Type} {enc:TypeId×Value->H} {w:World} {base:Nat} {spare:Nat->Bool} {held:Bool}
end
end
section
open Go.RowKit
def Cb(env:b7)(l:List ed)(t:l.length<=9223372036854775807)(h: ∀m∈l,m.2.length<=9223372036854775807):cy prog env 34 [.seq 2 (l.map fi), .seq 2 (l.map fi)] (B true):=by
 refine qf func34 call34 ntmps34 results34 ?_;repeat refine sm ?_
 refine UC l.length (by omega) (fun j r=>[(0, .seq 2 (l.map fi)),(1, .seq 2 (l.map fi)),(5,I j)]) (fun _ _=>[]) (fun _ _ _=>True) trivial ?_ ?_
 ·rintro j s e b c p _;obtain⟨x,d⟩:=gE b;have i:=h x (OM d);have F:=jw WS d c;repeat refine st ?_
  refine lq x.2.length (by omega) (fun k r=>[(0, .seq 2 (l.map fi)),(1, .seq 2 (l.map fi)),(5,I j),(6,I k)]) (fun _ _=>[]) (fun _ _ _=>True) trivial ?_ ?_
  ·rintro k q g a f o _;obtain⟨y,n⟩:=gE a;have F:=vb WS WN d n c f o;repeat refine st ?_
   exact qn (k+1) ⟨a,trivial⟩
  rintro q g f _;have F:=ld WS d c p f;repeat refine st ?_
  exact qn (j+1) ⟨b,trivial⟩
 rintro s e c _;have F:=c;exact fl
def zy(env:b7)(A V:List Int)(x:E')(h:LA x)(q:A.length=x.1.length)(s:V.length=x.2.1.length):cy prog env 11 [.agg (o' (A,V,x.2.2)), .agg (o' x)] (B ((A==x.1)&&(V==x.2.1))):=by
 have n:maxLen=9223372036854775807:=rfl;have f0:=Cb env x.2.2.1 (n ▸ h.2.1.1) fun m y=>n ▸ h.2.1.2 m y;have E:x.2.2.2.1.length<=9223372036854775807:=n ▸ h.2.2.1;have r:x.1.length<=9223372036854775807:=n ▸ h.1.1;have w:x.2.1.length<=9223372036854775807:=n ▸ h.1.2;have z:((A.length:Int) != (x.1.length:Int))=false:=by simp[q]
 have C:((V.length:Int) != (x.2.1.length:Int))=false:=by simp[s]
 refine qf func11 call11 ntmps11 results11 ?_;have F:=jw W8 z C;repeat refine g8 f0 ?_
 refine aN (D:=Nat) (fun i j=>[(2, .loc 2 (j 2) 0 0),(3, .loc 3 (j 3) 0 0),(5,I i)]) (fun _ _=>[(2,⟨5,[o' (A,V,x.2.2)],39,false⟩),(3,⟨5,[o' x],39,false⟩)]) (fun i _ _=>i<=x.2.2.2.1.length) (fun i=>x.2.2.2.1.length-i) 0 ?_ ?_ ?_ ?_
 ·exact O6 _
 ·exact qe
 ·have F:=o'.eq_1;exact qe
 rintro i l c p;by_cases a:i<x.2.2.2.1.length
 ·obtain⟨t,d⟩:=gE a;have b:=mc a;have k:=aD a (by omega);have F:=ld W8 WT b k d;repeat refine st ?_
  refine⟨i+1,a,?_,?_,by omega⟩
  ·exact qe
  have F:=o'.eq_1;exact qe
 have b: ¬(i:Int)< (x.2.2.2.1.length:Int):=by omega
 have F:=ai W8 b;repeat refine st ?_
 try clear p a b
 refine aN (D:=Nat) (fun i j=>[(2, .loc 2 (j 2) 0 0),(3, .loc 3 (j 3) 0 0),(6,I i)]) (fun _ _=>[(2,⟨5,[o' (A,V,x.2.2)],39,false⟩),(3,⟨5,[o' x],39,false⟩)]) (fun i _ _=>i<=A.length/\A.take i=x.1.take i) (fun i=>A.length-i) 0 ?_ ?_ ?_ ?_
 ·exact⟨O6 _,rfl⟩
 ·exact qe
 ·have F:=o'.eq_1;exact qe
 try clear l c
 rintro i l c ⟨p,d⟩;by_cases a:i<A.length
 ·obtain⟨u,f,_⟩:=aT a;obtain⟨v,g,_⟩:=aT (show i<x.1.length by omega);have b:=mc a;have o:=mc (show i<x.1.length by omega);have k:=aD a (by omega);cases e:(u==v)
  ·rw[vd f g (by simpa using e)];have F:=y' W8 WN b k o f g e jF;exact fl
  have F:=y' W8 WN b k o f g e jF;repeat refine st ?_
  refine⟨i+1,⟨a,UK d f g (by simpa using e)⟩,?_,?_,by omega⟩
  ·exact qe
  have F:=o'.eq_1;exact qe
 have b: ¬(i:Int)< (A.length:Int):=by omega
 rw[Ax d (by omega) (by omega),PQ];have F:=ai W8 b;repeat refine st ?_
 try clear p a b d
 have F:=o'.eq_1;refine lq V.length (by omega) (fun i j=>[(2, .loc 2 (j 2) 0 0),(3, .loc 3 (j 3) 0 0),(7,I i)]) (fun _ _=>[(2,⟨5,[o' (A,V,x.2.2)],39,false⟩),(3,⟨5,[o' x],39,false⟩)]) (fun i _ _=>V.take i=x.2.1.take i) rfl ?_ ?_
 ·try clear l c
  rintro i l c a b k d;obtain⟨u,f,_⟩:=aT a;obtain⟨v,g,_⟩:=aT (show i<x.2.1.length by omega);have o:=mc (show i<x.2.1.length by omega);cases e:(u==v)
  ·rw[vd f g (by simpa using e)];have F:=y' W8 WN b k o f g e jF;exact fl
  have F:=y' W8 WN b k o f g e jF;repeat refine st ?_
  refine⟨i+1,⟨a,UK d f g (by simpa using e)⟩,?_,?_,by omega⟩
  ·exact qe
  have F:=o'.eq_1;exact qe
 try clear l c
 rintro l c b d;rw[Ax d (by omega) (by omega)];have F:=ai W8 b;exact fl
def uH{c:aq}(h:cD c){mem:List ed}(b:bu c mem=true):mem.length<=32/\ ∀m∈mem,ek m.2.length 8:=
 ⟨O3 (yH (Ks b)) h.Z6,fun m a=>aG (O3 (yJ h b m a).2 (by decide)) (by omega)⟩
def MJ{c:aq}(h:cD c){act:List Int}{f:List Nat}(b:Fit c act f):f.length<=64:=by
 have a:f.Nodup:=b.two.imp fun h=>h.1
 have:=a.length_le_of_subset (l₂:=List.range c.trans.length) fun n e=>by
  obtain⟨t,g,_⟩:=b.real n e;exact Oh.2 (OG.1 g).1
 have d:=h.ZF;simp at this;omega
def NR{c:aq}{act:List Int}{f:List Nat}(a:Fit c act f): ∀n∈f,∃t,c.trans[n]? =some t:=fun n b=>by
 obtain⟨t,d,_⟩:=a.real n b;exact⟨t,d⟩
def IY(env:b7)(i j h:Addr)(c:aq)(d a:Int)(E:I' env i j h c d a)(x:E')(e:Uj c x)(l:x.1.length<=100)(p:x.2.1.length<=4096)(o:ek x.2.2.2.1.length 24)(f:List Nat)(g:Fit c x.1 f)(n:cy prog env 154 [Sg [109,105,99,114,111,46,83,116,101,112],aH c, .agg (o' x),I d] gc):
 cy prog env 159 [aH c, .agg (o' x), .seq 1 (f.map aB),I d,I a] (vP j h (tS c d a (gP x) f)):=by
 obtain⟨u,m⟩:=uH E.h e.mem;obtain⟨_,b⟩:=lz E.h e.lg e.mem (zG E.h e.lg g);obtain⟨v,t⟩:=uH E.h b;have k:=MJ E.h g
 exact IX env i j h c d a E x l p (by omega) m o f n (MK env i h E.he c E.h E.hs d a (gP x) (show x.1.length<=1000 by omega) e.lg f g (by omega))
  (Ix env i j h c d a E (gP x) e.beg l e.lg e.mem (show x.2.2.1.length<=1000000 by omega) m f (NR g) k (zG E.h e.lg g) b ⟨show (u5 c x.1 (zL (ca c (fj c x.1 f))) x.2.2.1).length<=1000000 by omega,t⟩ fun w q r s=>(Ap E.h e.lg g E.hd E.hn b q r s).1)
end
end Go.Proofs.YtfcdkaolcdglmaaGreatDoor
