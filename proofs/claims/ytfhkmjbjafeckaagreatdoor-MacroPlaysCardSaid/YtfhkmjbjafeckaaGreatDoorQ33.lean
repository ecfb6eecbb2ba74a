/- Running on, plain: Send, Settle, Begin; fuel. No program is named here. -/
import Derived.Test.YtfhkmjbjafeckaaGreatDoorQ32
set_option maxRecDepth 100000
set_option maxHeartbeats 16000000
set_option linter.unusedSimpArgs false
set_option linter.defProp false
namespace Go.Proofs.YtfhkmjbjafeckaaGreatDoor
open Go.Proofs.Tryz
section
open Go.RowKit
def LE{c:aq}(h:ct c){act:List Int}(b: ∀x∈act,fi c x=true)(t:tS): ∀x∈fy c act t,0<=x:=fun x a=>by
 unfold fy at a;split at a
 ·simp at a
 rw[QL]at a;unfold IN at a;have:=(NF.1 a).1;rw[iA h.toRight b]at this;exact(aI.1 (b x this)).1
def JQ{A:List Int}{ks:List Nat} :(0<ch A ks)↔A.any (fun i=>(zL ks).contains i)=true:=by
 unfold ch;rw[List.length_pos_iff_exists_mem,OG];constructor
 ·rintro⟨k,a⟩;obtain⟨b,c⟩:=NF.1 a;exact⟨k,Mz.1 c,Mz.2 (NG.2 ⟨k,b,rfl⟩)⟩
 rintro⟨x,e,d⟩;obtain⟨k,a,rfl⟩:=NG.1 (Mz.1 d);exact⟨k,NF.2 ⟨a,Mz.2 e⟩⟩
def vj(env:cf)(c:aq)(h:ct c)(act:List Int)(n:act.length<=1000000)(p: ∀x∈act,fi c x=true)(a b:Nat)(l:a<c.trans.length)(m:b<c.trans.length):b8 prog env 166 [.agg (aA c),bs act,I a,I b] (B (bd c act a b)):=by
 obtain⟨g,d⟩:=gE l;obtain⟨f,e⟩:=gE m;have j: ∀x∈act,0<=x:=fun x r=>(aI.1 (p x r)).1;have f0:=ju env c h act n j a g d;have f1:=ju env c h act n j b f e;have u:=gG h act g;have v:=gG h act f;have k:=IU (LE h p f);have f2:=lj env (fy c act g) ((fy c act f).map Int.toNat) (by omega) (by rw[NT];omega);rw[E6, <-k]at f2;have o:=JQ (A:=fy c act g) (ks:=(fy c act f).map Int.toNat);rw[<-k]at o;unfold bd;rw[dD d,dD e];have s:=ip l;have t:=ip m;generalize ch (fy c act g) ((fy c act f).map Int.toNat)=M at*;generalize fy c act g=A at*;generalize fy c act f=C at*
 have q:decide ((0:Int)< (M:Int))=A.any fun i=>C.contains i:=by
  rw[N8,NI, <-o];omega
 rw[<-q];unfold aA ax at f0 f1;refine qf func166 call166 ntmps166 results166 ?_;have F:=kv Us Uv d e s t;exact D0 f0 f1 f2
def Gg(env:cf)(c:aq)(h:ct c)(act:List Int)(z:act.length<=1000000)(T: ∀x∈act,fi c x=true)(l:List Nat)(V:l.length<=1000)(y: ∀n∈l,n<c.trans.length)(n:Nat)(A:n<c.trans.length):
 b8 prog env 115 [.agg (aA c),bs act, .seq 1 (l.map aB),I n] (.seq 1 ((l' c act l n).map aB)):=by
 have J:=h.Z6;have f0:=fun k y=>vj env c h act z T k n y A;have f2:=fun i k=>gf env c h.toRight i k;obtain⟨G,p⟩:=gE A;have M:=ip A;unfold aA at f0 f2;refine qf func115 call115 ntmps115 results115 ?_;have F:=aA.eq_1;repeat refine st ?_
 refine aH (D:=Nat) (fun j N=>[(1,bs act),(2, .seq 1 (l.map aB)),(3,I n),(4, .loc 4 (N 4) 0 0),(9, .row 11 (N 11)),(10,I j)]) (fun j _=>[(4,⟨5,[aA c],26,false⟩),(11,⟨1,((l.take j).filter fun k=> !bd c act k n).map aB,3,true⟩)]) (fun j _ r=>(j<=l.length/\(l.take j).all (ln c act n)=true)/\r 11=false) (fun j=>l.length-j) 0 ?_ ?_ ?_ ?_
 ·exact⟨⟨NJ _,rfl⟩,rfl⟩
 ·exact qe
 ·have F:=aA.eq_1
  (simp only[go_sem,F])
  try rfl
 rintro j W r ⟨⟨U,e⟩,q⟩;have P:((l.take j).filter fun k=> !bd c act k n).length<=l.length:=NN (NV ..) (by rw[NK];omega);have w:dd (((l.take j).filter fun k=> !bd c act k n).length+1) 8:=aC (by omega) (by omega);by_cases g:j<l.length
 ·obtain⟨k,f⟩:=gE g;have u:=My f;have m:=y k u;obtain⟨E,o⟩:=gE m;have v:=ip g;have B:=aD g (by omega);have C:=ip m;have f3:=f0 k m;have f4:=f2 E.src G.src;have L:=bO f
  have d:((l.take (j+1)).filter fun k=> !bd c act k n)=((l.take j).filter fun k=> !bd c act k n)++if bd c act k n=true then [] else [k]:=by
   rw[L,N6]
   congr 1
   cases R:bd c act k n<;>simp[R]
  have a:ln c act n k=(!bd c act k n||b4 c E.src G.src):=by unfold ln;rw[dD o,dD p]
  have t: ∀b,ln c act n k=b->(l.take (j+1)).all (ln c act n)=b:=fun b O=>by rw[L,QT,e];simp[O]
  cases H:bd c act k n with
  | false=>
    rw[H]at f3 d a;simp only[NW,OB]at d;have F:=qr Us Uu f v B C w q;repeat refine ff f3 ?_
    refine⟨j+1,⟨⟨g,t _ (by rw[a];rfl)⟩,by simp only[go_sem,q]⟩,?_,?_,by omega⟩
    ·exact qe
    have F:=i0 Us Uu d @NC.{0,0};exact qe
  | true=>
    rw[H]at f3 d a;simp only[Nn,OM]at d;simp only[Oh,PF]at a;cases s:b4 c E.src G.src with
    | true=>
      rw[s]at f4 a;have F:=o' Us Uv Uu f o p v B C M q;repeat refine y3 f3 f4 ?_
      refine⟨j+1,⟨⟨g,t _ a⟩,by simp only[go_sem,q]⟩,?_,?_,by omega⟩
      ·exact qe
      have F:=gs Us Uu d;exact qe
    | false=>
      rw[s]at f4 a;rw[Bw u a];have F:=o' Us Uv Uu f o p v B C M q;exact ns f3 f4
 obtain rfl:j=l.length:=by omega
 have v:=nl l.length;rw[NS]at e w;have S:l' c act l n=(l.filter fun k=> !bd c act k n)++[n]:=by unfold l';rw[Mw e]
 have Q:(l' c act l n).map aB=((l.filter fun k=> !bd c act k n).map aB)++[[I (n:Int)]]:=by rw[S,NC];rfl
 rw[Q,NS];generalize (l.filter fun k=> !bd c act k n)=K at*;have F:=ii Us Uu v w q;repeat refine st ?_
 refine fG (dg.frozen 11 8 ⟨1,K.map aB++[[I (n:Int)]],3,true⟩ rfl (Ng 0) (by simp only[go_sem]) (by simp only[go_sem])) ?_;exact aR
def Tr:Except Nat (List Nat)->AV
 | .ok l=> .tuple [.seq 1 (l.map aB),I 0,I (-1)]
 | .error n=> .tuple [b6,I 2,I (1000+(n:Nat))]
def yY(env:cf)(c:aq)(h:ct c)(hs:hP c)(x:tD)(d:Int)(T:E7 c x d)(ev:List UInt8)(l:List Nat)(H:x.1=zL l)(r: ∀k∈l,k<c.Z9.length):b8 prog env 61 [.agg (aA c), .agg (i' x),Sg ev,I d] (Tr (rY c x.1 (IS c x.1 x.2.1 d) ev (x4 c l))):=by
 have M:=T.act
 have z: ∀y∈x.1,fi c y=true:=fun y U=>by
  rw[H]at U;obtain⟨k,a,rfl⟩:=NG.1 U;exact aW.2 (r k a)
 have f2:b8 prog env 113 [.agg (aA c),bs x.1] (.own 3 1 ((x4 c l).map aB)):=by
  have:=yX env c h l (by rw[H,ar]at M;omega) r;rwa [E6 l, <-H]at this
 have f3:=fun k:Nat=>Ag env c h hs x d T k ev;have f4:=fun(o:List Nat)(n:Nat)(S:o.length<=1000)=>(dJ env (zL o) n (by rw[ar];omega)).lend rfl;have f5:=fun(o:List Nat)(S:o.length<=1000)(r: ∀n∈o,n<c.trans.length)(n:Nat)(p:n<c.trans.length)=>Gg env c h x.1 (by omega) z o S r n p
 have Z:(x4 c l).length<=1000:=by
  have:=(kH h.toRight (zL (u3 c l l.length))).length_le_of_subset (l₂:=List.range c.Z9.length) fun m hm=>by
   have hm:m∈x4 c l:=hm;unfold x4 b7 at hm;split at hm
   ·exact NZ.2 ((gS h.toRight m).1 (NF.1 hm).1)
   simp at hm
  simp at this;have Q:=h.Z6;show (b7 c (zL (u3 c l l.length))).length<=1000;omega
 unfold rY;generalize hW:IS c x.1 x.2.1 d=W at*;generalize x4 c l=R at*;unfold i' at f3 |-;unfold aA at f2 f3 f5;refine qf func61 call61 ntmps61 results61 ?_;have F:=aA.eq_1;repeat refine ff f2 ?_
 refine aH (D:=Nat×List Nat) (fun e s=>[(2,Sg ev),(3,I d),(4, .loc 4 (s 4) 0 0),(5, .loc 5 (s 5) 0 0),(11, .row 22 (s 22)),(12, .row 23 (s 23)),(13,I e.1)])
  (fun e _=>[(4,⟨5,[aA c],26,false⟩),(5,⟨5,[[bs x.1,bs x.2.1, .seq 2 (x.2.2.1.map fj), .seq 2 (x.2.2.2.1.map cI),B x.2.2.2.2]],37,false⟩),(22,⟨1,R.map aB,3,true⟩),(23,⟨1,e.2.map aB,3,true⟩)])
  (fun e _ w=>(e.1<=R.length/\dA c W ev R []=dA c W ev (R.drop e.1) e.2/\e.2.length<=e.1/\ ∀n∈e.2,n<c.trans.length)/\w 23=false) (fun e=>R.length-e.1) (0,[]) ?_ ?_ ?_ ?_
 ·exact⟨⟨NJ _,rfl,ND _,fun n p=>by simp at p⟩,by simp only[go_sem]⟩
 ·exact qe
 ·have F:=aA.eq_1
  (simp only[go_sem,F])
  try rfl
 rintro⟨j,o⟩ ws w ⟨⟨hj,b,t,i⟩,q⟩;simp only at hj b t i;by_cases g:j<R.length
 ·obtain⟨k,a⟩:=gE g;have v:=ip g;have P:=aD g (by omega);have f6:=f3 k;rw[aZ a]at b;have q4: ¬(0:Int)<= -1:=by omega
  cases u:dS c W ev ((k:Int)::kf c k) with
  | no=>
    rw[u]at f6;unfold TU at f6;rw[CG u]at b;have F:=m7 Us Uu a v P q4 q;repeat refine ff f6 ?_
    refine⟨(j+1,o),⟨⟨g,b,Qy t,i⟩,by simp only[go_sem,q]⟩,?_,?_,by simp only;omega⟩
    ·exact qe
    have F:=aA.eq_1;exact qe
  | bad n=>
    rw[u]at f6;unfold TU at f6;rw[xZ u]at b;rw[b];show fq _ _ _ _ _ _;unfold Tr;have F:=ii Us Uu a v q;exact kb f6
  | one n=>
    have J:=F9 u;rw[u]at f6;unfold TU at f6;rw[xY u]at b;have V:(0:Int)<=(n:Int):=by omega
    have f7:=f4 o n (by omega);rw[bl]at f7;have X:dd (o.length+1) 8:=aC (by omega) (by omega);cases C:o.contains n with
    | true=>
      have z:(zL o).contains (n:Int)=true:=o8.2 (Mz.1 C);rw[z]at f7;rw[C]at b;simp only[Nn]at b;have F:=m7 Us Uu a v P V q;repeat refine ff f6 ?_
      refine lL f7 ?_;repeat refine st ?_
      refine⟨(j+1,o),⟨⟨g,b,Qy t,i⟩,by simp only[go_sem,q]⟩,?_,?_,by simp only;omega⟩
      ·exact qe
      have F:=aA.eq_1;exact qe
    | false=>
      have z:(zL o).contains (n:Int)=false:=by
       cases Y:(zL o).contains (n:Int) with
       |false=>rfl
       | true=>
         have:=Mz.2 (o8.1 Y);rw[C]at this;cases this
      rw[z]at f7;rw[C]at b;simp only[NW,OB]at b;have F:=qr Us Uu a v P V X q;repeat refine ff f6 ?_
      refine lL f7 ?_;repeat refine st ?_
      refine⟨(j+1,o++[n]),⟨⟨g,b,by simp only[NA,Nf];omega,fun m hm=> ?_⟩,by simp only[go_sem,q]⟩,?_,?_,by simp only;omega⟩
      ·rcases N1.1 hm with hm|hm
       ·exact i m hm
       rw[NP.1 hm];exact J
      ·exact qe
      have F:=gs Us Uu @NC.{0,0};exact qe
 obtain rfl:j=R.length:=by omega
 have v:=nl R.length;rw[OE]at b;have L:dA c W ev R []= .ok o:=b;rw[L];show fq _ _ _ _ _ _;unfold Eb Tr
 have G: ∀m,m<=o.length->((o.take m).foldl (l' c x.1) []).length<=m/\ ∀n∈(o.take m).foldl (l' c x.1) [],n<c.trans.length:=fun m=>by
  induction m with
  |zero=>exact fun _=>⟨by simp,fun n p=>by simp at p⟩
  | succ m ih=>
    intro hm;obtain⟨i1,N⟩:=ih (by omega);obtain⟨n,p⟩: ∃n,o[m]? =some n:=⟨o[m],Ms (by omega)⟩;rw[bY _ _ p];refine⟨NN (take_len ..) (by omega),fun k r=> ?_⟩;rcases ua r with r|rfl
    ·exact N k r
    exact i _ (My p)
 have F:=gs Us v q;repeat refine st ?_
 refine fG (dg.frozen 59 17 ⟨1,[],3,true⟩ rfl (Ng 0) (by simp only[go_sem]) (by simp only[go_sem])) ?_;try clear f4 f6
 refine aH (D:=Nat) (fun m s=>[(4, .loc 4 (s 4) 0 0),(5, .loc 5 (s 5) 0 0),(12, .row 23 (s 23)),(17, .seq 1 (((o.take m).foldl (l' c x.1) []).map aB)),(18,I m)])
  (fun m _=>[(4,⟨5,[aA c],26,false⟩),(5,⟨5,[[bs x.1,bs x.2.1, .seq 2 (x.2.2.1.map fj), .seq 2 (x.2.2.2.1.map cI),B x.2.2.2.2]],37,false⟩),(23,⟨1,o.map aB,3,true⟩)])
  (fun m _ _=>m<=o.length) (fun m=>o.length-m) 0 ?_ ?_ ?_ ?_
 ·exact NJ _
 ·(simp only[go_sem,F])
  try rfl
 ·have F:=aA.eq_1;exact qe
 rintro m us es hm;obtain⟨i1,N⟩:=G m hm;by_cases f:m<o.length
 ·obtain⟨n,p⟩:=gE f;have O:=ip f;have p2:=aD f (by omega);have f6:=f5 _ (by omega) N n (i n (My p));have K:=bY (l' c x.1) [] p;rw[<-K]at f6;generalize (o.take m).foldl (l' c x.1) []=A at*;generalize E:(o.take (m+1)).foldl (l' c x.1) []=A2 at*;have F:=ii Us Uu p O p2;repeat refine ff f6 ?_
  refine⟨m+1,f,?_,?_,by omega⟩
  ·have F:=ai Uu E;exact qe
  have F:=aA.eq_1;exact qe
 obtain rfl:m=o.length:=by omega
 have O:=nl o.length;rw[NS];have F:=O;exact fc
end
section
open Go.RowKit Go.ChangeShapes Go.WideShapes Go.ChangeAt Go.Deep
def WB{H:Type}(P:Program)(t:TypeId)(d:DataW H):Prop:= ∀z∈DataW.weights P t d,z<=reachBytes
section
variable {H:Type} {enc:TypeId×Value->H} {P:Program} {w:World} {base:Nat} {spare:Nat->Bool} {held:Bool}
theorem BO{e:TypeId}{d:DataW H} : ∀ {l:List (DataW H)},d∈l-> ∀z∈DataW.weights P e d,z∈DataW.weightsAll P e l
 | a::r,h,z,b=>by
   unfold DataW.weightsAll;rcases NX.1 h with rfl|h
   ·exact Ns _ b
   exact Ov _ (BO h z b)
theorem WB.elem{t e:TypeId}{es rs:List (DataW H)}(b:P.underlying t=some (.slice e))(h:WB P t (.slice es rs)){d:DataW H}(a:d∈es):WB P e d:=fun z c=>by
 refine h z ?_;unfold DataW.weights;rw[b];exact O2 _ (Ns _ (BO a z c))
theorem WB.size{t e:TypeId}{es rs:List (DataW H)}(a:P.underlying t=some (.slice e))(h:WB P t (.slice es rs)):es.length*P.bytesOf e<=reachBytes:=by
 refine NN ?_ (h ((es.length+rs.length)*P.bytesOf e) ?_)
 ·exact Ni _ (Ru ..)
 unfold DataW.weights;rw[a];exact QQ ..
theorem wO: ∀ {ts:List TypeId}{l:List (DataW H)}{i:Nat}{t:TypeId}{d:DataW H},ts[i]? =some t->l[i]? =some d-> ∀z∈DataW.weights P t d,z∈DataW.weightsEach P ts l
 |t::ts,d::l,0,_,_,rfl,rfl,z,a=>by unfold DataW.weightsEach;exact Ns _ a
 | t::ts,d::l,i+1,_,_,b,c,z,a=>by
   unfold DataW.weightsEach;exact Ov _ (wO (i:=i) (by simpa using b) (by simpa using c) z a)
 |[],_,i,_,_,b,_,z,a=>by simp at b
 |_::_,[],i,_,_,_,c,z,a=>by simp at c
theorem WB.part{t:TypeId}{a:Array Field}{ps:List (DataW H)}(e:P.underlying t=some (.struct a))(h:WB P t (.agg ps)){i:Nat}{f:Field}{d:DataW H}(c:a[i]? =some f)(b:ps[i]? =some d):WB P f.type d:=fun z g=>by
 refine h z ?_;unfold DataW.weights;rw[e];refine wO (i:=i) ?_ b z g;rw[NE,Pg,c];rfl
end
section
variable {H:Type} {enc:TypeId×Value->H} {P:Program} {w:World} {base:Nat} {spare:Nat->Bool} {held:Bool}
end
section
variable {H:Type} {enc:TypeId×Value->H} {w:World} {base:Nat} {spare:Nat->Bool} {held:Bool}
end
end
section
open Go.RowKit Go.ChangeShapes Go.WideShapes Go.ChangeAt Go.Deep
section
variable {H:Type} {enc:TypeId×Value->H} {w:World} {base:Nat} {spare:Nat->Bool} {held:Bool}
end
end
section
open Go.RowKit
def DC(env:cf)(l:List eg)(t:l.length<=9223372036854775807)(h: ∀m∈l,m.2.length<=9223372036854775807):b8 prog env 35 [.seq 2 (l.map fj), .seq 2 (l.map fj)] (B true):=by
 refine qf func35 call35 ntmps35 results35 ?_;repeat refine nw ?_
 refine Q' l.length (by omega) (fun j r=>[(0, .seq 2 (l.map fj)),(1, .seq 2 (l.map fj)),(5,I j)]) (fun _ _=>[]) (fun _ _ _=>True) trivial ?_ ?_
 ·rintro j s e b c p _;obtain⟨x,d⟩:=gE b;have i:=h x (My d);have F:=gs UF d c;repeat refine st ?_
  refine lq x.2.length (by omega) (fun k r=>[(0, .seq 2 (l.map fj)),(1, .seq 2 (l.map fj)),(5,I j),(6,I k)]) (fun _ _=>[]) (fun _ _ _=>True) trivial ?_ ?_
  ·rintro k q g a f o _;obtain⟨y,n⟩:=gE a;have F:=m7 UF UB d n c f o;repeat refine st ?_
   exact qn (k+1) ⟨a,trivial⟩
  rintro q g f _;have F:=ii UF d c p f;repeat refine st ?_
  exact qn (j+1) ⟨b,trivial⟩
 rintro s e c _;have F:=c;exact fc
def lA(env:cf)(A V:List Int)(x:tD)(h:zw x)(q:A.length=x.1.length)(s:V.length=x.2.1.length):b8 prog env 17 [.agg (i' (A,V,x.2.2)), .agg (i' x)] (B ((A==x.1)&&(V==x.2.1))):=by
 have n:maxLen=9223372036854775807:=rfl;have f0:=DC env x.2.2.1 (n ▸ h.2.1.1) fun m y=>n ▸ h.2.1.2 m y;have E:x.2.2.2.1.length<=9223372036854775807:=n ▸ h.2.2.1;have r:x.1.length<=9223372036854775807:=n ▸ h.1.1;have w:x.2.1.length<=9223372036854775807:=n ▸ h.1.2;have z:((A.length:Int) != (x.1.length:Int))=false:=by simp[q]
 have C:((V.length:Int) != (x.2.1.length:Int))=false:=by simp[s]
 refine qf func17 call17 ntmps17 results17 ?_;have F:=gs UK z C;repeat refine ff f0 ?_
 refine aH (D:=Nat) (fun i j=>[(2, .loc 2 (j 2) 0 0),(3, .loc 3 (j 3) 0 0),(5,I i)]) (fun _ _=>[(2,⟨5,[i' (A,V,x.2.2)],37,false⟩),(3,⟨5,[i' x],37,false⟩)]) (fun i _ _=>i<=x.2.2.2.1.length) (fun i=>x.2.2.2.1.length-i) 0 ?_ ?_ ?_ ?_
 ·exact NJ _
 ·exact qe
 ·have F:=i'.eq_1;exact qe
 rintro i l c p;by_cases a:i<x.2.2.2.1.length
 ·obtain⟨t,d⟩:=gE a;have b:=ip a;have k:=aD a (by omega);have F:=ii UK UD b k d;repeat refine st ?_
  refine⟨i+1,a,?_,?_,by omega⟩
  ·exact qe
  have F:=i'.eq_1;exact qe
 have b: ¬(i:Int)< (x.2.2.2.1.length:Int):=by omega
 have F:=ai UK b;repeat refine st ?_
 try clear p a b
 refine aH (D:=Nat) (fun i j=>[(2, .loc 2 (j 2) 0 0),(3, .loc 3 (j 3) 0 0),(6,I i)]) (fun _ _=>[(2,⟨5,[i' (A,V,x.2.2)],37,false⟩),(3,⟨5,[i' x],37,false⟩)]) (fun i _ _=>i<=A.length/\A.take i=x.1.take i) (fun i=>A.length-i) 0 ?_ ?_ ?_ ?_
 ·exact⟨NJ _,rfl⟩
 ·exact qe
 ·have F:=i'.eq_1;exact qe
 try clear l c
 rintro i l c ⟨p,d⟩;by_cases a:i<A.length
 ·obtain⟨u,f,_⟩:=aS a;obtain⟨v,g,_⟩:=aS (show i<x.1.length by omega);have b:=ip a;have o:=ip (show i<x.1.length by omega);have k:=aD a (by omega);cases e:(u==v)
  ·rw[wQ f g (by simpa using e)];have F:=qs UK UB b k o f g e jM;exact fc
  have F:=qs UK UB b k o f g e jM;repeat refine st ?_
  refine⟨i+1,⟨a,Sf d f g (by simpa using e)⟩,?_,?_,by omega⟩
  ·exact qe
  have F:=i'.eq_1;exact qe
 have b: ¬(i:Int)< (A.length:Int):=by omega
 rw[BZ d (by omega) (by omega),Np];have F:=ai UK b;repeat refine st ?_
 try clear p a b d
 have F:=i'.eq_1;refine lq V.length (by omega) (fun i j=>[(2, .loc 2 (j 2) 0 0),(3, .loc 3 (j 3) 0 0),(7,I i)]) (fun _ _=>[(2,⟨5,[i' (A,V,x.2.2)],37,false⟩),(3,⟨5,[i' x],37,false⟩)]) (fun i _ _=>V.take i=x.2.1.take i) rfl ?_ ?_
 ·try clear l c
  rintro i l c a b k d;obtain⟨u,f,_⟩:=aS a;obtain⟨v,g,_⟩:=aS (show i<x.2.1.length by omega);have o:=ip (show i<x.2.1.length by omega);cases e:(u==v)
  ·rw[wQ f g (by simpa using e)];have F:=qs UK UB b k o f g e jM;exact fc
  have F:=qs UK UB b k o f g e jM;repeat refine st ?_
  refine⟨i+1,⟨a,Sf d f g (by simpa using e)⟩,?_,?_,by omega⟩
  ·exact qe
  have F:=i'.eq_1;exact qe
 try clear l c
 rintro l c b d;rw[BZ d (by omega) (by omega)];have F:=ai UK b;exact fc
def lU{c:aq}(h:ct c){mem:List eg}(b:bm c mem=true):mem.length<=32/\ ∀m∈mem,dd m.2.length 8:=
 ⟨NN (yy (KM b)) h.Z6,fun m a=>aC (NN (tG h b m a).2 (by decide)) (by omega)⟩
def F7{c:aq}(h:ct c){act:List Int}{f:List Nat}(b:Fit c act f):f.length<=64:=by
 have a:f.Nodup:=b.two.imp fun h=>h.1
 have:=a.length_le_of_subset (l₂:=List.range c.trans.length) fun n e=>by
  obtain⟨t,g,_⟩:=b.real n e;exact NZ.2 (Mt.1 g).1
 have d:=h.ZO;simp at this;omega
def KS{c:aq}{act:List Int}{f:List Nat}(a:Fit c act f): ∀n∈f,∃t,c.trans[n]? =some t:=fun n b=>by
 obtain⟨t,d,_⟩:=a.real n b;exact⟨t,d⟩
def IR(env:cf)(g h f:Addr)(c:aq)(d now:Int)(E:zs env g h f c d now)(x:tD)(b:CD c x)(j:x.1.length<=100)(n:x.2.1.length<=4096)(m:dd x.2.2.2.1.length 24)(ts:List Nat)(e:Fit c x.1 ts)(l:b8 prog env 133 [Sg [109,105,99,114,111,46,83,116,101,112],aG c, .agg (i' x),I d] ik):
 b8 prog env 138 [aG c, .agg (i' x), .seq 1 (ts.map aB),I d,I now] (wG h f (md c d now (bj x) ts)):=by
 obtain⟨s,k⟩:=lU E.h b.mem;obtain⟨_,a⟩:=jI E.h b.lg b.mem (vm E.h b.lg e);obtain⟨t,r⟩:=lU E.h a;have i:=F7 E.h e
 exact IQ env g h f c d now E x j n (by omega) k m ts l (LP env g f E.he c E.h E.hs d now (bj x) (show x.1.length<=1000 by omega) b.lg ts e (by omega))
  (Im env g h f c d now E (bj x) b.beg j b.lg b.mem (show x.2.2.1.length<=1000000 by omega) k ts (KS e) i (vm E.h b.lg e) a ⟨show (nr c x.1 (zL (b7 c (dj c x.1 ts))) x.2.2.1).length<=1000000 by omega,r⟩ fun u o p q=>(uc E.h b.lg e E.hd E.hn a o p q).1)
def DT(env:cf)(c:aq)(h:ct c)(m:c.vars.length<=8)(d now:Int)(i:aJ d=true)(j:0<=now/\now<=1099511627776)(x:tD)(b:CD c x)(l:x.1.length<=100)(ts:List Nat)(f:Fit c x.1 ts):
 b8 prog env 62 [.agg (aA c), .agg (i' x), .seq 1 (ts.map aB),I d,I now] (TO d now (md c d now (bj x) ts)):=by
 obtain⟨q,r⟩:=lU h b.mem;obtain⟨e,a⟩:=jI h b.lg b.mem (vm h b.lg f);obtain⟨s,t⟩:=lU h a;obtain⟨k,g⟩:=MO h b.lg f;exact Gh env c h (by omega) d now i j x b.beg l b.lg (by omega) ts (KS f) (F7 h f) k g a (by omega) e.symm fun u n o p=>(uc h b.lg f i j a n o p).1
structure Si(c:aq)(x:tD):Prop where
 act:x.1.length<=32
 vars:x.2.1.length<=4096
 mem:x.2.2.1.length<=32
 ZN: ∀m∈x.2.2.1,dd m.2.length 8
 Z2:x.2.2.2.1.length<=8
 nms: ∀t∈x.2.2.2.1,t.1.length<=32
def e9{c:aq}(h:ct c)(f:c.vars.length<=4096){x:tD}(a:CD c x):Si c x:=by
 obtain⟨g,i⟩:=lU h a.mem;have d:=JS a.lg;have b:=h.Z6
 exact⟨by omega,by rw[a.len];exact f,g,i,a.ZM,fun t e=>by
  have:=(a.Z2.each t e).1;unfold bp at this;simp only[Mx,NI]at this
  exact this.1.1⟩
structure CT(env:cf)(a1 a2 a6 a8:Addr)(c:aq)(now:Int):Prop where
 he:gb env a1 a8
 h2:env 1=some (bt a2)
 h6:env 5=some (bt a6)
 h:ct c
 hs:hP c
 hn:0<=now/\now<=1099511627776
def sa{env:cf}{a b:Addr}(j:gb env a b){c:aq}(h:ct c)(f:hP c){x:tD}{d:Int}(e:cq c (M' x)=true)(l:x.2.2.2.2=false)(i:aJ d=true)(g:List UInt8):b8 prog env 133 [Sg g,aG c, .agg (i' x),I d] ik:=by
 have k:=e9 h f.vars (dp e);have n:=k.act;have o:=k.vars;have p:=k.mem;have q:=k.Z2;exact Ge env a b j c h f x ⟨show x.1.length<=1000000 by omega,show x.2.1.length<=1000000 by omega,show x.2.2.1.length<=1000000 by omega,show x.2.2.2.1.length<=9223372036854775807 by omega⟩ (fun t m=>NN (k.nms t m) (by omega)) k.ZN g d e l i
def Hw{env:cf}{f b g:Addr}(m:gb env f g)(o:env 1=some (bt b)){c:aq}(h:ct c)(e:hP c){x:tD}{d:Int}(i:cq c (M' x)=true)(q:x.2.2.2.2=false)(j:aJ d=true)(ev:List UInt8):b8 prog env 75 [aG c, .agg (i' x),Sg ev,I d] (I6 b (rY c x.1 (IS c x.1 x.2.1 d) ev (x4 c (x.1.map Int.toNat)))):=by
 have a:=dp i;have k:=(e9 h e.vars a).act;obtain⟨l,n,p⟩:=tQ a.lg;rw[yz n];exact BL env f b g m o c h e x d ⟨by omega,a.len,a.fit,j,a.lg⟩ ev (sa m h e i q j _) l n p
def GT{env:cf}{e a i b:Addr}{c:aq}{now:Int}(E:CT env e a i b c now){x:tD}{d:Int}(g:cq c (M' x)=true)(l:x.2.2.2.2=false)(h:aJ d=true){ts:List Nat}(j:Fit c x.1 ts):b8 prog env 138 [aG c, .agg (i' x), .seq 1 (ts.map aB),I d,I now] (wG a b (md c d now (bj x) ts)):=by
 have f:=dp g;have k:=e9 E.h E.hs.vars f;have n:=k.act;have m:=k.Z2;exact IR env e a b c d now ⟨E.he,E.h2,E.h,E.hs,h,E.hn⟩ x f (by omega) k.vars (aC (NN m (by omega)) (by omega)) ts j (sa E.he E.h E.hs g l h _)
def nT(env:cf)(a b:Addr)(d:gb env a b)(s:List UInt8):b8 prog env 42 [Sg s] (c0 (-1) (bt a)):=by
 have c:=gg d.e1;have f1:=b9 env s a;refine qf func42 call42 ntmps42 results42 ?_;have F:=c;exact kb f1
def Bx(c:aq)(now:Int)(F:Nat)(o:Bool)(m:mw)(g:Nat->Nat):List AV:=[.ref 9 [cy c] 0 0,bs m.x.1,bs m.x.2.1, .seq 2 (m.x.2.2.1.map fj), .seq 2 (m.x.2.2.2.1.map cI),B m.x.2.2.2.2, .row 1002 (g 1002), .row 1001 (g 1001),I m.steps,B o,I m.data,I now,I F]
def UI:=@Bx.eq_1
def RQ(c:aq)(now:Int)(F:Nat)(o:Bool)(m:mw)(g:Nat->Nat):List (Nat×Row):=[(1000,⟨13,[Bx c now F o m g],106,false⟩),(1001,⟨1,m.said.map aa,3,true⟩),(1002,⟨2,m.wait.map cI,50,true⟩)]
def UJ:=@RQ.eq_1
def DM(k:Nat):Bool:=k==1001||k==1002
def UE:=@DM.eq_1
def mi(b c d:Addr):tn->AV
 |none=>ik
 |some (k,a)=>c0 (a.headD (-1)) (fp a.tail (bt (if k=2 then b else if k=6 then c else d)))
def aN(a b c:Addr)(e:tn)(L:Nat->Nat->Option (Nat×Nat)):(mi a b c e).ren L=mi a b c e:=by rcases e with _|⟨_,_⟩<;>rfl
def Bn(env:cf)(q r h:Addr)(s:env 7=some (bt h))(c:aq)(now:Int)(F:Nat)(m:mw)(outs:List Int)(rais:List (List UInt8×Int))(t:m.said.length<=256)(w:m.wait.length<=16)(u:outs.length<=256)(v:rais.length<=16):
 i9 prog env 38 [1000,1001,1002] DM (fun g=>[.loc 1000 (g 1000) 0 0, .agg [bs outs, .seq 2 (rais.map cI)]]) (RQ c now F false m) (RQ c now F false (sy m outs rais).1) (fun _=>mi q r h (sy m outs rais).2):=by
 have o:=gg s;have f0:=b9 env [109,97,99,114,111,46,97,100,100] h;have l:dd (m.said.length+outs.length) 8:=aC (by omega) (by omega);have n:dd (m.wait.length+rais.length) 24:=aC (by omega) (by omega);have x:(m.said++outs).length=m.said.length+outs.length:=NA;have y:(m.wait++rais).length=m.wait.length+rais.length:=NA;unfold sy;by_cases k:256< (m.said++outs).length\/16< (m.wait++rais).length
 ·rw[Mw k];show i9 _ _ _ _ _ _ _ _ fun _=>c0 (-1) (bt h);unfold RQ Bx;simp only[NC];by_cases i:(256:Int)< ((m.said.length+outs.length:Nat):Int)
  ·refine qi func38 call38 ntmps38 results38 ?_;intro p f a;obtain⟨b,d,e⟩:=S5 a;have F:=qr UE o l n i b d e;repeat refine ff f0 ?_
   exact rI
  have j:(16:Int)< ((m.wait.length+rais.length:Nat):Int):=by omega
  refine qi func38 call38 ntmps38 results38 ?_;intro p f a;obtain⟨b,d,e⟩:=S5 a;have F:=qs UE o l n i j b d e;repeat refine ff f0 ?_
  exact rI
 rw[Mv k];have i: ¬(256:Int)< ((m.said.length+outs.length:Nat):Int):=by omega
 have j: ¬(16:Int)< ((m.wait.length+rais.length:Nat):Int):=by omega
 show i9 _ _ _ _ _ _ _ _ fun _=>ik;unfold RQ Bx;simp only[NC];refine qi func38 call38 ntmps38 results38 ?_;intro p f a;obtain⟨b,d,e⟩:=S5 a;have F:=qr UE l n i j b d e;repeat refine st ?_
 exact rI
def HO{env:cf}{A h e i:Addr}{c:aq}{now:Int}(E:CT env A h e i c now){F:Nat}{m:mw}(d:kE c F m)(w:m.x.2.2.2.2=false){l:List Nat}(v:Fit c m.x.1 l):
 i9 prog env 76 [1000,1001,1002] DM (fun g=>[.loc 1000 (g 1000) 0 0, .seq 1 (l.map aB)]) (RQ c now F false m) (RQ c now F false (rt c now F m l).1) (fun _=>mi h e i (rt c now F m l).2):=by
 have C:=gg E.h6;have f6:=b9 env [109,97,99,114,111,46,115,116,101,112] e;have b:=GT E d.inst w d.data v;unfold rt;by_cases k:F<=m.steps
 ·rw[Mw k];have t:(F:Int)<=(m.steps:Int):=by omega
  show i9 _ _ _ _ _ _ _ _ fun _=>c0 (-1) (bt e);refine qi func76 call76 ntmps76 results76 ?_;intro z q a;obtain⟨j,n,p⟩:=S5 a;have F:=qr UJ UI UE C t j n p;repeat refine ff f6 ?_
  exact rI
 rw[Mv k];have t: ¬(F:Int)<=(m.steps:Int):=by omega
 have x:=sP E.h d.data E.hn (dp d.inst) w v;unfold aG i' at b;rcases u:md c m.data now (bj m.x) l with⟨r,_|⟨k,f⟩⟩
 ·rw[u]at b x;obtain⟨y,_,_⟩:=x rfl;have s:=Bn env h e i E.he.e8 c now F ⟨N' r,m.said,m.steps+1,m.wait,m.data⟩ r.outs r.Z8 d.said d.wait y.outs y.Z8;have G:=d.steps;have H:IntKind.i64.wrap ((m.steps:Int)+1)=((m.steps+1:Nat):Int):=aD (show m.steps<F by omega) (by have:=d.ZQ;omega);unfold wG at b;unfold RQ Bx at s;unfold FL;simp only at b s |-;generalize sy _ r.outs r.Z8=Y at*;unfold N' at s;simp only at s;unfold RQ Bx;refine qi func76 call76 ntmps76 results76 ?_;intro z q a;obtain⟨j,n,p⟩:=S5 a;have F:=kv UE t H j n p;repeat (first|refine oO rfl (by simp only[go_sem,aN,F];exact⟨rfl,rfl⟩) ?_|refine gR ?_|refine gO ?_|refine oC rfl (b) (by simp only[go_sem,aN,F];exact iR) (by simp only[go_sem,aN,F];exact⟨rfl,rfl⟩) ?_|refine oZ (kj ?_)|refine oZ ?_|refine oS ?_|refine gT ?_|refine gD mixed ?_|refine oB ?_|refine oK ?_|(refine oX ?_;simp only[bD,ba, ↓reduceIte,Nat.reduceEqDiff,reduceCtorEq])|refine oY (by simp only[go_sem,aN,F];exact iR) ?_|refine oN (by simp only[go_sem,aN,F];exact iR) ?_)
  refine im [(1000,1000),(1001,1001),(1002,1002)] rfl (s) (by decide) (by decide) (by simp only[go_sem,aN,F]<;>rfl) (by simp only[go_sem,aN,F,NH]<;>trivial) (by simp only[go_sem,aN,F,NH]<;>trivial) (by intro o;simp only[go_sem,aN,F,hU,NH]<;>trivial) (by intro o;simp only[go_sem,aN,F]<;>rfl) (by simp only[go_sem,aN,F,hU];exact iR) (by simp only[go_sem,aN,F,hU];exact iR) ?_;repeat (first|refine oO rfl (by simp only[go_sem,aN,F];exact⟨rfl,rfl⟩) ?_|refine gR ?_|refine gO ?_|refine oZ (kj ?_)|refine oZ ?_|refine oS ?_|refine gT ?_|refine gD mixed ?_|refine oB ?_|refine oK ?_|(refine oX ?_;simp only[bD,ba, ↓reduceIte,Nat.reduceEqDiff,reduceCtorEq])|refine oY (by simp only[go_sem,aN,F];exact iR) ?_|refine oN (by simp only[go_sem,aN,F];exact iR) ?_)
  (refine aM ?_;(try simp only[bD,ba, ↓reduceIte,Nat.reduceEqDiff,reduceCtorEq]);refine sZ ?_ ?_<;>simp only[go_sem,aN,F,R7,NH,SU,RO,AV.tuple.injEq,Ql,ne_eq])
 rw[u]at b;unfold wG at b;have D:=sQ c m.data now (bj m.x) l (k,f) (by rw[u])
 have B:cr h i (some (k,f))=c0 (f.headD (-1)) (fp f.tail (bt (if k=2 then h else if k=6 then e else i))):=by
  unfold cr;simp only;rcases D with rfl|rfl<;>rfl
 simp only[B]at b;show i9 _ _ _ _ _ _ _ _ fun _=>c0 (-1) (c0 (f.headD (-1)) (fp f.tail (bt (if k=2 then h else if k=6 then e else i))));generalize fp f.tail _=V at*;refine qi func76 call76 ntmps76 results76 ?_;intro z q a;obtain⟨j,n,p⟩:=S5 a;have F:=m7 UJ UI UE t j n p;repeat refine ff b ?_
 exact rI
def zB{env:cf}{w j r s:Addr}{c:aq}{now:Int}(E:CT env w j r s c now){F:Nat}{m:mw}(p:kE c F m)(u:m.x.2.2.2.2=false)(ev:List UInt8):
 i9 prog env 44 [1000,1001,1002] DM (fun g=>[.loc 1000 (g 1000) 0 0,Sg ev]) (RQ c now F false m) (RQ c now F false (v2 c now F m ev).1.1) (fun _=> .tuple [B (v2 c now F m ev).2,mi j r s (v2 c now F m ev).1.2]):=by
 have b:=Hw E.he E.h2 E.h E.hs p.inst u p.data ev;change b8 _ _ _ _ (I6 j (lx c m ev)) at b;unfold aG i' at b;unfold v2;cases q:lx c m ev with
 | error n=>
   rw[q]at b;unfold I6 at b;show i9 _ _ _ _ _ _ _ _ fun _=> .tuple [B false,c0 (1000+(n:Nat)) (bt j)];refine qi func44 call44 ntmps44 results44 ?_;intro v i a;obtain⟨d,e,h⟩:=S5 a;have F:=kv UJ UI UE d e h;repeat refine ff b ?_
   exact rI
 | ok f=>
   rw[q]at b;unfold I6 at b;simp only at b;cases f with
   | nil=>
     show i9 _ _ _ _ _ _ _ _ fun _=> .tuple [B false,ik];refine qi func44 call44 ntmps44 results44 ?_;intro v i a;obtain⟨d,e,h⟩:=S5 a;have F:=kv UJ UI UE d e h;repeat refine ff b ?_
     exact rI
   | cons k l=>
     have t:=HO E p u (qN E.h (dp p.inst).lg q);simp only;generalize rt c now F m (k::l)=Y at*;have x:(((k::l).map aB).length:Int)≠0:=by simp;omega
     simp only[Nh]at b t;refine qi func44 call44 ntmps44 results44 ?_;intro v i a;obtain⟨d,e,h⟩:=S5 a;have F:=kv UJ UI UE d e h;repeat (first|refine oO rfl (by simp only[go_sem,aN,F];exact⟨rfl,rfl⟩) ?_|refine gR ?_|refine gO ?_|refine oC rfl (b) (by simp only[go_sem,aN,F];exact iR) (by simp only[go_sem,aN,F];exact⟨rfl,rfl⟩) ?_|refine oZ (kj ?_)|refine oZ ?_|refine oS ?_|refine gT ?_|refine gD mixed ?_|refine oB ?_|refine oK ?_|(refine oX ?_;simp only[bD,ba, ↓reduceIte,Nat.reduceEqDiff,reduceCtorEq])|refine oY (by simp only[go_sem,aN,F];exact iR) ?_|refine oN (by simp only[go_sem,aN,F];exact iR) ?_)
     refine im [(1000,1000),(1001,1001),(1002,1002)] rfl (t) (by decide) (by decide) (by simp only[go_sem,aN,F]<;>rfl) (by simp only[go_sem,aN,F,NH]<;>trivial) (by simp only[go_sem,aN,F,NH]<;>trivial) (by intro o;simp only[go_sem,aN,F,hU,NH]<;>trivial) (by intro o;simp only[go_sem,aN,F]<;>rfl) (by simp only[go_sem,aN,F,hU];exact iR) (by simp only[go_sem,aN,F,hU];exact iR) ?_;repeat (first|refine oO rfl (by simp only[go_sem,aN,F];exact⟨rfl,rfl⟩) ?_|refine gR ?_|refine gO ?_|refine oZ (kj ?_)|refine oZ ?_|refine oS ?_|refine gT ?_|refine gD mixed ?_|refine oB ?_|refine oK ?_|(refine oX ?_;simp only[bD,ba, ↓reduceIte,Nat.reduceEqDiff,reduceCtorEq])|refine oY (by simp only[go_sem,aN,F];exact iR) ?_|refine oN (by simp only[go_sem,aN,F];exact iR) ?_)
     (refine aM ?_;(try simp only[bD,ba, ↓reduceIte,Nat.reduceEqDiff,reduceCtorEq]);refine sZ ?_ ?_<;>simp only[go_sem,aN,F,R7,NH,SU,RO,AV.tuple.injEq,Ql,ne_eq])
def m0(x:tD)(d:Int):mw:=⟨x,[],0,[],d⟩
def NM:Nat:=5000
def Lp(c:aq)(now:Int)(F:Nat):mw×tn->mw×tn
 |(m,none)=>y1 c now F NM m
 |y=>y
def iK(c:aq)(now:Int)(F:Nat)(x:tD)(ev:List UInt8)(d:Int):mw×tn:=Lp c now F (v2 c now F (m0 x d) ev).1
def cd(c:aq)(now:Int)(F:Nat):mw×tn:=match gu c now with
 |(r,none)=>Lp c now F (sy (m0 (N' r) 0) r.outs r.Z8)
 |(r,some e)=>(m0 (N' r) 0,some (e.1, -1::e.2.headD (-1)::e.2.tail))
def Kb{c:aq}{F:Nat}{x:tD}{d:Int}(b:cq c (M' x)=true)(f:aJ d=true)(a:F<=256):kE c F (m0 x d):=⟨b,f,NJ _,fun e g=>by simp[m0]at g,NJ _,NJ _,a⟩
def El{c:aq}{F:Nat}{m:mw}(h:kE c F m):jS F m<NM:=by
 have a:=h.ZQ;have b:=h.wait;unfold jS NM;have:(F-m.steps)*17<=256*17:=Ni _ (by omega);omega
section
variable {c:aq} (h:ct c) {now:Int} (hn:0<=now/\now<=1099511627776)
include h hn
theorem Em{F:Nat}{y:mw×tn}(b:y.2=none->kE c F y.1)(a:(Lp c now F y).2=none):kE c F (Lp c now F y).1/\y.2=none:=by
 obtain⟨m,_|e⟩:=y
 ·exact⟨(K8 h hn NM m (b rfl) a).1,rfl⟩
 cases a
theorem sW{F:Nat}{x:tD}{ev:List UInt8}{d:Int}(b:kE c F (m0 x d))(e:x.2.2.2.2=false)(a:(iK c now F x ev d).2=none):kE c F (iK c now F x ev d).1:=
 (Em h hn (fun q=>(km h hn b e q).1) a).1
theorem IX{F:Nat}{m:mw}(a:kE c F m):Li (y1 c now F NM m).2:=Ef h hn NM m a (El a)
theorem yq{F:Nat}{x:tD}{ev:List UInt8}{d:Int}(i:kE c F (m0 x d))(j:x.2.2.2.2=false):Li (iK c now F x ev d).2:=by
 have f:=km h hn i j (ev:=ev);have g:=I1 c now F (m0 x d) ev;unfold iK;rcases a:v2 c now F (m0 x d) ev with⟨⟨m,_|e⟩,b⟩
 ·rw[a]at f;exact IX h hn (f rfl).1
 rw[a]at g;exact g
theorem jm{F:Nat}(e:F<=256)(f: ∀v∈c.vars,aJ v.start=true):((gu c now).2=none->(sy (m0 (N' (gu c now).1) 0) (gu c now).1.outs (gu c now).1.Z8).2=none->kE c F (sy (m0 (N' (gu c now).1) 0) (gu c now).1.outs (gu c now).1.Z8).1):=by
 intro d a;obtain⟨g,i,_⟩:=rA h hn f d;unfold sy at a |-;split at a
 ·cases a
 rename_i b;rw[Mv b];simp only[m0,PY]at b |-;exact⟨g,rfl,show (gu c now).1.Z8.length<=16 by omega,i.raf,show (gu c now).1.outs.length<=256 by omega,NJ _,e⟩
end
end
end Go.Proofs.YtfhkmjbjafeckaaGreatDoor
