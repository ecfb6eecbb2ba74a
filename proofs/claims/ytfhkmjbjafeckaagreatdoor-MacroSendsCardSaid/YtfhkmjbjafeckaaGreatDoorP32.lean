/- Running on, plain: what macro.Send, Settle and Begin come to. No program is named here. -/
import Derived.Test.YtfhkmjbjafeckaaGreatDoorP31
set_option maxRecDepth 100000
set_option maxHeartbeats 16000000
set_option linter.unusedSimpArgs false
set_option linter.defProp false
namespace Go.Proofs.YtfhkmjbjafeckaaGreatDoor
open Go.Proofs.Tryz
open Go.RowKit
section
def b7.seenY{P:Program}{env:b8}{f:FuncId}{cs:List AV}{e:TypeId}{sz:Nat}{es:List (List AV)}(h:b7 P env f cs (.own e sz es)):b7 P env f cs (.seq sz es):=by
 refine⟨h.enter,fun w S t k m p=>(h.calls w S t k m p).mono ?_⟩;rintro x y ⟨v,rfl,l,u,g,i,j,n⟩;obtain⟨d,r,c,s⟩:=L5.seq n;exact⟨v,rfl,l,d,fun b o a=>r b o (g b o a),fun b o a=>(c b o a).elim (i b o) fun q=> .inr q.1,fun b o a=>(c b o a).elim (j b o) fun q=>q.2,s⟩
def Bj(c:aq)(d now:Int): ∀(l:List Int)(r:cD),wD (bT c d now r l).2
 |[],r=>fun x h=>by cases h
 | i::l,r=>by
   unfold bT;split
   ·exact Bj c d now l _
   exact wB _ _ _ _ _
def Fx(c:aq)(d now:Int): ∀(l:List Nat)(r:cD),wD (dX c d now r l).2
 |[],r=>fun x h=>by cases h
 | i::l,r=>by
   unfold dX;split
   ·exact Fx c d now l _
   exact wB _ _ _ _ _
def sK(c:aq)(d now:Int)(r:cD)(ts:List Nat):wD (lP c d now r ts).2:=by
 unfold lP;simp only;have a:=Bj c d now (zL (bt c (dg c r.act ts))).reverse { r with mem:=na c r.act (zL (bt c (dg c r.act ts))) r.mem };split
 ·rename_i e f;have b:=Fx c d now ts e;split
  ·exact CV _ _ _ _ _
  exact b
 exact a
def TU(d now:Int):cD×tD->AV
 |(r,none)=> .agg (fi r d now none)
 |(r,some (k,_))=> .agg [.any, .any, .any, .any, .any,cf r.outs, .seq 2 (r.Z7.map c0),I d,I now,I (k:Nat),I (-1)]
def SE(S:cD×tD)(r:cD)(e:Nat×List Int):Prop:=S.2=some e/\S.1.outs=r.outs/\S.1.Z7=r.Z7
def Ey(c e f g i a b:AV)(d now k:Int):gA (.agg [c,e,f,g,i,a,b,I d,I now,I k,I (-1)]) (.agg [.any, .any, .any, .any, .any,a,b,I d,I now,I k,I (-1)]):=
 .of (.agg (.cons (.any _) (.cons (.any _) (.cons (.any _) (.cons (.any _) (.cons (.any _) (.cons (.refl _) (.cons (.refl _) (.cons (.refl _) (.cons (.refl _) (.cons (.refl _) (.cons (.refl _) .nil)))))))))))) (fun _ _ _ h=>by cases h) (fun _ _ _ h=>by cases h)
def Ge(env:b8)(c:aq)(h:ch c)(hcv:c.vars.length<=1000)(d now:Int)(hd:aL d=true)(hn:0<=now/\now<=1099511627776)(x:nw)(hr:ff c (bn x))(hl:x.1.length<=100)(hb:tI c x.1=true)(hml:x.2.2.1.length<=1000000)(ts:List Nat)(hts: ∀n∈ts,∃t,c.trans[n]? =some t)(htl:ts.length<=64)(G0:List Nat)(hG0:dg c x.1 ts=zL G0)
 (hmem:bc c (na c x.1 (zL (bt c (dg c x.1 ts))) x.2.2.1)=true)(hmem2:(na c x.1 (zL (bt c (dg c x.1 ts))) x.2.2.1).length<=1000000)(hsame:DG c x.1 (zL (bt c (dg c x.1 ts))) x.2.2.1=na c x.1 (zL (bt c (dg c x.1 ts))) x.2.2.1)
 (M: ∀r2:cD,ff c r2->r2.act=x.1.filter (fun k=> !(zL (bt c (dg c x.1 ts))).reverse.contains k)->(ak c d now r2 [] (zL (bt c (zL (toR c (na c x.1 (zL (bt c (dg c x.1 ts))) x.2.2.1) ts))))).1.2=none->tI c (ak c d now r2 [] (zL (bt c (zL (toR c (na c x.1 (zL (bt c (dg c x.1 ts))) x.2.2.1) ts))))).1.1.act=true):
 b7 prog env 62 [.agg (aA c), .agg (hP x), .seq 1 (ts.map aB),I d,I now] (TU d now (lP c d now (bn x) ts)):=by
 have hfew:=h.Z6;have T: ∀y∈x.1,0<=y:=fun y hy=>(IV hb y hy).1;have fL:=fun(n:Nat)(t:tR)(z:c.trans[n]? =some t)=>jr env c h x.1 (by omega) T n t z;have hgl:=uw h x.1;have hlf:=fun t=>gG h x.1 t;have fS:=(lc env c h.toRight G0 (by have:=hgl ts;rw[hG0,am]at this;omega)).lend (al (fun _=>rfl) _);rw[<-hG0]at fS;have hSl:=cW h.toRight (dg c x.1 ts);have fT:=((mF env (zL (bt c (dg c x.1 ts))) (by rw[am];omega)).lend (al (fun _=>rfl) _)).seen;rw[bd]at fT;have fR:=((vd env c h x.1 (zL (bt c (dg c x.1 ts))).reverse (by omega) T (by rw[Ol,am];omega) x.2.2.1 hml).seenY);rw[Im,hsame]at fR;have fTg:=fun(n:Nat)(t:tR)(z:c.trans[n]? =some t)=>yJ env c h (na c x.1 (zL (bt c (dg c x.1 ts))) x.2.2.1) hmem2 n t z hmem;obtain⟨S,P⟩: ∃S,lP c d now (bn x) ts=S:=⟨_,rfl⟩;have hSE:wD S.2:=by rw[<-P];exact sK c d now (bn x) ts
 rw[P]
 replace P:(match bT c d now { bn x with mem:=na c x.1 (zL (bt c (dg c x.1 ts))) x.2.2.1 } (zL (bt c (dg c x.1 ts))).reverse with
  |(u,none)=>(match dX c d now u ts with
    |(r2,none)=>gv c d now r2 (zL (bt c (zL (toR c (na c x.1 (zL (bt c (dg c x.1 ts))) x.2.2.1) ts))))
    |y=>y)
  |y=>y)=S:=P
 generalize hM:na c x.1 (zL (bt c (dg c x.1 ts))) x.2.2.1=g at*;generalize hGG:bt c (dg c x.1 ts)=G at*;unfold aA at fL fS fR fTg;unfold hP;refine qw func62 call62 ntmps62 results62 ?_;have F:=aA.eq_1;repeat refine st ?_
 refine nC 11 9004 0 5 3 1 ?_;refine nC 11 9005 0 6 50 2 ?_;refine bk [(9004,⟨1,[],3,true⟩),(9005,⟨2,[],50,true⟩)] ?_ ?_
 ·exact qe
 refine aH (D:=Nat) (fun j q=>[(2, .seq 1 (ts.map aB)),(5, .loc 5 (q 5) 0 0),(6, .loc 6 (q 6) 0 0),(10, .loc 10 (q 10) 0 0),(11, .loc 11 (q 11) 0 0),(12, .row 22 (q 22)),(13, .row 23 (q 23)),(14,I j)]) (fun j q=>[(5,⟨5,[aA c],26,false⟩),(6,⟨5,[hP x],37,false⟩),(10,⟨11,[[cy,cy,cy,cy,B false,cy,cy,I 0,I 0,I 0,I 0]],91,false⟩),(11,⟨11,[fi (bn x) d now none],91,false⟩),(22,⟨1,(dg c x.1 (ts.take j)).map aa,3,true⟩),(23,⟨1,[],3,true⟩)]) (fun j _ f=>j<=ts.length/\f 10=false/\f 11=false/\f 22=false/\f 23=false) (fun j=>ts.length-j) 0 ?_ ?_ ?_ ?_
 ·refine⟨NG _,?_⟩;simp only[kk,n7,fX,QH,Qx,go_sem];try simp
 ·simp only[kk,n7,fX,Row.see,AV.see,AV.see.seeL,PG,OH,go_sem];try rfl
 ·simp only[kk,n7,fX,Row.see,AV.see,AV.see.seeL,PG,OH,aA,hP,fi,bn,go_sem];exact⟨rfl,rfl⟩
 rintro j ws es ⟨hj,m,o,e2,p⟩;by_cases b:j<ts.length
 ·obtain⟨n,H⟩:=gE b;obtain⟨t,z⟩:=hts n (Mv H);have hnl:=(Mr.1 z).1;have C:=it b;have Y:=aD b (by omega);have Z:=it hnl;have hlft:=hlf t;have q4:(dg c x.1 (ts.take (j+1))).map aa=(dg c x.1 (ts.take j)).map aa++(fj c x.1 t).map aa:=by rw[xO H z,NA]
  have q6:(dg c x.1 (ts.take j)).length<=32*j:=NK (hgl _) (by rw[NJ];omega);have f0:=fL n t z;generalize dg c x.1 (ts.take j)=A at*;generalize fj c x.1 t=Lv at*;have q5:cU (A.length+Lv.length) 8:=aC (by omega) (by omega);unfold ax at f0;have F:=ed Uv UQ Uy Ux H z C Y Z q5 m<|gb o e2 p;repeat refine fc f0 ?_
  refine⟨j+1,⟨b,by simp only[go_sem,m,o,e2,p,NH]⟩,?_,?_,by omega⟩
  ·exact qe
  simp only[q4];exact qe
 obtain rfl:j=ts.length:=by omega
 have C:=nl ts.length;rw[NR,hG0,bd];unfold fk at fR;have hto:=E5 h g;have F:=lE Uv UQ UB fi.eq_2 bn.eq_1 C m o e2 p;repeat refine st ?_
 refine lL fS ?_;repeat refine st ?_
 refine lL fT ?_;repeat refine fc fR ?_
 refine lp (D:=Nat) (fun j q=>[(2, .seq 1 (ts.map aB)),(5, .loc 5 (q 5) 0 0),(6, .loc 6 (q 6) 0 0),(10, .loc 10 (q 10) 0 0),(11, .loc 11 (q 11) 0 0),(12, .seq 1 ((zL G).reverse.map aa)),(13, .row 23 (q 23)),(15,I j)]) (fun j q=>[(5,⟨5,[aA c],26,false⟩),(6,⟨5,[hP x],37,false⟩),(10,⟨11,[[cy,cy,cy,cy,B false,cy,cy,I 0,I 0,I 0,I 0]],91,false⟩),(11,⟨11,[fi { bn x with mem:=g } d now none],91,false⟩),(23,⟨1,(toR c g (ts.take j)).map aB,3,true⟩)]) (fun j _ f=>j<=ts.length/\f 10=false/\f 11=false/\f 23=false) (fun j=>ts.length-j) 0 ⟨NG _,by simp only[go_sem,m,o,p,NH]⟩ ?_;try clear m o e2 p b C hj
 rintro j us fs ⟨hj,m,o,p⟩;by_cases b:j<ts.length
 ·obtain⟨n,H⟩:=gE b;obtain⟨t,z⟩:=hts n (Mv H);have hnl:=(Mr.1 z).1;have C:=it b;have Y:=aD b (by omega);have Z:=it hnl;have q4:(toR c g (ts.take (j+1))).map aB=(toR c g (ts.take j)).map aB++(m6 c t g).map aB:=by rw[sG H z,NA]
  have q6:(toR c g (ts.take j)).length<=32*j:=NK (hto _) (by rw[NJ];omega);have q7:(toR c g (ts.take (j+1))).length<=32*(j+1):=NK (hto _) (by rw[NJ];omega);rw[sG H z,My]at q7;have f0:=fTg n t z;generalize toR c g (ts.take j)=A at*;generalize m6 c t g=Tg at*;have q5:cU (A.length+Tg.length) 8:=aC (by omega) (by omega);unfold ax fk at f0;have F:=ed Uv UB fi.eq_2 bn.eq_1 Uy Ux H z C Y Z<|hU q5 m o p;repeat refine fc f0 ?_
  refine⟨j+1,⟨b,by simp only[go_sem,m,o,p,NH]⟩,?_,?_,by omega⟩
  ·exact qe
  simp only[q4];exact qe
 obtain rfl:j=ts.length:=by omega
 have C:=nl ts.length;rw[NR];have hrev:(zL G).reverse=zL G.reverse:=by unfold zL;rw[List.map_reverse]
 rw[hrev]
 have hGk: ∀k∈G.reverse,k<c.Z9.length:=fun k hk=>by
  rw[<-hGG]at hk;exact lG h.toRight (QL.1 hk)
 have hal:=fun(r:cD) hr hl (l:List j') hll E=>BX env c (by omega) hcv d now hd hn r hr hl l hll E;have hok:=fun(r:cD)(hr:ff c r)(l:List j') E=>jm hd hn (l:=l) hr E;have hgo:=fun(l:List Int)(hl:l.length<=4000)(n:Int)=>((Gi env l hl n).lend (al (fun _=>rfl) _)).seen;have hRl:G.reverse.length<=32:=by rw[Ol];exact hSl
 have K:=(cx hb).ZZ
 have hin0: ∀y∈x.1,fb c y=true:=fun y hy=>by
  obtain⟨_,_,hz,_⟩:=(cx hb).of hy;exact hz
 have hS2l:=cW h.toRight (zL (toR c g ts));have hS2k:=fun(k:Nat)(hk:k∈bt c (zL (toR c g ts)))=>lG h.toRight hk;have W:=((lc env c h.toRight (toR c g ts) (by have:=hto ts;omega)).lend (al (fun _=>rfl) _)).seen;have hen:=fun(r2:cD) hr K hin hl M=>DU env c h hcv d now hd hn r2 hr K hin hl (bt c (zL (toR c g ts))) hS2k (by omega) M;rw[hrev]at P M;have hlk:=lR (bU h) hd hn (l:=zL G.reverse) (r:={ bn x with mem:=g }) { hr with };generalize hTT:bt c (zL (toR c g ts))=T2 at*;generalize G.reverse=R at*;obtain⟨X,hX⟩: ∃X,bT c d now { bn x with mem:=g } (zL R)=X:=⟨_,rfl⟩;rw[hX]at P hlk;have hSX: ∀r e,X=(r,some e)->SE S r e:=fun r e he=>by rw[<-P,he];exact⟨rfl,rfl,rfl⟩
 have hSA: ∀u r e,X=(u,none)->dX c d now u ts=(r,some e)->SE S r e:=fun u r e h1 h2=>by
  rw[<-P,h1];simp only[h2];exact⟨rfl,rfl,rfl⟩
 have hSN: ∀u r,X=(u,none)->dX c d now u ts=(r,none)->gv c d now r (zL T2)=S:=fun u r h1 h2=>by
  rw[<-P,h1];simp only[h2]
 try clear P hTT
 unfold aA at hal hen W;rw[bd R];have F:=n4 Uv UB fi.eq_2 bn.eq_1 C m o p;repeat refine st ?_
 refine oQ (D:=cD×tD) (fun _ q=>[(2, .seq 1 (ts.map aB)),(5, .loc 5 (q 5) 0 0),(10, .loc 10 (q 10) 0 0),(11, .loc 11 (q 11) 0 0),(13, .row 23 (q 23))]) (fun y q=>[(5,⟨5,[aA c],26,false⟩),(10,⟨11,[[cy,cy,cy,cy,B false,cy,cy,I 0,I 0,I 0,I 0]],91,false⟩),(11,⟨11,[fi y.1 d now y.2],91,false⟩),(23,⟨1,(toR c g ts).map aB,3,true⟩)]) (fun y _ f=>(y.1.act.length<=100/\(match y.2 with
  |none=>X=(y.1,none)/\ff c y.1
  |some e=>SE S y.1 e))/\f 10=false/\f 11=false/\f 23=false) ?_ ?_
 ·refine aH (D:=Nat×cD×tD) (fun y q=>[(2, .seq 1 (ts.map aB)),(5, .loc 5 (q 5) 0 0),(10, .loc 10 (q 10) 0 0),(11, .loc 11 (q 11) 0 0),(12, .seq 1 (R.map aB)),(13, .row 23 (q 23)),(16,I y.1)]) (fun y q=>[(5,⟨5,[aA c],26,false⟩),(10,⟨11,[[cy,cy,cy,cy,B false,cy,cy,I 0,I 0,I 0,I 0]],91,false⟩),(11,⟨11,[fi y.2.1 d now y.2.2],91,false⟩),(23,⟨1,(toR c g ts).map aB,3,true⟩)]) (fun y _ f=>(y.1<=R.length/\y.2.1.act.length<=100/\(match y.2.2 with
   |none=>X=bT c d now y.2.1 ((zL R).drop y.1)/\ff c y.2.1
   |some e=>SE S y.2.1 e))/\f 10=false/\f 11=false/\f 23=false) (fun y=>(R.length-y.1)+(if y.2.2.isSome=true then 0 else 1)) (0,{ bn x with mem:=g },none) ?_ ?_ ?_ ?_
  ·exact⟨⟨NG _,hl,hX.symm,{ hr with }⟩,by simp only[go_sem,m,o,p,NH]⟩
  ·exact qe
  ·(simp only[go_sem,F])
   try rfl
  try clear m o p b C hj
  rintro⟨j,u,e⟩ us fs ⟨⟨hj,E,a⟩,m,o,p⟩;simp only at hj E a;rcases e with _|⟨k,O⟩
  ·obtain⟨a,w⟩:=a;by_cases b:j<R.length
   ·obtain⟨i,H⟩:=gE b;have hil:=hGk i (Mv H);obtain⟨s,hs⟩:=gE hil;obtain⟨⟨s1,s2⟩,_⟩:=uS h hs;have ho:wj c i=s.out:=by unfold wj;rw[bN,hs]
    have f0:=hal u w (by omega) s.out (by omega) s2;obtain⟨k1,k2⟩:=hok u w s.out s2;have C:=it b;have Y:=aD b (by omega);have Z:=it hil;rw[tH (rJ H),ho]at a;have v:(l' c d now u s.out).1.act.length<=100:=by rw[k2.act];exact E
    rcases Q:l' c d now u s.out with⟨r2,_|⟨k,O⟩⟩
    ·rw[Q]at a f0 k1 v;simp only at a k1 v;have f1:=hgo r2.act (by omega) i;unfold fi at f0;simp only at f0;have F:=ed UB fi.eq_2 Uv Uw Ux UE UK H hs C Y<|hU Z m o p;repeat refine fc f0 ?_
     refine lL f1 ?_;repeat refine st ?_
     exact qn (j+1,{ r2 with act:=r2.act.filter fun k=> !(k==(i:Int)) },none) ⟨⟨b,NK (NS ..) v,a,{ k1 with }⟩,by simp only[go_sem,m,o,p,NH]⟩
    rw[Q]at a f0 v;simp only at a v;have f1:=hgo r2.act (by omega) i;unfold fi at f0;simp only at f0;have F:=ed UB fi.eq_2 Uv Uw Ux UE UK H hs C Y<|hU Z m o p;repeat refine fc f0 ?_
    refine lL f1 ?_;repeat refine st ?_
    exact qn (j+1,{ r2 with act:=r2.act.filter fun k=> !(k==(i:Int)) },some (k,O)) ⟨⟨b,NK (NS ..) v,hSX r2 (k,O) a⟩,by simp only[go_sem,m,o,p,NH]⟩
   obtain rfl:j=R.length:=by omega
   have C:=nl R.length;rw[OG (by rw[am];omega)]at a;have F:=mc UB fi.eq_2 Uv C m o p;repeat refine st ?_
   refine⟨(u,none),⟨⟨E,a,w⟩,by simp only[go_sem,m,o,p,NH]⟩,?_,?_⟩
   ·exact qe
   exact qe
  have U:=wI hSE a.1;by_cases b:(j:Int)< (R.length:Int)
  ·have F:=n4 UB fi.eq_2 Uv b U m o p;repeat refine st ?_
   refine⟨(u,some (k,O)),⟨⟨E,a⟩,by simp only[go_sem,m,o,p,NH]⟩,?_,?_⟩
   ·exact qe
   exact qe
  have F:=n4 UB fi.eq_2 Uv b U m o p;repeat refine st ?_
  refine⟨(u,some (k,O)),⟨⟨E,a⟩,by simp only[go_sem,m,o,p,NH]⟩,?_,?_⟩
  ·exact qe
  exact qe
 try clear m o p b C hj
 rintro⟨u,e⟩ us fs ⟨⟨E,a⟩,m,o,p⟩;simp only at E a;have hSA:=hSA;have F:=gb m o p;repeat refine st ?_
 refine oQ (D:=cD×tD) (fun _ q=>[(5, .loc 5 (q 5) 0 0),(10, .loc 10 (q 10) 0 0),(11, .loc 11 (q 11) 0 0),(13, .row 23 (q 23))]) (fun y q=>[(5,⟨5,[aA c],26,false⟩),(10,⟨11,[[cy,cy,cy,cy,B false,cy,cy,I 0,I 0,I 0,I 0]],91,false⟩),(11,⟨11,[fi y.1 d now y.2],91,false⟩),(23,⟨1,(toR c g ts).map aB,3,true⟩)]) (fun y _ f=>(match y.2 with
  |none=> ∃V,X=(V,none)/\dX c d now V ts=(y.1,none)/\ff c y.1/\y.1.act=V.act
  |some e=>SE S y.1 e)/\f 10=false/\f 11=false/\f 23=false) ?_ ?_
 ·refine aH (D:=Nat×cD×tD) (fun y q=>[(2, .seq 1 (ts.map aB)),(5, .loc 5 (q 5) 0 0),(10, .loc 10 (q 10) 0 0),(11, .loc 11 (q 11) 0 0),(13, .row 23 (q 23)),(17,I y.1)]) (fun y q=>[(5,⟨5,[aA c],26,false⟩),(10,⟨11,[[cy,cy,cy,cy,B false,cy,cy,I 0,I 0,I 0,I 0]],91,false⟩),(11,⟨11,[fi y.2.1 d now y.2.2],91,false⟩),(23,⟨1,(toR c g ts).map aB,3,true⟩)]) (fun y _ f=>(y.1<=ts.length/\y.2.1.act.length<=100/\(match y.2.2 with
   |none=> ∃V,X=(V,none)/\dX c d now V ts=dX c d now y.2.1 (ts.drop y.1)/\ff c y.2.1/\y.2.1.act=V.act
   |some e=>SE S y.2.1 e))/\f 10=false/\f 11=false/\f 23=false) (fun y=>(ts.length-y.1)+(if y.2.2.isSome=true then 0 else 1)) (0,u,e) ?_ ?_ ?_ ?_
  ·refine⟨⟨NG _,E,?_⟩,by simp only[go_sem,m,o,p,NH]⟩;rcases e with _|e
   ·exact⟨u,a.1,rfl,a.2,rfl⟩
   exact a
  ·exact qe
  ·exact qe
  try clear m o p E a e u
  rintro⟨j,u,e⟩ us fs ⟨⟨hj,E,a⟩,m,o,p⟩;simp only at hj E a;rcases e with _|⟨k,O⟩
  ·obtain⟨V,J,a,w,L⟩:=a;by_cases b:j<ts.length
   ·obtain⟨n,H⟩:=gE b;obtain⟨t,z⟩:=hts n (Mv H);obtain⟨s1,s2⟩:=Et h z;have f0:=hal u w (by omega) t.Z0 (by omega) s2;obtain⟨k1,k2⟩:=hok u w t.Z0 s2;have C:=it b;have Y:=aD b (by omega);have Z:=it (Mr.1 z).1;rw[xy H z]at a;have v:=k2.act;rcases Q:l' c d now u t.Z0 with⟨r2,_|⟨k,O⟩⟩
    ·rw[Q]at a f0 k1 v;simp only at a k1 v;unfold fi at f0;simp only at f0;have F:=ed UB fi.eq_2 Uv Uy Ux UK H z C Y Z<|gb m o p;repeat refine fc f0 ?_
     exact qn (j+1,r2,none) ⟨⟨b,by rw[v];exact E,V,J,a,k1,v.trans L⟩,by simp only[go_sem,m,o,p,NH]⟩
    rw[Q]at a f0 v;simp only at a v;unfold fi at f0;simp only at f0;have F:=ed UB fi.eq_2 Uv Uy Ux UK H z C Y Z<|gb m o p;repeat refine fc f0 ?_
    exact qn (j+1,r2,some (k,O)) ⟨⟨b,by rw[v];exact E,hSA _ _ _ J a⟩,by simp only[go_sem,m,o,p,NH]⟩
   obtain rfl:j=ts.length:=by omega
   have C:=nl ts.length;rw[ON]at a;have F:=mc UB fi.eq_2 Uv C m o p;repeat refine st ?_
   refine⟨(u,none),⟨⟨V,J,a,w,L⟩,by simp only[go_sem,m,o,p,NH]⟩,?_,?_⟩
   ·exact qe
   exact qe
  have U:=wI hSE a.1;by_cases b:(j:Int)< (ts.length:Int)
  ·have F:=n4 UB fi.eq_2 Uv b U m o p;repeat refine st ?_
   refine⟨(u,some (k,O)),⟨a,by simp only[go_sem,m,o,p,NH]⟩,?_,?_⟩
   ·exact qe
   exact qe
  have F:=n4 UB fi.eq_2 Uv b U m o p;repeat refine st ?_
  refine⟨(u,some (k,O)),⟨a,by simp only[go_sem,m,o,p,NH]⟩,?_,?_⟩
  ·exact qe
  exact qe
 try clear m o p E a e u
 rintro⟨u,_|⟨k,O⟩⟩ us fs ⟨a,m,o,p⟩
 ·obtain⟨V,J,a,w,L⟩:=a;have ka:=hlk.2.2.2 (by rw[J]);rw[J]at ka;have P:=hSN _ _ J a;have N:u.act=x.1.filter fun k=> !(zL R).contains k:=L.trans ka;have f9:=hen u w (by rw[N];exact K.sublist OR) (fun y hy=>hin0 y (by rw[N]at hy;exact(ND.1 hy).1)) (by rw[N];exact NK (NS ..) (by omega)) (M u w N);rw[P]at f9;obtain⟨r2,_|⟨k,O⟩⟩:=S
  ·unfold fi at f9;unfold TU fi;simp only at f9 |-;have F:=i' UB fi.eq_2 Uv m o p;repeat refine st ?_
   refine lL W ?_;repeat refine fc f9 ?_
   (refine aM ?_;refine⟨_,(by show (aj _ _ _).run _=some _;simp only[go_sem,F];rfl),?_⟩)
   exact .refl _
  unfold fi at f9;unfold TU;simp only at f9 |-;have F:=i' UB fi.eq_2 Uv m o p;repeat refine st ?_
  refine lL W ?_;repeat refine fc f9 ?_
  (refine aM ?_;refine⟨_,(by show (aj _ _ _).run _=some _;simp only[go_sem,F];rfl),?_⟩)
  exact Ey _ _ _ _ _ _ _ _ _ _
 simp only at a;have f9:=A6 env c h d now u T2 k O (wI hSE a.1);obtain⟨r2,e⟩:=S;obtain⟨a,ho,hra⟩:=a;simp only at a ho hra;subst a;unfold fi aA at f9;simp only at f9;unfold TU;simp only;rw[ho,hra];have F:=i' UB fi.eq_2 Uv m o p;repeat refine st ?_
 refine lL W ?_;repeat refine fc f9 ?_
 (refine aM ?_;refine⟨_,(by show (aj _ _ _).run _=some _;simp only[go_sem,F];rfl),?_⟩)
 exact Ey _ _ _ _ _ _ _ _ _ _
end
section
def I3(a:Addr):Except Nat (List Nat)->AV
 | .ok l=> .tuple [.seq 1 (l.map aB),h9]
 | .error n=> .tuple [cy,dt (1000+(n:Nat)) (bx a)]
def Bv{c:aq}{w:r5}{ev:List UInt8}{i:Nat}{l o:List Nat}(h:dU c w ev ((i:Int)::j0 c i)= .no):dA c w ev (i::l) o=dA c w ev l o:=by
 conv=>lhs;unfold dA
 rw[h]
def xR{c:aq}{w:r5}{ev:List UInt8}{i n:Nat}{l o:List Nat}(h:dU c w ev ((i:Int)::j0 c i)= .one n):dA c w ev (i::l) o=dA c w ev l (if o.contains n then o else o++[n]):=by
 conv=>lhs;unfold dA
 rw[h]
def xS{c:aq}{w:r5}{ev:List UInt8}{i n:Nat}{l o:List Nat}(h:dU c w ev ((i:Int)::j0 c i)= .bad n):dA c w ev (i::l) o= .error n:=by
 unfold dA;rw[h]
def F5{c:aq}{w:r5}{ev:List UInt8}{n:Nat}{l:List Int}(h:dU c w ev l= .one n):n<c.trans.length:=by
 obtain⟨_,_,t,a,_⟩:=zD h;exact(Mr.1 a).1
def take_len(c:aq)(act:List Int)(l:List Nat)(n:Nat):(la c act l n).length<=l.length+1:=by
 unfold la;split
 ·rw[My,Na];have:=NS (fun k=> !bg c act k n) l;omega
 omega
def E2(l:List Nat):l.map aB=(zL l).map aa:=(bd l).symm
def BB(env:b8)(z J C:Addr)(L:fU env z C)(h2:env 1=some (bx J))(c:aq)(h:ch c)(G:g7 c)(x:nw)(d:Int)(H:H' c x d)(ev:List UInt8)
 (K:b7 prog env 133 [Sg [109,105,99,114,111,46,69,110,97,98,108,101,100],aG c, .agg (hP x),I d] h9)(l:List Nat)(N:x.1=zL l)(r: ∀k∈l,k<c.Z9.length):
 b7 prog env 75 [aG c, .agg (hP x),Sg ev,I d] (I3 J (rU c x.1 (L' c x.1 x.2.1 d) ev (y6 c l))):=by
 have Y:=h.Z6;have S:=H.act;have f1:=ay env c G
 have f2:b7 prog env 134 [aG c,cf x.1] (.tuple [.seq 1 ((y6 c l).map aB),h9]):=by
  have:=Gz env z C L c h G l (by rw[N,am]at S;omega) r (by rw[<-N];exact H.lg);rwa [E2 l, <-N]at this
 have f3:=fun k:Nat=>J2 env z J C L h2 c h G x d H k ev;have f4:=fun(o:List Nat)(n:Nat)(Z:o.length<=1000)=>(bL env (zL o) n (by rw[am];omega)).lend rfl;have f5:=fun(o:List Nat)(Z:o.length<=1000)(r: ∀n∈o,n<c.trans.length)(n:Nat)(i:n<c.trans.length)=>Ic env z C L c h G x d H o Z r n i
 have hil:(y6 c l).length<=32:=by
  have:=(ml h.toRight (zL (ur c l l.length))).length_le_of_subset (l₂:=List.range c.Z9.length) fun m hm=>by
   have hm:m∈y6 c l:=hm;unfold y6 bt at hm;split at hm
   ·exact NX.2 ((gU h.toRight m).1 (ND.1 hm).1)
   simp at hm
  simp at this;show (bt c (zL (ur c l l.length))).length<=32;omega
 unfold rU;generalize hW:L' c x.1 x.2.1 d=W at*;generalize y6 c l=R at*;unfold Sn at f3 f5;unfold hP at K |-;unfold aG at f1 f2 K |-;unfold aA at f1;refine qf func75 call75 ntmps75 results75 ?_;repeat refine Cd K f1 f2 ?_
 refine ao 14 14 3 1 ?_;refine fG (dd.nil 15 1 (by simp only[go_sem])) ?_
 refine aH (D:=Nat×List Nat) (fun e y=>[(2,Sg ev),(11, .loc 35 (y 35) 0 0),(14, .row 14 (y 14)),(15, .seq 1 []),(47, .seq 1 (R.map aB)),(48,I R.length),(49,I e.1)])
  (fun e _=>[(14,⟨1,e.2.map aB,3,true⟩),(35,⟨15,[[cf x.1,cf x.2.1, .seq 2 (x.2.2.1.map fe), .seq 2 (x.2.2.2.1.map c0),B x.2.2.2.2,cy,cy, .ref 9 [ct c] 0 0,Sg c.name,I c.initial,pf c.vars,qa c.Z9,sT c.trans,I d,I 0]],150,false⟩)])
  (fun e _ v=>(e.1<=R.length/\dA c W ev R []=dA c W ev (R.drop e.1) e.2/\e.2.length<=e.1/\ ∀n∈e.2,n<c.trans.length)/\v 14=false) (fun e=>R.length-e.1) (0,[]) ?_ ?_ ?_ ?_
 ·exact⟨⟨NG _,rfl,NC _,fun n i=>by simp at i⟩,by simp only[go_sem]⟩
 ·exact T7
 ·(simp only[go_sem])
  try rfl
 rintro⟨j,o⟩ ws v ⟨⟨hj,a,s,g⟩,q⟩;simp only at hj a s g;by_cases f:j<R.length
 ·obtain⟨k,p⟩:=gE f;have u:=it f;have X:=aD f (by omega);have f6:=f3 k;rw[au p]at a;have q4: ¬(0:Int)<= -1:=by omega
  cases t:dU c W ev ((k:Int)::j0 c k) with
  | no=>
    rw[t]at f6;unfold tj at f6;rw[Bv t]at a;have F:=i' Ux p u X q4 q;repeat refine fc f6 ?_
    exact qn (j+1,o) ⟨⟨f,a,RB s,g⟩,by simp only[go_sem,q]⟩
  | bad n=>
    rw[t]at f6;unfold tj at f6;rw[xS t]at a;rw[a];show fp _ _ _ _ _ _;unfold I3;have F:=hU Ux p u q;exact hH f6
  | one n=>
    have O:=F5 t;rw[t]at f6;unfold tj at f6;rw[xR t]at a;have q3:(0:Int)<=(n:Int):=by omega
    have f7:=f4 o n (by omega);rw[bd]at f7;have hf:cU (o.length+1) 8:=aC (by omega) (by omega);cases E:o.contains n with
    | true=>
      have T:(zL o).contains (n:Int)=true:=oR.2 (Mx.1 E);rw[T]at f7;rw[E]at a;simp only[Nt]at a;have F:=i' Ux p u X q3 q;repeat refine fc f6 ?_
      refine lL f7 ?_;repeat refine st ?_
      exact qn (j+1,o) ⟨⟨f,a,RB s,g⟩,by simp only[go_sem,q]⟩
    | false=>
      have T:(zL o).contains (n:Int)=false:=by
       cases hh:(zL o).contains (n:Int) with
       |false=>rfl
       | true=>
         have:=Mx.2 (oR.1 hh);rw[E]at this;cases this
      rw[T]at f7;rw[E]at a;simp only[NU,OA]at a;have F:=mc Ux p u X q3 hf q;repeat refine fc f6 ?_
      refine lL f7 ?_;repeat refine st ?_
      refine⟨(j+1,o++[n]),⟨⟨f,a,by simp only[My,Na];omega,fun m hm=> ?_⟩,by simp only[go_sem,q]⟩,?_,?_,by simp only;omega⟩
      ·rcases NY.1 hm with hm|hm
       ·exact g m hm
       rw[NO.1 hm];exact O
      ·exact qe
      have F:=ai Ux @NA.{0,0};exact qe
 obtain rfl:j=R.length:=by omega
 have u:=nl R.length;rw[ON]at a;have Q:dA c W ev R []= .ok o:=a;rw[Q];show fp _ _ _ _ _ _;unfold E6 I3
 have M: ∀m,m<=o.length->((o.take m).foldl (la c x.1) []).length<=m/\ ∀n∈(o.take m).foldl (la c x.1) [],n<c.trans.length:=fun m=>by
  induction m with
  |zero=>exact fun _=>⟨by simp,fun n i=>by simp at i⟩
  | succ m ih=>
    intro hm;obtain⟨i1,U⟩:=ih (by omega);obtain⟨n,i⟩: ∃n,o[m]? =some n:=⟨o[m],Mq (by omega)⟩;rw[bZ _ _ i];refine⟨NK (take_len ..) (by omega),fun k r=> ?_⟩;rcases uY r with r|rfl
    ·exact U k r
    exact g _ (Mv i)
 have F:=ai u q;repeat refine st ?_
 try clear f4 f6
 refine aH (D:=Nat) (fun m y=>[(11, .loc 35 (y 35) 0 0),(15, .seq 1 (((o.take m).foldl (la c x.1) []).map aB)),(76, .row 14 (y 14)),(77,I o.length),(78,I m)])
  (fun m _=>[(14,⟨1,o.map aB,3,true⟩),(35,⟨15,[[cf x.1,cf x.2.1, .seq 2 (x.2.2.1.map fe), .seq 2 (x.2.2.2.1.map c0),B x.2.2.2.2,cy,cy, .ref 9 [ct c] 0 0,Sg c.name,I c.initial,pf c.vars,qa c.Z9,sT c.trans,I d,I 0]],150,false⟩)])
  (fun m _ _=>m<=o.length) (fun m=>o.length-m) 0 ?_ ?_ ?_ ?_
 ·exact NG _
 ·(simp only[go_sem,F])
  try rfl
 ·exact qe
 rintro m us es hm;obtain⟨i1,U⟩:=M m hm;by_cases b:m<o.length
 ·obtain⟨n,i⟩:=gE b;have V:=it b;have p2:=aD b (by omega);have f6:=f5 _ (by omega) U n (g n (Mv i));have P:=bZ (la c x.1) [] i;rw[<-P]at f6;generalize (o.take m).foldl (la c x.1) []=A at*;generalize w:(o.take (m+1)).foldl (la c x.1) []=A2 at*;have F:=hU Ux i V p2;repeat refine fc f6 ?_
  refine⟨m+1,b,?_,?_,by omega⟩
  ·have F:=ai Ux w;exact qe
  ·(simp only[go_sem,aB,w])
 obtain rfl:m=o.length:=by omega
 have V:=nl o.length;rw[NR];have F:=V;exact ek
end
section
def GJ{l:List (List UInt8×Int)}(h:IN l)(k:l.length<=8):dP l=true:=by
 unfold dP;rw[Ni k,RU];refine qM fun j a=> ?_;have e:l.getD j ([],0)=l[j]:=by simp[NW,Mq a]
 obtain⟨b,c,d⟩:=h.each _ (Oq a);unfold ki;rw[e,b];have i:CY l[j].2=true:=by unfold CY;simp[c,d]
 rw[i];by_cases g:j=0
 ·simp[g]
 have m:=Nn.1 h.ZZ (j-1) j (by omega) a (by omega);have f:l.getD (j-1) ([],0)=l[j-1]'(by omega):=by simp[NW,Mq (show j-1<l.length by omega)]
 rw[f,m];simp
def Sm(r:cD):nw:=(r.act,r.vars,r.mem,r.Z1,r.over)
def wT{c:aq}{r:cD}(h:ff c r)(a:tI c r.act=true)(b:bc c r.mem=true)(d:r.over=kK c r.act):bG c (DM (Sm r))=true:=by
 unfold bG;show (tI c r.act&&bc c r.mem&&(r.vars.length==c.vars.length)&&dP r.Z1&&(r.over==kK c r.act)&&ln r.vars)=true;rw[a,b,h.len,GJ h.Z1 h.ZM,d,show ln r.vars=true from Mz.2 h.vars];simp
def yo{c:aq}{act:List Int}(h: ∀x∈act,fb c x=true):kK c act=act.any fun x=>bY c x==3&&decide (aP c x<0):=by
 unfold kK;rw[N4,OE,OE]
 have e: ∀x∈act,gZ c x=(bY c x==3&&decide (aP c x<0)):=fun x a=>by
  obtain⟨k,s,rfl,b,_⟩:=cS (h x a);unfold gZ;rw[OS,b,iQ b,oV b,Bool.and_comm]
 exact⟨fun⟨x,a,q⟩=>⟨x,a,by rw[<-e x a];exact q⟩,fun⟨x,a,q⟩=>⟨x,a,by rw[e x a];exact q⟩⟩
def rA{c:aq}(h:ch c){now:Int}(n:0<=now/\now<=1099511627776)(o: ∀v∈c.vars,aL v.start=true)(k:(dN c now).2=none):bG c (DM (Sm (dN c now).1))=true/\ff c (dN c now).1/\(dN c now).1.mem=[]:=by
 obtain⟨r,u⟩:=vD (bU h) (l:=zL (k6 c (-1))) (show aL 0=true by rfl) n (o7 o) .nil
 have d:(ak c 0 now (i0 c) [] (zL (k6 c (-1)))).1.2=none:=by
  cases b:(ak c 0 now (i0 c) [] (zL (k6 c (-1)))).1.2 with
  |none=>rfl
  |some e=>rw[show dN c now=gv c 0 now (i0 c) (zL (k6 c (-1))) from rfl,qH b,b]at k;cases k
 have i:=(qT h n o d);have g:=u k;change bG c (DM (Sm (gv c 0 now (i0 c) (zL (k6 c (-1)))).1))=true/\ff c (gv c 0 now (i0 c) (zL (k6 c (-1)))).1/\(gv c 0 now (i0 c) (zL (k6 c (-1)))).1.mem=[]
 have a:(gv c 0 now (i0 c) (zL (k6 c (-1)))).1.act=zL (nA c (k6 c (-1))):=by
  obtain⟨_,s⟩:=iX (bU h) (l:=zL (k6 c (-1))) (f:=[]) (show aL 0=true by rfl) n (o7 o) .nil;rw[<-i.2];exact mD g.ZZ (s d).ZZ fun x=>by rw[g.mem,(s d).mem]
 have m: ∀x∈zL (nA c (k6 c (-1))),fb c x=true:=fun x b=>by
  obtain⟨j,t,rfl⟩:=NE.1 b;exact aV.2 (NX.1 (ND.1 t).1)
 refine⟨wT r (by rw[a, <-i.2];exact i.1) (by rw[g.mm];rfl) ?_,r,g.mm⟩;rw[g.over,a,yo m,N4];show (false||_)=true↔_;rw[Oj,OE,OE]
 have p: ∀x,x∈zL (nA c (k6 c (-1)))↔x∈zL (k6 c (-1)):=fun x=>by
  rw[<-a,g.mem];simp[i0]
 constructor
 ·rintro⟨x,b,q⟩;exact⟨x,(p x).2 b,by simpa[i0]using q⟩
 rintro⟨x,b,q⟩;exact⟨x,(p x).1 b,by simpa[i0]using q⟩
def JM{c:aq}{act:List Int}(h:tI c act=true):act.length<=c.Z9.length:=by
 have a:=cx h
 have:=a.nodup.length_le_of_subset (l₂:=zL (List.range c.Z9.length)) fun x b=>by
  obtain⟨_,_,d,_⟩:=a.of b;obtain⟨e,f⟩:=aI.1 d;exact NE.2 ⟨x.toNat,NX.2 (by omega),by simp;omega⟩
 rw[am,Po]at this;exact this
def vV(env:b8)(l:List Int)(g:l.length<=1000000):b7 prog env 18 [.seq 1 (l.map aa), .seq 1 (l.map aa)] (B true):=by
 refine qf func18 call18 ntmps18 results18 ?_;repeat refine m9 ?_
 refine RK l.length (by omega) (fun j h=>[(0, .seq 1 (l.map aa)),(1, .seq 1 (l.map aa)),(5,I j)]) (fun _ _=>[]) (fun _ _ _=>True) trivial ?_ ?_
 ·rintro j f c a b e _;obtain⟨x,d⟩:=gE a;have F:=hU UE d b e;repeat refine st ?_
  exact qn (j+1) ⟨a,trivial⟩
 rintro f c b _;have F:=b;exact ek
end
section
def Lq{l:List (List UInt8×Int)}(h:dP l=true):IN l/\l.length<=8:=by
 unfold dP at h;rw[Mu,NF]at h;obtain⟨d,e⟩:=h;have at_: ∀j (a:j<l.length),l.getD j ([],0)=l[j]:=fun j a=>by simp[NW,Mq a]
 have k:=fun j (a:j<l.length)=>LV d j a;refine⟨⟨Nn.2 fun i j o a f=> ?_,fun x g=> ?_⟩,e⟩
 ·have c: ∀m,(b:i+1+m<l.length)->Op.bytesLess l[i].1 l[i+1+m].1=true:=fun m=>by
   have step: ∀j (a:j+1<l.length),Op.bytesLess l[j].1 l[j+1].1=true:=fun j a=>by
    have:=k (j+1) a;unfold ki at this;rw[at_ _ a,show j+1-1=j by omega,at_ j (by omega)]at this;simp only[Mu,OQ,NF]at this;exact this.2.resolve_left (by omega)
   induction m with
   |zero=>exact fun b=>step i b
   |succ m n=>exact fun b=>fF (n (by omega)) (step (i+1+m) b)
  have:=c (j-i-1) (by omega);simpa[show i+1+(j-i-1)=j by omega]using this
 obtain⟨j,a,rfl⟩:=QE.1 g;have:=k j a;unfold ki CY at this;rw[at_ j a]at this;simp only[Mu,NF]at this;exact⟨this.1.1,this.1.2⟩
structure DQ(c:aq)(x:nw):Prop where
 lg:tI c x.1=true
 mem:bc c x.2.2.1=true
 len:x.2.1.length=c.vars.length
 fit: ∀v∈x.2.1,aL v=true
 Z1:IN x.2.2.2.1
 ZM:x.2.2.2.1.length<=8
 over:x.2.2.2.2=kK c x.1
def dq{c:aq}{x:nw}(a:bG c (DM x)=true):DQ c x:=by
 unfold bG at a;simp only[Mu,Nz]at a;obtain⟨⟨⟨⟨⟨b,d⟩,e⟩,f⟩,g⟩,h⟩:=a;obtain⟨t1,t2⟩:=Lq f;exact⟨b,d,e,Mz.1 h,t1,t2,g⟩
def DQ.beg{c:aq}{x:nw}(h:DQ c x):ff c (bn x):=⟨h.len,h.fit,h.Z1,h.ZM,NG _,NG _,fun e a=>by simp[bn]at a⟩
section
variable {c:aq} (h:ch c) {act:List Int} (hb:tI c act=true) {ts:List Nat} (hf:Fit c act ts)
include h hb hf
theorem Cf{mem:List ds}(b:bc c mem=true){n:Nat}(d:n∈ts):Tr c act mem (dm c n):=by
 obtain⟨t,a,e⟩:=hf.real n d;rw[dC a];exact yh h hb b a e
theorem zC{y:Int} :y∈dg c act ts↔y∈act/\ ∃n∈ts,ng c (dm c n) y:=by
 have e:bc c []=true:=rfl;unfold dg;rw[PP];constructor
 ·rintro⟨n,a,f⟩;obtain⟨b,d⟩:=((Cf h hb hf e a).left y).1 f;exact⟨b,n,a,d⟩
 rintro⟨b,n,a,d⟩;exact⟨n,a,((Cf h hb hf e a).left y).2 ⟨b,d⟩⟩
theorem Bu{y:Int} :y∈zL (bt c (dg c act ts))↔y∈act/\ ∃n∈ts,ng c (dm c n) y:=by
 rw[iB h.toRight fun y a=>by
  obtain⟨_,_,b,_⟩:=(cx hb).of ((zC h hb hf).1 a).1
  exact b]
 exact zC h hb hf
theorem vj: ∀y∈zL (bt c (dg c act ts)),y∈act:=fun _ a=>((Bu h hb hf).1 a).1
theorem ME: ∃a:List Nat,dg c act ts=zL a:=⟨_,IR fun _ b=>(IV hb _ ((zC h hb hf).1 b).1).1⟩
theorem M3{mem:List ds}(d:bc c mem=true){y:Int} :y∈zL (bt c (zL (toR c mem ts)))↔ ∃n∈ts,TO c mem (dm c n) y:=by
 have e: ∀y,y∈zL (toR c mem ts)↔ ∃n∈ts,TO c mem (dm c n) y:=fun y=>by
  unfold toR zL;rw[NE];constructor
  ·rintro⟨k,b,rfl⟩;obtain⟨n,a,b⟩:=PP.1 b;exact⟨n,a,((Cf h hb hf d a).to _).1 (NE.2 ⟨k,b,rfl⟩)⟩
  rintro⟨n,a,q⟩;obtain⟨k,b,e⟩:=NE.1 (((Cf h hb hf d a).to y).2 q);exact⟨k,PP.2 ⟨n,a,b⟩,e⟩
 rw[iB h.toRight fun y f=>by
  obtain⟨n,a,q⟩:=(e y).1 f
  exact aZ (Ef h ((Cf h hb hf d a).uni q.1).Z3 q.2)]
 exact e y
theorem u4{d now:Int}(p:aL d=true)(b:0<=now/\now<=1099511627776){mem:List ds}(o:bc c mem=true){r2:cD}(s:ff c r2)(m:r2.act=act.filter (fun k=> !(zL (bt c (dg c act ts))).reverse.contains k))(r:(ak c d now r2 [] (zL (bt c (zL (toR c mem ts))))).1.2=none):
 tI c (ak c d now r2 [] (zL (bt c (zL (toR c mem ts))))).1.1.act=true/\ ∀y,y∈(ak c d now r2 [] (zL (bt c (zL (toR c mem ts))))).1.1.act↔i6 c act mem ts y:=by
 have a:r2.act.Pairwise (· < ·):=by rw[m];exact(cx hb).ZZ.sublist OR
 obtain⟨_,i⟩:=iX (bU h) (l:=zL (bt c (zL (toR c mem ts)))) (f:=[]) p b s a;have i:=i r;obtain⟨O,u,v,w⟩:=sx h hb o ts.length ts rfl hf
 have g: ∀y,y∈(ak c d now r2 [] (zL (bt c (zL (toR c mem ts))))).1.1.act↔i6 c act mem ts y:=fun y=>by
  rw[i.mem,m,ND,M3 h hb hf o,Nx];unfold i6;refine or_congr ?_ Iff.rfl;refine and_congr_right fun t=> ?_;rw[<-Bool.not_eq_true,Mx,QL,Bu h hb hf];constructor
  ·exact fun q n b j=>q ⟨t,n,b,j⟩
  rintro q ⟨_,n,b,j⟩;exact q n b j
 refine⟨?_,g⟩;have e:(ak c d now r2 [] (zL (bt c (zL (toR c mem ts))))).1.1.act=zL O:=mD i.ZZ (Q2.2 (u.imp fun q=>by omega)) fun y=>(g y).trans (w y).symm;rw[e];exact v
end
def sJ{c:aq}(h:ch c){d now:Int}(B:aL d=true)(u:0<=now/\now<=1099511627776){x:nw}(p:DQ c x)(V:x.2.2.2.2=false){ts:List Nat}(I:Fit c x.1 ts)(i:(lP c d now (bn x) ts).2=none):
 ff c (lP c d now (bn x) ts).1/\bG c (DM (Sm (lP c d now (bn x) ts).1))=true/\ ∀y,y∈(lP c d now (bn x) ts).1.act↔i6 c x.1 (na c x.1 (zL (bt c (dg c x.1 ts))) x.2.2.1) ts y:=by
 have H:=bU h;have U:=(jL h p.lg p.mem (vj h p.lg I)).2
 have N: ∀n∈ts,∃t,c.trans[n]? =some t:=fun n u=>by
  obtain⟨t,ht,_⟩:=I.real n u;exact⟨t,ht⟩
 have D:kK c x.1=false:=by rw[<-p.over];exact V
 have E: ∀y∈x.1,fb c y=true:=fun y g=>by
  obtain⟨_,_,E,_⟩:=(cx p.lg).of g;exact E
 have hG: ∀y∈zL (bt c (dg c x.1 ts)),y∈x.1:=vj h p.lg I;have R:=fun(a:cD) hr z i=>u4 h p.lg I B u U (r2:=a) hr z i;have K:ff c (bn x):=p.beg
 change (match bT c d now { bn x with mem:=na c x.1 (zL (bt c (dg c x.1 ts))) x.2.2.1 } (zL (bt c (dg c x.1 ts))).reverse with
  |(o,none)=>(match dX c d now o ts with
    |(a,none)=>gv c d now a (zL (bt c (zL (toR c (na c x.1 (zL (bt c (dg c x.1 ts))) x.2.2.1) ts))))
    |y=>y)
  |y=>y).2=none at i
 show ff c (match bT c d now { bn x with mem:=na c x.1 (zL (bt c (dg c x.1 ts))) x.2.2.1 } (zL (bt c (dg c x.1 ts))).reverse with
  |(o,none)=>(match dX c d now o ts with
    |(a,none)=>gv c d now a (zL (bt c (zL (toR c (na c x.1 (zL (bt c (dg c x.1 ts))) x.2.2.1) ts))))
    |y=>y)
  |y=>y).1/\bG c (DM (Sm (match bT c d now { bn x with mem:=na c x.1 (zL (bt c (dg c x.1 ts))) x.2.2.1 } (zL (bt c (dg c x.1 ts))).reverse with
  |(o,none)=>(match dX c d now o ts with
    |(a,none)=>gv c d now a (zL (bt c (zL (toR c (na c x.1 (zL (bt c (dg c x.1 ts))) x.2.2.1) ts))))
    |y=>y)
  |y=>y).1))=true/\ ∀y,y∈(match bT c d now { bn x with mem:=na c x.1 (zL (bt c (dg c x.1 ts))) x.2.2.1 } (zL (bt c (dg c x.1 ts))).reverse with
  |(o,none)=>(match dX c d now o ts with
    |(a,none)=>gv c d now a (zL (bt c (zL (toR c (na c x.1 (zL (bt c (dg c x.1 ts))) x.2.2.1) ts))))
    |y=>y)
  |y=>y).1.act↔_
 generalize na c x.1 (zL (bt c (dg c x.1 ts))) x.2.2.1=b at*;obtain⟨O,P,Q,G⟩:=lR H (l:=(zL (bt c (dg c x.1 ts))).reverse) B u (r:={ bn x with mem:=b }) { K with };rcases S:bT c d now { bn x with mem:=b } (zL (bt c (dg c x.1 ts))).reverse with⟨o,_|e⟩
 ·rw[S]at i O P Q G;have G:=G rfl;simp only at i O P Q G |-;obtain⟨v,w⟩:=zV H B u (l:=ts) (r:=o) N O;rcases T:dX c d now o ts with⟨a,_|e⟩
  ·rw[T]at i v w;simp only at i v w |-;have z:a.act=x.1.filter fun k=> !(zL (bt c (dg c x.1 ts))).reverse.contains k:=w.act.trans G;have m:a.act.Pairwise (· < ·):=by rw[z];exact(cx p.lg).ZZ.sublist OR
   obtain⟨Y,s⟩:=vD H (l:=zL (bt c (zL (toR c b ts)))) B u v m;have s:=s i
   have A:(ak c d now a [] (zL (bt c (zL (toR c b ts))))).1.2=none:=by
    cases W:(ak c d now a [] (zL (bt c (zL (toR c b ts))))).1.2 with
    |none=>rfl
    |some e=>rw[qH W,W]at i;cases i
   obtain⟨X,l2⟩:=R a v z A;obtain⟨_,J⟩:=iX H (l:=zL (bt c (zL (toR c b ts)))) (f:=[]) B u v m;have J:=J A;have j:(gv c d now a (zL (bt c (zL (toR c b ts))))).1.act=(ak c d now a [] (zL (bt c (zL (toR c b ts))))).1.1.act:=mD s.ZZ J.ZZ fun y=>by rw[s.mem,J.mem]
   refine⟨Y,wT Y (by rw[j];exact X) (by rw[s.mm,w.mem,P];exact U) ?_,fun y=>by rw[j];exact l2 y⟩
   have L: ∀y∈(gv c d now a (zL (bt c (zL (toR c b ts))))).1.act,fb c y=true:=fun y g=>by
    rw[j]at g;obtain⟨_,_,E,_⟩:=(cx X).of g;exact E
   rw[s.over,w.over,Q,yo L,N4];rw[yo E]at D;have M:(bn x).over=false:=V;show ((bn x).over||_)=true↔_;rw[M,Oj,OE,OE]
   have C: ∀y∈a.act,(bY c y==3&&decide (aP c y<0))=false:=fun y g=>by
    rw[z]at g;exact Pe.2 fun q=>Pe.1 D (OE.2 ⟨y,(ND.1 g).1,q⟩)
   constructor
   ·rintro⟨y,g,q⟩;refine⟨y,(s.mem y).2 (.inr g),?_⟩;simp only[Mu]at q |-;exact⟨q.1.2,q.2⟩
   rintro⟨y,g,q⟩;rcases (s.mem y).1 g with g|g
   ·rw[C y g]at q;cases q
   refine⟨y,g,?_⟩
   have Z:a.act.contains y=false:=by
    cases hh:a.act.contains y with
    |false=>rfl
    | true=>
      rw[C y (Mx.1 hh)]at q;cases q
   rw[Z];simpa using q
  rw[T]at i;cases i
 rw[S]at i;cases i
end
section
structure rx where
 x:nw
 said:List Int
 steps:Nat
 wait:List (List UInt8×Int)
 data:Int
def lu(c:aq)(m:rx)(ev:List UInt8):Except Nat (List Nat):=rU c m.x.1 (L' c m.x.1 m.x.2.1 m.data) ev (y6 c (m.x.1.map Int.toNat))
def DB(m:rx)(outs:List Int)(rais:List (List UInt8×Int)):rx×tD:=
 if 256< (m.said++outs).length\/16< (m.wait++rais).length then({ m with said:=m.said++outs,wait:=m.wait++rais },some (8,[-1])) else({ m with said:=m.said++outs,wait:=m.wait++rais },none)
def IT(m:rx)(r:cD):rx×tD:=DB ⟨Sm r,m.said,m.steps+1,m.wait,m.data⟩ r.outs r.Z7
def rt(c:aq)(now:Int)(F:Nat)(m:rx)(l:List Nat):rx×tD:=
 if F<=m.steps then(m,some (6,[-1]))
 else match lP c m.data now (bn m.x) l with
  |(_,some e)=>(m,some (e.1, -1::e.2.headD (-1)::e.2.tail))
  |(r,none)=>IT m r
def va(c:aq)(now:Int)(F:Nat)(m:rx)(ev:List UInt8):(rx×tD)×Bool:=
 match lu c m ev with
 | .error n=>((m,some (2,[1000+(n:Int)])),false)
 | .ok []=>((m,none),false)
 | .ok (k::l)=>(rt c now F m (k::l),true)
def AI(c:aq)(now:Int)(F:Nat):Nat->rx->rx×tD
 |0,m=>(m,some (0,[]))
 | n+1,m=>if m.x.2.2.2.2=true then(m,none)
   else match va c now F m []with
    |((a,some e),_)=>(a,some e)
    |((a,none),true)=>AI c now F n a
    |((a,none),false)=>match a.wait with
      |[]=>(a,none)
      | e::w=>match va c now F { a with wait:=w,data:=e.2 } e.1 with
        |((b,some e),_)=>(b,some e)
        |((b,none),_)=>AI c now F n b
def jV(F:Nat)(m:rx):Nat:=(F-m.steps)*17+m.wait.length
structure n9(c:aq)(F:Nat)(m:rx):Prop where
 inst:bG c (DM m.x)=true
 data:aL m.data=true
 wait:m.wait.length<=16
 waf: ∀e∈m.wait,aL e.2=true
 said:m.said.length<=256
 steps:m.steps<=F
 ZO:F<=256
def yq{act:List Int}{l:List Nat}(h:act=zL l):act.map Int.toNat=l:=by
 rw[h];unfold zL;rw[P5]
 conv=>rhs;rw[<-SG l]
 exact O9 fun k _=>by simp
def qI{c:aq}(h:ch c){m:rx}(a:tI c m.x.1=true){ev:List UInt8}{f:List Nat}(e:lu c m ev= .ok f):Fit c m.x.1 f:=by
 obtain⟨l,b,g⟩:=tE a;unfold lu at e;rw[yq b]at e;refine J7 h (cx a) (fun i d=> ?_) e;rw[b];exact NE.2 ⟨i,LF h g d,rfl⟩
section
variable {c:aq} (h:ch c) {now:Int} (hn:0<=now/\now<=1099511627776)
include h hn
theorem JG{F:Nat}{m:rx}(b:n9 c F m)(o:m.x.2.2.2.2=false){l:List Nat}(n:Fit c m.x.1 l)(a:(rt c now F m l).2=none):n9 c F (rt c now F m l).1/\(rt c now F m l).1.steps=m.steps+1/\m.steps<F/\(rt c now F m l).1.data=m.data:=by
 unfold rt at a |-;split at a
 ·cases a
 rename_i j;rw[Mt j];have f:=sJ h b.data hn (dq b.inst) o n;rcases d:lP c m.data now (bn m.x) l with⟨r,_|e⟩
 ·rw[d]at a f;obtain⟨g,i,_⟩:=f rfl;simp only at a g i |-;unfold IT DB at a |-;simp only at a |-;split at a
  ·cases a
  rename_i k;rw[Mt k];refine⟨⟨i,b.data,show (m.wait++r.Z7).length<=16 by omega,fun e a=> ?_,show (m.said++r.outs).length<=256 by omega,show m.steps+1<=F by omega,b.ZO⟩,rfl,by omega,rfl⟩;rcases NY.1 a with q|q
  ·exact b.waf e q
  exact g.raf e q
 rw[d]at a;cases a
theorem kg{F:Nat}{m:rx}(b:n9 c F m)(e:m.x.2.2.2.2=false){ev:List UInt8}(a:(va c now F m ev).1.2=none):n9 c F (va c now F m ev).1.1/\(va c now F m ev).1.1.data=m.data/\(((va c now F m ev).2=true/\(va c now F m ev).1.1.steps=m.steps+1/\m.steps<F)\/((va c now F m ev).2=false/\(va c now F m ev).1.1=m)):=by
 unfold va at a |-;cases d:lu c m ev with
 |error n=>rw[d]at a;cases a
 | ok f=>
   rw[d]at a;cases f with
   |nil=>exact⟨b,rfl, .inr ⟨rfl,rfl⟩⟩
   | cons k l=>
     obtain⟨g,i,j,o⟩:=JG h hn b e (qI h (dq b.inst).lg d) a;exact⟨g,o, .inl ⟨rfl,i,j⟩⟩
end
end
end Go.Proofs.YtfhkmjbjafeckaaGreatDoor
