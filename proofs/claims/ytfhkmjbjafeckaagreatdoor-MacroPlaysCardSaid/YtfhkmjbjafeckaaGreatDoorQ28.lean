/- Calls of the library's that put an element of a row of the call's own into another one. No program is named here. -/
import Derived.Test.YtfhkmjbjafeckaaGreatDoorQ27
set_option maxRecDepth 100000
set_option maxHeartbeats 16000000
set_option linter.unusedSimpArgs false
set_option linter.defProp false
namespace Go.Proofs.YtfhkmjbjafeckaaGreatDoor
open Go.Proofs.Tryz
open Go.RowKit
section
def Gb{c:aq}{A:List Nat}{i:Nat}(e:(zL A).Pairwise (· < ·))(b: ∀k∈A,k<c.Z9.length)(hi:i<c.Z9.length)(f:(zL A).contains (i:Int)=false):zL (nL c (A++[i]))=bQ (zL A++[(i:Int)]):=by
 obtain⟨g,h⟩:=ue e f;refine mL (by unfold nL;exact yk) g fun x=> ?_;rw[h];constructor
 ·intro d;obtain⟨k,a,rfl⟩:=NG.1 d;have:=mV.1 (NF.1 a).2;rcases N1.1 this with q|q
  ·exact .inl (NG.2 ⟨k,q,rfl⟩)
  exact .inr (by rw[NP.1 q])
 rintro(d|rfl)
 ·obtain⟨k,a,rfl⟩:=NG.1 d;exact NG.2 ⟨k,NF.2 ⟨NZ.2 (b k a),mV.2 (by simp[a])⟩,rfl⟩
 exact NG.2 ⟨i,NF.2 ⟨NZ.2 hi,mV.2 (by simp)⟩,rfl⟩
def SZ(c:aq)(g:Int):Bool:=decide (0<=g)&&(bX c g==2)
def MZ(c:aq)(A:List Int)(g:Int):(if 0<=g/\bX c g=2 then A.filter (SZ c)++[g] else A.filter (SZ c))=(A++[g]).filter (SZ c):=by
 rw[N6];split
 ·rename_i h;have:SZ c g=true:=by unfold SZ;simp[h]
  rw[QM this];rfl
 rename_i h;have: ¬SZ c g=true:=by unfold SZ;simpa using h
 rw[QN this];simp
def L9(c:aq)(A:List Int):b7 c (A.filter (SZ c))=(g7 c (-1)).filter fun k:Nat=>A.contains (k:Int)&&bX c k==2:=by
 have f:(A.filter (SZ c)).all (fi c)=true:=by
  rw[NB];intro x e;have b:=(NF.1 e).2;unfold SZ bX at b;rw[Mx]at b;cases a:at_ c x with
  |none=>rw[a]at b;simp at b
  | some s=>
    unfold at_ at a;split at a
    ·rename_i d;have:=(Mt.1 a).1;exact aI.2 ⟨d,by omega⟩
    cases a
 unfold b7;rw[Mw f];apply O9;intro k _;rw[N8,Mx,Mz,Mz,NF];unfold SZ;simp
def tv(c:aq): ∀(l:List Int)(r:cD)(o:List Int),rK (cW c r o l).1.2
 |[],r,o=>fun x h=>by cases h
 | i::l,r,o=>by
   unfold cW;split
   ·exact tv c l _ _
   split
   ·exact tv c l _ _
   exact uh _ _ _
def tu(c:aq): ∀(l:List Int)(r:cD),rK (dU c r l).2
 |[],r=>fun x h=>by cases h
 | i::l,r=>by
   unfold dU;split
   ·split
    ·exact tu c l _
    exact uh _ _ _
   exact tu c l _
def uI(c:aq)(d now:Int): ∀(l:List Int)(r:cD)(f:List Int),rK (ak c d now r f l).1.2
 |[],r,f=>fun x h=>by cases h
 | i::l,r,f=>by
   unfold ak;split
   ·exact uI c d now l _ _
   split
   ·exact uI c d now l _ _
   exact wE _ _ _ _ _
def uD{e:tn}(h:rK e){k:Nat}{ps:List Int}(a:e=some (k,ps)):((k:Int)==0)=false:=by
 have:=h (k,ps) a;simp only at this;simp;omega
def lX(c:aq)(d now:Int)(r:cD)(l:List Int):rK (g5 c d now r l).2:=by
 have a:=uI c d now l r [];unfold g5;split
 ·rename_i i f e;unfold p';have b:=tv c f i [];split
  ·exact tu _ _ _
  rename_i x y h g;rw[g]at b;exact b
 rename_i x y h e;rw[e]at a;exact a
def Le{c:aq}{act:List Int}(d:tU c act=true){i:Int}(hi:i∈act):aP c i<0\/(aP c i∈act/\(0<=aP c (aP c i)->aP c (aP c i)∈act)):=by
 have b:=cx d;obtain⟨_,_,_,_,e,_⟩:=b.of hi;rcases e with q|q
 ·exact .inl q
 obtain⟨_,_,_,_,a,_⟩:=b.of q;exact .inr ⟨q,fun f=>a.resolve_left (by omega)⟩
def Hp{c:aq}{r:cD}{l:List Int}{g:Int} :dU c r (g::l)=if uH c r.act g=true then(match g6 r (j8 c g) 0 with
 |(a,none)=>dU c a l
 |x=>x)
 else dU c r l:=by
 conv=>lhs;unfold dU
 rcases g6 r (j8 c g) 0 with⟨a,_|_⟩<;>rfl
def qM{c:aq}{d now:Int}{r:cD}{l:List Int}{e:Nat×List Int}(h:(ak c d now r [] l).1.2=some e):g5 c d now r l=(ak c d now r [] l).1:=by
 unfold g5;rcases a:ak c d now r [] l with⟨⟨b,_|x⟩,f⟩
 ·rw[a]at h;cases h
 rfl
def LQ{c:aq}{r:cD}{l:List Int}{e:Nat×List Int}(h:(cW c r [] l).1.2=some e):p' c r l=(cW c r [] l).1:=by
 unfold p';rcases a:cW c r [] l with⟨⟨b,_|x⟩,f⟩
 ·rw[a]at h;cases h
 rfl
def si(env:cf)(c:aq)(h:ct c):b8 prog env 108 [.agg (aA c)] (.own 3 1 ((g7 c (-1)).map aB)):=by
 have f0:=pq env c h.toRight (c.Z9.length+1) (-1) (by omega) (by omega);unfold aA at f0;refine qf func108 call108 ntmps108 results108 ?_;have F:=aA.eq_1;exact kb f0
def sl(env:cf)(c:aq)(h:ct c)(hcv:c.vars.length<=1000)(d now:Int)(hd:aJ d=true)(hn:0<=now/\now<=1099511627776)(r:cD)(hr:fe c r)(Z:r.act.Pairwise (· < ·))(hin: ∀x∈r.act,fi c x=true)(hl:r.act.length<=1000)(G:List Nat)(hG: ∀i∈G,i<c.Z9.length)(hGl:G.length<=1000)(hleg:(ak c d now r [] (zL G)).1.2=none->tU c (ak c d now r [] (zL G)).1.1.act=true):
 b8 prog env 59 [.agg (aA c), .agg (fk r d now none), .seq 1 (G.map aB)] (.agg (fk (g5 c d now r (zL G)).1 d now (g5 c d now r (zL G)).2)):=by
 have hfew:=h.Z6;have hpar:=h.toRight.par;have hAc:=bL h;have hall:=fun(r:cD) hr hl (l:List la) hll ha=>Ba env c (by omega) hcv d now hd hn r hr hl l hll ha;have hok:=fun(r:cD)(hr:fe c r)(l:List la) ha=>jo hd hn (l:=l) hr ha;have hri:=fun(l:List Nat) hl=>((DD env c (by omega) l hl).lend (al (fun _=>rfl) _)).seen;have fIn:=fun(l:List Int)(hl:l.length<=1000000)(i:Nat)=>dJ env l i hl;have fW:=((si env c h).lend (al (fun _=>rfl) _)).seen;have hD:=fun(act:List Int) hl (i:Nat) hi=>wi env c h act hl 40 i hi (by omega);have hra:=fun(r:cD)(s:List UInt8)=>sf env r d now s 0;have hcE:=uI c d now (zL G) r [];obtain⟨_,hck⟩:=iX hAc (l:=zL G) (f:=[]) hd hn hr Z;have hWl:(g7 c (-1)).length<=1000000:=by have:=u5 h.toRight;omega
 have hWk: ∀k∈g7 c (-1),k<c.Z9.length:=fun k N=>(gS h.toRight k).1 N;have hchf:aA c=[Sg c.name,I c.initial,qa c.vars,rv c.Z9,tg c.trans]:=rfl;rw[hchf]at hri fW hD;refine qf func59 call59 ntmps59 results59 ?_;have F:=gs Uy fk.eq_2 Us;repeat refine st ?_
 refine aH (D:=Nat×cD×List Int×tn) (fun x R=>[(2, .seq 1 (G.map aB)),(3, .loc 3 (R 3) 0 0),(4, .loc 4 (R 4) 0 0),(6, .loc 6 (R 6) 0 0),(7, .row 15 (R 15)),(8,I x.1)]) (fun x R=>[(3,⟨5,[aA c],26,false⟩),(4,⟨11,[fk x.2.1 d now x.2.2.2],91,false⟩),(6,⟨11,[[b6,b6,b6,b6,B false,b6,b6,I 0,I 0,I 0,I 0]],91,false⟩),(15,⟨1,x.2.2.1.map aa,3,true⟩)]) (fun x _ J=>(x.1<=G.length/\x.2.2.1.length<=x.1/\(match x.2.2.2 with
  |none=>ak c d now r [] (zL G)=ak c d now x.2.1 x.2.2.1 ((zL G).drop x.1)/\fe c x.2.1/\x.2.1.act.Pairwise (· < ·)/\(∀y∈x.2.1.act,fi c y=true)/\x.2.1.act.length<=r.act.length+x.1
  |some e=>(ak c d now r [] (zL G)).1=(x.2.1,some e)))/\J 4=false/\J 6=false/\J 15=false) (fun x=>(G.length-x.1)+(if x.2.2.2.isSome=true then 0 else 1)) (0,r,[],none) ?_ ?_ ?_ ?_
 ·exact⟨⟨NJ _,NJ _,rfl,hr,Z,hin,ND _⟩,by simp only[go_sem,NH]⟩
 ·exact qe
 ·(simp only[go_sem,F])
  try rfl
 rintro⟨j,E,f,e⟩ ws es ⟨⟨hj,hfl,a⟩,b,m,v⟩;simp only at hj hfl a;rcases e with _|⟨k,ps⟩
 ·obtain⟨a,hr1,P,hin1,hact⟩:=a;by_cases n:j<G.length
  ·obtain⟨i,K⟩:=gE n;have hil:=hG i (My K);obtain⟨s,T⟩:=gE hil;obtain⟨_,s1,s2⟩:=uZ h T;have ho:Tl c i=s.ZW:=by unfold Tl;rw[bK,T]
   have o:=ip n;have w:=aD n (by omega);have q3:=ip hil;have V:=fIn E.act (by omega) i;rw[xv (rL K),ho,iT T]at a;cases hc:E.act.contains (i:Int) with
   | true=>
     rw[hc]at a V;simp only[Nn]at a;have F:=ed Uy fk.eq_2 Us Ut Uu K T o w q3 b<|ai m v;repeat refine ff V ?_
     refine⟨(j+1,E,f,none),⟨⟨n,by simp only;omega,a,hr1,P,hin1,by simp only;omega⟩,?_⟩,?_,?_,?_⟩
     ·simp only[go_sem,b,m,v,NH]
     ·exact qe
     ·exact qe
     simp;omega
   | false=>
     rw[hc]at a V;simp only[NW,OB]at a;obtain⟨A,hA⟩: ∃A:List Nat,E.act=zL A:=⟨_,IU fun x K=>(aI.1 (hin1 x K)).1⟩;have hAlt: ∀k∈A,k<c.Z9.length:=fun k N=>aW.1 (hin1 k (by rw[hA];exact NG.2 ⟨k,N,rfl⟩));have hrs:=Gb (c:=c) (by rw[<-hA];exact P) hAlt hil (by rw[<-hA];exact hc);rw[<-hA]at hrs;have hAl:A.length=E.act.length:=by rw[hA,ar]
     have X:(bQ (E.act++[(i:Int)])).length<=r.act.length+(j+1):=by rw[l9,NA,Nf];omega
     obtain⟨s3,s4⟩:=ue P hc;have fr:=hri (A++[i]) (by rw[NA,Nf];omega);have fr1:(A++[i]).map aB=E.act.map aa++[[I i]]:=by rw[hA,bl,NC];rfl
     rw[fr1, <-bl,hrs]at fr;have f0:=hall { E with act:=bQ (E.act++[(i:Int)]) } { hr1 with } (by simp only;omega) s.ZW (by omega) s2;obtain⟨k1,k2⟩:=hok { E with act:=bQ (E.act++[(i:Int)]) } { hr1 with } s.ZW s2;have q4:dd (E.act.length+1) 8:=aC (by omega) (by omega);have q5:dd E.act.length 8:=aC (by omega) (by omega);have q6:dd (f.length+1) 8:=aC (by omega) (by omega);have q7:(f++[(i:Int)]).map aa=f.map aa++[[I i]]:=by rw[NC];rfl
     rcases hX:mv c d now { E with act:=bQ (E.act++[(i:Int)]) } s.ZW with⟨M,_|⟨k,ps⟩⟩
     ·rw[hX]at a f0 k1 k2;simp only at a k1;have hae:M.act=bQ (E.act++[(i:Int)]):=k2.act;have u:M.act.length<=r.act.length+(j+1):=by rw[hae];exact X
      have hrise2:M.act.Pairwise (· < ·):=by rw[hae];exact s3
      have hin2: ∀y∈M.act,fi c y=true:=fun y hy=>by
       rw[hae,s4]at hy;rcases hy with q|rfl
       ·exact hin1 y q
       exact aW.2 hil
      try clear k2 hae X s3 s4 hrs
      generalize hS:bQ (E.act++[(i:Int)])=S at*;unfold fk at f0;simp only at f0;rw[hchf]at f0;cases h3:s.kind==3 with
      | false=>
        have h4: ¬s.kind=3:=by simpa using h3
        rw[Mv h4]at a;have F:=ed Uy fk.eq_2 Us Ut Uu UG K T h3 o w<|kv q3 q4 q5 b m v;repeat refine ff V ?_
        refine lL fr ?_;repeat refine ff f0 ?_
        refine⟨(j+1,M,f,none),⟨⟨n,by simp only;omega,a,k1,hrise2,hin2,u⟩,?_⟩,?_,?_,?_⟩
        ·simp only[go_sem,b,m,v,NH]
        ·exact qe
        ·exact qe
        simp;omega
      | true=>
        have h4:s.kind=3:=by simpa using h3
        rw[Mw h4]at a;have F:=ed Uy fk.eq_2 Us Ut Uu UG K T h3 o w<|m7 q3 q4 q5 q6 b m v;repeat refine ff V ?_
        refine lL fr ?_;repeat refine ff f0 ?_
        refine⟨(j+1,M,f++[(i:Int)],none),⟨⟨n,by simp only[NA,Nf];omega,a,k1,hrise2,hin2,u⟩,?_⟩,?_,?_,?_⟩
        ·simp only[go_sem,b,m,v,NH]
        ·exact qe
        ·simp only[q7];exact qe
        simp;omega
     ·rw[hX]at a f0;simp only at a;try clear k1 k2 X s3 s4 hrs
      generalize hS:bQ (E.act++[(i:Int)])=S at*;unfold fk at f0;simp only at f0;rw[hchf]at f0;cases h3:s.kind==3 with
      | false=>
        have F:=ed Uy fk.eq_2 Us Ut Uu UG K T h3 o w<|kv q3 q4 q5 b m v;repeat refine ff V ?_
        refine lL fr ?_;repeat refine ff f0 ?_
        refine⟨(j+1,M,f,some (k,ps)),⟨⟨n,by simp only;omega,by rw[a]⟩,?_⟩,?_,?_,?_⟩
        ·simp only[go_sem,b,m,v,NH]
        ·exact qe
        ·exact qe
        simp;omega
      | true=>
        have F:=ed Uy fk.eq_2 Us Ut Uu UG K T h3 o w<|m7 q3 q4 q5 q6 b m v;repeat refine ff V ?_
        refine lL fr ?_;repeat refine ff f0 ?_
        refine⟨(j+1,M,f++[(i:Int)],some (k,ps)),⟨⟨n,by simp only[NA,Nf];omega,by rw[a]⟩,?_⟩,?_,?_,?_⟩
        ·simp only[go_sem,b,m,v,NH]
        ·exact qe
        ·simp only[q7];exact qe
        simp;omega
  obtain rfl:j=G.length:=by omega
  have o:=nl G.length;rw[OH (by rw[ar];omega)]at a;rw[show ak c d now E f []=((E,none),f) from rfl]at a;rw[a]at hck hleg;have hb:=hleg rfl;have kc:=hck rfl;simp only at hb kc
  have hfin: ∀x∈f,x∈E.act:=fun x K=>by
   rcases (kc.fin x).1 K with q|⟨q,_⟩
   ·simp at q
   exact(kc.mem x).2 (.inr q)
  have hfe:=tv c f E [];unfold g5;rw[a];simp only;have hl1:E.act.length<=1000000:=by omega
  try clear hck hleg a hcE kc hall hri hr Z hin hl
  have F:=m7 Uy fk.eq_2 Us o b m v;repeat refine st ?_
  refine aH (D:=Nat×cD×List Int×tn) (fun x R=>[(3, .loc 3 (R 3) 0 0),(4, .loc 4 (R 4) 0 0),(6, .loc 6 (R 6) 0 0),(7, .row 15 (R 15)),(9, .row 79 (R 79)),(10,I x.1)]) (fun x R=>[(3,⟨5,[aA c],26,false⟩),(4,⟨11,[fk x.2.1 d now x.2.2.2],91,false⟩),(6,⟨11,[[b6,b6,b6,b6,B false,b6,b6,I 0,I 0,I 0,I 0]],91,false⟩),(15,⟨1,f.map aa,3,true⟩),(79,⟨1,x.2.2.1.map aa,3,true⟩)]) (fun x _ J=>(x.1<=f.length/\x.2.2.1.length<=x.1/\(match x.2.2.2 with
   |none=>cW c E [] f=cW c x.2.1 (x.2.2.1.filter (SZ c)) (f.drop x.1)/\x.2.1.act=E.act/\ ∀g∈x.2.2.1,0<=g->g∈E.act
   |some e=>(cW c E [] f).1=(x.2.1,some e)))/\J 4=false/\J 6=false/\J 15=false/\J 79=false) (fun x=>(f.length-x.1)+(if x.2.2.2.isSome=true then 0 else 1)) (0,E,[],none) ?_ ?_ ?_ ?_
  ·exact⟨⟨NJ _,NJ _,rfl,rfl,fun g hg=>by simp at hg⟩,by simp only[go_sem,b,m,v,NH]⟩
  ·exact qe
  ·(simp only[go_sem,F])
   try rfl
  try clear b m v
  rintro⟨j,M,A,e⟩ ws es ⟨⟨hj,hal,a⟩,b,m,v,H⟩;simp only at hj hal a;rcases e with _|⟨k,ps⟩
  ·obtain⟨a,u,hAin⟩:=a;by_cases n:j<f.length
   ·obtain⟨i,K⟩:=gE n;have hia:=hfin i (My K);obtain⟨_,_,hiz,_⟩:=(cx hb).of hia;have O:=Le hb hia;obtain⟨k,s,rfl,T,_⟩:=dB hiz;have hkl:=(Mt.1 T).1;have o:=ip n;have w:=aD n (by omega);have q3:=ip hkl;have hps:=hpar k s T;rw[ob T]at O;rw[xc K,ob T]at a;by_cases Y:s.parent<0
    ·rw[Mw Y]at a;have F:=ed Uy fk.eq_2 Us Ut UB K T Y o w q3<|i0 b m v H;repeat refine st ?_
     refine⟨(j+1,{ M with over:=true },A,none),⟨⟨n,by simp only;omega,a,u,hAin⟩,?_⟩,?_,?_,?_⟩
     ·simp only[go_sem,b,m,v,H,NH]
     ·exact qe
     ·exact qe
     simp;omega
    rw[Mv Y]at a;have O:=(O.resolve_left Y).2;obtain⟨p,hp⟩: ∃p:Nat,s.parent=p:=⟨s.parent.toNat,by omega⟩;rw[hp]at a Y hps O;obtain⟨t,U⟩: ∃t,c.Z9[p]? =some t:=⟨c.Z9[p]'(by omega),Ms (by omega)⟩;have q5:(p:Int)< (c.Z9.length:Int):=by omega
    have q9:5+t.name.length<=9223372036854775807:=by have:=ov h U;omega
    have q6:dd (A.length+1) 8:=aC (by omega) (by omega);have q7:(A++[t.parent]).map aa=A.map aa++[[I t.parent]]:=by rw[NC];rfl
    have f0:=hra M (j8 c p);have C:=lh M (j8 c p) 0;rw[AA U]at f0 a C;rw[ob U,MZ]at a;rw[ob U]at O;rcases hX:g6 M ([100,111,110,101,46]++t.name) 0 with⟨Q,_|⟨k,ps⟩⟩
    ·rw[hX]at a f0 C;simp only at a C;unfold fk at f0;simp only at f0;have F:=ed Uy fk.eq_2 Us Ut UB K T hp U Y o<|qs w q3 q5 q6 q9 b m v H;repeat refine ff f0 ?_
     refine⟨(j+1,Q,A++[t.parent],none),⟨⟨n,by simp only[NA,Nf];omega,a,C.trans u,fun g hg h0=> ?_⟩,?_⟩,?_,?_,?_⟩
     ·rcases N1.1 hg with q|q
      ·exact hAin g q h0
      rw[NP.1 q]at h0 |-;exact O h0
     ·simp only[go_sem,b,m,v,H,NH]
     ·exact qe
     ·simp only[q7];exact qe
     simp;omega
    rw[hX]at a f0;simp only at a;unfold fk at f0;simp only at f0;have F:=ed Uy fk.eq_2 Us Ut UB K T hp U Y o<|qs w q3 q5 q6 q9 b m v H;repeat refine ff f0 ?_
    refine⟨(j+1,Q,A++[t.parent],some (k,ps)),⟨⟨n,by simp only[NA,Nf];omega,by rw[a]⟩,?_⟩,?_,?_,?_⟩
    ·simp only[go_sem,b,m,v,H,NH]
    ·exact qe
    ·simp only[q7];exact qe
    simp;omega
   obtain rfl:j=f.length:=by omega
   have o:=nl f.length;rw[OE]at a;rw[show cW c M (A.filter (SZ c)) []=((M,none),A.filter (SZ c)) from rfl]at a;unfold p';rw[a];simp only;rw[L9];have hb2:tU c M.act=true:=by rw[u];exact hb
   try clear hfe a hfin
   have F:=qr Uy fk.eq_2 Us o b m v H;repeat refine st ?_
   refine lL fW ?_;repeat refine st ?_
   generalize g7 c (-1)=W at*
   refine aH (D:=Nat×cD×tn) (fun x R=>[(3, .loc 3 (R 3) 0 0),(4, .loc 4 (R 4) 0 0),(6, .loc 6 (R 6) 0 0),(9, .row 79 (R 79)),(12, .seq 1 (W.map aB)),(13,I x.1)]) (fun x R=>[(3,⟨5,[aA c],26,false⟩),(4,⟨11,[fk x.2.1 d now x.2.2],91,false⟩),(6,⟨11,[[b6,b6,b6,b6,B false,b6,b6,I 0,I 0,I 0,I 0]],91,false⟩),(79,⟨1,A.map aa,3,true⟩)]) (fun x _ J=>(x.1<=W.length/\(match x.2.2 with
    |none=>dU c M (zL (W.filter fun k:Nat=>A.contains (k:Int)&&bX c k==2))=dU c x.2.1 (zL ((W.drop x.1).filter fun k:Nat=>A.contains (k:Int)&&bX c k==2))/\x.2.1.act=M.act
    |some e=>dU c M (zL (W.filter fun k:Nat=>A.contains (k:Int)&&bX c k==2))=(x.2.1,some e)))/\J 4=false/\J 6=false/\J 79=false) (fun x=>(W.length-x.1)+(if x.2.2.isSome=true then 0 else 1)) (0,M,none) ?_ ?_ ?_ ?_
   ·exact⟨⟨NJ _,rfl,rfl⟩,by simp only[go_sem,b,m,H,NH]⟩
   ·exact qe
   ·(simp only[go_sem,F])
    try rfl
   try clear b m v H
   rintro⟨j,Q,e⟩ ws es ⟨⟨hj,a⟩,b,m,H⟩;simp only at hj a;rcases e with _|⟨k,ps⟩
   ·obtain⟨a,z⟩:=a;have hb3:tU c Q.act=true:=by rw[z];exact hb2
    have hal3:Q.act.length<=1000000:=by rw[z,u];exact hl1
    by_cases n:j<W.length
    ·obtain⟨g,K⟩:=gE n;have hgl:=hWk g (My K);obtain⟨t,U⟩: ∃t,c.Z9[g]? =some t:=⟨c.Z9[g]'(by omega),Ms (by omega)⟩;have o:=ip n;have w:=aD n (by omega);have q3:=ip hgl;have q9:5+t.name.length<=9223372036854775807:=by have:=ov h U;omega
     have V:=(fIn A (by omega) g).lend rfl;rw[aZ K]at a;cases hc:A.contains (g:Int) with
     | false=>
       rw[hc]at V;rw[QN (by rw[hc];simp)]at a;have F:=ed Uy fk.eq_2 Us Ut Uu K U o w q3 b<|ai m H;repeat refine st ?_
       refine lL V ?_;repeat refine st ?_
       refine⟨(j+1,Q,none),⟨⟨n,a,z⟩,?_⟩,?_,?_,?_⟩
       ·simp only[go_sem,b,m,H,NH]
       ·exact qe
       ·exact qe
       simp;omega
     | true=>
       rw[hc]at V;cases h2:t.kind==2 with
       | false=>
         rw[QN (by rw[iT U,h2];simp)]at a;have F:=ed Uy fk.eq_2 Us Ut Uu K U h2 o w q3<|gs b m H;repeat refine st ?_
         refine lL V ?_;repeat refine st ?_
         refine⟨(j+1,Q,none),⟨⟨n,a,z⟩,?_⟩,?_,?_,?_⟩
         ·simp only[go_sem,b,m,H,NH]
         ·exact qe
         ·exact qe
         simp;omega
       | true=>
         rw[QM (by rw[iT U,h2,hc];rfl),show ∀L:List Nat,zL (g::L)=(g:Int)::zL L from fun _=>rfl,Hp]at a;have hga:(g:Int)∈Q.act:=by rw[z,u];exact hAin g (Mz.1 hc) (by omega)
         have hdb:uH c Q.act g=DB c Q.act 40 g:=by unfold uH;rw[Mz.2 hga,Np,xr h hb3 40 g hga]
         rw[hdb]at a;have fd:=hD Q.act hal3 g hgl;cases hd2:DB c Q.act 40 g with
         | false=>
           rw[hd2]at fd a;simp only[NW,OB]at a;have F:=ed Uy fk.eq_2 Us Ut Uu K U h2 o w q3<|gs b m H;repeat refine st ?_
           refine lL V ?_;repeat refine ff fd ?_
           refine⟨(j+1,Q,none),⟨⟨n,a,z⟩,?_⟩,?_,?_,?_⟩
           ·simp only[go_sem,b,m,H,NH]
           ·exact qe
           ·exact qe
           simp;omega
         | true=>
           rw[hd2]at fd a;simp only[Nn]at a;have f0:=hra Q (j8 c g);have C:=lh Q (j8 c g) 0;rw[AA U]at f0 a C;rcases hX:g6 Q ([100,111,110,101,46]++t.name) 0 with⟨r4,_|⟨k,ps⟩⟩
           ·rw[hX]at a f0 C;simp only at a C;unfold fk at f0;simp only at f0;have F:=ed Uy fk.eq_2 Us Ut Uu K U h2 o w q3<|i0 q9 b m H;repeat refine st ?_
            refine lL V ?_;repeat refine y3 fd f0 ?_
            refine⟨(j+1,r4,none),⟨⟨n,a,C.trans z⟩,?_⟩,?_,?_,?_⟩
            ·simp only[go_sem,b,m,H,NH]
            ·exact qe
            ·exact qe
            simp;omega
           rw[hX]at a f0;simp only at a;unfold fk at f0;simp only at f0;have F:=ed Uy fk.eq_2 Us Ut Uu K U h2 o w q3<|i0 q9 b m H;repeat refine st ?_
           refine lL V ?_;repeat refine y3 fd f0 ?_
           refine⟨(j+1,r4,some (k,ps)),⟨⟨n,by rw[a]⟩,?_⟩,?_,?_,?_⟩
           ·simp only[go_sem,b,m,H,NH]
           ·exact qe
           ·exact qe
           simp;omega
    obtain rfl:j=W.length:=by omega
    have o:=nl W.length;rw[OE]at a;rw[show dU c Q (zL (([]:List Nat).filter fun k:Nat=>A.contains (k:Int)&&bX c k==2))=(Q,none) from rfl]at a;rw[a];show fq _ _ _ _ _ _;have F:=m7 Uy fk.eq_2 Us o b m H;exact fc
   have N:=uD (tu c _ M) (by rw[a]);rw[a];show fq _ _ _ _ _ _;by_cases o:(j:Int)< (W.length:Int)
   ·have F:=qr Uy fk.eq_2 Us N o b m H;exact fc
   have F:=qr Uy fk.eq_2 Us N o b m H;exact fc
  have N:=uD hfe (by rw[a]);rw[LQ (by rw[a]),a];show fq _ _ _ _ _ _;generalize g7 c (-1)=W at*;by_cases o:(j:Int)< (f.length:Int)
  ·by_cases w:(0:Int)< (W.length:Int)
   ·have F:=mX Uy fk.eq_2 Us N o w b m v H;repeat (first|refine aT ?_|refine st ?_|refine aO 40 ?_)
    refine lL fW ?_;repeat (first|refine aT ?_|refine st ?_|refine aO 40 ?_)
    exact aR
   have F:=mX Uy fk.eq_2 Us N o w b m v H;repeat (first|refine aT ?_|refine st ?_|refine aO 40 ?_)
   refine lL fW ?_;repeat (first|refine aT ?_|refine st ?_|refine aO 40 ?_)
   exact aR
  by_cases w:(0:Int)< (W.length:Int)
  ·have F:=mX Uy fk.eq_2 Us N o w b m v H;repeat (first|refine aT ?_|refine st ?_|refine aO 40 ?_)
   refine lL fW ?_;repeat (first|refine aT ?_|refine st ?_|refine aO 40 ?_)
   exact aR
  have F:=mX Uy fk.eq_2 Us N o w b m v H;repeat (first|refine aT ?_|refine st ?_|refine aO 40 ?_)
  refine lL fW ?_;repeat (first|refine aT ?_|refine st ?_|refine aO 40 ?_)
  exact aR
 have N:=uD hcE (by rw[a]);rw[qM (by rw[a]),a];show fq _ _ _ _ _ _;generalize g7 c (-1)=W at*;by_cases q0:(j:Int)< (G.length:Int)
 ·by_cases o:(0:Int)< (f.length:Int)
  ·by_cases w:(0:Int)< (W.length:Int)
   ·have F:=mX Uy fk.eq_2 Us N q0 o w b m v;repeat (first|refine aT ?_|refine st ?_|refine aO 40 ?_)
    refine lL fW ?_;repeat (first|refine aT ?_|refine st ?_|refine aO 40 ?_)
    exact aR
   have F:=mX Uy fk.eq_2 Us N q0 o w b m v;repeat (first|refine aT ?_|refine st ?_|refine aO 40 ?_)
   refine lL fW ?_;repeat (first|refine aT ?_|refine st ?_|refine aO 40 ?_)
   exact aR
  by_cases w:(0:Int)< (W.length:Int)
  ·have F:=mX Uy fk.eq_2 Us N q0 o w b m v;repeat (first|refine aT ?_|refine st ?_|refine aO 40 ?_)
   refine lL fW ?_;repeat (first|refine aT ?_|refine st ?_|refine aO 40 ?_)
   exact aR
  have F:=mX Uy fk.eq_2 Us N q0 o w b m v;repeat (first|refine aT ?_|refine st ?_|refine aO 40 ?_)
  refine lL fW ?_;repeat (first|refine aT ?_|refine st ?_|refine aO 40 ?_)
  exact aR
 by_cases o:(0:Int)< (f.length:Int)
 ·by_cases w:(0:Int)< (W.length:Int)
  ·have F:=mX Uy fk.eq_2 Us N q0 o w b m v;repeat (first|refine aT ?_|refine st ?_|refine aO 40 ?_)
   refine lL fW ?_;repeat (first|refine aT ?_|refine st ?_|refine aO 40 ?_)
   exact aR
  have F:=mX Uy fk.eq_2 Us N q0 o w b m v;repeat (first|refine aT ?_|refine st ?_|refine aO 40 ?_)
  refine lL fW ?_;repeat (first|refine aT ?_|refine st ?_|refine aO 40 ?_)
  exact aR
 by_cases w:(0:Int)< (W.length:Int)
 ·have F:=mX Uy fk.eq_2 Us N q0 o w b m v;repeat (first|refine aT ?_|refine st ?_|refine aO 40 ?_)
  refine lL fW ?_;repeat (first|refine aT ?_|refine st ?_|refine aO 40 ?_)
  exact aR
 have F:=mX Uy fk.eq_2 Us N q0 o w b m v;repeat (first|refine aT ?_|refine st ?_|refine aO 40 ?_)
 refine lL fW ?_;repeat (first|refine aT ?_|refine st ?_|refine aO 40 ?_)
 exact aR
end
section
def iq{P:Program}(w:World)(n z A d:TypeId)(p:TypeInfo)(hi:P.info? d=some p)(g o c f:Nat)(a:Addr)(e m:Nat)(b:Array Value)(t:TypeId)(cs:List Value)(k:Nat)(y:P.underlying n=some (.slice d))
 (r:w.heap[g]? =some (.cells b t (0,0)))(s:Nat.min e c=k)(x:cs.length=k*p.size)(i: ∀j v,cs[j]? =some v->w.cell? (a.add j)=some v)(h:o+cs.length<=b.size)(q: ∀v∈cs,v.oneCell'=true):
 (Builtin.copy_ #[n,z] A #[.slice (some ⟨g,o,none⟩) c f, .slice (some a) e m]).run P w= .ok (goInt k) (w.setRow g (b.toList.take o++cs++b.toList.drop (o+cs.length)).toArray):=by
 have u:=run_loadCells_list (P:=P) w a cs i;have l:=Rn P g o t cs 0 b w r (by simpa using h) q;simp only[PP]at l;simp[Builtin.copy_,NO y,Builtin.lenOf,Builtin.firstCells,sizeOf,typeInfo,hi,s, <-x,u,l]
structure TP(P:Program)(f:FuncId)(e:TypeId)(sz:Nat):Prop where
 enter: ∀(args:Array Value)(w:World),(callFunc f args).run P w= .ok (.enter f args) w
 calls: ∀(w:World)(base i n:Nat)(v u:Value)(xs ys:List Value),base<=w.heap.size->w.ownsRow base e sz v n xs->w.ownsRow base e sz u 1 ys->(∀g,v.ownBlock=some g->u.ownBlock≠some g)->(∀x∈xs,x.oneCell'=true)->(∀y∈ys,y.oneCell'=true)->i<=n->n<=4096->
  Calls P f #[v, .int .i64 (i:Int),u] w fun ex w'=> ∃v',ex= .returned v'/\w.grownBy w' v.ownBlock/\(∀g,v'.ownBlock=some g->v.ownBlock=some g\/w.heap.size<=g)/\w'.ownsRow base e sz v' (n+1) (xs.take (i*sz)++ys++xs.drop (i*sz))
def nY(i:Nat)(y:List AV)(es:List (List AV)):List (List AV):=es.take i++y::es.drop i
def Hb(i:Nat)(y:List AV)(es:List (List AV)):(nY i y es).length=es.length+1:=by
 unfold nY;rw[NA,NQ,NK,O7];omega
def vA{i:Nat}{y:List AV}{es:List (List AV)}(hi:i<=es.length)(p:Nat):(nY i y es)[p]? =if p<i then es[p]? else if p=i then some y else es[p-1]? :=by
 have c:(es.take i).length=i:=by rw[NK];omega
 unfold nY;by_cases a:p<i
 ·rw[Mw a,N9 (by omega),Na,Mw a]
 rw[Mv a,NY (by omega),c];by_cases b:p=i
 ·subst b;rw[Mw rfl,QA];rfl
 rw[Mv b,show p-i=(p-1-i)+1 by omega,Of,OS,show i+(p-1-i)=p-1 by omega]
def LK{i sz n:Nat}{xs b:List Value}(k:xs.length=n*sz)(l:b.length=sz)(hi:i<=n)(p j:Nat)(h:j<sz):
 (xs.take (i*sz)++b++xs.drop (i*sz))[p*sz+j]? =if p<i then xs[p*sz+j]? else if p=i then b[j]? else xs[(p-1)*sz+j]? :=by
 have f:i*sz<=n*sz:=Ni _ hi;have d:(xs.take (i*sz)).length=i*sz:=by rw[NK];omega
 by_cases a:p<i
 ·have:(p+1)*sz<=i*sz:=Ni _ a;rw[SX]at this;rw[Mw a,Nj,N9 (by omega),Na,Mw (by omega)]
 rw[Mv a];by_cases c:p=i
 ·subst c;rw[Mw rfl,Nj,NY (by omega),d,Nat.add_sub_cancel_left,N9 (by omega)]
 have e:(i+1)*sz<=p*sz:=Ni _ (by omega);rw[SX]at e;have g:p*sz=(p-1)*sz+sz:=by rw[<-SX];congr 1;omega
 rw[Mv c,NY (by rw[NA];omega),NA,d,OS]
 congr 1
 omega
def IP{P:Program}{env:cf}{f:FuncId}{r r2 D N:Nat}{row row2:Row}{rows:Nat->Option Row}{vsv:Nat->Nat}{i:Nat}{y:List AV}(hC:TP P f row.e row.sz)(hr:rows r=some row)(hr2:rows r2=some row2)(hne:r2≠r)(hv:vsv r=D)(hv2:vsv r2=N)(W:row.sz≠0)(hp:row.pure=true)(hp2:row2.pure=true)
 (e2:row2.e=row.e)(z2:row2.sz=row.sz)(y2:row2.es=[y])(hi:i<=row.es.length)(hn:row.es.length<=4096):
 Tm P env f [.row r D, .lit (.int .i64 (i:Int)), .row r2 N] [r,r2] rows vsv ⟨.row r (D+1),[.renew r { row with es:=nY i y row.es }]⟩:=by
 refine⟨hC.enter,fun x s a w m vs hx n V hl O=> ?_⟩;obtain⟨M,q2,q3⟩:=V r (by simp);obtain⟨p1,p2,p3⟩:=V r2 (by simp);rw[hr]at M;rw[hv]at q2;rw[hr2]at p1;rw[hv2]at p2
 match vs,hl with
 |[u,iv,u2],_=>
 have hu:u=m.ρ r:=(O 0 u _ rfl rfl).row_.2 q2 row M;have hu2:u2=m.ρ r2:=(O 2 u2 _ rfl rfl).row_.2 p2 row2 p1;have hiv:iv= .int .i64 (i:Int):=(O 1 iv _ rfl rfl).lit_;subst hu hu2 hiv;have k:=(n.rows r row M).cells W;have k2:=(n.rows r2 row2 p1).cells (by rw[z2];exact W);obtain⟨Y,c1,c2,c3⟩:=k.own;obtain⟨ys,d1,d2,d3⟩:=k2.own;rw[y2,e2,z2]at d1;have hyl:ys.length=row.sz:=by have:=d1.1;simpa using this
 refine(hC.calls w x.w.heap.size i row.es.length (m.ρ r) (m.ρ r2) Y ys n.Z4.size c1 d1 (fun g G=>n.inj r r2 row row2 M p1 (Oq hne) g G) c2 d2 hi hn).mono ?_;rintro ex X ⟨J,rfl,G,C,ho⟩
 have hb:Below x.w.heap.size w X:=⟨G.os,G.tape,G.output,G.size,fun q R=>G.block q (Oa R n.Z4.size) fun e=>by
  have:=(be c1 e.symm).1
  omega⟩
 have T: ∀g,(m.ρ r).ownBlock=some g-> ∀o,¬m.S g o:=k.fresh q3
 have L: ∀g,J.ownBlock=some g-> ∀o,¬m.S g o:=fun g hgv o z=>by
  rcases C g hgv with e|e
  ·exact T g e o z
  have:=n.low g o z;omega
 have d: ∀b o,m.S b o->m.S b o/\l5 w X b o:=fun b o z=>⟨z, .block (G.block b (n.low b o z) fun e=>T b e.symm o z)⟩;have Q:(⟨m.S,m6 m.ρ r J⟩:lP).ρ r=J:=aw ..
 have hS2:dT x (s.renew r { row with es:=nY i y row.es } false) a X ⟨m.S,m6 m.ρ r J⟩:=by
  refine n.renew r _ false J m.S hb d (fun b o z=> .inl z) (fun q v U R Z H=>⟨?_,fun e=> ?_,fun _ z=>z⟩) ?_ fun b hf=>⟨G.block b (n.fxlt hf) fun e=>n.Z5 r row M b e.symm hf,fun _ z=>z,fun e=> ?_⟩
  ·exact G.block Z ((n.rows q v R).blk H).2 fun e=>n.inj r q row v M R (Oq U) Z e.symm H
  ·rcases C Z e with e|e
   ·exact n.inj r q row v M R (Oq U) Z e H
   have:=((n.rows q v R).blk H).2;omega
  ·have S:=Hb i y row.es;refine .inl ⟨k.pos,fun p e A=> ?_,⟨Y.take (i*row.sz)++ys++Y.drop (i*row.sz),by rw[Q];show X.ownsRow _ _ _ _ (nY i y row.es).length _;rw[S];exact ho,?_,?_⟩,fun A=> ?_,fun g B o _=> ?_,fun _ g B o=> ?_⟩
   ·rw[vA hi]at A;split at A
    ·exact k.len _ _ A
    split at A
    ·cases A;have:=k2.len 0 y (by rw[y2];rfl);rw[z2]at this;exact this
    exact k.len _ _ A
   ·intro u hu;rcases N1.1 hu with hu|hu
    ·rcases N1.1 hu with hu|hu
     ·exact c2 u (Ot hu)
     exact d2 u hu
    exact c2 u (P6 hu)
   ·intro p j c t
    have hj:j<row.sz:=by
     unfold bx at t;cases l:(nY i y row.es)[p]? with
     |none=>rw[l]at t;cases t
     | some e=>
       rw[l]at t;have t:e[j]? =some c:=t;have I:=(Mt.1 t).1;rw[vA hi]at l;split at l
       ·rw[k.len _ _ l]at I;exact I
       split at l
       ·cases l;have:=k2.len 0 y (by rw[y2];rfl);rw[z2]at this;omega
       rw[k.len _ _ l]at I;exact I
    rw[LK c1.1 hyl hi p j hj];unfold bx at t;rw[vA hi]at t
    suffices h: ∃u,(if p<i then Y[p*row.sz+j]? else if p=i then ys[j]? else Y[(p-1)*row.sz+j]?)=some u/\RV m.S X u c by
     obtain⟨u,K,E⟩:=h;exact⟨u,K,by show (if row.pure=true then _ else _);rw[Mw hp];exact E⟩
    by_cases h1:p<i
    ·rw[Mw h1]at t |-;obtain⟨u,K,E⟩:=c3 p j c t;rw[Mw hp]at E;exact⟨u,K,E.mono d⟩
    rw[Mv h1]at t |-;by_cases h2:p=i
    ·rw[Mw h2]at t |-;obtain⟨u,K,E⟩:=d3 0 j c (by unfold bx;rw[y2];exact t);rw[Mw hp2]at E;refine⟨u,by rw[Pr,OI]at K;exact K,E.mono d⟩
    rw[Mv h2]at t |-;obtain⟨u,K,E⟩:=c3 (p-1) j c t;rw[Mw hp]at E;exact⟨u,K,E.mono d⟩
   ·have A:m6 s.esc r false r=true:=A;rw[aw]at A;cases A
   ·rw[Q]at B;exact L g B o
   rw[Q]at B;exact L g B o
  rcases C b e with e|e
  ·exact n.Z5 r row M b e hf
  have:=n.fxlt hf;omega
 have h1:J.oneCell'=true:=by
  rcases ho.2 with⟨ee,_⟩|⟨g,cp,cur,ee,_⟩<;>rw[ee]<;>rfl
 refine⟨J,_,rfl,hS2, .row r (D+1) h1 ?_ fun _ row' _=> ?_⟩
 ·show D+1<=m6 s.vs r (s.vs r+1) r;rw[aw,q2];exact ND _
 show J=m6 m.ρ r J r;rw[aw]
section
variable {P:Program} {env:cf} {s:St}
theorem IL{o:Oper}{f:FuncId}{args:List AV}{a:List C'}{n:St}{row row2:Row}{i:Nat}{y:List AV}{l:fU}{K:St->List fU->Prop}(r r2:Nat)(w:bJ env s.f o=some (f,args))(u:TP P f row.e row.sz)(j:row.sz≠0)(A:row.pure=true)(e:row2.pure=true)(p:row2.e=row.e)(E:row2.sz=row.sz)(D:row2.es=[y])(d:r2≠r)(hi:i<=row.es.length)(z:row.es.length<=4096)
 (v:Is args [.row r (s.vs r), .lit (.int .i64 (i:Int)), .row r2 (s.vs r2)])(B:Is (s.rows r) (some row))(h:Is (s.rows r2) (some row2))(x:Is (s.esc r) false)(c:Is (s.esc r2) false)(t:Is ((⟨.row r (s.vs r+1),[.renew r { row with es:=nY i y row.es }]⟩:Out).app o.dst s) n)(m:Is (⟨[r,r2],[r,r2],[r],[]⟩:fU) l)(k:jt P env a n fun C b=>K C (l::b)):jt P env (⟨o, .always⟩::a) s K:=by
 unfold Is at m;subst m
 exact qP w v (IP u B h d rfl rfl j A e p E D hi z) (fun q g=>by
  rcases NX.1 g with rfl|g
  ·exact x
  rw[NP.1 g];exact c) t k
end
end
end Go.Proofs.YtfhkmjbjafeckaaGreatDoor
