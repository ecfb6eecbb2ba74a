/- Calls of the library's that put an element of a row of the call's own into another one. No program is named here. -/
import Derived.Test.YtknkhdgfhbogdaaGreatDoorP27
set_option maxRecDepth 100000
set_option maxHeartbeats 16000000
set_option linter.unusedSimpArgs false
set_option linter.defProp false
namespace Go.Proofs.YtknkhdgfhbogdaaGreatDoor
open Go.Proofs.Tryz
open Go.RowKit
section
def FQ{c:aq}{A:List Nat}{i:Nat}(e:(zL A).Pairwise (· < ·))(b: ∀k∈A,k<c.Z9.length)(hi:i<c.Z9.length)(f:(zL A).contains (i:Int)=false):zL (mV c (A++[i]))=bQ (zL A++[(i:Int)]):=by
 obtain⟨g,h⟩:=tf e f;refine lh (by unfold mV;exact xa) g fun x=> ?_;rw[h];constructor
 ·intro d;obtain⟨k,a,rfl⟩:=Lp.1 d;have:=lx.1 (Lq.1 a).2;rcases ML.1 this with q|q
  ·exact .inl (Lp.2 ⟨k,q,rfl⟩)
  exact .inr (by rw[MA.1 q])
 rintro(d|rfl)
 ·obtain⟨k,a,rfl⟩:=Lp.1 d;exact Lp.2 ⟨k,Lq.2 ⟨MK.2 (b k a),lx.2 (by simp[a])⟩,rfl⟩
 exact Lp.2 ⟨i,Lq.2 ⟨MK.2 hi,lx.2 (by simp)⟩,rfl⟩
def Ri(c:aq)(g:Int):Bool:=decide (0<=g)&&(bW c g==2)
def LB(c:aq)(A:List Int)(g:Int):(if 0<=g/\bW c g=2 then A.filter (Ri c)++[g] else A.filter (Ri c))=(A++[g]).filter (Ri c):=by
 rw[MR];split
 ·rename_i h;have:Ri c g=true:=by unfold Ri;simp[h]
  rw[Og this];rfl
 rename_i h;have: ¬Ri c g=true:=by unfold Ri;simpa using h
 rw[Oh this];simp
def KI(c:aq)(A:List Int):bt c (A.filter (Ri c))=(gc c (-1)).filter fun k:Nat=>A.contains (k:Int)&&bW c k==2:=by
 have f:(A.filter (Ri c)).all (ed c)=true:=by
  rw[Lm];intro x e;have b:=(Lq.1 e).2;unfold Ri bW at b;rw[Li]at b;cases a:at_ c x with
  |none=>rw[a]at b;simp at b
  | some s=>
    unfold at_ at a;split at a
    ·rename_i d;have:=(Ld.1 a).1;exact aI.2 ⟨d,by omega⟩
    cases a
 unfold bt;rw[Lj f];apply NR;intro k _;rw[MP,Li,Lk,Lk,Lq];unfold Ri;simp
def s9(c:aq): ∀(l:List Int)(r:ch)(o:List Int),vE (cV c r o l).1.2
 |[],r,o=>fun x h=>by cases h
 | i::l,r,o=>by
   unfold cV;split
   ·exact s9 c l _ _
   split
   ·exact s9 c l _ _
   exact tl _ _ _
def s5(c:aq): ∀(l:List Int)(r:ch),vE (dP c r l).2
 |[],r=>fun x h=>by cases h
 | i::l,r=>by
   unfold dP;split
   ·split
    ·exact s5 c l _
    exact tl _ _ _
   exact s5 c l _
def sq(c:aq)(d now:Int): ∀(l:List Int)(r:ch)(f:List Int),vE (ah c d now r f l).1.2
 |[],r,f=>fun x h=>by cases h
 | i::l,r,f=>by
   unfold ah;split
   ·exact sq c d now l _ _
   split
   ·exact sq c d now l _ _
   exact vC _ _ _ _ _
def vJ{e:r5}(h:vE e){k:Nat}{ps:List Int}(a:e=some (k,ps)):((k:Int)==0)=false:=by
 have:=h (k,ps) a;simp only at this;simp;omega
def BK(c:aq)(d now:Int)(r:ch)(l:List Int):vE (go c d now r l).2:=by
 have a:=sq c d now l r [];unfold go;split
 ·rename_i i f e;unfold o2;have b:=s9 c f i [];split
  ·exact s5 _ _ _
  rename_i x y h g;rw[g]at b;exact b
 rename_i x y h e;rw[e]at a;exact a
def KN{c:aq}{act:List Int}(d:rx c act=true){i:Int}(hi:i∈act):aP c i<0\/(aP c i∈act/\(0<=aP c (aP c i)->aP c (aP c i)∈act)):=by
 have b:=cr d;obtain⟨_,_,_,_,e,_⟩:=b.of hi;rcases e with q|q
 ·exact .inl q
 obtain⟨_,_,_,_,a,_⟩:=b.of q;exact .inr ⟨q,fun f=>a.resolve_left (by omega)⟩
def G2{c:aq}{r:ch}{l:List Int}{g:Int} :dP c r (g::l)=if sn c r.act g=true then(match gb r (jV c g) 0 with
 |(a,none)=>dP c a l
 |x=>x)
 else dP c r l:=by
 conv=>lhs;unfold dP
 rcases gb r (jV c g) 0 with⟨a,_|_⟩<;>rfl
def pR{c:aq}{d now:Int}{r:ch}{l:List Int}{e:Nat×List Int}(h:(ah c d now r [] l).1.2=some e):go c d now r l=(ah c d now r [] l).1:=by
 unfold go;rcases a:ah c d now r [] l with⟨⟨b,_|x⟩,f⟩
 ·rw[a]at h;cases h
 rfl
def Jx{c:aq}{r:ch}{l:List Int}{e:Nat×List Int}(h:(cV c r [] l).1.2=some e):o2 c r l=(cV c r [] l).1:=by
 unfold o2;rcases a:cV c r [] l with⟨⟨b,_|x⟩,f⟩
 ·rw[a]at h;cases h
 rfl
def rb(env:b6)(c:aq)(h:b8 c):b7 prog env 193 [.agg (aA c)] (.own 3 1 ((gc c (-1)).map aB)):=by
 have f0:=oz env c h.toRight (c.Z9.length+1) (-1) (by omega) (by omega);unfold aA at f0;refine qf func193 call193 ntmps193 results193 ?_;have F:=aA.eq_1;exact g9 f0
def CF(env:b6)(c:aq)(h:b8 c)(hcv:c.vars.length<=1000)(d now:Int)(hd:aL d=true)(hn:0<=now/\now<=1099511627776)(r:ch)(hr:ek c r)(Z:r.act.Pairwise (· < ·))(hin: ∀x∈r.act,ed c x=true)(hl:r.act.length<=1000)(G:List Nat)(hG: ∀i∈G,i<c.Z9.length)(hGl:G.length<=1000)(hleg:(ah c d now r [] (zL G)).1.2=none->rx c (ah c d now r [] (zL G)).1.1.act=true):
 b7 prog env 133 [.agg (aA c), .agg (fb r d now none), .seq 1 (G.map aB)] (.agg (fb (go c d now r (zL G)).1 d now (go c d now r (zL G)).2)):=by
 have hfew:=h.Z6;have hpar:=h.toRight.par;have hAc:=bT h;have hall:=fun(r:ch) hr hl (l:List jn) hll ha=>AQ env c (by omega) hcv d now hd hn r hr hl l hll ha;have hok:=fun(r:ch)(hr:ek c r)(l:List jn) ha=>jb hd hn (l:=l) hr ha;have hri:=fun(l:List Nat) hl=>((Bm env c (by omega) l hl).lend (aj (fun _=>rfl) _)).seen;have fIn:=fun(l:List Int)(hl:l.length<=1000000)(i:Nat)=>cF env l i hl;have fW:=((rb env c h).lend (aj (fun _=>rfl) _)).seen;have hD:=fun(act:List Int) hl (i:Nat) hi=>v7 env c h act hl 40 i hi (by omega);have hra:=fun(r:ch)(s:List UInt8)=>r9 env r d now s 0;have hcE:=sq c d now (zL G) r [];obtain⟨_,hck⟩:=iK hAc (l:=zL G) (f:=[]) hd hn hr Z;have hWl:(gc c (-1)).length<=1000000:=by have:=tW h.toRight;omega
 have hWk: ∀k∈gc c (-1),k<c.Z9.length:=fun k N=>(gJ h.toRight k).1 N;have hchf:aA c=[Sg c.name,I c.initial,n7 c.vars,o' c.Z9,rk c.trans]:=rfl;rw[hchf]at hri fW hD;refine qf func133 call133 ntmps133 results133 ?_;have F:=fI SZ fb.eq_2 SR;repeat refine st ?_
 refine aG (D:=Nat×ch×List Int×r5) (fun x R=>[(2, .seq 1 (G.map aB)),(3, .loc 3 (R 3) 0 0),(4, .loc 4 (R 4) 0 0),(6, .loc 6 (R 6) 0 0),(7, .row 15 (R 15)),(8,I x.1)]) (fun x R=>[(3,⟨5,[aA c],26,false⟩),(4,⟨11,[fb x.2.1 d now x.2.2.2],165,false⟩),(6,⟨11,[[ct,ct,ct,ct,B false,ct,ct,I 0,I 0,I 0,I 0]],165,false⟩),(15,⟨1,x.2.2.1.map aa,3,true⟩)]) (fun x _ J=>(x.1<=G.length/\x.2.2.1.length<=x.1/\(match x.2.2.2 with
  |none=>ah c d now r [] (zL G)=ah c d now x.2.1 x.2.2.1 ((zL G).drop x.1)/\ek c x.2.1/\x.2.1.act.Pairwise (· < ·)/\(∀y∈x.2.1.act,ed c y=true)/\x.2.1.act.length<=r.act.length+x.1
  |some e=>(ah c d now r [] (zL G)).1=(x.2.1,some e)))/\J 4=false/\J 6=false/\J 15=false) (fun x=>(G.length-x.1)+(if x.2.2.2.isSome=true then 0 else 1)) (0,r,[],none) ?_ ?_ ?_ ?_
 ·exact⟨⟨Lx _,Lx _,rfl,hr,Z,hin,Lr _⟩,by simp only[go_sem,Ls]⟩
 ·exact qe
 ·(simp only[go_sem,F])
  try rfl
 rintro⟨j,E,f,e⟩ ws es ⟨⟨hj,hfl,a⟩,b,m,v⟩;simp only at hj hfl a;rcases e with _|⟨k,ps⟩
 ·obtain⟨a,hr1,P,hin1,hact⟩:=a;by_cases n:j<G.length
  ·obtain⟨i,K⟩:=gE n;have hil:=hG i (Lh K);obtain⟨s,T⟩:=gE hil;obtain⟨_,s1,s2⟩:=tT h T;have ho:Rv c i=s.ZW:=by unfold Rv;rw[bL,T]
   have o:=h9 n;have w:=aD n (by omega);have q3:=h9 hil;have V:=fIn E.act (by omega) i;rw[wb (qQ K),ho,iG T]at a;cases hc:E.act.contains (i:Int) with
   | true=>
     rw[hc]at a V;simp only[Mb]at a;have F:=dk SZ fb.eq_2 SR SS SU K T o w q3 b<|ai m v;repeat refine ef V ?_
     refine⟨(j+1,E,f,none),⟨⟨n,by simp only;omega,a,hr1,P,hin1,by simp only;omega⟩,?_⟩,?_,?_,?_⟩
     ·simp only[go_sem,b,m,v,Ls]
     ·exact qe
     ·exact qe
     simp;omega
   | false=>
     rw[hc]at a V;simp only[MH,Mi]at a;obtain⟨A,hA⟩: ∃A:List Nat,E.act=zL A:=⟨_,Gy fun x K=>(aI.1 (hin1 x K)).1⟩;have hAlt: ∀k∈A,k<c.Z9.length:=fun k N=>aV.1 (hin1 k (by rw[hA];exact Lp.2 ⟨k,N,rfl⟩));have hrs:=FQ (c:=c) (by rw[<-hA];exact P) hAlt hil (by rw[<-hA];exact hc);rw[<-hA]at hrs;have hAl:A.length=E.act.length:=by rw[hA,ak]
     have X:(bQ (E.act++[(i:Int)])).length<=r.act.length+(j+1):=by rw[lH,Ll,MX];omega
     obtain⟨s3,s4⟩:=tf P hc;have fr:=hri (A++[i]) (by rw[Ll,MX];omega);have fr1:(A++[i]).map aB=E.act.map aa++[[I i]]:=by rw[hA,b9,Ln];rfl
     rw[fr1, <-b9,hrs]at fr;have f0:=hall { E with act:=bQ (E.act++[(i:Int)]) } { hr1 with } (by simp only;omega) s.ZW (by omega) s2;obtain⟨k1,k2⟩:=hok { E with act:=bQ (E.act++[(i:Int)]) } { hr1 with } s.ZW s2;have q4:cI (E.act.length+1) 8:=aC (by omega) (by omega);have q5:cI E.act.length 8:=aC (by omega) (by omega);have q6:cI (f.length+1) 8:=aC (by omega) (by omega);have q7:(f++[(i:Int)]).map aa=f.map aa++[[I i]]:=by rw[Ln];rfl
     rcases hX:lE c d now { E with act:=bQ (E.act++[(i:Int)]) } s.ZW with⟨M,_|⟨k,ps⟩⟩
     ·rw[hX]at a f0 k1 k2;simp only at a k1;have hae:M.act=bQ (E.act++[(i:Int)]):=k2.act;have u:M.act.length<=r.act.length+(j+1):=by rw[hae];exact X
      have hrise2:M.act.Pairwise (· < ·):=by rw[hae];exact s3
      have hin2: ∀y∈M.act,ed c y=true:=fun y hy=>by
       rw[hae,s4]at hy;rcases hy with q|rfl
       ·exact hin1 y q
       exact aV.2 hil
      try clear k2 hae X s3 s4 hrs
      generalize hS:bQ (E.act++[(i:Int)])=S at*;unfold fb at f0;simp only at f0;rw[hchf]at f0;cases h3:s.kind==3 with
      | false=>
        have h4: ¬s.kind=3:=by simpa using h3
        rw[Lf h4]at a;have F:=dk SZ fb.eq_2 SR SS SU S9 K T h3 o w<|ip q3 q4 q5 b m v;repeat refine ef V ?_
        refine lL fr ?_;repeat refine ef f0 ?_
        refine⟨(j+1,M,f,none),⟨⟨n,by simp only;omega,a,k1,hrise2,hin2,u⟩,?_⟩,?_,?_,?_⟩
        ·simp only[go_sem,b,m,v,Ls]
        ·exact qe
        ·exact qe
        simp;omega
      | true=>
        have h4:s.kind=3:=by simpa using h3
        rw[Lj h4]at a;have F:=dk SZ fb.eq_2 SR SS SU S9 K T h3 o w<|lP q3 q4 q5 q6 b m v;repeat refine ef V ?_
        refine lL fr ?_;repeat refine ef f0 ?_
        refine⟨(j+1,M,f++[(i:Int)],none),⟨⟨n,by simp only[Ll,MX];omega,a,k1,hrise2,hin2,u⟩,?_⟩,?_,?_,?_⟩
        ·simp only[go_sem,b,m,v,Ls]
        ·exact qe
        ·simp only[q7];exact qe
        simp;omega
     ·rw[hX]at a f0;simp only at a;try clear k1 k2 X s3 s4 hrs
      generalize hS:bQ (E.act++[(i:Int)])=S at*;unfold fb at f0;simp only at f0;rw[hchf]at f0;cases h3:s.kind==3 with
      | false=>
        have F:=dk SZ fb.eq_2 SR SS SU S9 K T h3 o w<|ip q3 q4 q5 b m v;repeat refine ef V ?_
        refine lL fr ?_;repeat refine ef f0 ?_
        refine⟨(j+1,M,f,some (k,ps)),⟨⟨n,by simp only;omega,by rw[a]⟩,?_⟩,?_,?_,?_⟩
        ·simp only[go_sem,b,m,v,Ls]
        ·exact qe
        ·exact qe
        simp;omega
      | true=>
        have F:=dk SZ fb.eq_2 SR SS SU S9 K T h3 o w<|lP q3 q4 q5 q6 b m v;repeat refine ef V ?_
        refine lL fr ?_;repeat refine ef f0 ?_
        refine⟨(j+1,M,f++[(i:Int)],some (k,ps)),⟨⟨n,by simp only[Ll,MX];omega,by rw[a]⟩,?_⟩,?_,?_,?_⟩
        ·simp only[go_sem,b,m,v,Ls]
        ·exact qe
        ·simp only[q7];exact qe
        simp;omega
  obtain rfl:j=G.length:=by omega
  have o:=nl G.length;rw[Mm (by rw[ak];omega)]at a;rw[show ah c d now E f []=((E,none),f) from rfl]at a;rw[a]at hck hleg;have hb:=hleg rfl;have kc:=hck rfl;simp only at hb kc
  have hfin: ∀x∈f,x∈E.act:=fun x K=>by
   rcases (kc.fin x).1 K with q|⟨q,_⟩
   ·simp at q
   exact(kc.mem x).2 (.inr q)
  have hfe:=s9 c f E [];unfold go;rw[a];simp only;have hl1:E.act.length<=1000000:=by omega
  try clear hck hleg a hcE kc hall hri hr Z hin hl
  have F:=lP SZ fb.eq_2 SR o b m v;repeat refine st ?_
  refine aG (D:=Nat×ch×List Int×r5) (fun x R=>[(3, .loc 3 (R 3) 0 0),(4, .loc 4 (R 4) 0 0),(6, .loc 6 (R 6) 0 0),(7, .row 15 (R 15)),(9, .row 79 (R 79)),(10,I x.1)]) (fun x R=>[(3,⟨5,[aA c],26,false⟩),(4,⟨11,[fb x.2.1 d now x.2.2.2],165,false⟩),(6,⟨11,[[ct,ct,ct,ct,B false,ct,ct,I 0,I 0,I 0,I 0]],165,false⟩),(15,⟨1,f.map aa,3,true⟩),(79,⟨1,x.2.2.1.map aa,3,true⟩)]) (fun x _ J=>(x.1<=f.length/\x.2.2.1.length<=x.1/\(match x.2.2.2 with
   |none=>cV c E [] f=cV c x.2.1 (x.2.2.1.filter (Ri c)) (f.drop x.1)/\x.2.1.act=E.act/\ ∀g∈x.2.2.1,0<=g->g∈E.act
   |some e=>(cV c E [] f).1=(x.2.1,some e)))/\J 4=false/\J 6=false/\J 15=false/\J 79=false) (fun x=>(f.length-x.1)+(if x.2.2.2.isSome=true then 0 else 1)) (0,E,[],none) ?_ ?_ ?_ ?_
  ·exact⟨⟨Lx _,Lx _,rfl,rfl,fun g hg=>by simp at hg⟩,by simp only[go_sem,b,m,v,Ls]⟩
  ·exact qe
  ·(simp only[go_sem,F])
   try rfl
  try clear b m v
  rintro⟨j,M,A,e⟩ ws es ⟨⟨hj,hal,a⟩,b,m,v,H⟩;simp only at hj hal a;rcases e with _|⟨k,ps⟩
  ·obtain⟨a,u,hAin⟩:=a;by_cases n:j<f.length
   ·obtain⟨i,K⟩:=gE n;have hia:=hfin i (Lh K);obtain⟨_,_,hiz,_⟩:=(cr hb).of hia;have O:=KN hb hia;obtain⟨k,s,rfl,T,_⟩:=cO hiz;have hkl:=(Ld.1 T).1;have o:=h9 n;have w:=aD n (by omega);have q3:=h9 hkl;have hps:=hpar k s T;rw[nf T]at O;rw[wQ K,nf T]at a;by_cases Y:s.parent<0
    ·rw[Lj Y]at a;have F:=dk SZ fb.eq_2 SR SS S3 K T Y o w q3<|hH b m v H;repeat refine st ?_
     refine⟨(j+1,{ M with over:=true },A,none),⟨⟨n,by simp only;omega,a,u,hAin⟩,?_⟩,?_,?_,?_⟩
     ·simp only[go_sem,b,m,v,H,Ls]
     ·exact qe
     ·exact qe
     simp;omega
    rw[Lf Y]at a;have O:=(O.resolve_left Y).2;obtain⟨p,hp⟩: ∃p:Nat,s.parent=p:=⟨s.parent.toNat,by omega⟩;rw[hp]at a Y hps O;obtain⟨t,U⟩: ∃t,c.Z9[p]? =some t:=⟨c.Z9[p]'(by omega),Lc (by omega)⟩;have q5:(p:Int)< (c.Z9.length:Int):=by omega
    have q9:5+t.name.length<=9223372036854775807:=by have:=oD h U;omega
    have q6:cI (A.length+1) 8:=aC (by omega) (by omega);have q7:(A++[t.parent]).map aa=A.map aa++[[I t.parent]]:=by rw[Ln];rfl
    have f0:=hra M (jV c p);have C:=lJ M (jV c p) 0;rw[yd U]at f0 a C;rw[nf U,LB]at a;rw[nf U]at O;rcases hX:gb M ([100,111,110,101,46]++t.name) 0 with⟨Q,_|⟨k,ps⟩⟩
    ·rw[hX]at a f0 C;simp only at a C;unfold fb at f0;simp only at f0;have F:=dk SZ fb.eq_2 SR SS S3 K T hp U Y o<|pf w q3 q5 q6 q9 b m v H;repeat refine ef f0 ?_
     refine⟨(j+1,Q,A++[t.parent],none),⟨⟨n,by simp only[Ll,MX];omega,a,C.trans u,fun g hg h0=> ?_⟩,?_⟩,?_,?_,?_⟩
     ·rcases ML.1 hg with q|q
      ·exact hAin g q h0
      rw[MA.1 q]at h0 |-;exact O h0
     ·simp only[go_sem,b,m,v,H,Ls]
     ·exact qe
     ·simp only[q7];exact qe
     simp;omega
    rw[hX]at a f0;simp only at a;unfold fb at f0;simp only at f0;have F:=dk SZ fb.eq_2 SR SS S3 K T hp U Y o<|pf w q3 q5 q6 q9 b m v H;repeat refine ef f0 ?_
    refine⟨(j+1,Q,A++[t.parent],some (k,ps)),⟨⟨n,by simp only[Ll,MX];omega,by rw[a]⟩,?_⟩,?_,?_,?_⟩
    ·simp only[go_sem,b,m,v,H,Ls]
    ·exact qe
    ·simp only[q7];exact qe
    simp;omega
   obtain rfl:j=f.length:=by omega
   have o:=nl f.length;rw[Mu]at a;rw[show cV c M (A.filter (Ri c)) []=((M,none),A.filter (Ri c)) from rfl]at a;unfold o2;rw[a];simp only;rw[KI];have hb2:rx c M.act=true:=by rw[u];exact hb
   try clear hfe a hfin
   have F:=ns SZ fb.eq_2 SR o b m v H;repeat refine st ?_
   refine lL fW ?_;repeat refine st ?_
   generalize gc c (-1)=W at*
   refine aG (D:=Nat×ch×r5) (fun x R=>[(3, .loc 3 (R 3) 0 0),(4, .loc 4 (R 4) 0 0),(6, .loc 6 (R 6) 0 0),(9, .row 79 (R 79)),(12, .seq 1 (W.map aB)),(13,I x.1)]) (fun x R=>[(3,⟨5,[aA c],26,false⟩),(4,⟨11,[fb x.2.1 d now x.2.2],165,false⟩),(6,⟨11,[[ct,ct,ct,ct,B false,ct,ct,I 0,I 0,I 0,I 0]],165,false⟩),(79,⟨1,A.map aa,3,true⟩)]) (fun x _ J=>(x.1<=W.length/\(match x.2.2 with
    |none=>dP c M (zL (W.filter fun k:Nat=>A.contains (k:Int)&&bW c k==2))=dP c x.2.1 (zL ((W.drop x.1).filter fun k:Nat=>A.contains (k:Int)&&bW c k==2))/\x.2.1.act=M.act
    |some e=>dP c M (zL (W.filter fun k:Nat=>A.contains (k:Int)&&bW c k==2))=(x.2.1,some e)))/\J 4=false/\J 6=false/\J 79=false) (fun x=>(W.length-x.1)+(if x.2.2.isSome=true then 0 else 1)) (0,M,none) ?_ ?_ ?_ ?_
   ·exact⟨⟨Lx _,rfl,rfl⟩,by simp only[go_sem,b,m,H,Ls]⟩
   ·exact qe
   ·(simp only[go_sem,F])
    try rfl
   try clear b m v H
   rintro⟨j,Q,e⟩ ws es ⟨⟨hj,a⟩,b,m,H⟩;simp only at hj a;rcases e with _|⟨k,ps⟩
   ·obtain⟨a,z⟩:=a;have hb3:rx c Q.act=true:=by rw[z];exact hb2
    have hal3:Q.act.length<=1000000:=by rw[z,u];exact hl1
    by_cases n:j<W.length
    ·obtain⟨g,K⟩:=gE n;have hgl:=hWk g (Lh K);obtain⟨t,U⟩: ∃t,c.Z9[g]? =some t:=⟨c.Z9[g]'(by omega),Lc (by omega)⟩;have o:=h9 n;have w:=aD n (by omega);have q3:=h9 hgl;have q9:5+t.name.length<=9223372036854775807:=by have:=oD h U;omega
     have V:=(fIn A (by omega) g).lend rfl;rw[ar K]at a;cases hc:A.contains (g:Int) with
     | false=>
       rw[hc]at V;rw[Oh (by rw[hc];simp)]at a;have F:=dk SZ fb.eq_2 SR SS SU K U o w q3 b<|ai m H;repeat refine st ?_
       refine lL V ?_;repeat refine st ?_
       refine⟨(j+1,Q,none),⟨⟨n,a,z⟩,?_⟩,?_,?_,?_⟩
       ·simp only[go_sem,b,m,H,Ls]
       ·exact qe
       ·exact qe
       simp;omega
     | true=>
       rw[hc]at V;cases h2:t.kind==2 with
       | false=>
         rw[Oh (by rw[iG U,h2];simp)]at a;have F:=dk SZ fb.eq_2 SR SS SU K U h2 o w q3<|fI b m H;repeat refine st ?_
         refine lL V ?_;repeat refine st ?_
         refine⟨(j+1,Q,none),⟨⟨n,a,z⟩,?_⟩,?_,?_,?_⟩
         ·simp only[go_sem,b,m,H,Ls]
         ·exact qe
         ·exact qe
         simp;omega
       | true=>
         rw[Og (by rw[iG U,h2,hc];rfl),show ∀L:List Nat,zL (g::L)=(g:Int)::zL L from fun _=>rfl,G2]at a;have hga:(g:Int)∈Q.act:=by rw[z,u];exact hAin g (Lk.1 hc) (by omega)
         have hdb:sn c Q.act g=CA c Q.act 40 g:=by unfold sn;rw[Lk.2 hga,M5,w9 h hb3 40 g hga]
         rw[hdb]at a;have fd:=hD Q.act hal3 g hgl;cases hd2:CA c Q.act 40 g with
         | false=>
           rw[hd2]at fd a;simp only[MH,Mi]at a;have F:=dk SZ fb.eq_2 SR SS SU K U h2 o w q3<|fI b m H;repeat refine st ?_
           refine lL V ?_;repeat refine ef fd ?_
           refine⟨(j+1,Q,none),⟨⟨n,a,z⟩,?_⟩,?_,?_,?_⟩
           ·simp only[go_sem,b,m,H,Ls]
           ·exact qe
           ·exact qe
           simp;omega
         | true=>
           rw[hd2]at fd a;simp only[Mb]at a;have f0:=hra Q (jV c g);have C:=lJ Q (jV c g) 0;rw[yd U]at f0 a C;rcases hX:gb Q ([100,111,110,101,46]++t.name) 0 with⟨r4,_|⟨k,ps⟩⟩
           ·rw[hX]at a f0 C;simp only at a C;unfold fb at f0;simp only at f0;have F:=dk SZ fb.eq_2 SR SS SU K U h2 o w q3<|hH q9 b m H;repeat refine st ?_
            refine lL V ?_;repeat refine vb fd f0 ?_
            refine⟨(j+1,r4,none),⟨⟨n,a,C.trans z⟩,?_⟩,?_,?_,?_⟩
            ·simp only[go_sem,b,m,H,Ls]
            ·exact qe
            ·exact qe
            simp;omega
           rw[hX]at a f0;simp only at a;unfold fb at f0;simp only at f0;have F:=dk SZ fb.eq_2 SR SS SU K U h2 o w q3<|hH q9 b m H;repeat refine st ?_
           refine lL V ?_;repeat refine vb fd f0 ?_
           refine⟨(j+1,r4,some (k,ps)),⟨⟨n,by rw[a]⟩,?_⟩,?_,?_,?_⟩
           ·simp only[go_sem,b,m,H,Ls]
           ·exact qe
           ·exact qe
           simp;omega
    obtain rfl:j=W.length:=by omega
    have o:=nl W.length;rw[Mu]at a;rw[show dP c Q (zL (([]:List Nat).filter fun k:Nat=>A.contains (k:Int)&&bW c k==2))=(Q,none) from rfl]at a;rw[a];show fk _ _ _ _ _ _;have F:=lP SZ fb.eq_2 SR o b m H;exact dT
   have N:=vJ (s5 c _ M) (by rw[a]);rw[a];show fk _ _ _ _ _ _;by_cases o:(j:Int)< (W.length:Int)
   ·have F:=ns SZ fb.eq_2 SR N o b m H;exact dT
   have F:=ns SZ fb.eq_2 SR N o b m H;exact dT
  have N:=vJ hfe (by rw[a]);rw[Jx (by rw[a]),a];show fk _ _ _ _ _ _;generalize gc c (-1)=W at*;by_cases o:(j:Int)< (f.length:Int)
  ·by_cases w:(0:Int)< (W.length:Int)
   ·have F:=la SZ fb.eq_2 SR N o w b m v H;repeat (first|refine aT ?_|refine st ?_|refine aO 40 ?_)
    refine lL fW ?_;repeat (first|refine aT ?_|refine st ?_|refine aO 40 ?_)
    exact aR
   have F:=la SZ fb.eq_2 SR N o w b m v H;repeat (first|refine aT ?_|refine st ?_|refine aO 40 ?_)
   refine lL fW ?_;repeat (first|refine aT ?_|refine st ?_|refine aO 40 ?_)
   exact aR
  by_cases w:(0:Int)< (W.length:Int)
  ·have F:=la SZ fb.eq_2 SR N o w b m v H;repeat (first|refine aT ?_|refine st ?_|refine aO 40 ?_)
   refine lL fW ?_;repeat (first|refine aT ?_|refine st ?_|refine aO 40 ?_)
   exact aR
  have F:=la SZ fb.eq_2 SR N o w b m v H;repeat (first|refine aT ?_|refine st ?_|refine aO 40 ?_)
  refine lL fW ?_;repeat (first|refine aT ?_|refine st ?_|refine aO 40 ?_)
  exact aR
 have N:=vJ hcE (by rw[a]);rw[pR (by rw[a]),a];show fk _ _ _ _ _ _;generalize gc c (-1)=W at*;by_cases q0:(j:Int)< (G.length:Int)
 ·by_cases o:(0:Int)< (f.length:Int)
  ·by_cases w:(0:Int)< (W.length:Int)
   ·have F:=la SZ fb.eq_2 SR N q0 o w b m v;repeat (first|refine aT ?_|refine st ?_|refine aO 40 ?_)
    refine lL fW ?_;repeat (first|refine aT ?_|refine st ?_|refine aO 40 ?_)
    exact aR
   have F:=la SZ fb.eq_2 SR N q0 o w b m v;repeat (first|refine aT ?_|refine st ?_|refine aO 40 ?_)
   refine lL fW ?_;repeat (first|refine aT ?_|refine st ?_|refine aO 40 ?_)
   exact aR
  by_cases w:(0:Int)< (W.length:Int)
  ·have F:=la SZ fb.eq_2 SR N q0 o w b m v;repeat (first|refine aT ?_|refine st ?_|refine aO 40 ?_)
   refine lL fW ?_;repeat (first|refine aT ?_|refine st ?_|refine aO 40 ?_)
   exact aR
  have F:=la SZ fb.eq_2 SR N q0 o w b m v;repeat (first|refine aT ?_|refine st ?_|refine aO 40 ?_)
  refine lL fW ?_;repeat (first|refine aT ?_|refine st ?_|refine aO 40 ?_)
  exact aR
 by_cases o:(0:Int)< (f.length:Int)
 ·by_cases w:(0:Int)< (W.length:Int)
  ·have F:=la SZ fb.eq_2 SR N q0 o w b m v;repeat (first|refine aT ?_|refine st ?_|refine aO 40 ?_)
   refine lL fW ?_;repeat (first|refine aT ?_|refine st ?_|refine aO 40 ?_)
   exact aR
  have F:=la SZ fb.eq_2 SR N q0 o w b m v;repeat (first|refine aT ?_|refine st ?_|refine aO 40 ?_)
  refine lL fW ?_;repeat (first|refine aT ?_|refine st ?_|refine aO 40 ?_)
  exact aR
 by_cases w:(0:Int)< (W.length:Int)
 ·have F:=la SZ fb.eq_2 SR N q0 o w b m v;repeat (first|refine aT ?_|refine st ?_|refine aO 40 ?_)
  refine lL fW ?_;repeat (first|refine aT ?_|refine st ?_|refine aO 40 ?_)
  exact aR
 have F:=la SZ fb.eq_2 SR N q0 o w b m v;repeat (first|refine aT ?_|refine st ?_|refine aO 40 ?_)
 refine lL fW ?_;repeat (first|refine aT ?_|refine st ?_|refine aO 40 ?_)
 exact aR
end
section
def ia{P:Program}(w:World)(n z A d:TypeId)(p:TypeInfo)(hi:P.info? d=some p)(g o c f:Nat)(a:Addr)(e m:Nat)(b:Array Value)(t:TypeId)(cs:List Value)(k:Nat)(y:P.underlying n=some (.slice d))
 (r:w.heap[g]? =some (.cells b t (0,0)))(s:Nat.min e c=k)(x:cs.length=k*p.size)(i: ∀j v,cs[j]? =some v->w.cell? (a.add j)=some v)(h:o+cs.length<=b.size)(q: ∀v∈cs,v.oneCell'=true):
 (Builtin.copy_ #[n,z] A #[.slice (some ⟨g,o,none⟩) c f, .slice (some a) e m]).run P w= .ok (goInt k) (w.setRow g (b.toList.take o++cs++b.toList.drop (o+cs.length)).toArray):=by
 have u:=run_loadCells_list (P:=P) w a cs i;have l:=QI P g o t cs 0 b w r (by simpa using h) q;simp only[OA]at l;simp[Builtin.copy_,Lz y,Builtin.lenOf,Builtin.firstCells,sizeOf,typeInfo,hi,s, <-x,u,l]
structure Sc(P:Program)(f:FuncId)(e:TypeId)(sz:Nat):Prop where
 enter: ∀(args:Array Value)(w:World),(callFunc f args).run P w= .ok (.enter f args) w
 calls: ∀(w:World)(base i n:Nat)(v u:Value)(xs ys:List Value),base<=w.heap.size->w.ownsRow base e sz v n xs->w.ownsRow base e sz u 1 ys->(∀g,v.ownBlock=some g->u.ownBlock≠some g)->(∀x∈xs,x.oneCell'=true)->(∀y∈ys,y.oneCell'=true)->i<=n->n<=4096->
  Calls P f #[v, .int .i64 (i:Int),u] w fun ex w'=> ∃v',ex= .returned v'/\w.grownBy w' v.ownBlock/\(∀g,v'.ownBlock=some g->v.ownBlock=some g\/w.heap.size<=g)/\w'.ownsRow base e sz v' (n+1) (xs.take (i*sz)++ys++xs.drop (i*sz))
def mi(i:Nat)(y:List AV)(es:List (List AV)):List (List AV):=es.take i++y::es.drop i
def GI(i:Nat)(y:List AV)(es:List (List AV)):(mi i y es).length=es.length+1:=by
 unfold mi;rw[Ll,MB,Lw,NP];omega
def uF{i:Nat}{y:List AV}{es:List (List AV)}(hi:i<=es.length)(p:Nat):(mi i y es)[p]? =if p<i then es[p]? else if p=i then some y else es[p-1]? :=by
 have c:(es.take i).length=i:=by rw[Lw];omega
 unfold mi;by_cases a:p<i
 ·rw[Lj a,MY (by omega),MV,Lj a]
 rw[Lf a,MO (by omega),c];by_cases b:p=i
 ·subst b;rw[Lj rfl,Ol];rfl
 rw[Lf b,show p-i=(p-1-i)+1 by omega,NW,Ms,show i+(p-1-i)=p-1 by omega]
def Jt{i sz n:Nat}{xs b:List Value}(k:xs.length=n*sz)(l:b.length=sz)(hi:i<=n)(p j:Nat)(h:j<sz):
 (xs.take (i*sz)++b++xs.drop (i*sz))[p*sz+j]? =if p<i then xs[p*sz+j]? else if p=i then b[j]? else xs[(p-1)*sz+j]? :=by
 have f:i*sz<=n*sz:=M3 _ hi;have d:(xs.take (i*sz)).length=i*sz:=by rw[Lw];omega
 by_cases a:p<i
 ·have:(p+1)*sz<=i*sz:=M3 _ a;rw[Qb]at this;rw[Lj a,M4,MY (by omega),MV,Lj (by omega)]
 rw[Lf a];by_cases c:p=i
 ·subst c;rw[Lj rfl,M4,MO (by omega),d,Nat.add_sub_cancel_left,MY (by omega)]
 have e:(i+1)*sz<=p*sz:=M3 _ (by omega);rw[Qb]at e;have g:p*sz=(p-1)*sz+sz:=by rw[<-Qb];congr 1;omega
 rw[Lf c,MO (by rw[Ll];omega),Ll,d,Ms]
 congr 1
 omega
def Gv{P:Program}{env:b6}{f:FuncId}{r r2 D N:Nat}{row row2:Row}{rows:Nat->Option Row}{vsv:Nat->Nat}{i:Nat}{y:List AV}(hC:Sc P f row.e row.sz)(hr:rows r=some row)(hr2:rows r2=some row2)(hne:r2≠r)(hv:vsv r=D)(hv2:vsv r2=N)(W:row.sz≠0)(hp:row.pure=true)(hp2:row2.pure=true)
 (e2:row2.e=row.e)(z2:row2.sz=row.sz)(y2:row2.es=[y])(hi:i<=row.es.length)(hn:row.es.length<=4096):
 Rx P env f [.row r D, .lit (.int .i64 (i:Int)), .row r2 N] [r,r2] rows vsv ⟨.row r (D+1),[.renew r { row with es:=mi i y row.es }]⟩:=by
 refine⟨hC.enter,fun x s a w m vs hx n V hl O=> ?_⟩;obtain⟨M,q2,q3⟩:=V r (by simp);obtain⟨p1,p2,p3⟩:=V r2 (by simp);rw[hr]at M;rw[hv]at q2;rw[hr2]at p1;rw[hv2]at p2
 match vs,hl with
 |[u,iv,u2],_=>
 have hu:u=m.ρ r:=(O 0 u _ rfl rfl).row_.2 q2 row M;have hu2:u2=m.ρ r2:=(O 2 u2 _ rfl rfl).row_.2 p2 row2 p1;have hiv:iv= .int .i64 (i:Int):=(O 1 iv _ rfl rfl).lit_;subst hu hu2 hiv;have k:=(n.rows r row M).cells W;have k2:=(n.rows r2 row2 p1).cells (by rw[z2];exact W);obtain⟨Y,c1,c2,c3⟩:=k.own;obtain⟨ys,d1,d2,d3⟩:=k2.own;rw[y2,e2,z2]at d1;have hyl:ys.length=row.sz:=by have:=d1.1;simpa using this
 refine(hC.calls w x.w.heap.size i row.es.length (m.ρ r) (m.ρ r2) Y ys n.Z3.size c1 d1 (fun g G=>n.inj r r2 row row2 M p1 (N5 hne) g G) c2 d2 hi hn).mono ?_;rintro ex X ⟨J,rfl,G,C,ho⟩
 have hb:Below x.w.heap.size w X:=⟨G.os,G.tape,G.output,G.size,fun q R=>G.block q (NS R n.Z3.size) fun e=>by
  have:=(bf c1 e.symm).1
  omega⟩
 have T: ∀g,(m.ρ r).ownBlock=some g-> ∀o,¬m.S g o:=k.fresh q3
 have L: ∀g,J.ownBlock=some g-> ∀o,¬m.S g o:=fun g hgv o z=>by
  rcases C g hgv with e|e
  ·exact T g e o z
  have:=n.low g o z;omega
 have d: ∀b o,m.S b o->m.S b o/\kE w X b o:=fun b o z=>⟨z, .block (G.block b (n.low b o z) fun e=>T b e.symm o z)⟩;have Q:(⟨m.S,mc m.ρ r J⟩:k6).ρ r=J:=aw ..
 have hS2:dj x (s.renew r { row with es:=mi i y row.es } false) a X ⟨m.S,mc m.ρ r J⟩:=by
  refine n.renew r _ false J m.S hb d (fun b o z=> .inl z) (fun q v U R Z H=>⟨?_,fun e=> ?_,fun _ z=>z⟩) ?_ fun b hf=>⟨G.block b (n.fxlt hf) fun e=>n.Z5 r row M b e.symm hf,fun _ z=>z,fun e=> ?_⟩
  ·exact G.block Z ((n.rows q v R).blk H).2 fun e=>n.inj r q row v M R (N5 U) Z e.symm H
  ·rcases C Z e with e|e
   ·exact n.inj r q row v M R (N5 U) Z e H
   have:=((n.rows q v R).blk H).2;omega
  ·have S:=GI i y row.es;refine .inl ⟨k.pos,fun p e A=> ?_,⟨Y.take (i*row.sz)++ys++Y.drop (i*row.sz),by rw[Q];show X.ownsRow _ _ _ _ (mi i y row.es).length _;rw[S];exact ho,?_,?_⟩,fun A=> ?_,fun g B o _=> ?_,fun _ g B o=> ?_⟩
   ·rw[uF hi]at A;split at A
    ·exact k.len _ _ A
    split at A
    ·cases A;have:=k2.len 0 y (by rw[y2];rfl);rw[z2]at this;exact this
    exact k.len _ _ A
   ·intro u hu;rcases ML.1 hu with hu|hu
    ·rcases ML.1 hu with hu|hu
     ·exact c2 u (N6 hu)
     exact d2 u hu
    exact c2 u (OI hu)
   ·intro p j c t
    have hj:j<row.sz:=by
     unfold bs at t;cases l:(mi i y row.es)[p]? with
     |none=>rw[l]at t;cases t
     | some e=>
       rw[l]at t;have t:e[j]? =some c:=t;have I:=(Ld.1 t).1;rw[uF hi]at l;split at l
       ·rw[k.len _ _ l]at I;exact I
       split at l
       ·cases l;have:=k2.len 0 y (by rw[y2];rfl);rw[z2]at this;omega
       rw[k.len _ _ l]at I;exact I
    rw[Jt c1.1 hyl hi p j hj];unfold bs at t;rw[uF hi]at t
    suffices h: ∃u,(if p<i then Y[p*row.sz+j]? else if p=i then ys[j]? else Y[(p-1)*row.sz+j]?)=some u/\RV m.S X u c by
     obtain⟨u,K,E⟩:=h;exact⟨u,K,by show (if row.pure=true then _ else _);rw[Lj hp];exact E⟩
    by_cases h1:p<i
    ·rw[Lj h1]at t |-;obtain⟨u,K,E⟩:=c3 p j c t;rw[Lj hp]at E;exact⟨u,K,E.mono d⟩
    rw[Lf h1]at t |-;by_cases h2:p=i
    ·rw[Lj h2]at t |-;obtain⟨u,K,E⟩:=d3 0 j c (by unfold bs;rw[y2];exact t);rw[Lj hp2]at E;refine⟨u,by rw[OP,Mt]at K;exact K,E.mono d⟩
    rw[Lf h2]at t |-;obtain⟨u,K,E⟩:=c3 (p-1) j c t;rw[Lj hp]at E;exact⟨u,K,E.mono d⟩
   ·have A:mc s.esc r false r=true:=A;rw[aw]at A;cases A
   ·rw[Q]at B;exact L g B o
   rw[Q]at B;exact L g B o
  rcases C b e with e|e
  ·exact n.Z5 r row M b e hf
  have:=n.fxlt hf;omega
 have h1:J.oneCell'=true:=by
  rcases ho.2 with⟨ee,_⟩|⟨g,cp,cur,ee,_⟩<;>rw[ee]<;>rfl
 refine⟨J,_,rfl,hS2, .row r (D+1) h1 ?_ fun _ row' _=> ?_⟩
 ·show D+1<=mc s.vs r (s.vs r+1) r;rw[aw,q2];exact Lr _
 show J=mc m.ρ r J r;rw[aw]
section
variable {P:Program} {env:b6} {s:St}
theorem Gt{o:Oper}{f:FuncId}{args:List AV}{a:List IS}{n:St}{row row2:Row}{i:Nat}{y:List AV}{l:fl}{K:St->List fl->Prop}(r r2:Nat)(w:bK env s.f o=some (f,args))(u:Sc P f row.e row.sz)(j:row.sz≠0)(A:row.pure=true)(e:row2.pure=true)(p:row2.e=row.e)(E:row2.sz=row.sz)(D:row2.es=[y])(d:r2≠r)(hi:i<=row.es.length)(z:row.es.length<=4096)
 (v:Is args [.row r (s.vs r), .lit (.int .i64 (i:Int)), .row r2 (s.vs r2)])(B:Is (s.rows r) (some row))(h:Is (s.rows r2) (some row2))(x:Is (s.esc r) false)(c:Is (s.esc r2) false)(t:Is ((⟨.row r (s.vs r+1),[.renew r { row with es:=mi i y row.es }]⟩:Out).app o.dst s) n)(m:Is (⟨[r,r2],[r,r2],[r],[]⟩:fl) l)(k:i9 P env a n fun C b=>K C (l::b)):i9 P env (⟨o, .always⟩::a) s K:=by
 unfold Is at m;subst m
 exact pV w v (Gv u B h d rfl rfl j A e p E D hi z) (fun q g=>by
  rcases MI.1 g with rfl|g
  ·exact x
  rw[MA.1 g];exact c) t k
end
end
end Go.Proofs.YtknkhdgfhbogdaaGreatDoor
