/- Package value: a stack's step, an expression's value. -/
import Derived.Test.YtknkhdgfhbogdaaGreatDoorP22
set_option maxRecDepth 100000
set_option maxHeartbeats 16000000
set_option linter.unusedSimpArgs false
set_option linter.defProp false
namespace Go.Proofs.YtknkhdgfhbogdaaGreatDoor
open Go.Proofs.Tryz
section
open Go.RowKit
def Sj(mem:List dg)(h:Int):List Int:=match mem.find? (fun m=>m.1==h) with|some m=>m.2|none=>[]
def Dr(env:b6)(mem:List dg)(h:Int)(n:mem.length<=1000000):b7 prog env 187 [ff mem,I h] (.seq 1 ((Sj mem h).map aa)):=by
 unfold Sj;cases g:mem.find? (fun m=>m.1==h) with
 | some m=>
   simp only;refine qf func187 call187 ntmps187 results187 ?_;repeat refine m8 ?_
   refine PA mem.length (by omega) (fun j l=>[(0,ff mem),(1,I h),(5,I j)]) (fun _ _=>[]) (fun j _ _=>mem.find? (fun m=>m.1==h)=(mem.drop j).find? (fun m=>m.1==h)) rfl ?_ ?_
   ·rintro j k d b e i a;obtain⟨x,f⟩:=gE b;rw[gy f]at a;cases c:(x.1==h) with
    | true=>
      rw[c]at a;simp only[Mb]at a;obtain rfl:m=x:=by rw[g]at a;cases a;rfl
      have F:=hH S6 f e c;exact dT
    | false=>
      rw[c]at a;simp only[MH,Mi]at a;have F:=g7 S6 f e i c;repeat refine st ?_
      exact qn (j+1) ⟨b,a⟩
   rintro k d e a;rw[Mu,Oe]at a;rw[g]at a;cases a
 | none=>
   simp only;refine qw func187 call187 ntmps187 results187 ?_;have F:=eg.eq_1;repeat refine st ?_
   refine lq mem.length (by omega) (fun j l=>[(0,ff mem),(1,I h),(5,I j)]) (fun _ _=>[]) (fun j _ _=>mem.find? (fun m=>m.1==h)=(mem.drop j).find? (fun m=>m.1==h)) rfl ?_ ?_
   ·rintro j k d b e i a;obtain⟨x,f⟩:=gE b;rw[gy f]at a;cases c:(x.1==h) with
    | true=>
      rw[c]at a;simp only[Mb]at a;rw[g]at a;cases a
    | false=>
      rw[c]at a;simp only[MH,Mi]at a;have F:=g7 S6 f e i c;repeat refine st ?_
      exact qn (j+1) ⟨b,a⟩
   rintro k d e a;rw[Mu,Oe]at a;have F:=e;repeat refine st ?_
   (refine aM ?_;refine⟨_,(by show (ag _ _ _).run _=some _;simp only[go_sem,F];rfl),?_⟩)
   exact .of (.nil 1) (fun _ _ _ h=>by cases h) (fun _ _ _ h=>by cases h)
def GC{c:aq}{l:List Int}{j:Nat}(a:j<c.Z9.length):eS c l j=match j4 c l j with|some v=>some v|none=>eS c l (j+1):=by
 unfold eS;rw[N1 (by simpa using a),List.getElem_range,List.findSome?_cons];cases j4 c l j<;>rfl
def Hv(c:aq)(l:List Int):eS c l c.Z9.length=none:=by
 unfold eS;rw[Mm (by simp)];rfl
def CC(env:b6)(c:aq)(h:b8 c)(l:List Int)(R:l.length<=1000000):b7 prog env 223 [.agg (aA c), .seq 1 (l.map aa)] (I (Pc c l)):=by
 have X:=h.Z6;have U:=fun(i:Int)=>be env c i true (by omega);unfold aA at U;unfold Pc;refine qf func223 call223 ntmps223 results223 ?_;have F:=aA.eq_1;repeat refine st ?_
 have F:=aA.eq_1;refine lq c.Z9.length (by omega) (fun j o=>[(1, .seq 1 (l.map aa)),(2, .loc 2 (o 2) 0 0),(5,I j)]) (fun _ _=>[(2,⟨5,[aA c],26,false⟩)]) (fun j _ _=>eS c l 0=eS c l j) rfl ?_ ?_
 ·rintro j ws O g n A a;obtain⟨s,b⟩:=gE g;have f0:=cF env l (j:Int) R;rw[GC g]at a;have d:j4 c l j=if l.contains (j:Int)=true then(if s.kind=1/\av c j true≠[]/\bx l (av c j true)=0 then some s.initial else if s.kind=2 then(gv c j).find? (fun k=> !l.contains k) else none) else none:=by unfold j4;rw[b]
  cases W:l.contains (j:Int) with
  | false=>
    rw[W]at f0 d;rw[Lf MW]at d;rw[d]at a;simp only at a;have F:=fI SR n A;repeat refine ef f0 ?_
    refine⟨j+1,⟨g,a⟩,?_,?_,by omega⟩
    ·exact qe
    have F:=aA.eq_1;exact qe
  | true=>
    rw[W]at f0 d;rw[Lj rfl]at d;have x:=U (j:Int);have hK:=bC h.toRight j true;have z:=fg env l (av c j true) R (by omega);have Z:gv c (j:Int)=zL (av c j true):=rfl;rw[Z]at d;generalize av c (j:Int) true=K at*;have P:(zL K).length=K.length:=ak K;by_cases v:s.kind=1/\K≠[]/\bx l K=0
    ·rw[Lj v]at d;rw[d]at a;rw[a,Mn];have r:(s.kind==1)=true:=by simp[v.1]
     have t:(0:Int)< (K.length:Int):=by
      have:=NG.2 v.2.1;omega
     have M:((bx l K:Nat):Int)=0:=by rw[v.2.2];rfl
     generalize bx l K=N at*;have F:=lP SR SS b n r t M;exact x5 f0 x z
    ·have G:K.length=0->(((zL K).find? fun k=> !l.contains k)=none):=fun e=>by rw[NE.1 e];rfl
     have p:s.kind≠2\/K.length=0->eS c l 0=eS c l (j+1):=fun q=>by
      rw[Lf v]at d
      have:j4 c l j=none:=by
       rw[d];rcases q with q|q
       ·rw[Lf q]
       rw[G q];split<;>rfl
      rw[this]at a;exact a
     cases r:(s.kind==1) with
     | true=>
       have w:s.kind=1:=by simpa using r
       have t:(s.kind==2)=false:=by simp[w]
       have a:=p (.inl (by omega));by_cases C:K.length=0
       ·have u: ¬(0:Int)< (K.length:Int):=by omega
        have F:=ip SR SS b n r u;repeat refine Qs f0 x z ?_
        refine aG (D:=Unit) (fun _ o=>[(1, .seq 1 (l.map aa)),(2, .loc 2 (o 2) 0 0),(5,I j),(6, .row 21 (o 21)),(7,I 0)]) (fun _ _=>[(2,⟨5,[aA c],26,false⟩),(21,⟨1,K.map aB,3,true⟩)]) (fun _ _ _=>True) (fun _=>0) () trivial ?_ ?_ ?_
        ·(simp only[go_sem,F])
         try rfl
        ·have F:=aA.eq_1
         (simp only[go_sem,F])
         try rfl
        rintro _ H B _;have F:=ip SR SS b n A u;repeat refine st ?_
        refine⟨j+1,⟨g,a⟩,?_,?_,by omega⟩
        ·exact qe
        have F:=aA.eq_1;exact qe
       have u:(0:Int)< (K.length:Int):=by omega
       have M:(((bx l K:Nat):Int)==0)=false:=by
        have:bx l K≠0:=fun e=>v ⟨w,fun Y=>C (by rw[Y];rfl),e⟩;simp;omega
       generalize bx l K=N at*;have F:=lP SR SS b n r u M;repeat refine Qs f0 x z ?_
       refine aG (D:=Unit) (fun _ o=>[(1, .seq 1 (l.map aa)),(2, .loc 2 (o 2) 0 0),(5,I j),(6, .row 21 (o 21)),(7,I 0)]) (fun _ _=>[(2,⟨5,[aA c],26,false⟩),(21,⟨1,K.map aB,3,true⟩)]) (fun _ _ _=>True) (fun _=>0) () trivial ?_ ?_ ?_
       ·(simp only[go_sem,F])
        try rfl
       ·have F:=aA.eq_1
        (simp only[go_sem,F])
        try rfl
       rintro _ H B _;have F:=lP SR SS b n A u t;repeat refine st ?_
       refine⟨j+1,⟨g,a⟩,?_,?_,by omega⟩
       ·exact qe
       have F:=aA.eq_1;exact qe
     | false=>
       have w:s.kind≠1:=by simpa using r
       cases t:(s.kind==2) with
       | false=>
         have a:=p (.inl (by simpa using t));by_cases C:K.length=0
         ·have u: ¬(0:Int)< (K.length:Int):=by omega
          have F:=g7 SR SS b n r;repeat refine Qs f0 x z ?_
          refine aG (D:=Unit) (fun _ o=>[(1, .seq 1 (l.map aa)),(2, .loc 2 (o 2) 0 0),(5,I j),(6, .row 21 (o 21)),(7,I 0)]) (fun _ _=>[(2,⟨5,[aA c],26,false⟩),(21,⟨1,K.map aB,3,true⟩)]) (fun _ _ _=>True) (fun _=>0) () trivial ?_ ?_ ?_
          ·(simp only[go_sem,F])
           try rfl
          ·have F:=aA.eq_1
           (simp only[go_sem,F])
           try rfl
          rintro _ H B _;have F:=ip SR SS b n A u;repeat refine st ?_
          refine⟨j+1,⟨g,a⟩,?_,?_,by omega⟩
          ·exact qe
          have F:=aA.eq_1;exact qe
         have u:(0:Int)< (K.length:Int):=by omega
         have F:=g7 SR SS b n r;repeat refine Qs f0 x z ?_
         refine aG (D:=Unit) (fun _ o=>[(1, .seq 1 (l.map aa)),(2, .loc 2 (o 2) 0 0),(5,I j),(6, .row 21 (o 21)),(7,I 0)]) (fun _ _=>[(2,⟨5,[aA c],26,false⟩),(21,⟨1,K.map aB,3,true⟩)]) (fun _ _ _=>True) (fun _=>0) () trivial ?_ ?_ ?_
         ·(simp only[go_sem,F])
          try rfl
         ·have F:=aA.eq_1
          (simp only[go_sem,F])
          try rfl
         rintro _ H B _;have F:=lP SR SS b n A u t;repeat refine st ?_
         refine⟨j+1,⟨g,a⟩,?_,?_,by omega⟩
         ·exact qe
         have F:=aA.eq_1;exact qe
       | true=>
         have Q:s.kind=2:=by simpa using t
         rw[Lf v,Lj Q]at d;rw[d]at a;try clear p G
         have F:=g7 SR SS b n r;repeat refine Qs f0 x z ?_
         have F:=aA.eq_1;refine lq K.length (by omega) (fun m o=>[(1, .seq 1 (l.map aa)),(2, .loc 2 (o 2) 0 0),(5,I j),(6, .row 21 (o 21)),(7,I m)]) (fun _ _=>[(2,⟨5,[aA c],26,false⟩),(21,⟨1,K.map aB,3,true⟩)]) (fun m _ _=>((zL K).find? fun k=> !l.contains k)=((zL K).drop m).find? fun k=> !l.contains k) rfl ?_ ?_
         ·rintro m H B E L p2 f;obtain⟨y,S⟩:=gE E;have J:=cF env l (y:Int) R;have T:(zL K)[m]? =some (y:Int):=by unfold zL;rw[Lo,S];rfl
          rw[gy T]at f;cases V:l.contains (y:Int) with
          | false=>
            rw[V]at J f;rw[Lj (by rfl)]at f;rw[f]at a;simp only at a;rw[a,Mn];have F:=ns SR SS SU b S n L t;exact g9 J
          | true=>
            rw[V]at J f;rw[Lf (by simp)]at f;have F:=pf SR SS SU b S n L p2 t;repeat refine ef J ?_
            refine⟨m+1,⟨E,f⟩,?_,?_,by omega⟩
            ·exact qe
            have F:=aA.eq_1;exact qe
         rintro H B L f;rw[Mm (by rw[P];exact Lr _),Oe]at f;rw[f]at a;simp only at a;have F:=ip SR SS b n A L;repeat refine st ?_
         refine⟨j+1,⟨g,a⟩,?_,?_,by omega⟩
         ·exact qe
         have F:=aA.eq_1;exact qe
 rintro ws O n a;rw[a,Hv,Ni];have F:=ai SR n;exact dT
def sV(c:aq): ∀(f:Nat)(l:List Int),(mA c f l).length<=l.length+f
 |0,l=>Lr _
 | f+1,l=>by
   unfold mA;split
   ·omega
   have:=sV c f (l++[Pc c l]);rw[Ll,MX]at this;omega
def F0(env:b6)(c:aq)(h:b8 c)(l:List Int)(t:l.length<=3000):b7 prog env 189 [.agg (aA c), .seq 1 (l.map aa)] (.own 3 1 ((y5 c l).map aa)):=by
 have k:=h.Z6;have j:cI l.length 8:=aC (by omega) (by omega);refine qf func189 call189 ntmps189 results189 ?_;have F:=ai SR j;repeat refine st ?_
 refine aG (D:=Nat×List Int) (fun d m=>[(2, .loc 2 (m 2) 0 0),(5, .row 8 (m 8)),(6,I d.1)]) (fun d _=>[(2,⟨5,[aA c],26,false⟩),(8,⟨1,d.2.map aa,3,true⟩)]) (fun d _ b=>(d.1<=c.Z9.length+1/\mA c (c.Z9.length+1-d.1) d.2=y5 c l/\d.2.length<=l.length+d.1)/\b 8=false) (fun d=>c.Z9.length+1-d.1) (0,l) ?_ ?_ ?_ ?_
 ·exact⟨⟨Lx _,rfl,Lr _⟩,by simp only[go_sem]⟩
 ·(simp only[go_sem,F])
  try rfl
 ·have F:=aA.eq_1
  (simp only[go_sem,F])
  try rfl
 rintro⟨n,L⟩ u b ⟨⟨r,a,o⟩,e⟩;simp only at r a o;by_cases q:n<=c.Z9.length
 ·have g:(n:Int)<=(c.Z9.length:Int):=by omega
  have s:=aD (show n<c.Z9.length+1 by omega) (by omega);have f1:=(CC env c h L (by omega)).lend rfl;unfold aA at f1;rw[show c.Z9.length+1-n=(c.Z9.length-n)+1 by omega]at a;unfold mA at a;generalize Pc c L=i at*;by_cases f:i<0
  ·rw[Lj f]at a;rw[<-a];have F:=hH SR g e f;repeat refine st ?_
   refine lL f1 ?_;exact dT
  rw[Lf f]at a;have p:cI (L.length+1) 8:=aC (by omega) (by omega);have F:=ip SR g s e f p;repeat refine st ?_
  refine lL f1 ?_;repeat refine st ?_
  refine⟨(n+1,L++[i]),⟨⟨by simp only;omega,?_,by simp only[Ll,MX];omega⟩,by simp only[go_sem,e]⟩,?_,?_,by simp only;omega⟩
  ·simp only;rw[show c.Z9.length+1-(n+1)=c.Z9.length-n by omega];exact a
  ·exact qe
  have F:=ai SR @Ln.{0,0};exact qe
 obtain rfl:n=c.Z9.length+1:=by omega
 have g: ¬((c.Z9.length+1:Nat):Int)<=(c.Z9.length:Int):=by omega
 rw[Ol]at a;have a:L=y5 c l:=a;rw[<-a];have F:=fI SR g e;exact dT
def rz{c:aq}(h:b8 c){mem:List dg}(i:bZ c mem=true): ∀m∈mem,m.2≠[]/\m.2.length<=32:=fun m d=>by
 have a:=(oe i).2 m d;unfold kx at a;split at a
 ·split at a
  ·rw[Li,Lt]at a;exact⟨fun e=>by rw[e]at a;simp at a,by omega⟩
  unfold BY at a;simp only[Li]at a;have g:=a.2.1.1.1;have f:m.2.Nodup:=jv g
  have b: ∀x∈m.2,ed c x=true:=fun x j=>by
   have:=Lm.1 a.2.1.1.2 x j;unfold dv at this;rw[Li]at this;exact aZ this.1
  have:=gz f b;have:=h.toRight.Z6;refine⟨fun e=> ?_,by omega⟩;rw[e]at g;cases g
 cases a
def ua(env:b6)(c:aq)(h:b8 c)(t:sh)(f:ed c t.src=true)(g:ed c t.target=true)(mem:List dg)(H:mem.length<=1000000)(A:bZ c mem=true):
 b7 prog env 130 [.agg (aA c), .agg (an t),ff mem] (.own 3 1 ((HG c t.src t.target mem).map aB)):=by
 obtain⟨a,w,y,v,M⟩:=t;simp only at f g |-;obtain⟨k,s,rfl,e,n⟩:=cO g;have o:=h.toRight;have z:=h.Z6;obtain⟨K,L⟩:=EF h g A;have r: ¬(k:Int)<0:=by omega
 have P:=(Ld.1 e).1;have u:((k:Nat):Int)< (c.Z9.length:Int):=by omega
 have f1:=lk env c o ⟨a,w,y,v,(k:Int)⟩ f;have f2:=vY env c o (j' c (k:Int) mem) L (nb c a (k:Int));have J:=AZ c (j' c (k:Int) mem) (nb c a (k:Int))
 have j: ∀x∈zL (rt c (j' c (k:Int) mem) (nb c a (k:Int))),ed c x=true:=fun x q=>by
  obtain⟨i,E,rfl⟩:=Lp.1 q;exact aV.2 (MK.1 (Lq.1 E).1)
 have f3:=F0 env c h (zL (rt c (j' c (k:Int) mem) (nb c a (k:Int)))) (by rw[ak];omega)
 have p:(y5 c (zL (rt c (j' c (k:Int) mem) (nb c a (k:Int))))).length<=1000000:=by
  have:=sV c (c.Z9.length+1) (zL (rt c (j' c (k:Int) mem) (nb c a (k:Int))));rw[ak]at this;unfold y5;omega
 have f4:=r8 env c o (y5 c (zL (rt c (j' c (k:Int) mem) (nb c a (k:Int))))) p fun x q=>(aI.1 (((sU h j).1 q).in h j)).1;unfold HG;rw[yn h K];rw[b9]at f3;have f5:=bo env s;have f6:=Dr env mem (k:Int) H
 have b:j' c (k:Int) mem=if aU s=true then(if Sj mem (k:Int)=[] then [s.initial] else Sj mem (k:Int)) else [(k:Int)]:=by
  unfold j';rw[n];simp only;cases I:aU s with
  |false=>rfl
  | true=>
    unfold Sj;cases C:mem.find? (fun m=>m.1==(k:Int)) with
    | some m=>
      simp only[Mb];rw[Lf (rz h A m (N2 C)).1]
    |none=>rfl
 generalize nb c a (k:Int)=D at*;generalize y5 c (zL (rt c (j' c (k:Int) mem) D))=G at*;generalize rt c (j' c (k:Int) mem) D=N at*;generalize Sj mem (k:Int)=O at*;unfold an at f1;simp only at f1;unfold aA at f1 f2 f3 f4;unfold aK at f5;cases d:aU s with
 | false=>
   rw[d]at f5;rw[b,d,Lf MW]at f2;refine qf func130 call130 ntmps130 results130 ?_;have F:=ip SR SV SS r u e;exact SA f5 f1 f2 f3 f4
 | true=>
   rw[d]at f5;rw[b,d,Lj rfl]at f2;by_cases l:O=[]
   ·rw[Lj l]at f2;subst l;refine qf func130 call130 ntmps130 results130 ?_;have F:=ip SR SV SS r u e;exact Sn f5 f6 f1 f2 f3 f4
   rw[Lf l]at f2
   have B:((O.length:Int)==0)=false:=by
    have:=NG.2 l;simp;omega
   refine qf func130 call130 ntmps130 results130 ?_;have F:=lP SR SV SS r u e B;exact Sn f5 f6 f1 f2 f3 f4
end
section
open Go.RowKit Go.Extern.Stop Go.Stop Go.Extern
end
section
end
section
open Go.RowKit
def mv(c:aq)(t:sh)(mem:List dg):List Nat:=if t.target<0 then [] else HG c t.src t.target mem
def DN(env:b6)(i j:Addr)(o:fq env i j)(c:aq)(h:b8 c)(d:g6 c)(mem:List dg)(l:mem.length<=1000000)(n: ∀m∈mem,cI m.2.length 8)(k:Nat)(t:sh)(f:c.trans[k]? =some t)(b:bZ c mem=true):b7 prog env 204 [aH c,I k,ff mem] (.tuple [.seq 1 ((mv c t mem).map aB),h8]):=by
 have f0:=pZ env i j o c h d mem l n;unfold JK at f0;rw[b,Lj rfl]at f0;have f1:=ni env c d k t f;unfold mv;unfold an at f1;by_cases a:t.target<0
 ·rw[Lj a];unfold aH at f0 f1 |-;refine qw func204 call204 ntmps204 results204 ?_;have F:=a;repeat refine vb f0 f1 ?_
  (refine aM ?_;refine⟨_,(by show (ag _ _ _).run _=some _;simp only[go_sem,F];rfl),?_⟩)
  exact .of (.tuple (.cons (.nil 1) (.cons (.refl _) .nil))) (fun _ _ _ h=>by cases h) (fun _ _ _ h=>by cases h)
 rw[Lf a]
 have g:ed c t.target=true:=by
  rcases (h.src f).2 with e|e
  ·omega
  exact e
 have f2:=B5 env c h d t (h.src f).1 g mem l (fun m p=>by have:=(rz h b m p).2;omega) b;unfold an at f2;unfold aH at f0 f1 f2 |-;refine qf func204 call204 ntmps204 results204 ?_;have F:=a;exact x5 f0 f1 f2
def xI(env:b6)(c:aq)(h:b8 c)(mem:List dg)(g:mem.length<=1000000)(k:Nat)(t:sh)(d:c.trans[k]? =some t)(f:bZ c mem=true):b7 prog env 130 [.agg (aA c), .agg (an t),ff mem] (.own 3 1 ((mv c t mem).map aB)):=by
 unfold mv;by_cases a:t.target<0
 ·rw[Lj a];refine qw func130 call130 ntmps130 results130 ?_;have F:=fI SR SV a;repeat refine st ?_
  (refine aM ?_;refine⟨_,(by show (ag _ _ _).run _=some _;simp only[go_sem,F];rfl),?_⟩)
  exact fX.own_nil _ _ (by decide)
 rw[Lf a]
 have b:ed c t.target=true:=by
  rcases (h.src d).2 with e|e
  ·omega
  exact e
 exact ua env c h t (h.src d).1 b mem g f
structure ch where
 act:List Int
 vars:List Int
 mem:List dg
 Z0:List (List UInt8×Int)
 over:Bool
 outs:List Int
 Z7:List (List UInt8×Int)
abbrev r5:=Option (Nat×List Int)
def Rr(c:aq)(d:Int)(r:ch):ph:=⟨r.vars,d,(List.range c.Z9.length).map fun k:Nat=>r.act.contains (k:Int)⟩
def ds(l:List (List UInt8×Int))(s:List UInt8):List (List UInt8×Int):=l.filter fun x=> !(x.1==s)
def rn(x:List UInt8×Int):List (List UInt8×Int)->List (List UInt8×Int)
 |[]=>[x]
 |y::l=>if Op.bytesLess x.1 y.1=true then x::y::l else y::rn x l
def gb(r:ch)(s:List UInt8)(v:Int):ch×r5:=if 16<=r.Z7.length then(r,some (8,[-1])) else({ r with Z7:=r.Z7++[(s,v)] },none)
def zE(now:Int)(r:ch)(s:List UInt8)(v:Int):ch×r5:=
 if v<0\/1099511627776-now<v then(r,some (2,[-1]))
 else if 8<=(ds r.Z0 s).length then({ r with Z0:=ds r.Z0 s },some (8,[-1]))
 else({ r with Z0:=rn (s,now+v) (ds r.Z0 s) },none)
def Iw(r:ch)(v:Int):ch×r5:=if 256<=r.outs.length then(r,some (8,[-1])) else({ r with outs:=r.outs++[v] },none)
def Qh(c:aq)(d now:Int)(r:ch)(a:jn):ch×r5:=
 if a.kind=5 then({ r with Z0:=ds r.Z0 a.name },none)
 else match kO (Rr c d r) a.code with
  |none=>(r,some (2,[-1, -1]))
  | some v=>if a.kind=1 then({ r with vars:=r.vars.set a.n.toNat v },none)
    else if a.kind=2 then gb r a.name v
    else if a.kind=4 then zE now r a.name v
    else Iw r v
def lE(c:aq)(d now:Int)(r:ch):List jn->ch×r5
 |[]=>(r,none)
 | a::l=>match Qh c d now r a with
   |(b,none)=>lE c d now b l
   |x=>x
def vh(c:aq)(i:Int):List jn:=match at_ c i with
 |some s=>s.out
 |none=>[]
def Rv(c:aq)(i:Int):List jn:=match at_ c i with
 |some s=>s.ZW
 |none=>[]
def bW(c:aq)(i:Int):Int:=match at_ c i with
 |some s=>s.kind
 |none=>0
def JU(c:aq)(i:Int):List UInt8:=match at_ c i with
 |some s=>s.name
 |none=>[]
def bS(c:aq)(d now:Int)(r:ch):List Int->ch×r5
 |[]=>(r,none)
 | i::l=>match lE c d now r (vh c i) with
   |(a,none)=>bS c d now { a with act:=a.act.filter fun k=> !(k==i) } l
   |x=>x
def dR(c:aq)(d now:Int)(r:ch):List Nat->ch×r5
 |[]=>(r,none)
 | n::l=>match lE c d now r (da c n).Z1 with
   |(a,none)=>dR c d now a l
   |x=>x
def ah(c:aq)(d now:Int)(r:ch)(f:List Int):List Int->(ch×r5)×List Int
 |[]=>((r,none),f)
 | i::l=>if r.act.contains i=true then ah c d now r f l
   else match lE c d now { r with act:=bQ (r.act++[i]) } (Rv c i) with
    |(a,none)=>ah c d now a (if bW c i=3 then f++[i] else f) l
    |x=>(x,[])
def jV(c:aq)(i:Int):List UInt8:=[100,111,110,101,46]++JU c i
def cV(c:aq)(r:ch)(o:List Int):List Int->(ch×r5)×List Int
 |[]=>((r,none),o)
 | i::l=>if aP c i<0 then cV c { r with over:=true } o l
   else match gb r (jV c (aP c i)) 0 with
    |(a,none)=>cV c a (if 0<=aP c (aP c i)/\bW c (aP c (aP c i))=2 then o++[aP c (aP c i)] else o) l
    |x=>(x,[])
def oT(c:aq)(act:List Int):Nat->Int->Bool
 |0,_=>false
 | f+1,i=>if bW c i=3 then true
   else if bW c i=1 then(match (gv c i).find? fun k=>act.contains k with
    |some k=>bW c k==3
    |none=>false)
   else(gv c i).all fun k=>oT c act f k
def sn(c:aq)(act:List Int)(i:Int):Bool:=act.contains i&&oT c act 40 i
def dP(c:aq)(r:ch):List Int->ch×r5
 |[]=>(r,none)
 | g::l=>if sn c r.act g=true then(match gb r (jV c g) 0 with
    |(a,none)=>dP c a l
    |x=>x)
   else dP c r l
def o2(c:aq)(r:ch)(f:List Int):ch×r5:=match cV c r [] f with
 |((a,none),o)=>dP c a (zL (bt c o))
 |(x,_)=>x
def go(c:aq)(d now:Int)(r:ch)(l:List Int):ch×r5:=match ah c d now r [] l with
 |((a,none),f)=>o2 c a f
 |(x,_)=>x
def c0(c:aq)(act:List Int)(ts:List Nat):List Int:=ts.flatMap fun n=>fe c act (da c n)
def toR(c:aq)(mem:List dg)(ts:List Nat):List Nat:=ts.flatMap fun n=>mv c (da c n) mem
def ld(c:aq)(d now:Int)(r:ch)(ts:List Nat):ch×r5:=
 let a:=bt c (c0 c r.act ts)
 let b:=m7 c r.act (zL a) r.mem
 match bS c d now { r with mem:=b } (zL a).reverse with
 |(e,none)=>match dR c d now e ts with
   |(f,none)=>go c d now f (zL (bt c (zL (toR c b ts))))
   |x=>x
 |x=>x
def dJ(c:aq)(now:Int):ch×r5:=go c 0 now ⟨[],c.vars.map (·.start),[],[],false,[],[]⟩ (zL (kv c (-1)))
/-! Timers by their names -/
def L9(x:List UInt8×Int):Prop:=bl x.1=true/\0<=x.2/\x.2<=1099511627776
structure D0(l:List (List UInt8×Int)):Prop where
 ZZ:l.Pairwise fun a b=>Op.bytesLess a.1 b.1=true
 each: ∀x∈l,L9 x
def D0.without{l:List (List UInt8×Int)}(h:D0 l)(s:List UInt8):D0 (ds l s):=⟨h.ZZ.sublist My,fun x a=>h.each x (Lq.1 a).1⟩
def rH{l:List (List UInt8×Int)}{s:List UInt8} : ∀x∈ds l s,x.1≠s:=fun x a=>by
 have:=(Lq.1 a).2;simpa using this
def pa(l:List (List UInt8×Int))(s:List UInt8):(ds l s).length<=l.length:=MF ..
def xv{x y:List UInt8×Int} : ∀ {l:List (List UInt8×Int)},y∈rn x l↔y=x\/y∈l
 |[]=>by simp[rn]
 | z::l=>by
   unfold rn;split
   ·simp
   rw[MI,xv,MI];constructor
   ·rintro(h|h|h)
    ·exact .inr (.inl h)
    ·exact .inl h
    exact .inr (.inr h)
   rintro(h|h|h)
   ·exact .inr (.inl h)
   ·exact .inl h
   exact .inr (.inr h)
def EI(x:List UInt8×Int): ∀l,(rn x l).length=l.length+1
 |[]=>rfl
 | z::l=>by
   unfold rn;split
   ·rfl
   rw[MB,EI x l,MB]
def uD{x:List UInt8×Int} : ∀ {l:List (List UInt8×Int)},(l.Pairwise fun a b=>Op.bytesLess a.1 b.1=true)->(∀y∈l,y.1≠x.1)->(rn x l).Pairwise fun a b=>Op.bytesLess a.1 b.1=true
 |[],_,_=>Od ..
 | z::l,h,f=>by
   obtain⟨e,g⟩:=NT.1 h;unfold rn;split
   ·rename_i d;refine NT.2 ⟨fun y c=> ?_,h⟩;rcases MI.1 c with rfl|c
    ·exact d
    exact e9 d (e y c)
   rename_i d;refine NT.2 ⟨fun y c=> ?_,uD g fun y c=>f y (NJ _ c)⟩;rcases xv.1 c with rfl|c
   ·cases i:Op.bytesLess z.1 y.1 with
    |true=>rfl
    |false=>exact absurd (dp i (by simpa using d)) (f z (by simp))
   exact e y c
def D0.ins{l:List (List UInt8×Int)}(h:D0 l){x:List UInt8×Int}(c:L9 x)(b: ∀y∈l,y.1≠x.1):D0 (rn x l):=⟨uD h.ZZ b,fun y a=>by
 rcases xv.1 a with rfl|a
 ·exact c
 exact h.each y a⟩
/-! Actions -/
structure ek(c:aq)(r:ch):Prop where
 len:r.vars.length=c.vars.length
 vars: ∀x∈r.vars,aL x=true
 Z0:D0 r.Z0
 ZN:r.Z0.length<=8
 outs:r.outs.length<=256
 Z7:r.Z7.length<=16
 raf: ∀e∈r.Z7,aL e.2=true
structure pi(r r1:ch):Prop where
 act:r1.act=r.act
 mem:r1.mem=r.mem
 over:r1.over=r.over
def pi.rfl{r:ch} :pi r r:=⟨Eq.refl _,Eq.refl _,Eq.refl _⟩
def pi.trans{r a r2:ch}(h:pi r a)(k:pi a r2):pi r r2:=⟨k.act.trans h.act,k.mem.trans h.mem,k.over.trans h.over⟩
def tj{c:aq}{r:ch}(h:ek c r)(s:List UInt8){v:Int}(b:aL v=true):ek c (gb r s v).1/\pi r (gb r s v).1:=by
 unfold gb;split
 ·exact⟨h, .rfl⟩
 rename_i d;refine⟨{ h with Z7:= ?_,raf:=fun e a=> ?_ },⟨rfl,rfl,rfl⟩⟩
 ·simp only[Ll,MX];omega
 rcases ML.1 a with q|q
 ·exact h.raf e q
 rw[MA.1 q];exact b
def oU{l:List lf}{vs ss:Int}(h:bn l vs ss=true):ql vs ss l 0=some 1/\l.length<=32:=by
 unfold bn at h;rw[Mh]at h;unfold iM at h;split at h
 ·omega
 rename_i b;split at h
 ·rename_i a;exact⟨a,by omega⟩
 omega
def DV{c:aq}{r:ch}(h:ek c r){d:Int}(a:aL d=true):(Rr c d r).Ok:=⟨h.vars,a⟩
def JX{c:aq}{d now:Int}(m:aL d=true)(q:0<=now/\now<=1099511627776){r:ch}(h:ek c r){a:jn}(b:gC c.vars.length c.Z9.length a=true):ek c (Qh c d now r a).1/\pi r (Qh c d now r a).1:=by
 unfold Qh;split
 ·exact⟨{ h with Z0:=h.Z0.without _,ZN:=Ly (pa ..) h.ZN },⟨rfl,rfl,rfl⟩⟩
 rename_i l;split
 ·exact⟨h, .rfl⟩
 rename_i v n
 have f:bn a.code c.vars.length c.Z9.length=true:=by
  unfold gC at b;repeat' split at b
  all_goals (first|(exact absurd ‹a.kind=5› l)|(simp only[Li]at b;exact b.2)|cases b)
 have e:=G6 (DV h m) (oU f).1 n;split
 ·refine⟨{ h with len:=by simp only[Nh];exact h.len,vars:=fun x i=> ?_ },⟨rfl,rfl,rfl⟩⟩;rcases List.mem_or_eq_of_mem_set i with i|rfl
  ·exact h.vars x i
  exact e
 split
 ·exact tj h _ e
 split
 ·rename_i j o k;unfold zE;split
  ·exact⟨h, .rfl⟩
  rename_i s;split
  ·exact⟨{ h with Z0:=h.Z0.without _,ZN:=Ly (pa ..) h.ZN },⟨rfl,rfl,rfl⟩⟩
  rename_i p
  have g:bl a.name=true:=by
   unfold gC at b;rw[Lf j,Lj (.inr k)]at b;simp only[Li]at b;exact b.1.2
  refine⟨{ h with Z0:=(h.Z0.without _).ins ⟨g,?_⟩ rH,ZN:=by simp only[EI];omega },⟨rfl,rfl,rfl⟩⟩;simp only;omega
 unfold Iw;split
 ·exact⟨h, .rfl⟩
 refine⟨{ h with outs:= ?_ },⟨rfl,rfl,rfl⟩⟩;simp only[Ll,MX];omega
def jb{c:aq}{d now:Int}(j:aL d=true)(k:0<=now/\now<=1099511627776): ∀ {l:List jn}{r:ch},ek c r->(∀a∈l,gC c.vars.length c.Z9.length a=true)->ek c (lE c d now r l).1/\pi r (lE c d now r l).1
 |[],r,h,_=>⟨h, .rfl⟩
 | a::l,r,h,i=>by
   obtain⟨f,g⟩:=JX j k h (i a (by simp));unfold lE;split
   ·rename_i p e;rw[e]at f g;obtain⟨n,o⟩:=jb (l:=l) j k f fun b m=>i b (by simp[m]);exact⟨n,g.trans o⟩
   exact⟨f,g⟩
structure L0(c:aq):Prop where
 out: ∀i,∀a∈vh c i,gC c.vars.length c.Z9.length a=true
 ZW: ∀i,∀a∈Rv c i,gC c.vars.length c.Z9.length a=true
 tr: ∀(n:Nat)(t:sh),c.trans[n]? =some t-> ∀a∈t.Z1,gC c.vars.length c.Z9.length a=true
def ky{c:aq}(n:L0 c){d now:Int}(o:aL d=true)(p:0<=now/\now<=1099511627776): ∀ {l:List Int}{r:ch},ek c r->ek c (bS c d now r l).1/\(bS c d now r l).1.mem=r.mem/\(bS c d now r l).1.over=r.over/\((bS c d now r l).2=none->(bS c d now r l).1.act=r.act.filter fun k=> !l.contains k)
 |[],r,h=>⟨h,rfl,rfl,fun _=>(List.filter_eq_self.2 fun _ _=>rfl).symm⟩
 | i::l,r,h=>by
   obtain⟨j,a⟩:=jb o p h (n.out i);unfold bS;split
   ·rename_i b e;rw[e]at j a;obtain⟨t,u,v,w⟩:=ky n (l:=l) o p (r:={ b with act:=b.act.filter fun k=> !(k==i) }) { j with };refine⟨t,u.trans a.mem,v.trans a.over,fun f=> ?_⟩;rw[w f];simp only;have m:b.act=r.act:=a.act;rw[m,List.filter_filter];apply NR;intro k _;rw[List.contains_cons,Bool.not_or,Bool.and_comm]
   rename_i x s
   exact⟨j,a.mem,a.over,fun f=>absurd f (by
    intro g;rcases q:lE c d now r (vh c i) with⟨b,y⟩;rw[q]at g;simp only at g;subst g
    exact s b q)⟩
def yQ{c:aq}(f:L0 c){d now:Int}(g:aL d=true)(j:0<=now/\now<=1099511627776): ∀ {l:List Nat}{r:ch},(∀n∈l,∃t,c.trans[n]? =some t)->ek c r->ek c (dR c d now r l).1/\pi r (dR c d now r l).1
 |[],r,_,h=>⟨h, .rfl⟩
 | n::l,r,i,h=>by
   obtain⟨t,k⟩:=i n (by simp);obtain⟨a,b⟩:=jb (l:=(da c n).Z1) g j h (by rw[cx k];exact f.tr n t k);unfold dR;split
   ·rename_i s e;rw[e]at a b;obtain⟨p,q⟩:=yQ f (l:=l) g j (fun m o=>i m (by simp[o])) a;exact⟨p,b.trans q⟩
   exact⟨a,b⟩
def FD(env:b6)(w:ph)(o:lf)(R:List Int)(e:R.length<=1000)(a:1<=o.kind/\o.kind<=4)(h:mZ o w.vars.length w.act.length=true):b7 prog env 259 [b0 R, .agg (bV o), .agg (dm w)] (.tuple [b0 (R++[l' w o]),B true]):=by
 have f0:=Ae env w o a h;have c:o.kind<=4:=a.2;have d:cI (R.length+1) 8:=aC (by omega) (by omega);have b:b0 (R++[l' w o])= .seq 1 (R.map aa++[[I (l' w o)]]):=by rw[show R.map aa++[[I (l' w o)]]=(R++[l' w o]).map aa by simp]
 rw[b];try clear b
 generalize l' w o=v at*;unfold bV dm at f0;refine qf func259 call259 ntmps259 results259 ?_;have F:=hH S1 Th c d;exact g9 f0
def FB(env:b6)(w:ph)(o:lf)(a:Int)(R:List Int)(p:R.length<=1000)(d:o.kind=5\/o.kind=6)(c:aL a=true):b7 prog env 259 [b0 (R++[a]), .agg (bV o), .agg (dm w)] (.tuple [b0 (R++[Qe o.kind a]),B true]):=by
 have f0:=vO env o.kind a d c;have e: ¬o.kind<=4:=by omega
 have f:o.kind<=6:=by omega
 have g:cI (R.length+1) 8:=aC (by omega) (by omega);have b: ∀x:Int,b0 (R++[x])= .seq 1 (R.map aa++[[I x]]):=fun x=>by rw[show R.map aa++[[I x]]=(R++[x]).map aa by simp]
 rw[b,b];have i:(R.map aa++[[I a]]).length=R.length+1:=by simp
 have j:(R.map aa++[[I a]])[R.length]? =some [I a]:=by rw[MO (by simp)];simp
 have k:(R.map aa++[[I a]]).take R.length=R.map aa:=by rw[NX (by simp),M8 (by simp)]
 have h:IntKind.i64.wrap (((R.length+1:Nat):Int)-1)=(R.length:Int):=(aW (by omega) (by omega)).trans (by omega);have l:(R.length:Int)< ((R.length+1:Nat):Int):=by omega
 have m: ¬((R.length:Int)=((R.length+1:Nat):Int)):=by omega
 have n:(R.length:Int)<=((R.length+1:Nat):Int):=by omega
 generalize R.map aa++[[I a]]=X at*;generalize Qe o.kind a=v at*;refine qf func259 call259 ntmps259 results259 ?_;have F:=dk S1 Th e f g h i j k l m n;exact g9 f0
def FE(env:b6)(w:ph)(o:lf)(a b:Int)(R:List Int)(s:R.length<=1000)(g:7<=o.kind/\o.kind<=19)(e:aL a=true)(f:aL b=true):b7 prog env 259 [b0 (R++[a,b]), .agg (bV o), .agg (dm w)] (.tuple [b0 (R++[(jt o.kind a b).1]),B (jt o.kind a b).2]):=by
 have f0:=tG env o.kind a b g e f;have h: ¬o.kind<=4:=by omega
 have i: ¬o.kind<=6:=by omega
 have j:cI (R.length+1) 8:=aC (by omega) (by omega);have c: ∀x:Int,b0 (R++[x])= .seq 1 (R.map aa++[[I x]]):=fun x=>by rw[show R.map aa++[[I x]]=(R++[x]).map aa by simp]
 have d:b0 (R++[a,b])= .seq 1 (R.map aa++[[I a],[I b]]):=by rw[show R.map aa++[[I a],[I b]]=(R++[a,b]).map aa by simp]
 rw[c,d];have l:(R.map aa++[[I a],[I b]]).length=R.length+2:=by simp
 have m:(R.map aa++[[I a],[I b]])[R.length]? =some [I a]:=by rw[MO (by simp)];simp
 have p5:(R.map aa++[[I a],[I b]])[R.length+1]? =some [I b]:=by rw[MO (by simp)];simp
 have n:(R.map aa++[[I a],[I b]]).take R.length=R.map aa:=by rw[NX (by simp),M8 (by simp)]
 have k:IntKind.i64.wrap (((R.length+2:Nat):Int)-2)=(R.length:Int):=(aW (by omega) (by omega)).trans (by omega);have p3:IntKind.i64.wrap (((R.length+2:Nat):Int)-1)=((R.length+1:Nat):Int):=(aW (by omega) (by omega)).trans (by omega);have p:(R.length:Int)< ((R.length+2:Nat):Int):=by omega
 have p7:((R.length+1:Nat):Int)< ((R.length+2:Nat):Int):=by omega
 have q: ¬((R.length:Int)=((R.length+2:Nat):Int)):=by omega
 have r:(R.length:Int)<=((R.length+2:Nat):Int):=by omega
 generalize R.map aa++[[I a],[I b]]=X at*;generalize jt o.kind a b=v at*;refine qf func259 call259 ntmps259 results259 ?_;have F:=dk S1 Th h i j k p3 l m p5 n<|hH p p7 q r;exact g9 f0
def jo(env:b6)(w:ph)(e:w.Ok)(h:w.vars.length<=1000000):b7 prog env 232 [.agg (dm w)] h8:=by
 have f0:=dD env w.data;rw[e.data]at f0
 have f1: ∀x∈w.vars,b7 prog env 46 [I x] (B true):=fun x b=>by
  have:=dD env x;rwa [e.vars x b]at this
 refine qf func232 call232 ntmps232 results232 ?_;have F:=dm.eq_1;repeat refine ef f0 ?_
 refine lq w.vars.length (by omega) (fun j _=>[(3,B true),(10,b0 w.vars),(11,I w.vars.length),(12,I j)]) (fun _ _=>[]) (fun _ _ _=>True) trivial ?_ ?_
 ·rintro j g c a d f _;obtain⟨x,b⟩:=gE a;have f2:=f1 x (Lh b);have F:=hH S3 d f b;repeat refine ef f2 ?_
  exact qn (j+1) ⟨a,trivial⟩
 rintro g c d _;have F:=d;exact dT
def j7(a:Addr):Option Int->AV
 |some v=> .tuple [I v,h8]
 |none=> .tuple [I 0,fc (-1) (cf a)]
def mP{vs ss n:Int}{o:lf}(h:cA vs ss n o=true):(1<=o.kind/\o.kind<=4/\aF o.kind=0)\/((o.kind=5\/o.kind=6)/\aF o.kind=1/\1<=n)\/(7<=o.kind/\o.kind<=19/\aF o.kind=2/\2<=n):=by
 have b:=jO h
 have c:aF o.kind=0/\1<=o.kind/\o.kind<=4\/aF o.kind=1/\(o.kind=5\/o.kind=6)\/aF o.kind=2/\7<=o.kind/\o.kind<=19\/aF o.kind= -1:=by
  unfold aF;split
  ·rename_i a;exact .inl ⟨rfl,a⟩
  split
  ·rename_i a;exact .inr (.inl ⟨rfl,a⟩)
  split
  ·rename_i a;exact .inr (.inr (.inl ⟨rfl,a⟩))
  exact .inr (.inr (.inr rfl))
 omega
def D4{vs ss n:Int}{o:lf}(h:cA vs ss n o=true):mZ o vs ss=true:=by
 simp only[cA,Li]at h;exact h.2
def AK{w:ph}{a:List lf}{i:Nat}{o:lf}{s:List Int}(h:a[i]? =some o)(b:mT w (a.take i) []=some s):mT w (a.take (i+1)) []=dr w o s:=by
 rw[MM,h,kl,b];exact nk w o s
def run_stuck{w:ph}{a:List lf}{i:Nat}(h:mT w (a.take i) []=none):mT w a []=none:=by
 rw[<-Nw i a,kl,h];rfl
def Az(env:b6)(O K P:Addr)(he:fq env O P)(h2:env 5=some (cf K))(w:ph)(H:w.Ok)(hl:w.vars.length<=1000000)(e:List lf)(N:bn e w.vars.length w.act.length=true):b7 prog env 233 [qs e, .agg (dm w)] (j7 K (kO w e)):=by
 have f0:=jo env w H hl;have f1:=gd env O P he e w.vars.length w.act.length;have Y:=iH h2;have f9:=bh env [118,97,108,117,101,46,69,118,97,108] K;obtain⟨E,Q⟩:=oU N;have Z:iM e w.vars.length w.act.length=0:=by unfold bn at N;simpa using N
 unfold iA at f1;rw[Lj Z]at f1;have p:=Ay w E;have q0:(w.act.map As).length=w.act.length:=ME ..;have T: ∀(o:lf)(R:List Int),R.length<=1000->1<=o.kind/\o.kind<=4->mZ o w.vars.length w.act.length=true->_:=fun o R=>FD env w o R;have U: ∀(o:lf)(a:Int)(R:List Int),_:=fun o a R=>FB env w o a R;have V: ∀(o:lf)(a b:Int)(R:List Int),_:=fun o a b R=>FE env w o a b R;unfold dm at f0 T U V |-;refine qf func233 call233 ntmps233 results233 ?_;repeat refine zy f0 f1 ?_
 refine eh (cU.nil 8 1 (by simp only[go_sem])) ?_;refine Si (D:=Nat×List Int) (fun d W=>[(3, .loc 3 (W 3) 0 0),(8,b0 d.2.reverse),(31,qs e),(32,I e.length),(33,I d.1)]) (fun _ _=>[(3,⟨3,[[b0 w.vars,I w.data, .seq 1 (w.act.map As)]],245,false⟩)]) (fun d _ _=>d.1<=e.length/\mT w (e.take d.1) []=some d.2/\ql w.vars.length w.act.length e 0=ql w.vars.length w.act.length (e.drop d.1) d.2.length/\(∀x∈d.2,aL x=true)/\d.2.length<=d.1) (fun d=>e.length-d.1) (0,[]) ⟨Lx _,rfl,rfl,by simp,Lr _⟩ ?_;rintro⟨i,s⟩ W X ⟨hi,n,q,m,h⟩;simp only at hi n q m h;by_cases l:i<e.length
 ·obtain⟨o,r,_⟩:=aS l;obtain⟨up,no⟩:=oM r q;have t:=h9 l;have J:=aD l (by omega);have c:=AK (w:=w) r n
  have g:cA w.vars.length w.act.length s.length o=true:=by
   cases g:cA w.vars.length w.act.length s.length o with
   |true=>rfl
   |false=>rw[no g]at E;cases E
  have j:=up g;have k:=D4 g;rcases mP g with⟨u,C,y⟩|⟨u,y,z⟩|⟨u,C,y,z⟩
  ·have f2:=T o s.reverse (by rw[NZ];omega) ⟨u,C⟩ k;have f:dr w o s=some (l' w o::s):=by unfold dr;rw[Lj C]
   rw[f]at c;have A:s.reverse++[l' w o]=(l' w o::s).reverse:=by simp
   rw[A]at f2;have F:=hH S1 r t J;repeat refine ef f2 ?_
   refine⟨(i+1,l' w o::s),⟨l,c,?_,gg H k m f,?_⟩,?_,?_,?_⟩
   ·rw[j,y]
    congr 1<;>simp
   ·simp only[MB];omega
   ·exact qe
   ·exact qe
   simp only;omega
  ·match s,n,q,m,h,g,j,c,z with
   | a::s,n,q,m,h,g,j,c,z=>
     have M:=m a (by simp);have f2:=U o a s.reverse (by rw[NZ];simp only[MB]at h;omega) u M;have f:dr w o (a::s)=some (Qe o.kind a::s):=by unfold dr;rw[Lf (by omega),Lj (by omega)]
     rw[f]at c;have A:s.reverse++[Qe o.kind a]=(Qe o.kind a::s).reverse:=by simp
     have L:s.reverse++[a]=(a::s).reverse:=by simp
     rw[A,L]at f2;have F:=hH S1 r t J;repeat refine ef f2 ?_
     refine⟨(i+1,Qe o.kind a::s),⟨l,c,?_,gg H k m f,?_⟩,?_,?_,?_⟩
     ·rw[j,y]
      congr 1<;>simp
     ·simp only[MB]at h |-;omega
     ·exact qe
     ·exact qe
     simp only;omega
  ·match s,n,q,m,h,g,j,c,z with
   | b::a::s,n,q,m,h,g,j,c,z=>
     have hb:=m b (by simp);have M:=m a (by simp);have f2:=V o a b s.reverse (by rw[NZ];simp only[MB]at h;omega) ⟨u,C⟩ M hb;have f:dr w o (b::a::s)=if (jt o.kind a b).2 then some ((jt o.kind a b).1::s) else none:=by unfold dr;rw[Lf (by omega),Lf (by omega)]
     rw[f]at c;have A:s.reverse++[(jt o.kind a b).1]=((jt o.kind a b).1::s).reverse:=by simp
     have L:s.reverse++[a,b]=(b::a::s).reverse:=by simp
     rw[A,L]at f2;cases G:(jt o.kind a b).2 with
     | true=>
       rw[G]at f2 f c;simp only[Mb]at f c;have F:=hH S1 r t J;repeat refine ef f2 ?_
       refine⟨(i+1,(jt o.kind a b).1::s),⟨l,c,?_,gg H k m f,?_⟩,?_,?_,?_⟩
       ·rw[j,y]
        congr 1
        simp only[MB];omega
       ·simp only[MB]at h |-;omega
       ·exact qe
       ·exact qe
       simp only;omega
     | false=>
       rw[G]at f2 c;simp only[MH,Mi]at c;have S:=run_stuck c;rw[p,P9]at S;rw[S];show fk _ _ _ _ _ _;unfold j7;have F:=g7 S1 r t J Y;exact m5 f2 f9
 obtain rfl:i=e.length:=by omega
 have t:=nl e.length;have B:=sS (Lr _) q;rw[E]at B;rw[MC,p]at n;obtain⟨v,G,rfl⟩:=NA.1 n;rw[G];unfold j7;have F:=hH S3 t @QL.{0} @List.reverse_nil.{0};exact dT
def HS(env:b6)(g h i:Addr)(n:fq env g i)(l:env 5=some (cf h))(w:ph)(k:w.Ok)(j:w.vars.length<=1000000)(a:List lf)(m:a=[]\/bn a w.vars.length w.act.length=true)(b:Bool)(c:fP w a=some b):b7 prog env 196 [qs a, .agg (dm w)] (.tuple [B b,h8]):=by
 have f0:=jo env w k j;have f1:=yk env [118,97,108,117,101,46,84,114,117,101];unfold fP at c;by_cases d:a=[]
 ·subst d;rw[Lj rfl]at c;cases c;unfold dm at f0 |-;refine qf func196 call196 ntmps196 results196 ?_;repeat refine zy f0 f1 ?_
  exact p'
 rw[Lf d]at c;have f2:=Az env g h i n l w k j a (m.resolve_left d)
 have f:((a.length:Int)==0)=false:=by
  have:a.length≠0:=fun e=>d (NE.1 e);simp;omega
 obtain⟨v,o,rfl⟩:=NA.1 c;rw[o]at f2;unfold j7 at f2;unfold dm at f0 f2 |-;refine qf func196 call196 ntmps196 results196 ?_;have F:=f;exact m5 f2 f1
def Ev(env:b6)(g c h:Addr)(m:fq env g h)(k:env 5=some (cf c))(w:ph)(j:w.Ok)(i:w.vars.length<=1000000)(a:List lf)(l:a=[]\/bn a w.vars.length w.act.length=true)(b:fP w a=none):b7 prog env 196 [qs a, .agg (dm w)] (.tuple [B false,fc (-1) (fc (-1) (cf c))]):=by
 have f0:=jo env w j i;have f1:=iO env [118,97,108,117,101,46,84,114,117,101] (-1) (cf c);unfold fP at b;by_cases d:a=[]
 ·rw[Lj d]at b;cases b
 rw[Lf d,P9]at b;have f2:=Az env g c h m k w j i a (l.resolve_left d)
 have f:((a.length:Int)==0)=false:=by
  have:a.length≠0:=fun e=>d (NE.1 e);simp;omega
 rw[b]at f2;unfold j7 at f2;unfold dm at f0 f2 |-;refine qf func196 call196 ntmps196 results196 ?_;have F:=f;exact m5 f2 f1
end
end Go.Proofs.YtknkhdgfhbogdaaGreatDoor
