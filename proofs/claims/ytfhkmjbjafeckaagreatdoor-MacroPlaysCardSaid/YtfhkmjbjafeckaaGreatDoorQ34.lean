/- What goes wrong in a step goes wrong in an action, or as an event comes; its pages. No program is named here. -/
import Derived.Test.YtfhkmjbjafeckaaGreatDoorQ33
set_option maxRecDepth 100000
set_option maxHeartbeats 16000000
set_option linter.unusedSimpArgs false
set_option linter.defProp false
namespace Go.Proofs.YtfhkmjbjafeckaaGreatDoor
open Go.Proofs.Tryz
open Go.RowKit
section
attribute [local go_sem] eP om
def BE(env:cf)(es:List (List AV))(c:dd es.length 24):b8 prog env 124 [.seq 2 es] (.own 50 2 es):=by
 cases es with
 | nil=>
   refine b8.empty fun A a=> ?_;cases A with
   | none=>
     refine qw func124 call124 ntmps124 results124 ?_;repeat refine nw ?_
     (refine aM ?_;refine⟨_,(by show (ag _ _ _).run _=some _;simp only[go_sem];rfl),?_⟩)
     exact fN.own_nil _ _ (by decide)
   | some A=>
     refine qf func124 call124 ntmps124 results124 ?_;repeat refine nw ?_
     exact px
 | cons d l=>
   have b:dd (l.length+1) 24:=c;refine qf func124 call124 ntmps124 results124 ?_;have F:=b;exact fc
def rS{P:Program}{rs:List ResultVar}{ids:List Nat}{grown:Nat->Bool}{vs0:Nat->Nat}{post:(Nat->Nat)->List (Nat×Row)}{res:(Nat->Nat)->AV}{s:St}(h:KH P rs ids grown vs0 post res .ret s:=by
 refine sZ ?_ ?_<;>simp only[go_sem,F,R7,NH,SU,RO,AV.tuple.injEq,Ql,ne_eq]):KH P rs ids grown vs0 post res .ret s:=h
def Jw{P:Program}{env:cf}{nt:Nat}{c:Code}{Q:Exit->St->Prop}{s:St}(r:Nat)(h:fq P env nt c Q { s with rows:=m6 s.rows r none }):fq P env nt c Q s:=
 Ca (s':={ s with rows:=m6 s.rows r none }) ⟨fun _=> .inl rfl,fun k=>by
  by_cases e:k=r
  ·subst e;exact .inr (aw _ _ _)
  exact .inl (cU _ _ _ e),rfl,rfl⟩ h
def Ta:mw×tn->Bool
 |(m,none)=>m.x.2.2.2.2
 |_=>false
def Kz{env:cf}{U H I J:Addr}{c:aq}{now:Int}(E:CT env U H I J c now){fu:Nat}{m:mw}(v:kE c fu m):
 i9 prog env 69 [1000,1001,1002] DM (fun g=>[.loc 1000 (g 1000) 0 0]) (RQ c now fu false m) (RQ c now fu (Ta (y1 c now fu NM m)) (y1 c now fu NM m).1) (fun _=>mi H I J (y1 c now fu NM m).2):=by
 obtain⟨X,a⟩: ∃X,y1 c now fu NM m=X:=⟨_,rfl⟩;have p:=El v;rw[a];refine qi func69 call69 ntmps69 results69 ?_;intro vs K A;obtain⟨i,j,l⟩:=S5 A;have F:=kv UJ UI UE i j l;repeat refine st ?_
 refine yC ?_;repeat refine st ?_
 refine yD ?_;show fq _ _ _ _ _ _;repeat refine st ?_
 refine lp (D:=mw×Nat) (fun _ t=>[(0, .loc 1000 (t 1000) 0 0)]) (fun y t=>RQ c now fu false y.1 t) (fun y t s=>(kE c fu y.1/\y1 c now fu y.2 y.1=X/\jS fu y.1<y.2)/\t 1000=vs 1000/\s 1000=false/\s 1001=false/\s 1002=false) (fun y=>jS fu y.1) (m,NM) ⟨⟨v,a,p⟩,by simp only[go_sem,i,j,l,NH]⟩ ?_;try clear i j l A p a v
 rintro⟨m,n⟩ ws K ⟨⟨v,a,p⟩,u,i,j,l⟩;simp only at v a p;obtain⟨n,rfl⟩: ∃k,n=k+1:=⟨n-1,by omega⟩;unfold y1 at a;by_cases d:m.x.2.2.2.2=true
 ·rw[Mw d]at a;subst a;have f:Ta (m,none)=true:=d;have M:mi H I J none= .lit .nilIface:=rfl;show fq _ _ _ _ _ _;have F:=mX UJ UI UE f M d u i j l;repeat refine st ?_
  show fq _ _ _ _ _ _;refine aM ?_;simp only[bD,ba,pS];exact rS
 rw[Mv d]at a;have d:m.x.2.2.2.2=false:=by simpa using d
 have r:=zB E v d [];have R:=km E.h E.hn v d (ev:=[]);have G:=ri E.h E.hn v d (ev:=[]);rcases Q:v2 c now fu m []with⟨⟨h,_|e⟩,b⟩
 ·rw[Q]at a r R G;obtain⟨O,V,P⟩:=R rfl;obtain⟨f1,f2⟩:=G rfl;simp only at a r O V P f1 f2;cases b with
  | true=>
    simp only at a;unfold mi RQ Bx at r;have F:=qr UJ UI UE d u i j l;repeat refine st ?_
    refine iL [(1000,1000),(1001,1001),(1002,1002)] r ?_;repeat refine st ?_
    refine⟨(h,n),⟨⟨O,a,by have:=f2 rfl;simp only;omega⟩,?_⟩,?_,?_,?_⟩
    ·simp only[go_sem,u,i,j,l,NH]
    ·exact qe
    ·exact qe
    exact f2 rfl
  | false=>
    obtain rfl:h=m:=by rcases P with⟨q,_⟩|⟨_,q⟩;cases q;exact q
    unfold mi RQ Bx at r;simp only at a;cases z:h.wait with
    | nil=>
      rw[z]at a;simp only at a;subst a;have f:Ta (h,none)=false:=d;have M:mi H I J none= .lit .nilIface:=rfl;show fq _ _ _ _ _ _;have F:=o' UJ UI UE f M z d u i j l;repeat refine st ?_
      refine iL [(1000,1000),(1001,1001),(1002,1002)] r ?_;repeat refine st ?_
      refine aM ?_;simp only[bD,ba,pS];exact rS
    | cons e w=>
      rw[z]at a;simp only at a;have q0:h.wait[0]? =some e:=by rw[z];rfl
      have q5:(0:Int)< (h.wait.length:Int):=by rw[z];simp only[NQ];omega
      have T:((h.wait.length:Int)==0)=false:=by rw[Oz];omega
      have F:=qs UJ UI UE T d u i j l;repeat refine st ?_
      refine iL [(1000,1000),(1001,1001),(1002,1002)] r ?_
      iterate 20 (refine st ?_)
      refine cV [(1002,⟨2,h.wait.map cI,50,true⟩)] ?_ ?_
      ·exact qe
      have x:=zl v z;have Y:=BE env (w.map cI) (by rw[NT];have:=x.wait;exact aC (by simp only at this;omega) (by omega));have C:=zB E x d e.1;have L:=km E.h E.hn x d (ev:=e.1);have B:=ri E.h E.hn x d (ev:=e.1);have q3:(h.wait.drop 1).take (h.wait.length-1)=w:=by rw[z,List.drop_one,SH,NQ,Pu,NS]
      have q4:(1:Int)<=(h.wait.length:Int):=by rw[z];simp only[NQ];omega
      rcases hB:v2 c now fu { h with wait:=w,data:=e.2 } e.1 with⟨⟨N,W⟩,b⟩;rw[hB]at a C L B;simp only at a C L B;unfold RQ Bx at C;simp only at C;have F:=ed UJ UI UE UD q0 q3 q4 q5 T d u<|gs i j l;repeat (first|refine oO rfl (by simp only[go_sem,aN,F];exact⟨rfl,rfl⟩) ?_|refine gR ?_|refine gO ?_|refine oC rfl (Y) (by simp only[go_sem,aN,F];exact iR) (by simp only[go_sem,aN,F];exact⟨rfl,rfl⟩) ?_|refine oZ (kj ?_)|refine oZ ?_|refine oS ?_|refine gT ?_|refine gD mixed ?_|refine oB ?_|refine oK ?_|(refine oX ?_;simp only[bD,ba, ↓reduceIte,Nat.reduceEqDiff,reduceCtorEq])|refine oY (by simp only[go_sem,aN,F];exact iR) ?_|refine oN (by simp only[go_sem,aN,F];exact iR) ?_)
      refine im [(1000,1000),(1001,1001),(1002,41)] rfl (C) (by decide) (by decide) (by simp only[go_sem,aN,F]<;>rfl) (by simp only[go_sem,aN,F,NH]<;>trivial) (by simp only[go_sem,aN,F,NH]<;>trivial) (by intro o;simp only[go_sem,aN,F,hU,NH]<;>trivial) (by intro o;simp only[go_sem,aN,F]<;>rfl) (by simp only[go_sem,aN,F,hU];exact iR) (by simp only[go_sem,aN,F,hU];exact iR) ?_
      iterate 6 (refine st ?_)
      show fq _ _ _ _ _ _;refine Jw 1002 ?_;refine L5 41 1002 ⟨2,N.wait.map cI,50,true⟩ (by decide) (by simp only[go_sem]) (by simp only[go_sem]) (Ng 1) rfl ?_;rcases W with _|⟨k,S⟩
      ·obtain⟨Z,_,g3⟩:=L rfl;obtain⟨h1,h2⟩:=B rfl;have hlt:jS fu { h with wait:=w,data:=e.2 } <jS fu h:=by unfold jS;rw[z];simp
       unfold mi;simp only at a h1 |-;have F:=m7 UJ UI UE u i j l;repeat refine st ?_
       refine⟨(N,n),⟨⟨Z,a,by simp only;omega⟩,?_⟩,?_,?_,by simp only;omega⟩
       ·simp only[go_sem,u,i,j,l,NH]
       ·exact qe
       exact qe
      simp only at a;subst a;have f:Ta (N,some (k,S))=false:=rfl;unfold mi;simp only;have F:=qr UJ UI UE f u i j l;repeat refine st ?_
      refine aM ?_;simp only[bD,ba,pS];exact rS
 rw[Q]at a r;simp only at a r;subst a;have f:Ta (h,some e)=false:=rfl;obtain⟨k,S⟩:=e;unfold mi RQ Bx at r;simp only at r;show fq _ _ _ _ _ _;unfold mi;simp only;have F:=qs UJ UI UE f d u i j l;repeat refine st ?_
 refine iL [(1000,1000),(1001,1001),(1002,1002)] r ?_;repeat refine st ?_
 show fq _ _ _ _ _ _;refine aM ?_;simp only[bD,ba,pS];exact rS
end
section
def jB(env:cf)(c:aq):b8 prog env 8 [.agg (aA c)] (B (mS c)):=by
 unfold mS;refine qf func8 call8 ntmps8 results8 ?_;have F:=aA.eq_1;exact fc
def tM(env:cf)(b d:Addr)(f:gb env b d)(e: ∀W,env.inv W->r5 W)(c:aq)(a:jL c)(h:lv c=true):b8 prog env 7 [.agg (aA c)] (aG c):=by
 have f0:=jB env c;have f1:=kN env c;unfold lv at h;rw[Mx]at h;rw[h.1]at f0;rw[h.2]at f1;rw[OQ]at h;have f2:=wV env b d f e c (MR h.2) a;unfold aG at f2 |-;refine qf func7 call7 ntmps7 results7 ?_;repeat refine Ci f0 f1 f2 ?_
 exact px
def qq(env:cf)(c:aq)(h:lv c=false):b8 prog env 7 [.agg (aA c)] (.lit (.pointer none)):=by
 have f0:=jB env c;have f1:=kN env c;unfold lv at h;cases a:mS c
 ·rw[a]at f0;refine qf func7 call7 ntmps7 results7 ?_;repeat refine sL f0 f1 ?_
  exact px
 rw[a]at f0;rw[a,Np]at h;rw[h]at f1;refine qf func7 call7 ntmps7 results7 ?_;repeat refine sL f0 f1 ?_
 exact px
def uP(n f:Int):Bool:=decide (0<=n)&&decide (n<=1099511627776)&&decide (0<=f)&&decide (f<=256)
def o6(env:cf)(n f:Int):b8 prog env 12 [I n,I f] (B (uP n f)):=by
 unfold uP;refine qf func12 call12 ntmps12 results12 ?_;have F:=trivial;exact fc
def qV(a:Nat->Addr)(mo:Td)(k:Nat)(c:1<=k/\k<=9)(p:Int)(ps:List Int):b8 prog (bh a mo) 13 [c0 p (fp ps (bt (a k))),I k] (B true):=by
 have f0:b8 prog (bh a mo) 30 [c0 p (fp ps (bt (a k)))] (I k):=EL a mo k c (p::ps);have b:(((k:Nat):Int)==0)=false:=by simp;omega
 generalize fp ps (bt (a k))=X at*;refine qf func13 call13 ntmps13 results13 ?_;have F:=b;exact kb f0
def lB(env:cf)(a b:Addr)(k:gb env a b)(d:List UInt8)(c:aq)(n f:Int):b8 prog env 36 [Sg d,aG c,I n,I f] (if uP n f=true then ik else c0 (-1) (bt a)):=by
 have e:(if uP n f=true then ik else c0 (-1) (bt a))=if n<0 then c0 (-1) (bt a) else if 1099511627776<n then c0 (-1) (bt a) else if f<0 then c0 (-1) (bt a) else if 256<f then c0 (-1) (bt a) else ik:=by
  unfold uP;by_cases g:n<0<;>by_cases h:1099511627776<n<;>by_cases i:f<0<;>by_cases j:256<f<;>simp[g,h,i,j]<;>omega
 rw[e];have f0:=nT env a b k d;unfold aG;refine qf func36 call36 ntmps36 results36 ?_;have F:=trivial;exact kb f0
end
section
def du:List AV:=[b6,b6,b6,b6,B false]
def dt:List AV:=[b6,I 0,B false]
def bq(e:AV):AV:= .tuple [.agg du, .agg dt,e]
def I5(b c d:Addr)(g:Nat->Nat):mw×tn->AV
 |(m,none)=> .tuple [.agg (i' m.x), .agg [.row 1001 (g 1001),I m.steps,B m.x.2.2.2.2],ik]
 |(_,some (k,a))=>bq (c0 (-1) (c0 (a.headD (-1)) (fp a.tail (bt (if k=2 then b else if k=6 then c else d)))))
def qh(b c d:Addr):mw×tn->AV
 |(m,none)=> .tuple [.agg (i' m.x), .agg [bs m.said,I m.steps,B m.x.2.2.2.2],ik]
 |(_,some (k,a))=>bq (c0 (-1) (c0 (a.headD (-1)) (fp a.tail (bt (if k=2 then b else if k=6 then c else d)))))
def xA{env:cf}{o b d e:Addr}{c:aq}{now:Int}(E:CT env o b d e c now){fu:Nat}{m:mw}(p:kE c fu m)(l:List UInt8):
 i9 prog env 39 [1000,1001,1002] DM (fun g=>[.loc 1000 (g 1000) 0 0,Sg l,ik]) (RQ c now fu false m) (RQ c now fu (Ta (y1 c now fu NM m)) (y1 c now fu NM m).1) (fun g=>I5 b d e g (y1 c now fu NM m)):=by
 have f0:=Kz E p;generalize y1 c now fu NM m=X at*;rcases X with⟨r,_|⟨k,n⟩⟩
 ·unfold I5;unfold Ta mi RQ Bx at f0;unfold Ta RQ Bx i';simp only at f0 |-;refine qi func39 call39 ntmps39 results39 ?_;intro q j a;obtain⟨f,h,i⟩:=S5 a;have F:=i0 UE f h i;repeat refine st ?_
  refine iL [(1000,1000),(1001,1001),(1002,1002)] f0 ?_;repeat refine st ?_
  exact rI
 unfold I5 bq du dt;unfold Ta mi RQ Bx at f0;unfold Ta RQ Bx;simp only at f0 |-;have f1:=eZ env l (n.headD (-1)) (fp n.tail (bt (if k=2 then b else if k=6 then d else e)));refine qi func39 call39 ntmps39 results39 ?_;intro q j a;obtain⟨f,h,i⟩:=S5 a;have F:=i0 UE f h i;repeat refine st ?_
 refine iL [(1000,1000),(1001,1001),(1002,1002)] f0 ?_;repeat refine ff f1 ?_
 exact rI
def qB(env:cf)(es:Nat->Nat->List AV)(S W:List (List AV))(b:List UInt8)(p:Int)(e:AV):
 i9 prog env 39 [1000,1001,1002] DM (fun g=>[.loc 1000 (g 1000) 0 0,Sg b,c0 p e]) (fun g=>[(1000,⟨13,[es (g 1001) (g 1002)],106,false⟩),(1001,⟨1,S,3,true⟩),(1002,⟨2,W,50,true⟩)]) (fun g=>[(1000,⟨13,[es (g 1001) (g 1002)],106,false⟩),(1001,⟨1,S,3,true⟩),(1002,⟨2,W,50,true⟩)]) (fun _=>bq (c0 (-1) (c0 p e))):=by
 have f1:=eZ env b p e;unfold bq du dt;refine qi func39 call39 ntmps39 results39 ?_;intro i h a;obtain⟨c,d,f⟩:=S5 a;have F:=i0 UE c d f;repeat refine ff f1 ?_
 exact rI
def FF(a b:Addr)(c:aq)(x:tD)(d n f:Int):AV:=if cq c (M' x)=false then c0 (-1) (c0 (-1) (bt a)) else if x.2.2.2.2=true then c0 (-1) (bt b) else if aJ d=false then c0 (-1) (bt a) else if uP n f=true then ik else c0 (-1) (bt a)
def qo(env:cf)(b j i:Addr)(k:gb env b i)(q:env 6=some (bt j))(c:aq)(h:ct c)(v:hP c)(x:tD)(s:Sp (M' x))(u: ∀t∈x.2.2.2.1,t.1.length<=9223372036854775807)(r: ∀m∈x.2.2.1,dd m.2.length 8)(g:List UInt8)(d n f:Int):
 b8 prog env 41 [Sg g,aG c, .agg (i' x),I d,I n,I f] (FF b j c x d n f):=by
 have p:=gg q;have f0:=tP env b i k c h v (M' x) s u r;have f1:=dG env d;have f2:=lB env b i k g c n f;have f3:=eZ env g (-1) (bt b);have f4:=b9 env g j;have f5:=nT env b i k g;rw[FZ]at f0;unfold tZ at f0;unfold FF;unfold aG at f0 f2 |-;unfold i' at f0 |-;cases o:cq c (M' x)
 ·rw[o,Mv Nb]at f0;rw[Mw rfl];refine qf func41 call41 ntmps41 results41 ?_;repeat refine sL f0 f3 ?_
  exact px
 rw[o,Mw rfl]at f0;rw[Mv (by simp)];by_cases a:x.2.2.2.2=true
 ·rw[Mw a];refine qf func41 call41 ntmps41 results41 ?_;have F:=ai a p;exact ns f0 f4
 rw[Mv a];have a:x.2.2.2.2=false:=by simpa using a
 cases l:aJ d
 ·rw[l]at f1;rw[Mw rfl];refine qf func41 call41 ntmps41 results41 ?_;have F:=a;exact D0 f0 f1 f5
 rw[l]at f1;rw[Mv (by simp)];cases e:uP n f
 ·rw[e,Mv Nb]at f2;rw[Mv Nb];refine qf func41 call41 ntmps41 results41 ?_;have F:=a;exact D0 f0 f1 f2
 rw[e,Mw rfl]at f2;rw[Mw rfl];refine qf func41 call41 ntmps41 results41 ?_;have F:=a;exact D0 f0 f1 f2
def Da(env:cf)(c:aq)(x:tD)(ev:List UInt8)(d n f:Int)(p:Int)(e:AV)(a:b8 prog env 41 [Sg [109,97,99,114,111,46,83,101,110,100],aG c, .agg (i' x),I d,I n,I f] (c0 p e)):b8 prog env 22 [aG c, .agg (i' x), .agg [Sg ev,I d],I n,I f] (bq (c0 p e)):=by
 unfold bq du dt;unfold aG i' at a |-;refine qf func22 call22 ntmps22 results22 ?_;repeat refine jG a ?_
 exact px
def S8(ev:List UInt8):Bool:= !(ev == [])&& !decide (37< (ev.length:Int))
def D9(env:cf)(a h:Addr)(i:gb env a h)(c:aq)(x:tD)(ev:List UInt8)(g:S8 ev=false)(d n f:Int)(b:b8 prog env 41 [Sg [109,97,99,114,111,46,83,101,110,100],aG c, .agg (i' x),I d,I n,I f] ik):b8 prog env 22 [aG c, .agg (i' x), .agg [Sg ev,I d],I n,I f] (bq (c0 (-1) (bt a))):=by
 have f1:=nT env a h i [109,97,99,114,111,46,83,101,110,100];unfold bq du dt;unfold aG i' at b |-;unfold S8 at g;cases e:ev == []
 ·rw[e,OW,Np,O4,NI]at g;refine qf func22 call22 ntmps22 results22 ?_;have F:=ai e g;repeat refine y3 b f1 ?_
  show fq _ _ _ _ _ _;exact aR
 refine qf func22 call22 ntmps22 results22 ?_;have F:=e;repeat refine y3 b f1 ?_
 show fq _ _ _ _ _ _;exact aR
def wy{env:cf}{v g h i:Addr}{c:aq}{now:Int}(E:CT env v g h i c now){fu:Nat}{x:tD}{ev:List UInt8}{d:Int}(s:cq c (M' x)=true)(u:x.2.2.2.2=false)(z:aJ d=true)(y:fu<=256)(n:S8 ev=true)(j:b8 prog env 41 [Sg [109,97,99,114,111,46,83,101,110,100],aG c, .agg (i' x),I d,I now,I fu] ik):
 b8 prog env 22 [aG c, .agg (i' x), .agg [Sg ev,I d],I now,I fu] (qh g h i (iK c now fu x ev d)):=by
 have t:=Kb s z y;have k:=e9 E.h E.hs.vars (dp s);have B:=k.act;have C:=k.vars;have D:=k.mem;have f2:=tN env x (by omega) (by omega) (by omega) k.ZN (aC (NN k.Z2 (by omega)) (by omega));have f:=zB E t u ev;have r:=km E.h E.hn t u (ev:=ev);unfold S8 at n;rw[Mx,OA,OA,Nw]at n;obtain⟨o,p⟩:=n;unfold iK;rcases q:v2 c now fu (m0 x d) ev with⟨⟨m,_|⟨k,l⟩⟩,b⟩
 ·rw[q]at f r;obtain⟨w,_,_⟩:=r rfl;have e:=xA E w [109,97,99,114,111,46,83,101,110,100];show b8 _ _ _ _ (qh g h i (y1 c now fu NM m));simp only at e f;generalize y1 c now fu NM m=X at*;unfold aG i' at j |-;obtain⟨A,V,M,T,O⟩:=x;unfold m0 RQ Bx mi at f;unfold RQ Bx at e;simp only at*;rcases X with⟨G,_|⟨k,l⟩⟩
  ·unfold I5 Ta i' at e;unfold qh i';simp only at e |-;refine qf func22 call22 ntmps22 results22 ?_;have F:=gs UE o p;repeat refine ff j ?_
   refine iL [(8,9001),(11,9002),(14,9003)] f2 ?_
   iterate 8 (refine st ?_)
   show fq _ _ _ _ _ _;refine cV [(9001,⟨1,A.map aa,3,true⟩),(9002,⟨1,V.map aa,3,true⟩),(9003,⟨2,T.map cI,98,true⟩)] ?_ ?_
   ·exact qe
   refine nC 49 9005 0 6 50 2 ?_;refine nC 49 9004 0 7 3 1 ?_;repeat refine st ?_
   refine iL [(1000,49),(1001,9004),(1002,9005)] f ?_;repeat refine st ?_
   refine iL [(1000,49),(1001,9004),(1002,9005)] e ?_;exact fc
  unfold I5 Ta bq du dt at e;unfold qh bq du dt;simp only at e |-;refine qf func22 call22 ntmps22 results22 ?_;have F:=gs UE o p;repeat refine ff j ?_
  refine iL [(8,9001),(11,9002),(14,9003)] f2 ?_
  iterate 8 (refine st ?_)
  show fq _ _ _ _ _ _;refine cV [(9001,⟨1,A.map aa,3,true⟩),(9002,⟨1,V.map aa,3,true⟩),(9003,⟨2,T.map cI,98,true⟩)] ?_ ?_
  ·exact qe
  refine nC 49 9005 0 6 50 2 ?_;refine nC 49 9004 0 7 3 1 ?_;repeat refine st ?_
  refine iL [(1000,49),(1001,9004),(1002,9005)] f ?_;repeat refine st ?_
  refine iL [(1000,49),(1001,9004),(1002,9005)] e ?_;exact fc
 rw[q]at f;have e:=qB env (fun a b=>Bx c now fu false m fun k=>if k=1001 then a else b) (m.said.map aa) (m.wait.map cI) [109,97,99,114,111,46,83,101,110,100] (l.headD (-1)) (fp l.tail (bt (if k=2 then g else if k=6 then h else i)));show b8 _ _ _ _ (bq (c0 (-1) (c0 (l.headD (-1)) (fp l.tail (bt (if k=2 then g else if k=6 then h else i))))));unfold aG i' at j |-;obtain⟨A,V,M,T,O⟩:=x;unfold m0 RQ Bx mi at f;unfold Bx bq du dt at e;unfold bq du dt;simp only[Nn,Nat.reduceEqDiff,OB]at*;refine qf func22 call22 ntmps22 results22 ?_;have F:=gs UE o p;repeat refine ff j ?_
 refine iL [(8,9001),(11,9002),(14,9003)] f2 ?_
 iterate 8 (refine st ?_)
 show fq _ _ _ _ _ _;refine cV [(9001,⟨1,A.map aa,3,true⟩),(9002,⟨1,V.map aa,3,true⟩),(9003,⟨2,T.map cI,98,true⟩)] ?_ ?_
 ·exact qe
 refine nC 49 9005 0 6 50 2 ?_;refine nC 49 9004 0 7 3 1 ?_;repeat refine st ?_
 refine iL [(1000,49),(1001,9004),(1002,9005)] f ?_;repeat refine st ?_
 refine iL [(1000,49),(1001,9004),(1002,9005)] e ?_;exact fc
end
section
def qm(env:cf)(a b:Addr)(e:gb env a b)(c:aq)(n f:Int)(d:uP n f=false):b8 prog env 19 [aG c,I n,I f] (bq (c0 (-1) (bt a))):=by
 have f0:=lB env a b e [109,97,99,114,111,46,66,101,103,105,110] c n f;rw[d,Mv Nb]at f0;unfold bq du dt;unfold aG at f0 |-;refine qf func19 call19 ntmps19 results19 ?_;repeat refine jG f0 ?_
 exact px
def K2{n f:Int}(h:uP n f=true):(0<=n/\n<=1099511627776)/\ ∃fu:Nat,f=fu/\fu<=256:=by
 unfold uP at h;simp only[Mx,NI]at h;exact⟨⟨h.1.1.1,h.1.1.2⟩,f.toNat,by omega,by omega⟩
def K1{n:Int}{fu:Nat}(b:0<=n/\n<=1099511627776)(a:fu<=256):uP n fu=true:=by
 unfold uP;simp only[Mx,NI];omega
def nQ{env:cf}{o g h f:Addr}{c:aq}{now:Int}(E:CT env o g h f c now)(p: ∀v∈c.vars,aJ v.start=true){fu:Nat}(q:fu<=256):
 b8 prog env 19 [aG c,I now,I fu] (qh g h f (cd c now fu)):=by
 have f0:=lB env o f E.he [109,97,99,114,111,46,66,101,103,105,110] c now fu;rw[K1 E.hn q,Mw rfl]at f0;have f1:=E5 env o g f c now ⟨E.he,E.h2,E.h,E.hs,rfl,E.hn⟩ p;have l:=jm E.h E.hn q p;have n:=rA E.h E.hn p;have j:=lX c 0 now ⟨[],c.vars.map (·.start),[],[],false,[],[]⟩ (zL (h9 c (-1)));change rK (gu c now).2 at j;unfold cd;unfold aG at f0 f1 |-;rcases s:gu c now with⟨r,_|⟨k,e⟩⟩
 ·rw[s]at f1 l n;obtain⟨_,u,_⟩:=n rfl;have l:=l rfl;have i:=Bn env g h f E.he.e8 c now fu (m0 (N' r) 0) r.outs r.Z8 (NJ _) (NJ _) u.outs u.Z8;unfold vo at f1;simp only at f1 l |-;rcases t:sy (m0 (N' r) 0) r.outs r.Z8 with⟨m,_|⟨k,e⟩⟩
  ·rw[t]at i l;have d:=xA E (l rfl) [109,97,99,114,111,46,66,101,103,105,110];show b8 _ _ _ _ (qh g h f (y1 c now fu NM m));generalize y1 c now fu NM m=X at*;unfold m0 N' RQ Bx mi at i;unfold RQ Bx at d;simp only at i d;rcases X with⟨y,_|⟨k,e⟩⟩
   ·unfold I5 Ta i' at d;unfold qh i';simp only at d |-;refine qf func19 call19 ntmps19 results19 ?_;have F:=DM.eq_1
    iterate 47 (first|refine st ?_|refine cC f0 ?_|refine cC f1 ?_)
    show fq _ _ _ _ _ _;refine nC 35 9005 0 6 50 2 ?_;refine nC 35 9004 0 7 3 1 ?_;repeat refine st ?_
    refine iL [(1000,35),(1001,9004),(1002,9005)] i ?_;repeat refine st ?_
    refine iL [(1000,35),(1001,9004),(1002,9005)] d ?_;exact fc
   unfold I5 Ta bq du dt at d;unfold qh bq du dt;simp only at d |-;refine qf func19 call19 ntmps19 results19 ?_;have F:=DM.eq_1
   iterate 47 (first|refine st ?_|refine cC f0 ?_|refine cC f1 ?_)
   show fq _ _ _ _ _ _;refine nC 35 9005 0 6 50 2 ?_;refine nC 35 9004 0 7 3 1 ?_;repeat refine st ?_
   refine iL [(1000,35),(1001,9004),(1002,9005)] i ?_;repeat refine st ?_
   refine iL [(1000,35),(1001,9004),(1002,9005)] d ?_;exact fc
  rw[t]at i;have d:=qB env (fun a b=>Bx c now fu false m fun k=>if k=1001 then a else b) (m.said.map aa) (m.wait.map cI) [109,97,99,114,111,46,66,101,103,105,110] (e.headD (-1)) (fp e.tail (bt (if k=2 then g else if k=6 then h else f)));show b8 _ _ _ _ (bq (c0 (-1) (c0 (e.headD (-1)) (fp e.tail (bt (if k=2 then g else if k=6 then h else f))))));unfold m0 N' RQ Bx mi at i;unfold Bx bq du dt at d;unfold bq du dt;simp only[Nn,Nat.reduceEqDiff,OB]at i d;refine qf func19 call19 ntmps19 results19 ?_;have F:=DM.eq_1
  iterate 47 (first|refine st ?_|refine cC f0 ?_|refine cC f1 ?_)
  show fq _ _ _ _ _ _;refine nC 35 9005 0 6 50 2 ?_;refine nC 35 9004 0 7 3 1 ?_;repeat refine st ?_
  refine iL [(1000,35),(1001,9004),(1002,9005)] i ?_;repeat refine st ?_
  refine iL [(1000,35),(1001,9004),(1002,9005)] d ?_;exact fc
 rw[s]at f1 j;have x:=j (k,e) rfl
 have w:cr g f (some (k,e))=c0 (e.headD (-1)) (fp e.tail (bt (if k=2 then g else if k=6 then h else f))):=by
  unfold cr;simp only;rcases x with rfl|rfl<;>rfl
 unfold vo at f1;simp only[w]at f1;have d:=qB env (fun a b=>[.ref 9 [cy c] 0 0,b6,b6,b6,b6,B false, .row 1002 b, .row 1001 a,I 0,B false,I 0,I now,I fu]) [] [] [109,97,99,114,111,46,66,101,103,105,110] (-1) (c0 (e.headD (-1)) (fp e.tail (bt (if k=2 then g else if k=6 then h else f))));show b8 _ _ _ _ (bq (c0 (-1) (c0 (-1) (c0 (e.headD (-1)) (fp e.tail (bt (if k=2 then g else if k=6 then h else f)))))));unfold bq du dt at d |-;generalize fp e.tail _=V at*;refine qf func19 call19 ntmps19 results19 ?_;have F:=DM.eq_1
 iterate 47 (first|refine st ?_|refine cC f0 ?_|refine cC f1 ?_)
 show fq _ _ _ _ _ _;refine nC 35 9005 0 6 50 2 ?_;refine nC 35 9004 0 7 3 1 ?_;repeat refine st ?_
 refine iL [(1000,35),(1001,9004),(1002,9005)] d ?_;exact fc
end
section
def wk:aq:=⟨[99],0,[],[⟨[97],1, -1, -1,[],[]⟩,⟨[98],1, -1, -1,[],[]⟩],[⟨0,[120],[],[⟨2,0,[121],[⟨1,1⟩]⟩], -1⟩,⟨0,[121],[],[],1⟩]⟩
def Er:List AV:=[Sg [99],I 0,b6, .seq 6 [[Sg [97],I 1,I (-1),I (-1),b6,b6],[Sg [98],I 1,I (-1),I (-1),b6,b6]], .seq 5 [[I 0,Sg [120],b6, .seq 4 [[I 2,I 0,Sg [121], .seq 2 [[I 1,I 1]]]],I (-1)],[I 0,Sg [121],b6,b6,I 1]]]
def FC(n:List UInt8)(k p i:Int):x3 [Sg n,I k,I p,I i,b6,b6] (aL ⟨n,k,p,i,[],[]⟩):= .cons (.refl _) (.cons (.refl _) (.cons (.refl _) (.cons (.refl _) (.cons (.nil 4) (.cons (.nil 4) .nil)))))
def GH:x3 [.agg Er] [.agg (aA wk)]:=by
 refine .one (.agg (.cons (.refl _) (.cons (.refl _) (.cons (.nil 2) (.cons (.seqs ?_) (.cons (.seqs ?_) .nil))))))
 ·exact .cons (FC ..) (.cons (FC ..) .nil)
 exact .cons (.cons (.refl _) (.cons (.refl _) (.cons (.nil 2) (.cons (.refl _) (.cons (.refl _) .nil))))) (.cons (.cons (.refl _) (.cons (.refl _) (.cons (.nil 2) (.cons (.nil 4) (.cons (.refl _) .nil))))) .nil)
def GI:jL wk:=by simp[jL,vr,vp,iU,rh,wk,maxLen]
def wN:n9 wk=(0, -1):=by decide+kernel
def Tk:tD:=([0],[],[],[],false)
def BM:cq wk (M' Tk)=true:=by decide+kernel
def GF:cd wk 0 9=(m0 Tk 0,none):=by kernel_rfl
def Ib:iK wk 0 9 Tk [120] 0=(⟨([1],[],[],[],false),[],2,[],1⟩,none):=by kernel_rfl
def sq(env:cf)(n:List UInt8):b8 prog env 28 [Sg n] (.agg [Sg n,I 1,I (-1),I (-1),b6,b6]):=by
 refine qf func28 call28 ntmps28 results28 ?_;repeat refine nw ?_
 exact px
def rJ(env:cf)(a f g c b:Addr)(e:gb env a b)(l:env 1=some (bt f))(m:env 5=some (bt g))(n:env 6=some (bt c))(o: ∀W,env.inv W->r5 W):b8 prog env 10 [] (B true):=by
 have j:(n9 wk).1=0:=by rw[wN]
 have h:=Sk j;have k:=og j;have E:CT env a f g b wk 0:=⟨e,l,m,h,k,by omega⟩;have f0:=(wV env a b e o wk wN GI).args GH;have f1:=nQ E (by simp[wk]) (fu:=9) (by omega);have i:=qo env a c b e n wk h k Tk ⟨by simp[M',Tk],by simp[M',Tk],by simp[M',Tk],by simp[M',Tk]⟩ (by simp[Tk]) (by simp[Tk]) [109,97,99,114,111,46,83,101,110,100] 0 0 (9:Nat);rw[show FF a c wk Tk 0 0 (9:Nat)=ik by unfold FF;rw[BM];rfl]at i;have f2:=wy E (x:=Tk) (ev:=[120]) (d:=0) BM rfl rfl (fu:=9) (by omega) rfl i;rw[GF]at f1;rw[Ib]at f2
 have f4:b8 prog env 18 [.seq 1 [[I 1]], .seq 1 [[I 1]]] (B true):=by
  have:=yR env [1] [1] (by decide);rw[Ny rfl]at this;exact this
 have p:=sq env [97];have q:=sq env [98];unfold Er at f0;unfold qh m0 at f1;unfold qh at f2;unfold i' at f1 f2;unfold Tk at f1 f2;simp only[O3,Nh]at f1 f2;unfold bs at f1 f2;unfold aG at f0 f1 f2;generalize cy wk=T at*;refine qf func10 call10 ntmps10 results10 ?_;repeat refine Mm p q f0 f1 f2 f4 ?_
 exact px
end
section
def Si.fewI{c:aq}{x:tD}(k:Si c x):zw x/\Sp (M' x):=by
 have b:maxLen=9223372036854775807:=rfl;have e:=k.act;have f:=k.vars;have g:=k.mem;have h:=k.Z2;refine⟨⟨⟨by omega,by omega⟩,⟨by omega,fun m a=> ?_⟩,by omega,fun t d=> ?_⟩,⟨show x.1.length<=1000000 by omega,show x.2.1.length<=1000000 by omega,show x.2.2.1.length<=1000000 by omega,show x.2.2.2.1.length<=9223372036854775807 by omega⟩⟩
 ·have:=(k.ZN m a).2;unfold KT;omega
 have:=k.nms t d;unfold vq;omega
end
section
section
variable {c:aq} {d now:Int} {Q:Nat×List Int->Prop} (hdo: ∀(r:cD) (a:la) e,(Sb c d now r a).2=some e->Q e) (hra: ∀(r:cD) s v e,(g6 r s v).2=some e->Q e)
include hdo
theorem uX: ∀(l:List la)(r:cD)(e:Nat×List Int),(mv c d now r l).2=some e->Q e
 |[],_,_,h=>by cases h
 | a::l,r,e,h=>by
   have b:=hdo r a;unfold mv at h;rcases f:Sb c d now r a with⟨g,_|x⟩<;>rw[f]at h b
   ·exact uX l g e h
   exact b e h
theorem xH: ∀(l:List Int)(r:cD)(e:Nat×List Int),(bS c d now r l).2=some e->Q e
 |[],_,_,h=>by cases h
 | i::l,r,e,h=>by
   have b:=uX hdo (ww c i) r;unfold bS at h;rcases f:mv c d now r (ww c i) with⟨g,_|x⟩<;>rw[f]at h b
   ·exact xH l _ e h
   exact b e h
theorem Cf: ∀(l:List Nat)(r:cD)(e:Nat×List Int),(dW c d now r l).2=some e->Q e
 |[],_,_,h=>by cases h
 | n::l,r,e,h=>by
   have b:=uX hdo (dl c n).Z1 r;unfold dW at h;rcases f:mv c d now r (dl c n).Z1 with⟨g,_|x⟩<;>rw[f]at h b
   ·exact Cf l _ e h
   exact b e h
theorem vQ: ∀(l:List Int)(f:List Int)(r:cD)(e:Nat×List Int),(ak c d now r f l).1.2=some e->Q e
 |[],_,_,_,h=>by cases h
 | i::l,f,r,e,h=>by
   unfold ak at h;split at h
   ·exact vQ l f r e h
   have b:=uX hdo (Tl c i) { r with act:=bQ (r.act++[i]) };rcases g:mv c d now { r with act:=bQ (r.act++[i]) } (Tl c i) with⟨j,_|x⟩<;>rw[g]at h b
   ·exact vQ l _ j e h
   exact b e h
include hra
omit hdo in
theorem vL: ∀(l:List Int)(o:List Int)(r:cD)(e:Nat×List Int),(cW c r o l).1.2=some e->Q e
 |[],_,_,_,h=>by cases h
 | i::l,o,r,e,h=>by
   unfold cW at h;split at h
   ·exact vL l o _ e h
   have b:=hra r (j8 c (aP c i)) 0;rcases f:g6 r (j8 c (aP c i)) 0 with⟨g,_|x⟩<;>rw[f]at h b
   ·exact vL l _ g e h
   exact b e h
omit hdo in
theorem vK: ∀(l:List Int)(r:cD)(e:Nat×List Int),(dU c r l).2=some e->Q e
 |[],_,_,h=>by cases h
 | g::l,r,e,h=>by
   unfold dU at h;split at h
   ·have b:=hra r (j8 c g) 0;rcases f:g6 r (j8 c g) 0 with⟨i,_|x⟩<;>rw[f]at h b
    ·exact vK l i e h
    exact b e h
   exact vK l r e h
theorem xp(l:List Int)(r:cD)(e:Nat×List Int)(h:(g5 c d now r l).2=some e):Q e:=by
 have b:=vQ hdo l [] r;unfold g5 at h;rcases j:ak c d now r [] l with⟨⟨i,_|x⟩,f⟩<;>rw[j]at h b
 ·have g:=vL (c:=c) hra f [] i;simp only[p']at h;rcases k:cW c i [] f with⟨⟨m,_|x⟩,o⟩<;>rw[k]at h g
  ·exact vK hra _ _ e h
  exact g e h
 exact b e h
theorem Il(ts:List Nat)(r:cD)(e:Nat×List Int)(h:(md c d now r ts).2=some e):Q e:=by
 unfold md at h;simp only at h;have b:=xH hdo (zL (b7 c (dj c r.act ts))).reverse { r with mem:=nr c r.act (zL (b7 c (dj c r.act ts))) r.mem };split at h
 ·rename_i g i;have f:=Cf hdo ts g;split at h
  ·exact xp hdo hra _ _ e h
  exact f e h
 exact b e h
end
def GB(e:Nat×List Int):Prop:=e.2=[-1]\/e.2=[-1, -1]
def uf(r:cD)(s:List UInt8)(v:Int)(e:Nat×List Int)(h:(g6 r s v).2=some e):GB e:=by
 unfold g6 at h;split at h<;>cases h;exact .inl rfl
def Lq(c:aq)(d now:Int)(r:cD)(a:la)(e:Nat×List Int)(h:(Sb c d now r a).2=some e):GB e:=by
 unfold Sb at h;split at h
 ·cases h
 split at h
 ·cases h;exact .inr rfl
 split at h
 ·cases h
 split at h
 ·exact uf _ _ _ _ h
 split at h
 ·unfold AS at h;split at h
  ·cases h;exact .inl rfl
  split at h<;>cases h;exact .inl rfl
 unfold KL at h;split at h<;>cases h;exact .inl rfl
def FB{c:aq}{d now:Int}{ts:List Nat}{r:cD}{e:Nat×List Int}(h:(md c d now r ts).2=some e):GB e:=Il (Lq c d now) uf ts r e h
def C1{c:aq}{d now:Int}{l:List Int}{r:cD}{e:Nat×List Int}(h:(g5 c d now r l).2=some e):GB e:=xp (Lq c d now) uf l r e h
def Tj(ps:List Int):Int:=match ps.find? fun p=>decide (0<=p) with
 |some p=>p
 |none=> -1
def FK{e:Nat×List Int}(h:GB e):Tj (-1::e.2.headD (-1)::e.2.tail)= -1:=by
 rcases h with h|h<;>rw[h]<;>rfl
def Ik{c:aq}(h:ct c){d now:Int}(g:aJ d=true)(a:0<=now/\now<=1099511627776){x:tD}(m:CD c x){ts:List Nat}(s:Fit c x.1 ts):fe c (md c d now (bj x) ts).1:=by
 have e:=bL h
 have i: ∀n∈ts,∃t,c.trans[n]? =some t:=fun n a=>by
  obtain⟨t,u,_⟩:=s.real n a;exact⟨t,u⟩
 have f:fe c (bj x):=m.beg;unfold md;simp only;obtain⟨j,_,_,o⟩:=lV e (l:=(zL (b7 c (dj c (bj x).act ts))).reverse) g a (r:={ bj x with mem:=nr c (bj x).act (zL (b7 c (dj c (bj x).act ts))) (bj x).mem }) { f with };split
 ·rename_i v p;rw[p]at j o;obtain⟨b,k⟩:=zd e g a (l:=ts) (r:=v) i j;split
  ·rename_i w q;rw[q]at b k;refine(pE e g a b ?_).1;rw[k.act.trans (o rfl)];exact(cx m.lg).ZZ.sublist OT
  exact b
 exact j
end
end Go.Proofs.YtfhkmjbjafeckaaGreatDoor
