/- The law MacroFuel. -/
import Derived.Test.YtfhkmjbjafeckaaGreatDoorP33
set_option maxRecDepth 100000
set_option maxHeartbeats 16000000
set_option linter.unusedSimpArgs false
set_option linter.defProp false
namespace Go.Proofs.YtfhkmjbjafeckaaGreatDoor
open Go.Proofs.Tryz
open Go.RowKit
section
structure Sr(c:aq)(x:nw):Prop where
 act:x.1.length<=32
 vars:x.2.1.length<=4096
 mem:x.2.2.1.length<=32
 ZN: ∀m∈x.2.2.1,cU m.2.length 8
 Z1:x.2.2.2.1.length<=8
 nms: ∀t∈x.2.2.2.1,t.1.length<=32
def ei{c:aq}(h:ch c)(f:c.vars.length<=4096){x:nw}(a:DQ c x):Sr c x:=by
 obtain⟨g,i⟩:=lO h a.mem;have d:=JM a.lg;have b:=h.Z6
 exact⟨by omega,by rw[a.len];exact f,g,i,a.ZM,fun t e=>by
  have:=(a.Z1.each t e).1;unfold bp at this;simp only[Mu,NF]at this
  exact this.1.1⟩
structure DS(env:b8)(a1 a2 a6 a8:Addr)(c:aq)(now:Int):Prop where
 he:fU env a1 a8
 h2:env 1=some (bx a2)
 h6:env 5=some (bx a6)
 h:ch c
 hs:g7 c
 hn:0<=now/\now<=1099511627776
def sR{env:b8}{a b:Addr}(j:fU env a b){c:aq}(h:ch c)(f:g7 c){x:nw}{d:Int}(e:bG c (DM x)=true)(l:x.2.2.2.2=false)(i:aL d=true)(g:List UInt8):b7 prog env 133 [Sg g,aG c, .agg (hP x),I d] h9:=by
 have k:=ei h f.vars (dq e);have n:=k.act;have o:=k.vars;have p:=k.mem;have q:=k.Z1;exact Ga env a b j c h f x ⟨show x.1.length<=1000000 by omega,show x.2.1.length<=1000000 by omega,show x.2.2.1.length<=1000000 by omega,show x.2.2.2.1.length<=9223372036854775807 by omega⟩ (fun t m=>NK (k.nms t m) (by omega)) k.ZN g d e l i
def Hu{env:b8}{f b g:Addr}(m:fU env f g)(o:env 1=some (bx b)){c:aq}(h:ch c)(e:g7 c){x:nw}{d:Int}(i:bG c (DM x)=true)(q:x.2.2.2.2=false)(j:aL d=true)(ev:List UInt8):b7 prog env 75 [aG c, .agg (hP x),Sg ev,I d] (I3 b (rU c x.1 (L' c x.1 x.2.1 d) ev (y6 c (x.1.map Int.toNat)))):=by
 have a:=dq i;have k:=(ei h e.vars a).act;obtain⟨l,n,p⟩:=tE a.lg;rw[yq n];exact BB env f b g m o c h e x d ⟨by omega,a.len,a.fit,j,a.lg⟩ ev (sR m h e i q j _) l n p
def GO{env:b8}{e a i b:Addr}{c:aq}{now:Int}(E:DS env e a i b c now){x:nw}{d:Int}(g:bG c (DM x)=true)(l:x.2.2.2.2=false)(h:aL d=true){ts:List Nat}(j:Fit c x.1 ts):b7 prog env 138 [aG c, .agg (hP x), .seq 1 (ts.map aB),I d,I now] (wE a b (lP c d now (bn x) ts)):=by
 have f:=dq g;have k:=ei E.h E.hs.vars f;have n:=k.act;have m:=k.Z1;exact IQ env e a b c d now ⟨E.he,E.h2,E.h,E.hs,h,E.hn⟩ x f (by omega) k.vars (aC (NK m (by omega)) (by omega)) ts j (sR E.he E.h E.hs g l h _)
def nL(env:b8)(a b:Addr)(d:fU env a b)(s:List UInt8):b7 prog env 42 [Sg s] (dt (-1) (bx a)):=by
 have c:=iT d.e1;have f1:=bl env s a;refine qf func42 call42 ntmps42 results42 ?_;have F:=c;exact hH f1
def CA(c:aq)(now:Int)(F:Nat)(o:Bool)(m:rx)(g:Nat->Nat):List AV:=[.ref 9 [ct c] 0 0,cf m.x.1,cf m.x.2.1, .seq 2 (m.x.2.2.1.map fe), .seq 2 (m.x.2.2.2.1.map c0),B m.x.2.2.2.2, .row 1002 (g 1002), .row 1001 (g 1001),I m.steps,B o,I m.data,I now,I F]
def UM:=@CA.eq_1
def RQ(c:aq)(now:Int)(F:Nat)(o:Bool)(m:rx)(g:Nat->Nat):List (Nat×Row):=[(1000,⟨13,[CA c now F o m g],106,false⟩),(1001,⟨1,m.said.map aa,3,true⟩),(1002,⟨2,m.wait.map c0,50,true⟩)]
def UN:=@RQ.eq_1
def DH(k:Nat):Bool:=k==1001||k==1002
def UI:=@DH.eq_1
def mZ(b c d:Addr):tD->AV
 |none=>h9
 |some (k,a)=>dt (a.headD (-1)) (gc a.tail (bx (if k=2 then b else if k=6 then c else d)))
def aN(a b c:Addr)(e:tD)(L:Nat->Nat->Option (Nat×Nat)):(mZ a b c e).ren L=mZ a b c e:=by rcases e with _|⟨_,_⟩<;>rfl
def Bf(env:b8)(q r h:Addr)(s:env 7=some (bx h))(c:aq)(now:Int)(F:Nat)(m:rx)(outs:List Int)(rais:List (List UInt8×Int))(t:m.said.length<=256)(w:m.wait.length<=16)(u:outs.length<=256)(v:rais.length<=16):
 ip prog env 38 [1000,1001,1002] DH (fun g=>[.loc 1000 (g 1000) 0 0, .agg [cf outs, .seq 2 (rais.map c0)]]) (RQ c now F false m) (RQ c now F false (DB m outs rais).1) (fun _=>mZ q r h (DB m outs rais).2):=by
 have o:=iT s;have f0:=bl env [109,97,99,114,111,46,97,100,100] h;have l:cU (m.said.length+outs.length) 8:=aC (by omega) (by omega);have n:cU (m.wait.length+rais.length) 24:=aC (by omega) (by omega);have x:(m.said++outs).length=m.said.length+outs.length:=My;have y:(m.wait++rais).length=m.wait.length+rais.length:=My;unfold DB;by_cases k:256< (m.said++outs).length\/16< (m.wait++rais).length
 ·rw[Mw k];show ip _ _ _ _ _ _ _ _ fun _=>dt (-1) (bx h);unfold RQ CA;simp only[NA];by_cases i:(256:Int)< ((m.said.length+outs.length:Nat):Int)
  ·refine qi func38 call38 ntmps38 results38 ?_;intro p f a;obtain⟨b,d,e⟩:=Ta a;have F:=n4 UI o l n i b d e;repeat refine fc f0 ?_
   exact rI
  have j:(16:Int)< ((m.wait.length+rais.length:Nat):Int):=by omega
  refine qi func38 call38 ntmps38 results38 ?_;intro p f a;obtain⟨b,d,e⟩:=Ta a;have F:=qr UI o l n i j b d e;repeat refine fc f0 ?_
  exact rI
 rw[Mt k];have i: ¬(256:Int)< ((m.said.length+outs.length:Nat):Int):=by omega
 have j: ¬(16:Int)< ((m.wait.length+rais.length:Nat):Int):=by omega
 show ip _ _ _ _ _ _ _ _ fun _=>h9;unfold RQ CA;simp only[NA];refine qi func38 call38 ntmps38 results38 ?_;intro p f a;obtain⟨b,d,e⟩:=Ta a;have F:=n4 UI l n i j b d e;repeat refine st ?_
 exact rI
def HM{env:b8}{A h e i:Addr}{c:aq}{now:Int}(E:DS env A h e i c now){F:Nat}{m:rx}(d:n9 c F m)(w:m.x.2.2.2.2=false){l:List Nat}(v:Fit c m.x.1 l):
 ip prog env 76 [1000,1001,1002] DH (fun g=>[.loc 1000 (g 1000) 0 0, .seq 1 (l.map aB)]) (RQ c now F false m) (RQ c now F false (rt c now F m l).1) (fun _=>mZ h e i (rt c now F m l).2):=by
 have C:=iT E.h6;have f6:=bl env [109,97,99,114,111,46,115,116,101,112] e;have b:=GO E d.inst w d.data v;unfold rt;by_cases k:F<=m.steps
 ·rw[Mw k];have t:(F:Int)<=(m.steps:Int):=by omega
  show ip _ _ _ _ _ _ _ _ fun _=>dt (-1) (bx e);refine qi func76 call76 ntmps76 results76 ?_;intro z q a;obtain⟨j,n,p⟩:=Ta a;have F:=n4 UN UM UI C t j n p;repeat refine fc f6 ?_
  exact rI
 rw[Mt k];have t: ¬(F:Int)<=(m.steps:Int):=by omega
 have x:=sJ E.h d.data E.hn (dq d.inst) w v;unfold aG hP at b;rcases u:lP c m.data now (bn m.x) l with⟨r,_|⟨k,f⟩⟩
 ·rw[u]at b x;obtain⟨y,_,_⟩:=x rfl;have s:=Bf env h e i E.he.e8 c now F ⟨Sm r,m.said,m.steps+1,m.wait,m.data⟩ r.outs r.Z7 d.said d.wait y.outs y.Z7;have G:=d.steps;have H:IntKind.i64.wrap ((m.steps:Int)+1)=((m.steps+1:Nat):Int):=aD (show m.steps<F by omega) (by have:=d.ZO;omega);unfold wE at b;unfold RQ CA at s;unfold IT;simp only at b s |-;generalize DB _ r.outs r.Z7=Y at*;unfold Sm at s;simp only at s;unfold RQ CA;refine qi func76 call76 ntmps76 results76 ?_;intro z q a;obtain⟨j,n,p⟩:=Ta a;have F:=i' UI t H j n p;repeat (first|refine oO rfl (by simp only[go_sem,aN,F];exact⟨rfl,rfl⟩) ?_|refine gR ?_|refine gO ?_|refine oC rfl (b) (by simp only[go_sem,aN,F];exact iR) (by simp only[go_sem,aN,F];exact⟨rfl,rfl⟩) ?_|refine oZ (ke ?_)|refine oZ ?_|refine oS ?_|refine gT ?_|refine gD mixed ?_|refine oB ?_|refine oK ?_|(refine oX ?_;simp only[bD,be, ↓reduceIte,Nat.reduceEqDiff,reduceCtorEq])|refine oY (by simp only[go_sem,aN,F];exact iR) ?_|refine oN (by simp only[go_sem,aN,F];exact iR) ?_)
  refine iq [(1000,1000),(1001,1001),(1002,1002)] rfl (s) (by decide) (by decide) (by simp only[go_sem,aN,F]<;>rfl) (by simp only[go_sem,aN,F,NH]<;>trivial) (by simp only[go_sem,aN,F,NH]<;>trivial) (by intro o;simp only[go_sem,aN,F,g8,NH]<;>trivial) (by intro o;simp only[go_sem,aN,F]<;>rfl) (by simp only[go_sem,aN,F,g8];exact iR) (by simp only[go_sem,aN,F,g8];exact iR) ?_;repeat (first|refine oO rfl (by simp only[go_sem,aN,F];exact⟨rfl,rfl⟩) ?_|refine gR ?_|refine gO ?_|refine oZ (ke ?_)|refine oZ ?_|refine oS ?_|refine gT ?_|refine gD mixed ?_|refine oB ?_|refine oK ?_|(refine oX ?_;simp only[bD,be, ↓reduceIte,Nat.reduceEqDiff,reduceCtorEq])|refine oY (by simp only[go_sem,aN,F];exact iR) ?_|refine oN (by simp only[go_sem,aN,F];exact iR) ?_)
  (refine aM ?_;(try simp only[bD,be, ↓reduceIte,Nat.reduceEqDiff,reduceCtorEq]);refine sQ ?_ ?_<;>simp only[go_sem,aN,F,R9,NH,SQ,RS,AV.tuple.injEq,Qm,ne_eq])
 rw[u]at b;unfold wE at b;have D:=sK c m.data now (bn m.x) l (k,f) (by rw[u])
 have B:cr h i (some (k,f))=dt (f.headD (-1)) (gc f.tail (bx (if k=2 then h else if k=6 then e else i))):=by
  unfold cr;simp only;rcases D with rfl|rfl<;>rfl
 simp only[B]at b;show ip _ _ _ _ _ _ _ _ fun _=>dt (-1) (dt (f.headD (-1)) (gc f.tail (bx (if k=2 then h else if k=6 then e else i))));generalize gc f.tail _=V at*;refine qi func76 call76 ntmps76 results76 ?_;intro z q a;obtain⟨j,n,p⟩:=Ta a;have F:=mc UN UM UI t j n p;repeat refine fc b ?_
 exact rI
def yt{env:b8}{w j r s:Addr}{c:aq}{now:Int}(E:DS env w j r s c now){F:Nat}{m:rx}(p:n9 c F m)(u:m.x.2.2.2.2=false)(ev:List UInt8):
 ip prog env 44 [1000,1001,1002] DH (fun g=>[.loc 1000 (g 1000) 0 0,Sg ev]) (RQ c now F false m) (RQ c now F false (va c now F m ev).1.1) (fun _=> .tuple [B (va c now F m ev).2,mZ j r s (va c now F m ev).1.2]):=by
 have b:=Hu E.he E.h2 E.h E.hs p.inst u p.data ev;change b7 _ _ _ _ (I3 j (lu c m ev)) at b;unfold aG hP at b;unfold va;cases q:lu c m ev with
 | error n=>
   rw[q]at b;unfold I3 at b;show ip _ _ _ _ _ _ _ _ fun _=> .tuple [B false,dt (1000+(n:Nat)) (bx j)];refine qi func44 call44 ntmps44 results44 ?_;intro v i a;obtain⟨d,e,h⟩:=Ta a;have F:=i' UN UM UI d e h;repeat refine fc b ?_
   exact rI
 | ok f=>
   rw[q]at b;unfold I3 at b;simp only at b;cases f with
   | nil=>
     show ip _ _ _ _ _ _ _ _ fun _=> .tuple [B false,h9];refine qi func44 call44 ntmps44 results44 ?_;intro v i a;obtain⟨d,e,h⟩:=Ta a;have F:=i' UN UM UI d e h;repeat refine fc b ?_
     exact rI
   | cons k l=>
     have t:=HM E p u (qI E.h (dq p.inst).lg q);simp only;generalize rt c now F m (k::l)=Y at*;have x:(((k::l).map aB).length:Int)≠0:=by simp;omega
     simp only[Nh]at b t;refine qi func44 call44 ntmps44 results44 ?_;intro v i a;obtain⟨d,e,h⟩:=Ta a;have F:=i' UN UM UI d e h;repeat (first|refine oO rfl (by simp only[go_sem,aN,F];exact⟨rfl,rfl⟩) ?_|refine gR ?_|refine gO ?_|refine oC rfl (b) (by simp only[go_sem,aN,F];exact iR) (by simp only[go_sem,aN,F];exact⟨rfl,rfl⟩) ?_|refine oZ (ke ?_)|refine oZ ?_|refine oS ?_|refine gT ?_|refine gD mixed ?_|refine oB ?_|refine oK ?_|(refine oX ?_;simp only[bD,be, ↓reduceIte,Nat.reduceEqDiff,reduceCtorEq])|refine oY (by simp only[go_sem,aN,F];exact iR) ?_|refine oN (by simp only[go_sem,aN,F];exact iR) ?_)
     refine iq [(1000,1000),(1001,1001),(1002,1002)] rfl (t) (by decide) (by decide) (by simp only[go_sem,aN,F]<;>rfl) (by simp only[go_sem,aN,F,NH]<;>trivial) (by simp only[go_sem,aN,F,NH]<;>trivial) (by intro o;simp only[go_sem,aN,F,g8,NH]<;>trivial) (by intro o;simp only[go_sem,aN,F]<;>rfl) (by simp only[go_sem,aN,F,g8];exact iR) (by simp only[go_sem,aN,F,g8];exact iR) ?_;repeat (first|refine oO rfl (by simp only[go_sem,aN,F];exact⟨rfl,rfl⟩) ?_|refine gR ?_|refine gO ?_|refine oZ (ke ?_)|refine oZ ?_|refine oS ?_|refine gT ?_|refine gD mixed ?_|refine oB ?_|refine oK ?_|(refine oX ?_;simp only[bD,be, ↓reduceIte,Nat.reduceEqDiff,reduceCtorEq])|refine oY (by simp only[go_sem,aN,F];exact iR) ?_|refine oN (by simp only[go_sem,aN,F];exact iR) ?_)
     (refine aM ?_;(try simp only[bD,be, ↓reduceIte,Nat.reduceEqDiff,reduceCtorEq]);refine sQ ?_ ?_<;>simp only[go_sem,aN,F,R9,NH,SQ,RS,AV.tuple.injEq,Qm,ne_eq])
end
section
def m0(x:nw)(d:Int):rx:=⟨x,[],0,[],d⟩
def NM:Nat:=5000
def Lf(c:aq)(now:Int)(F:Nat):rx×tD->rx×tD
 |(m,none)=>AI c now F NM m
 |y=>y
def mq(c:aq)(now:Int)(F:Nat)(x:nw)(ev:List UInt8)(d:Int):rx×tD:=Lf c now F (va c now F (m0 x d) ev).1
def rv(c:aq)(now:Int)(F:Nat)(x:nw)(d:Int):rx×tD:=AI c now F NM (m0 x d)
def Ek(c:aq)(now:Int)(F:Nat):rx×tD:=match dN c now with
 |(r,none)=>Lf c now F (DB (m0 (Sm r) 0) r.outs r.Z7)
 |(r,some e)=>(m0 (Sm r) 0,some (e.1, -1::e.2.headD (-1)::e.2.tail))
def zd{c:aq}{F:Nat}{x:nw}{d:Int}(b:bG c (DM x)=true)(f:aL d=true)(a:F<=256):n9 c F (m0 x d):=⟨b,f,NG _,fun e g=>by simp[m0]at g,NG _,NG _,a⟩
def Eg{c:aq}{F:Nat}{m:rx}(h:n9 c F m):jV F m<NM:=by
 have a:=h.ZO;have b:=h.wait;unfold jV NM;have:(F-m.steps)*17<=256*17:=Nk _ (by omega);omega
section
variable {c:aq} (h:ch c) {now:Int} (hn:0<=now/\now<=1099511627776)
include h hn
theorem MH{F:Nat}{y:rx×tD}(b:y.2=none->n9 c F y.1)(a:(Lf c now F y).2=none):n9 c F (Lf c now F y).1/\y.2=none:=by
 obtain⟨m,_|e⟩:=y
 ·exact⟨(IU h hn NM m (b rfl) a).1,rfl⟩
 cases a
theorem Ke{F:Nat}{x:nw}{ev:List UInt8}{d:Int}(b:n9 c F (m0 x d))(e:x.2.2.2.2=false)(a:(mq c now F x ev d).2=none):n9 c F (mq c now F x ev d).1:=
 (MH h hn (fun q=>(kg h hn b e q).1) a).1
theorem GY{F:Nat}{x:nw}{d:Int}(b:n9 c F (m0 x d))(a:(rv c now F x d).2=none):n9 c F (rv c now F x d).1:=(IU h hn NM _ b a).1
theorem Lc{F:Nat}{m:rx}(a:n9 c F m):Lm (AI c now F NM m).2:=Ea h hn NM m a (Eg a)
theorem Jm{F:Nat}(e:F<=256)(f: ∀v∈c.vars,aL v.start=true):((dN c now).2=none->(DB (m0 (Sm (dN c now).1) 0) (dN c now).1.outs (dN c now).1.Z7).2=none->n9 c F (DB (m0 (Sm (dN c now).1) 0) (dN c now).1.outs (dN c now).1.Z7).1):=by
 intro d a;obtain⟨g,i,_⟩:=rA h hn f d;unfold DB at a |-;split at a
 ·cases a
 rename_i b;rw[Mt b];simp only[m0,PX]at b |-;exact⟨g,rfl,show (dN c now).1.Z7.length<=16 by omega,i.raf,show (dN c now).1.outs.length<=256 by omega,NG _,e⟩
end
end
section
attribute [local go_sem] eQ ob
def Au(env:b8)(es:List (List AV))(c:cU es.length 24):b7 prog env 124 [.seq 2 es] (.own 50 2 es):=by
 cases es with
 | nil=>
   refine b7.empty fun A a=> ?_;cases A with
   | none=>
     refine qw func124 call124 ntmps124 results124 ?_;repeat refine m9 ?_
     (refine aM ?_;refine⟨_,(by show (aj _ _ _).run _=some _;simp only[go_sem];rfl),?_⟩)
     exact gA.own_nil _ _ (by decide)
   | some A=>
     refine qf func124 call124 ntmps124 results124 ?_;repeat refine m9 ?_
     exact oj
 | cons d l=>
   have b:cU (l.length+1) 24:=c;refine qf func124 call124 ntmps124 results124 ?_;have F:=b;exact ek
def rS{P:Program}{rs:List ResultVar}{ids:List Nat}{grown:Nat->Bool}{vs0:Nat->Nat}{post:(Nat->Nat)->List (Nat×Row)}{res:(Nat->Nat)->AV}{s:St}(h:KA P rs ids grown vs0 post res .ret s:=by
 refine sQ ?_ ?_<;>simp only[go_sem,F,R9,NH,SQ,RS,AV.tuple.injEq,Qm,ne_eq]):KA P rs ids grown vs0 post res .ret s:=h
def Jp{P:Program}{env:b8}{nt:Nat}{c:Code}{Q:Exit->St->Prop}{s:St}(r:Nat)(h:fp P env nt c Q { s with rows:=mu s.rows r none }):fp P env nt c Q s:=
 C5 (s':={ s with rows:=mu s.rows r none }) ⟨fun _=> .inl rfl,fun k=>by
  by_cases e:k=r
  ·subst e;exact .inr (aw _ _ _)
  exact .inl (cR _ _ _ e),rfl,rfl⟩ h
def S4:rx×tD->Bool
 |(m,none)=>m.x.2.2.2.2
 |_=>false
def Kv{env:b8}{U H I J:Addr}{c:aq}{now:Int}(E:DS env U H I J c now){fu:Nat}{m:rx}(v:n9 c fu m):
 ip prog env 69 [1000,1001,1002] DH (fun g=>[.loc 1000 (g 1000) 0 0]) (RQ c now fu false m) (RQ c now fu (S4 (AI c now fu NM m)) (AI c now fu NM m).1) (fun _=>mZ H I J (AI c now fu NM m).2):=by
 obtain⟨X,a⟩: ∃X,AI c now fu NM m=X:=⟨_,rfl⟩;have p:=Eg v;rw[a];refine qi func69 call69 ntmps69 results69 ?_;intro vs K A;obtain⟨i,j,l⟩:=Ta A;have F:=i' UN UM UI i j l;repeat refine st ?_
 refine xr ?_;repeat refine st ?_
 refine xt ?_;show fp _ _ _ _ _ _;repeat refine st ?_
 refine lp (D:=rx×Nat) (fun _ t=>[(0, .loc 1000 (t 1000) 0 0)]) (fun y t=>RQ c now fu false y.1 t) (fun y t s=>(n9 c fu y.1/\AI c now fu y.2 y.1=X/\jV fu y.1<y.2)/\t 1000=vs 1000/\s 1000=false/\s 1001=false/\s 1002=false) (fun y=>jV fu y.1) (m,NM) ⟨⟨v,a,p⟩,by simp only[go_sem,i,j,l,NH]⟩ ?_;try clear i j l A p a v
 rintro⟨m,n⟩ ws K ⟨⟨v,a,p⟩,u,i,j,l⟩;simp only at v a p;obtain⟨n,rfl⟩: ∃k,n=k+1:=⟨n-1,by omega⟩;unfold AI at a;by_cases d:m.x.2.2.2.2=true
 ·rw[Mw d]at a;subst a;have f:S4 (m,none)=true:=d;have M:mZ H I J none= .lit .nilIface:=rfl;show fp _ _ _ _ _ _;have F:=lE UN UM UI f M d u i j l;repeat refine st ?_
  show fp _ _ _ _ _ _;refine aM ?_;simp only[bD,be,pM];exact rS
 rw[Mt d]at a;have d:m.x.2.2.2.2=false:=by simpa using d
 have r:=yt E v d [];have R:=kg E.h E.hn v d (ev:=[]);have G:=rc E.h E.hn v d (ev:=[]);rcases Q:va c now fu m []with⟨⟨h,_|e⟩,b⟩
 ·rw[Q]at a r R G;obtain⟨O,V,P⟩:=R rfl;obtain⟨f1,f2⟩:=G rfl;simp only at a r O V P f1 f2;cases b with
  | true=>
    simp only at a;unfold mZ RQ CA at r;have F:=n4 UN UM UI d u i j l;repeat refine st ?_
    refine iL [(1000,1000),(1001,1001),(1002,1002)] r ?_;repeat refine st ?_
    refine⟨(h,n),⟨⟨O,a,by have:=f2 rfl;simp only;omega⟩,?_⟩,?_,?_,?_⟩
    ·simp only[go_sem,u,i,j,l,NH]
    ·exact qe
    ·exact qe
    exact f2 rfl
  | false=>
    obtain rfl:h=m:=by rcases P with⟨q,_⟩|⟨_,q⟩;cases q;exact q
    unfold mZ RQ CA at r;simp only at a;cases z:h.wait with
    | nil=>
      rw[z]at a;simp only at a;subst a;have f:S4 (h,none)=false:=d;have M:mZ H I J none= .lit .nilIface:=rfl;show fp _ _ _ _ _ _;have F:=ql UN UM UI f M z d u i j l;repeat refine st ?_
      refine iL [(1000,1000),(1001,1001),(1002,1002)] r ?_;repeat refine st ?_
      refine aM ?_;simp only[bD,be,pM];exact rS
    | cons e w=>
      rw[z]at a;simp only at a;have q0:h.wait[0]? =some e:=by rw[z];rfl
      have q5:(0:Int)< (h.wait.length:Int):=by rw[z];simp only[NN];omega
      have T:((h.wait.length:Int)==0)=false:=by rw[Oy];omega
      have F:=qr UN UM UI T d u i j l;repeat refine st ?_
      refine iL [(1000,1000),(1001,1001),(1002,1002)] r ?_
      iterate 20 (refine st ?_)
      refine bk [(1002,⟨2,h.wait.map c0,50,true⟩)] ?_ ?_
      ·exact qe
      have x:=z8 v z;have Y:=Au env (w.map c0) (by rw[NQ];have:=x.wait;exact aC (by simp only at this;omega) (by omega));have C:=yt E x d e.1;have L:=kg E.h E.hn x d (ev:=e.1);have B:=rc E.h E.hn x d (ev:=e.1);have q3:(h.wait.drop 1).take (h.wait.length-1)=w:=by rw[z,List.drop_one,SH,NN,P6,NR]
      have q4:(1:Int)<=(h.wait.length:Int):=by rw[z];simp only[NN];omega
      rcases hB:va c now fu { h with wait:=w,data:=e.2 } e.1 with⟨⟨N,W⟩,b⟩;rw[hB]at a C L B;simp only at a C L B;unfold RQ CA at C;simp only at C;have F:=ed UN UM UI UG q0 q3 q4 q5 T d u<|gb i j l;repeat (first|refine oO rfl (by simp only[go_sem,aN,F];exact⟨rfl,rfl⟩) ?_|refine gR ?_|refine gO ?_|refine oC rfl (Y) (by simp only[go_sem,aN,F];exact iR) (by simp only[go_sem,aN,F];exact⟨rfl,rfl⟩) ?_|refine oZ (ke ?_)|refine oZ ?_|refine oS ?_|refine gT ?_|refine gD mixed ?_|refine oB ?_|refine oK ?_|(refine oX ?_;simp only[bD,be, ↓reduceIte,Nat.reduceEqDiff,reduceCtorEq])|refine oY (by simp only[go_sem,aN,F];exact iR) ?_|refine oN (by simp only[go_sem,aN,F];exact iR) ?_)
      refine iq [(1000,1000),(1001,1001),(1002,41)] rfl (C) (by decide) (by decide) (by simp only[go_sem,aN,F]<;>rfl) (by simp only[go_sem,aN,F,NH]<;>trivial) (by simp only[go_sem,aN,F,NH]<;>trivial) (by intro o;simp only[go_sem,aN,F,g8,NH]<;>trivial) (by intro o;simp only[go_sem,aN,F]<;>rfl) (by simp only[go_sem,aN,F,g8];exact iR) (by simp only[go_sem,aN,F,g8];exact iR) ?_
      iterate 6 (refine st ?_)
      show fp _ _ _ _ _ _;refine Jp 1002 ?_;refine LR 41 1002 ⟨2,N.wait.map c0,50,true⟩ (by decide) (by simp only[go_sem]) (by simp only[go_sem]) (Nf 1) rfl ?_;rcases W with _|⟨k,S⟩
      ·obtain⟨Z,_,g3⟩:=L rfl;obtain⟨h1,h2⟩:=B rfl;have hlt:jV fu { h with wait:=w,data:=e.2 } <jV fu h:=by unfold jV;rw[z];simp
       unfold mZ;simp only at a h1 |-;have F:=mc UN UM UI u i j l;repeat refine st ?_
       refine⟨(N,n),⟨⟨Z,a,by simp only;omega⟩,?_⟩,?_,?_,by simp only;omega⟩
       ·simp only[go_sem,u,i,j,l,NH]
       ·exact qe
       exact qe
      simp only at a;subst a;have f:S4 (N,some (k,S))=false:=rfl;unfold mZ;simp only;have F:=n4 UN UM UI f u i j l;repeat refine st ?_
      refine aM ?_;simp only[bD,be,pM];exact rS
 rw[Q]at a r;simp only at a r;subst a;have f:S4 (h,some e)=false:=rfl;obtain⟨k,S⟩:=e;unfold mZ RQ CA at r;simp only at r;show fp _ _ _ _ _ _;unfold mZ;simp only;have F:=qr UN UM UI f d u i j l;repeat refine st ?_
 refine iL [(1000,1000),(1001,1001),(1002,1002)] r ?_;repeat refine st ?_
 show fp _ _ _ _ _ _;refine aM ?_;simp only[bD,be,pM];exact rS
end
section
def gn(c:aq)(x:nw)(ev:List UInt8)(d n f:Int):List AV:=[Sg c.name,I c.initial,pf c.vars,qa c.Z9,sT c.trans,cf x.1,cf x.2.1, .seq 2 (x.2.2.1.map fe), .seq 2 (x.2.2.2.1.map c0),B x.2.2.2.2,Sg ev,I d,I n,I f]
def ku(env:b8)(c:aq):b7 prog env 8 [.agg (aA c)] (B (tC c)):=by
 unfold tC;refine qf func8 call8 ntmps8 results8 ?_;have F:=aA.eq_1;exact ek
def tA(env:b8)(b d:Addr)(f:fU env b d)(e: ∀W,env.inv W->wg W)(c:aq)(a:jN c)(h:k7 c=true):b7 prog env 7 [.agg (aA c)] (aG c):=by
 have f0:=ku env c;have f1:=nD env c;unfold k7 at h;rw[Mu]at h;rw[h.1]at f0;rw[h.2]at f1;rw[Nz]at h;have f2:=wP env b d f e c (MJ h.2) a;unfold aG at f2 |-;refine qf func7 call7 ntmps7 results7 ?_;repeat refine Cd f0 f1 f2 ?_
 exact oj
def qp(env:b8)(c:aq)(h:k7 c=false):b7 prog env 7 [.agg (aA c)] (.lit (.pointer none)):=by
 have f0:=ku env c;have f1:=nD env c;unfold k7 at h;cases a:tC c
 ·rw[a]at f0;refine qf func7 call7 ntmps7 results7 ?_;repeat refine vP f0 f1 ?_
  exact oj
 rw[a]at f0;rw[a,Nj]at h;rw[h]at f1;refine qf func7 call7 ntmps7 results7 ?_;repeat refine vP f0 f1 ?_
 exact oj
def jR(c:aq)(x:nw):Bool:= !k7 c||decide (60< (x.1.length:Int))||decide (60< (x.2.2.1.length:Int))||decide (60< (x.2.1.length:Int))
def qY(env:b8)(c:aq)(x:nw)(ev:List UInt8)(d n f:Int):b7 prog env 21 [.agg (gn c x ev d n f)] (B (jR c x)):=by
 have f0:=ku env c;have f1:=nD env c;unfold aA at f0 f1;unfold jR k7;refine qf func21 call21 ntmps21 results21 ?_;have F:=gn.eq_1;exact mw f0 f1
def uH(n f:Int):Bool:=decide (0<=n)&&decide (n<=1099511627776)&&decide (0<=f)&&decide (f<=256)
def ya(env:b8)(n f:Int):b7 prog env 12 [I n,I f] (B (uH n f)):=by
 unfold uH;refine qf func12 call12 ntmps12 results12 ?_;have F:=trivial;exact ek
def Kk(c:aq)(x:nw)(d n f:Int):Int:=if bG c (DM x)=false then 1 else if x.2.2.2.2=true then 7 else if aL d=false then 1 else if uH n f=false then 1 else 0
def qd(env:b8)(c:aq)(h:ch c)(x:nw)(b:If (DM x))(a: ∀m∈x.2.2.1,cU m.2.length 8)(ev:List UInt8)(d n f:Int):b7 prog env 23 [.agg (gn c x ev d n f)] (I (Kk c x d n f)):=by
 have f0:=yL env c h (DM x) b a;have f1:=db env d;have f2:=ya env n f;rw[yz]at f0;unfold aA hP at f0;refine qf func23 call23 ntmps23 results23 ?_;have F:=ai gn.eq_1 Kk.eq_1;exact An f0 f1 f2
def qq(env:b8)(a b:Addr)(k:fU env a b)(d:List UInt8)(c:aq)(n f:Int):b7 prog env 36 [Sg d,aG c,I n,I f] (if uH n f=true then h9 else dt (-1) (bx a)):=by
 have e:(if uH n f=true then h9 else dt (-1) (bx a))=if n<0 then dt (-1) (bx a) else if 1099511627776<n then dt (-1) (bx a) else if f<0 then dt (-1) (bx a) else if 256<f then dt (-1) (bx a) else h9:=by
  unfold uH;by_cases g:n<0<;>by_cases h:1099511627776<n<;>by_cases i:f<0<;>by_cases j:256<f<;>simp[g,h,i,j]<;>omega
 rw[e];have f0:=nL env a b k d;unfold aG;refine qf func36 call36 ntmps36 results36 ?_;have F:=trivial;exact hH f0
end
section
def jH:List AV:=[cy,cy,cy,cy,B false]
def dv:List AV:=[cy,I 0,B false]
def cZ(e:AV):AV:= .tuple [.agg jH, .agg dv,e]
def EC(b c d:Addr)(g:Nat->Nat):rx×tD->AV
 |(m,none)=> .tuple [.agg (hP m.x), .agg [.row 1001 (g 1001),I m.steps,B m.x.2.2.2.2],h9]
 |(_,some (k,a))=>cZ (dt (-1) (dt (a.headD (-1)) (gc a.tail (bx (if k=2 then b else if k=6 then c else d)))))
def pL(b c d:Addr):rx×tD->AV
 |(m,none)=> .tuple [.agg (hP m.x), .agg [cf m.said,I m.steps,B m.x.2.2.2.2],h9]
 |(_,some (k,a))=>cZ (dt (-1) (dt (a.headD (-1)) (gc a.tail (bx (if k=2 then b else if k=6 then c else d)))))
def pr{env:b8}{o b d e:Addr}{c:aq}{now:Int}(E:DS env o b d e c now){fu:Nat}{m:rx}(p:n9 c fu m)(l:List UInt8):
 ip prog env 39 [1000,1001,1002] DH (fun g=>[.loc 1000 (g 1000) 0 0,Sg l,h9]) (RQ c now fu false m) (RQ c now fu (S4 (AI c now fu NM m)) (AI c now fu NM m).1) (fun g=>EC b d e g (AI c now fu NM m)):=by
 have f0:=Kv E p;generalize AI c now fu NM m=X at*;rcases X with⟨r,_|⟨k,n⟩⟩
 ·unfold EC;unfold S4 mZ RQ CA at f0;unfold S4 RQ CA hP;simp only at f0 |-;refine qi func39 call39 ntmps39 results39 ?_;intro q j a;obtain⟨f,h,i⟩:=Ta a;have F:=hU UI f h i;repeat refine st ?_
  refine iL [(1000,1000),(1001,1001),(1002,1002)] f0 ?_;repeat refine st ?_
  exact rI
 unfold EC cZ jH dv;unfold S4 mZ RQ CA at f0;unfold S4 RQ CA;simp only at f0 |-;have f1:=i7 env l (n.headD (-1)) (gc n.tail (bx (if k=2 then b else if k=6 then d else e)));refine qi func39 call39 ntmps39 results39 ?_;intro q j a;obtain⟨f,h,i⟩:=Ta a;have F:=hU UI f h i;repeat refine st ?_
 refine iL [(1000,1000),(1001,1001),(1002,1002)] f0 ?_;repeat refine fc f1 ?_
 exact rI
def pt(env:b8)(es:Nat->Nat->List AV)(S W:List (List AV))(b:List UInt8)(p:Int)(e:AV):
 ip prog env 39 [1000,1001,1002] DH (fun g=>[.loc 1000 (g 1000) 0 0,Sg b,dt p e]) (fun g=>[(1000,⟨13,[es (g 1001) (g 1002)],106,false⟩),(1001,⟨1,S,3,true⟩),(1002,⟨2,W,50,true⟩)]) (fun g=>[(1000,⟨13,[es (g 1001) (g 1002)],106,false⟩),(1001,⟨1,S,3,true⟩),(1002,⟨2,W,50,true⟩)]) (fun _=>cZ (dt (-1) (dt p e))):=by
 have f1:=i7 env b p e;unfold cZ jH dv;refine qi func39 call39 ntmps39 results39 ?_;intro i h a;obtain⟨c,d,f⟩:=Ta a;have F:=hU UI c d f;repeat refine fc f1 ?_
 exact rI
def I0(a b:Addr)(c:aq)(x:nw)(d n f:Int):AV:=if bG c (DM x)=false then dt (-1) (dt (-1) (bx a)) else if x.2.2.2.2=true then dt (-1) (bx b) else if aL d=false then dt (-1) (bx a) else if uH n f=true then h9 else dt (-1) (bx a)
def kq(env:b8)(b j i:Addr)(k:fU env b i)(q:env 6=some (bx j))(c:aq)(h:ch c)(v:g7 c)(x:nw)(s:If (DM x))(u: ∀t∈x.2.2.2.1,t.1.length<=9223372036854775807)(r: ∀m∈x.2.2.1,cU m.2.length 8)(g:List UInt8)(d n f:Int):
 b7 prog env 41 [Sg g,aG c, .agg (hP x),I d,I n,I f] (I0 b j c x d n f):=by
 have p:=iT q;have f0:=tB env b i k c h v (DM x) s u r;have f1:=dH env d;have f2:=qq env b i k g c n f;have f3:=i7 env g (-1) (bx b);have f4:=bl env g j;have f5:=nL env b i k g;rw[yz]at f0;unfold tN at f0;unfold I0;unfold aG at f0 f2 |-;unfold hP at f0 |-;cases o:bG c (DM x)
 ·rw[o,Mt Nc]at f0;rw[Mw rfl];refine qf func41 call41 ntmps41 results41 ?_;repeat refine vP f0 f3 ?_
  exact oj
 rw[o,Mw rfl]at f0;rw[Mt (by simp)];by_cases a:x.2.2.2.2=true
 ·rw[Mw a];refine qf func41 call41 ntmps41 results41 ?_;have F:=ai a p;exact mw f0 f4
 rw[Mt a];have a:x.2.2.2.2=false:=by simpa using a
 cases l:aL d
 ·rw[l]at f1;rw[Mw rfl];refine qf func41 call41 ntmps41 results41 ?_;have F:=a;exact An f0 f1 f5
 rw[l]at f1;rw[Mt (by simp)];cases e:uH n f
 ·rw[e,Mt Nc]at f2;rw[Mt Nc];refine qf func41 call41 ntmps41 results41 ?_;have F:=a;exact An f0 f1 f2
 rw[e,Mw rfl]at f2;rw[Mw rfl];refine qf func41 call41 ntmps41 results41 ?_;have F:=a;exact An f0 f1 f2
def D7(env:b8)(c:aq)(x:nw)(ev:List UInt8)(d n f:Int)(p:Int)(e:AV)(a:b7 prog env 41 [Sg [109,97,99,114,111,46,83,101,110,100],aG c, .agg (hP x),I d,I n,I f] (dt p e)):b7 prog env 22 [aG c, .agg (hP x), .agg [Sg ev,I d],I n,I f] (cZ (dt p e)):=by
 unfold cZ jH dv;unfold aG hP at a |-;refine qf func22 call22 ntmps22 results22 ?_;repeat refine jJ a ?_
 exact oj
def TJ(ev:List UInt8):Bool:= !(ev == [])&& !decide (37< (ev.length:Int))
def D6(env:b8)(a h:Addr)(i:fU env a h)(c:aq)(x:nw)(ev:List UInt8)(g:TJ ev=false)(d n f:Int)(b:b7 prog env 41 [Sg [109,97,99,114,111,46,83,101,110,100],aG c, .agg (hP x),I d,I n,I f] h9):b7 prog env 22 [aG c, .agg (hP x), .agg [Sg ev,I d],I n,I f] (cZ (dt (-1) (bx a))):=by
 have f1:=nL env a h i [109,97,99,114,111,46,83,101,110,100];unfold cZ jH dv;unfold aG hP at b |-;unfold TJ at g;cases e:ev == []
 ·rw[e,OT,Nj,O7,NF]at g;refine qf func22 call22 ntmps22 results22 ?_;have F:=ai e g;repeat refine wc b f1 ?_
  show fp _ _ _ _ _ _;exact aR
 refine qf func22 call22 ntmps22 results22 ?_;have F:=e;repeat refine wc b f1 ?_
 show fp _ _ _ _ _ _;exact aR
def wq{env:b8}{v g h i:Addr}{c:aq}{now:Int}(E:DS env v g h i c now){fu:Nat}{x:nw}{ev:List UInt8}{d:Int}(s:bG c (DM x)=true)(u:x.2.2.2.2=false)(z:aL d=true)(y:fu<=256)(n:TJ ev=true)(j:b7 prog env 41 [Sg [109,97,99,114,111,46,83,101,110,100],aG c, .agg (hP x),I d,I now,I fu] h9):
 b7 prog env 22 [aG c, .agg (hP x), .agg [Sg ev,I d],I now,I fu] (pL g h i (mq c now fu x ev d)):=by
 have t:=zd s z y;have k:=ei E.h E.hs.vars (dq s);have B:=k.act;have C:=k.vars;have D:=k.mem;have f2:=nM env x (by omega) (by omega) (by omega) k.ZN (aC (NK k.Z1 (by omega)) (by omega));have f:=yt E t u ev;have r:=kg E.h E.hn t u (ev:=ev);unfold TJ at n;rw[Mu,Nx,Nx,Nm]at n;obtain⟨o,p⟩:=n;unfold mq;rcases q:va c now fu (m0 x d) ev with⟨⟨m,_|⟨k,l⟩⟩,b⟩
 ·rw[q]at f r;obtain⟨w,_,_⟩:=r rfl;have e:=pr E w [109,97,99,114,111,46,83,101,110,100];show b7 _ _ _ _ (pL g h i (AI c now fu NM m));simp only at e f;generalize AI c now fu NM m=X at*;unfold aG hP at j |-;obtain⟨A,V,M,T,O⟩:=x;unfold m0 RQ CA mZ at f;unfold RQ CA at e;simp only at*;rcases X with⟨G,_|⟨k,l⟩⟩
  ·unfold EC S4 hP at e;unfold pL hP;simp only at e |-;refine qf func22 call22 ntmps22 results22 ?_;have F:=gb UI o p;repeat refine fc j ?_
   refine iL [(8,9001),(11,9002),(14,9003)] f2 ?_
   iterate 8 (refine st ?_)
   show fp _ _ _ _ _ _;refine bk [(9001,⟨1,A.map aa,3,true⟩),(9002,⟨1,V.map aa,3,true⟩),(9003,⟨2,T.map c0,98,true⟩)] ?_ ?_
   ·exact qe
   refine nC 49 9005 0 6 50 2 ?_;refine nC 49 9004 0 7 3 1 ?_;repeat refine st ?_
   refine iL [(1000,49),(1001,9004),(1002,9005)] f ?_;repeat refine st ?_
   refine iL [(1000,49),(1001,9004),(1002,9005)] e ?_;exact ek
  unfold EC S4 cZ jH dv at e;unfold pL cZ jH dv;simp only at e |-;refine qf func22 call22 ntmps22 results22 ?_;have F:=gb UI o p;repeat refine fc j ?_
  refine iL [(8,9001),(11,9002),(14,9003)] f2 ?_
  iterate 8 (refine st ?_)
  show fp _ _ _ _ _ _;refine bk [(9001,⟨1,A.map aa,3,true⟩),(9002,⟨1,V.map aa,3,true⟩),(9003,⟨2,T.map c0,98,true⟩)] ?_ ?_
  ·exact qe
  refine nC 49 9005 0 6 50 2 ?_;refine nC 49 9004 0 7 3 1 ?_;repeat refine st ?_
  refine iL [(1000,49),(1001,9004),(1002,9005)] f ?_;repeat refine st ?_
  refine iL [(1000,49),(1001,9004),(1002,9005)] e ?_;exact ek
 rw[q]at f;have e:=pt env (fun a b=>CA c now fu false m fun k=>if k=1001 then a else b) (m.said.map aa) (m.wait.map c0) [109,97,99,114,111,46,83,101,110,100] (l.headD (-1)) (gc l.tail (bx (if k=2 then g else if k=6 then h else i)));show b7 _ _ _ _ (cZ (dt (-1) (dt (l.headD (-1)) (gc l.tail (bx (if k=2 then g else if k=6 then h else i))))));unfold aG hP at j |-;obtain⟨A,V,M,T,O⟩:=x;unfold m0 RQ CA mZ at f;unfold CA cZ jH dv at e;unfold cZ jH dv;simp only[Nt,Nat.reduceEqDiff,OA]at*;refine qf func22 call22 ntmps22 results22 ?_;have F:=gb UI o p;repeat refine fc j ?_
 refine iL [(8,9001),(11,9002),(14,9003)] f2 ?_
 iterate 8 (refine st ?_)
 show fp _ _ _ _ _ _;refine bk [(9001,⟨1,A.map aa,3,true⟩),(9002,⟨1,V.map aa,3,true⟩),(9003,⟨2,T.map c0,98,true⟩)] ?_ ?_
 ·exact qe
 refine nC 49 9005 0 6 50 2 ?_;refine nC 49 9004 0 7 3 1 ?_;repeat refine st ?_
 refine iL [(1000,49),(1001,9004),(1002,9005)] f ?_;repeat refine st ?_
 refine iL [(1000,49),(1001,9004),(1002,9005)] e ?_;exact ek
end
section
def KV{n f:Int}(h:uH n f=true):(0<=n/\n<=1099511627776)/\ ∃fu:Nat,f=fu/\fu<=256:=by
 unfold uH at h;simp only[Mu,NF]at h;exact⟨⟨h.1.1.1,h.1.1.2⟩,f.toNat,by omega,by omega⟩
def MP{n:Int}{fu:Nat}(b:0<=n/\n<=1099511627776)(a:fu<=256):uH n fu=true:=by
 unfold uH;simp only[Mu,NF];omega
def Db{env:b8}{o g h f:Addr}{c:aq}{now:Int}(E:DS env o g h f c now)(p: ∀v∈c.vars,aL v.start=true){fu:Nat}(q:fu<=256):
 b7 prog env 19 [aG c,I now,I fu] (pL g h f (Ek c now fu)):=by
 have f0:=qq env o f E.he [109,97,99,114,111,46,66,101,103,105,110] c now fu;rw[MP E.hn q,Mw rfl]at f0;have f1:=E1 env o g f c now ⟨E.he,E.h2,E.h,E.hs,rfl,E.hn⟩ p;have l:=Jm E.h E.hn q p;have n:=rA E.h E.hn p;have j:=CV c 0 now ⟨[],c.vars.map (·.start),[],[],false,[],[]⟩ (zL (k6 c (-1)));change wD (dN c now).2 at j;unfold Ek;unfold aG at f0 f1 |-;rcases s:dN c now with⟨r,_|⟨k,e⟩⟩
 ·rw[s]at f1 l n;obtain⟨_,u,_⟩:=n rfl;have l:=l rfl;have i:=Bf env g h f E.he.e8 c now fu (m0 (Sm r) 0) r.outs r.Z7 (NG _) (NG _) u.outs u.Z7;unfold vl at f1;simp only at f1 l |-;rcases t:DB (m0 (Sm r) 0) r.outs r.Z7 with⟨m,_|⟨k,e⟩⟩
  ·rw[t]at i l;have d:=pr E (l rfl) [109,97,99,114,111,46,66,101,103,105,110];show b7 _ _ _ _ (pL g h f (AI c now fu NM m));generalize AI c now fu NM m=X at*;unfold m0 Sm RQ CA mZ at i;unfold RQ CA at d;simp only at i d;rcases X with⟨y,_|⟨k,e⟩⟩
   ·unfold EC S4 hP at d;unfold pL hP;simp only at d |-;refine qf func19 call19 ntmps19 results19 ?_;have F:=DH.eq_1
    iterate 47 (first|refine st ?_|refine cC f0 ?_|refine cC f1 ?_)
    show fp _ _ _ _ _ _;refine nC 35 9005 0 6 50 2 ?_;refine nC 35 9004 0 7 3 1 ?_;repeat refine st ?_
    refine iL [(1000,35),(1001,9004),(1002,9005)] i ?_;repeat refine st ?_
    refine iL [(1000,35),(1001,9004),(1002,9005)] d ?_;exact ek
   unfold EC S4 cZ jH dv at d;unfold pL cZ jH dv;simp only at d |-;refine qf func19 call19 ntmps19 results19 ?_;have F:=DH.eq_1
   iterate 47 (first|refine st ?_|refine cC f0 ?_|refine cC f1 ?_)
   show fp _ _ _ _ _ _;refine nC 35 9005 0 6 50 2 ?_;refine nC 35 9004 0 7 3 1 ?_;repeat refine st ?_
   refine iL [(1000,35),(1001,9004),(1002,9005)] i ?_;repeat refine st ?_
   refine iL [(1000,35),(1001,9004),(1002,9005)] d ?_;exact ek
  rw[t]at i;have d:=pt env (fun a b=>CA c now fu false m fun k=>if k=1001 then a else b) (m.said.map aa) (m.wait.map c0) [109,97,99,114,111,46,66,101,103,105,110] (e.headD (-1)) (gc e.tail (bx (if k=2 then g else if k=6 then h else f)));show b7 _ _ _ _ (cZ (dt (-1) (dt (e.headD (-1)) (gc e.tail (bx (if k=2 then g else if k=6 then h else f))))));unfold m0 Sm RQ CA mZ at i;unfold CA cZ jH dv at d;unfold cZ jH dv;simp only[Nt,Nat.reduceEqDiff,OA]at i d;refine qf func19 call19 ntmps19 results19 ?_;have F:=DH.eq_1
  iterate 47 (first|refine st ?_|refine cC f0 ?_|refine cC f1 ?_)
  show fp _ _ _ _ _ _;refine nC 35 9005 0 6 50 2 ?_;refine nC 35 9004 0 7 3 1 ?_;repeat refine st ?_
  refine iL [(1000,35),(1001,9004),(1002,9005)] i ?_;repeat refine st ?_
  refine iL [(1000,35),(1001,9004),(1002,9005)] d ?_;exact ek
 rw[s]at f1 j;have x:=j (k,e) rfl
 have w:cr g f (some (k,e))=dt (e.headD (-1)) (gc e.tail (bx (if k=2 then g else if k=6 then h else f))):=by
  unfold cr;simp only;rcases x with rfl|rfl<;>rfl
 unfold vl at f1;simp only[w]at f1;have d:=pt env (fun a b=>[.ref 9 [ct c] 0 0,cy,cy,cy,cy,B false, .row 1002 b, .row 1001 a,I 0,B false,I 0,I now,I fu]) [] [] [109,97,99,114,111,46,66,101,103,105,110] (-1) (dt (e.headD (-1)) (gc e.tail (bx (if k=2 then g else if k=6 then h else f))));show b7 _ _ _ _ (cZ (dt (-1) (dt (-1) (dt (e.headD (-1)) (gc e.tail (bx (if k=2 then g else if k=6 then h else f)))))));unfold cZ jH dv at d |-;generalize gc e.tail _=V at*;refine qf func19 call19 ntmps19 results19 ?_;have F:=DH.eq_1
 iterate 47 (first|refine st ?_|refine cC f0 ?_|refine cC f1 ?_)
 show fp _ _ _ _ _ _;refine nC 35 9005 0 6 50 2 ?_;refine nC 35 9004 0 7 3 1 ?_;repeat refine st ?_
 refine iL [(1000,35),(1001,9004),(1002,9005)] d ?_;exact ek
end
section
def w6:aq:=⟨[99],0,[],[⟨[97],1, -1, -1,[],[]⟩,⟨[98],1, -1, -1,[],[]⟩],[⟨0,[120],[],[⟨2,0,[121],[⟨1,1⟩]⟩], -1⟩,⟨0,[121],[],[],1⟩]⟩
def Em:List AV:=[Sg [99],I 0,cy, .seq 6 [[Sg [97],I 1,I (-1),I (-1),cy,cy],[Sg [98],I 1,I (-1),I (-1),cy,cy]], .seq 5 [[I 0,Sg [120],cy, .seq 4 [[I 2,I 0,Sg [121], .seq 2 [[I 1,I 1]]]],I (-1)],[I 0,Sg [121],cy,cy,I 1]]]
def Ex(n:List UInt8)(k p i:Int):y5 [Sg n,I k,I p,I i,cy,cy] (aK ⟨n,k,p,i,[],[]⟩):= .cons (.refl _) (.cons (.refl _) (.cons (.refl _) (.cons (.refl _) (.cons (.nil 4) (.cons (.nil 4) .nil)))))
def GD:y5 [.agg Em] [.agg (aA w6)]:=by
 refine .one (.agg (.cons (.refl _) (.cons (.refl _) (.cons (.nil 2) (.cons (.seqs ?_) (.cons (.seqs ?_) .nil))))))
 ·exact .cons (Ex ..) (.cons (Ex ..) .nil)
 exact .cons (.cons (.refl _) (.cons (.refl _) (.cons (.nil 2) (.cons (.refl _) (.cons (.refl _) .nil))))) (.cons (.cons (.refl _) (.cons (.refl _) (.cons (.nil 2) (.cons (.nil 4) (.cons (.refl _) .nil))))) .nil)
def GE:jN w6:=by simp[jN,vn,vm,iU,r9,w6,maxLen]
def wK:n5 w6=(0, -1):=by decide+kernel
def Tl:nw:=([0],[],[],[],false)
def BC:bG w6 (DM Tl)=true:=by decide+kernel
def GB:Ek w6 0 9=(m0 Tl 0,none):=by kernel_rfl
def I6:mq w6 0 9 Tl [120] 0=(⟨([1],[],[],[],false),[],2,[],1⟩,none):=by kernel_rfl
def sb(env:b8)(n:List UInt8):b7 prog env 28 [Sg n] (.agg [Sg n,I 1,I (-1),I (-1),cy,cy]):=by
 refine qf func28 call28 ntmps28 results28 ?_;repeat refine m9 ?_
 exact oj
def rH(env:b8)(a f g c b:Addr)(e:fU env a b)(l:env 1=some (bx f))(m:env 5=some (bx g))(n:env 6=some (bx c))(o: ∀W,env.inv W->wg W):b7 prog env 10 [] (B true):=by
 have j:(n5 w6).1=0:=by rw[wK]
 have h:=Sv j;have k:=o8 j;have E:DS env a f g b w6 0:=⟨e,l,m,h,k,by omega⟩;have f0:=(wP env a b e o w6 wK GE).args GD;have f1:=Db E (by simp[w6]) (fu:=9) (by omega);have i:=kq env a c b e n w6 h k Tl ⟨by simp[DM,Tl],by simp[DM,Tl],by simp[DM,Tl],by simp[DM,Tl]⟩ (by simp[Tl]) (by simp[Tl]) [109,97,99,114,111,46,83,101,110,100] 0 0 (9:Nat);rw[show I0 a c w6 Tl 0 0 (9:Nat)=h9 by unfold I0;rw[BC];rfl]at i;have f2:=wq E (x:=Tl) (ev:=[120]) (d:=0) BC rfl rfl (fu:=9) (by omega) rfl i;rw[GB]at f1;rw[I6]at f2
 have f4:b7 prog env 18 [.seq 1 [[I 1]], .seq 1 [[I 1]]] (B true):=by
  have:=yG env [1] [1] (by decide);rw[Ni rfl]at this;exact this
 have p:=sb env [97];have q:=sb env [98];unfold Em at f0;unfold pL m0 at f1;unfold pL at f2;unfold hP at f1 f2;unfold Tl at f1 f2;simp only[O5,Nh]at f1 f2;unfold cf at f1 f2;unfold aG at f0 f1 f2;generalize ct w6=T at*;refine qf func10 call10 ntmps10 results10 ?_;repeat refine Mm p q f0 f1 f2 f4 ?_
 exact oj
end
section
def Sr.fewI{c:aq}{x:nw}(k:Sr c x):vo x/\If (DM x):=by
 have b:maxLen=9223372036854775807:=rfl;have e:=k.act;have f:=k.vars;have g:=k.mem;have h:=k.Z1;refine⟨⟨⟨by omega,by omega⟩,⟨by omega,fun m a=> ?_⟩,by omega,fun t d=> ?_⟩,⟨show x.1.length<=1000000 by omega,show x.2.1.length<=1000000 by omega,show x.2.2.1.length<=1000000 by omega,show x.2.2.2.1.length<=9223372036854775807 by omega⟩⟩
 ·have:=(k.ZN m a).2;unfold KN;omega
 have:=k.nms t d;unfold o4;omega
def BQ{c:aq}{x:nw}(b:k7 c=true)(a:jR c x=false):x.1.length<=60/\x.2.2.1.length<=60/\x.2.1.length<=60:=by
 unfold jR at a;rw[b,Oi,Oj,Q8,Q8,Nm,Nm,Nm]at a;omega
end
end Go.Proofs.YtfhkmjbjafeckaaGreatDoor
