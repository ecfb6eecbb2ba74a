/- Running on, walked: Play. -/
import Derived.Test.YtfcdkaolcdglmaaGreatDoorP27
set_option maxRecDepth 100000
set_option maxHeartbeats 16000000
set_option linter.unusedSimpArgs false
set_option linter.defProp false
namespace Go.Proofs.YtfcdkaolcdglmaaGreatDoor
open Go.Proofs.Tryz
open Go.RowKit
section
structure UN(c:aq)(x:E'):Prop where
 act:x.1.length<=32
 vars:x.2.1.length<=4096
 mem:x.2.2.1.length<=32
 ZI: ∀m∈x.2.2.1,ek m.2.length 8
 Z4:x.2.2.2.1.length<=8
 nms: ∀t∈x.2.2.2.1,t.1.length<=32
def jk{c:aq}(h:cD c)(f:c.vars.length<=4096){x:E'}(a:Uj c x):UN c x:=by
 obtain⟨g,i⟩:=uH h a.mem;have d:=J6 a.lg;have b:=h.Z6
 exact⟨by omega,by rw[a.len];exact f,g,i,a.ZE,fun t e=>by
  have:=(a.Z4.each t e).1;unfold bT at this;simp only[OJ,OR]at this
  exact this.1.1⟩
structure Tw(env:b7)(a1 a2 a6 a8:Addr)(c:aq)(now:Int):Prop where
 he:fk env a1 a8
 h2:env 3=some (b6 a2)
 h6:env 5=some (b6 a6)
 h:cD c
 hs:h9 c
 hn:0<=now/\now<=1099511627776
def sP{env:b7}{a b:Addr}(j:fk env a b){c:aq}(h:cD c)(f:h9 c){x:E'}{d:Int}(e:cM c (UF x)=true)(l:x.2.2.2.2=false)(i:aL d=true)(g:List UInt8):cy prog env 154 [Sg g,aH c, .agg (o' x),I d] gc:=by
 have k:=jk h f.vars (gI e);have n:=k.act;have o:=k.vars;have p:=k.mem;have q:=k.Z4;exact GZ env a b j c h f x ⟨show x.1.length<=1000000 by omega,show x.2.1.length<=1000000 by omega,show x.2.2.1.length<=1000000 by omega,show x.2.2.2.1.length<=9223372036854775807 by omega⟩ (fun t m=>O3 (k.nms t m) (by omega)) k.ZI g d e l i
def IA{env:b7}{f b g:Addr}(m:fk env f g)(o:env 3=some (b6 b)){c:aq}(h:cD c)(e:h9 c){x:E'}{d:Int}(i:cM c (UF x)=true)(q:x.2.2.2.2=false)(j:aL d=true)(ev:List UInt8):cy prog env 116 [aH c, .agg (o' x),Sg ev,I d] (Ig b (zN c x.1 (UV c x.1 x.2.1 d) ev (Ul c (x.1.map Int.toNat)))):=by
 have a:=gI i;have k:=(jk h e.vars a).act;obtain⟨l,n,p⟩:=yM a.lg;rw[Eu n];exact Ad env f b g m o c h e x d ⟨by omega,a.len,a.fit,j,a.lg⟩ ev (sP m h e i q j _) l n p
def GD{env:b7}{g e l f:Addr}{c:aq}{a:Int}(E:Tw env g e l f c a){x:E'}{d:Int}(i:cM c (UF x)=true)(n:x.2.2.2.2=false)(j:aL d=true){b:List Nat}(m:Fit c x.1 b):cy prog env 159 [aH c, .agg (o' x), .seq 1 (b.map aB),I d,I a] (vP e f (tS c d a (gP x) b)):=by
 have h:=gI i;have k:=jk E.h E.hs.vars h;have p:=k.act;have o:=k.Z4;exact IY env g e f c d a ⟨E.he,E.h2,E.h,E.hs,j,E.hn⟩ x h (by omega) k.vars (aG (O3 o (by omega)) (by omega)) b m (sP E.he E.h E.hs i n j _)
def nD(env:b7)(a b:Addr)(d:fk env a b)(s:List UInt8):cy prog env 58 [Sg s] (dj (-1) (b6 a)):=by
 have c:=gS d.e1;have f1:=bW env s a;refine qf func58 call58 ntmps58 results58 ?_;have F:=c;exact nb f1
def MT(c:aq)(a:Int)(F:Nat)(o:Bool)(m:r5)(g:Nat->Nat):List AV:=[.ref 9 [aK c] 0 0,cI m.x.1,cI m.x.2.1, .seq 2 (m.x.2.2.1.map fi), .seq 2 (m.x.2.2.2.1.map ew),B m.x.2.2.2.2, .row 1002 (g 1002), .row 1001 (g 1001),I m.steps,B o,I m.data,I a,I F]
def WW:=@MT.eq_1
def RQ(c:aq)(a:Int)(F:Nat)(o:Bool)(m:r5)(g:Nat->Nat):List (Nat×Row):=[(1000,⟨13,[MT c a F o m g],143,false⟩),(1001,⟨1,m.said.map aa,3,true⟩),(1002,⟨2,m.wait.map ew,81,true⟩)]
def WX:=@RQ.eq_1
def Q'(k:Nat):Bool:=k==1001||k==1002
def WQ:=@Q'.eq_1
def mQ(b c d:Addr):M'->AV
 |none=>gc
 |some (k,a)=>dj (a.headD (-1)) (ik a.tail (b6 (if k=2 then b else if k=6 then c else d)))
def aM(a b c:Addr)(e:M')(L:Nat->Nat->Option (Nat×Nat)):(mQ a b c e).ren L=mQ a b c e:=by rcases e with _|⟨_,_⟩<;>rfl
def BQ(env:b7)(r s i:Addr)(t:env 2=some (b6 i))(c:aq)(h:Int)(F:Nat)(m:r5)(outs:List Int)(rais:List (List UInt8×Int))(u:m.said.length<=256)(x:m.wait.length<=16)(v:outs.length<=256)(w:rais.length<=16):
 g6 prog env 55 [1000,1001,1002] Q' (fun g=>[.loc 1000 (g 1000) 0 0, .agg [cI outs, .seq 2 (rais.map ew)]]) (RQ c h F false m) (RQ c h F false (T' m outs rais).1) (fun _=>mQ r s i (T' m outs rais).2):=by
 have p:=gS t;have f0:=bW env [109,97,99,114,111,46,97,100,100] i;have n:ek (m.said.length+outs.length) 8:=aG (by omega) (by omega);have o:ek (m.wait.length+rais.length) 24:=aG (by omega) (by omega);have y:(m.said++outs).length=m.said.length+outs.length:=ON;have z:(m.wait++rais).length=m.wait.length+rais.length:=ON;unfold T';by_cases k:256< (m.said++outs).length\/16< (m.wait++rais).length
 ·rw[OL k];show g6 _ _ _ _ _ _ _ _ fun _=>dj (-1) (b6 i);unfold RQ MT;simp only[Oa];by_cases j:(256:Int)< ((m.said.length+outs.length:Nat):Int)
  ·refine qi func55 call55 ntmps55 results55 ?_;intro q f a;obtain⟨b,d,e⟩:=Vf a;have F:=L7 WQ p n o j b d e;repeat refine g8 f0 ?_
   exact rI
  have l:(16:Int)< ((m.wait.length+rais.length:Nat):Int):=by omega
  refine qi func55 call55 ntmps55 results55 ?_;intro q f a;obtain⟨b,d,e⟩:=Vf a;have F:=y' WQ p n o j l b d e;repeat refine g8 f0 ?_
  exact rI
 rw[OK k];have j: ¬(256:Int)< ((m.said.length+outs.length:Nat):Int):=by omega
 have l: ¬(16:Int)< ((m.wait.length+rais.length:Nat):Int):=by omega
 show g6 _ _ _ _ _ _ _ _ fun _=>gc;unfold RQ MT;simp only[Oa];refine qi func55 call55 ntmps55 results55 ?_;intro q f a;obtain⟨b,d,e⟩:=Vf a;have F:=L7 WQ n o j l b d e;repeat refine st ?_
 exact rI
def Gp{env:b7}{B i f j:Addr}{c:aq}{b:Int}(E:Tw env B i f j c b){F:Nat}{m:r5}(e:n5 c F m)(x:m.x.2.2.2.2=false){l:List Nat}(w:Fit c m.x.1 l):
 g6 prog env 117 [1000,1001,1002] Q' (fun g=>[.loc 1000 (g 1000) 0 0, .seq 1 (l.map aB)]) (RQ c b F false m) (RQ c b F false (wk c b F m l).1) (fun _=>mQ i f j (wk c b F m l).2):=by
 have D:=gS E.h6;have f6:=bW env [109,97,99,114,111,46,115,116,101,112] f;have d:=GD E e.inst x e.data w;unfold wk;by_cases k:F<=m.steps
 ·rw[OL k];have u:(F:Int)<=(m.steps:Int):=by omega
  show g6 _ _ _ _ _ _ _ _ fun _=>dj (-1) (b6 f);refine qi func117 call117 ntmps117 results117 ?_;intro A s a;obtain⟨n,p,q⟩:=Vf a;have F:=L7 WX WW WQ D u n p q;repeat refine g8 f6 ?_
  exact rI
 rw[OK k];have u: ¬(F:Int)<=(m.steps:Int):=by omega
 have y:=sB E.h e.data E.hn (gI e.inst) x w;unfold aH o' at d;rcases v:tS c m.data b (gP m.x) l with⟨r,_|⟨k,h⟩⟩
 ·rw[v]at d y;obtain⟨z,_,_⟩:=y rfl;have t:=BQ env i f j E.he.e8 c b F ⟨U4 r,m.said,m.steps+1,m.wait,m.data⟩ r.outs r.Z1 e.said e.wait z.outs z.Z1;have H:=e.steps;have I:IntKind.i64.wrap ((m.steps:Int)+1)=((m.steps+1:Nat):Int):=aD (show m.steps<F by omega) (by have:=e.ZJ;omega);unfold vP at d;unfold RQ MT at t;unfold Mv;simp only at d t |-;generalize T' _ r.outs r.Z1=Y at*;unfold U4 at t;simp only at t;unfold RQ MT;refine qi func117 call117 ntmps117 results117 ?_;intro A s a;obtain⟨n,p,q⟩:=Vf a;have F:=pf WQ u I n p q;repeat (first|refine oO rfl (by simp only[go_sem,aM,F];exact⟨rfl,rfl⟩) ?_|refine gR ?_|refine gO ?_|refine oC rfl (d) (by simp only[go_sem,aM,F];exact iR) (by simp only[go_sem,aM,F];exact⟨rfl,rfl⟩) ?_|refine oZ (ki ?_)|refine oZ ?_|refine oS ?_|refine gT ?_|refine gD mixed ?_|refine oB ?_|refine oK ?_|(refine oX ?_;simp only[bR,bf, ↓reduceIte,Nat.reduceEqDiff,reduceCtorEq])|refine oY (by simp only[go_sem,aM,F];exact iR) ?_|refine oN (by simp only[go_sem,aM,F];exact iR) ?_)
  refine iY [(1000,1000),(1001,1001),(1002,1002)] rfl (t) (by decide) (by decide) (by simp only[go_sem,aM,F]<;>rfl) (by simp only[go_sem,aM,F,O8]<;>trivial) (by simp only[go_sem,aM,F,O8]<;>trivial) (by intro o;simp only[go_sem,aM,F,behind,O8]<;>trivial) (by intro o;simp only[go_sem,aM,F]<;>rfl) (by simp only[go_sem,aM,F,behind];exact iR) (by simp only[go_sem,aM,F,behind];exact iR) ?_;repeat (first|refine oO rfl (by simp only[go_sem,aM,F];exact⟨rfl,rfl⟩) ?_|refine gR ?_|refine gO ?_|refine oZ (ki ?_)|refine oZ ?_|refine oS ?_|refine gT ?_|refine gD mixed ?_|refine oB ?_|refine oK ?_|(refine oX ?_;simp only[bR,bf, ↓reduceIte,Nat.reduceEqDiff,reduceCtorEq])|refine oY (by simp only[go_sem,aM,F];exact iR) ?_|refine oN (by simp only[go_sem,aM,F];exact iR) ?_)
  (refine aO ?_;(try simp only[bR,bf, ↓reduceIte,Nat.reduceEqDiff,reduceCtorEq]);refine sO ?_ ?_<;>simp only[go_sem,aM,F,Sr,O8,To,Sf,AV.tuple.injEq,SJ,ne_eq])
 rw[v]at d;unfold vP at d;have G:=Ec c m.data b (gP m.x) l (k,h) (by rw[v])
 have C:cj i j (some (k,h))=dj (h.headD (-1)) (ik h.tail (b6 (if k=2 then i else if k=6 then f else j))):=by
  unfold cj;simp only;rcases G with rfl|rfl<;>rfl
 simp only[C]at d;show g6 _ _ _ _ _ _ _ _ fun _=>dj (-1) (dj (h.headD (-1)) (ik h.tail (b6 (if k=2 then i else if k=6 then f else j))));generalize ik h.tail _=V at*;refine qi func117 call117 ntmps117 results117 ?_;intro A s a;obtain⟨n,p,q⟩:=Vf a;have F:=vb WX WW WQ u n p q;repeat refine g8 d ?_
 exact rI
def yL{env:b7}{x p s t:Addr}{c:aq}{b:Int}(E:Tw env x p s t c b){F:Nat}{m:r5}(q:n5 c F m)(v:m.x.2.2.2.2=false)(ev:List UInt8):
 g6 prog env 60 [1000,1001,1002] Q' (fun g=>[.loc 1000 (g 1000) 0 0,Sg ev]) (RQ c b F false m) (RQ c b F false (Sh c b F m ev).1.1) (fun _=> .tuple [B (Sh c b F m ev).2,mQ p s t (Sh c b F m ev).1.2]):=by
 have d:=IA E.he E.h2 E.h E.hs q.inst v q.data ev;change cy _ _ _ _ (Ig p (tW c m ev)) at d;unfold aH o' at d;unfold Sh;cases r:tW c m ev with
 | error n=>
   rw[r]at d;unfold Ig at d;show g6 _ _ _ _ _ _ _ _ fun _=> .tuple [B false,dj (1000+(n:Nat)) (b6 p)];refine qi func60 call60 ntmps60 results60 ?_;intro w j a;obtain⟨e,h,i⟩:=Vf a;have F:=pf WX WW WQ e h i;repeat refine g8 d ?_
   exact rI
 | ok f=>
   rw[r]at d;unfold Ig at d;simp only at d;cases f with
   | nil=>
     show g6 _ _ _ _ _ _ _ _ fun _=> .tuple [B false,gc];refine qi func60 call60 ntmps60 results60 ?_;intro w j a;obtain⟨e,h,i⟩:=Vf a;have F:=pf WX WW WQ e h i;repeat refine g8 d ?_
     exact rI
   | cons k l=>
     have u:=Gp E q v (xA E.h (gI q.inst).lg r);simp only;generalize wk c b F m (k::l)=Y at*;have y:(((k::l).map aB).length:Int)≠0:=by simp;omega
     simp only[PE]at d u;refine qi func60 call60 ntmps60 results60 ?_;intro w j a;obtain⟨e,h,i⟩:=Vf a;have F:=pf WX WW WQ e h i;repeat (first|refine oO rfl (by simp only[go_sem,aM,F];exact⟨rfl,rfl⟩) ?_|refine gR ?_|refine gO ?_|refine oC rfl (d) (by simp only[go_sem,aM,F];exact iR) (by simp only[go_sem,aM,F];exact⟨rfl,rfl⟩) ?_|refine oZ (ki ?_)|refine oZ ?_|refine oS ?_|refine gT ?_|refine gD mixed ?_|refine oB ?_|refine oK ?_|(refine oX ?_;simp only[bR,bf, ↓reduceIte,Nat.reduceEqDiff,reduceCtorEq])|refine oY (by simp only[go_sem,aM,F];exact iR) ?_|refine oN (by simp only[go_sem,aM,F];exact iR) ?_)
     refine iY [(1000,1000),(1001,1001),(1002,1002)] rfl (u) (by decide) (by decide) (by simp only[go_sem,aM,F]<;>rfl) (by simp only[go_sem,aM,F,O8]<;>trivial) (by simp only[go_sem,aM,F,O8]<;>trivial) (by intro o;simp only[go_sem,aM,F,behind,O8]<;>trivial) (by intro o;simp only[go_sem,aM,F]<;>rfl) (by simp only[go_sem,aM,F,behind];exact iR) (by simp only[go_sem,aM,F,behind];exact iR) ?_;repeat (first|refine oO rfl (by simp only[go_sem,aM,F];exact⟨rfl,rfl⟩) ?_|refine gR ?_|refine gO ?_|refine oZ (ki ?_)|refine oZ ?_|refine oS ?_|refine gT ?_|refine gD mixed ?_|refine oB ?_|refine oK ?_|(refine oX ?_;simp only[bR,bf, ↓reduceIte,Nat.reduceEqDiff,reduceCtorEq])|refine oY (by simp only[go_sem,aM,F];exact iR) ?_|refine oN (by simp only[go_sem,aM,F];exact iR) ?_)
     (refine aO ?_;(try simp only[bR,bf, ↓reduceIte,Nat.reduceEqDiff,reduceCtorEq]);refine sO ?_ ?_<;>simp only[go_sem,aM,F,Sr,O8,To,Sf,AV.tuple.injEq,SJ,ne_eq])
end
section
def m0(x:E')(d:Int):r5:=⟨x,[],0,[],d⟩
def NM:Nat:=5000
def Mp(c:aq)(a:Int)(F:Nat):r5×M'->r5×M'
 |(m,none)=>Ug c a F NM m
 |y=>y
def o7(c:aq)(a:Int)(F:Nat)(x:E')(ev:List UInt8)(d:Int):r5×M':=Mp c a F (Sh c a F (m0 x d) ev).1
def jr(c:aq)(a:Int)(F:Nat):r5×M':=match cK c a with
 |(r,none)=>Mp c a F (T' (m0 (U4 r) 0) r.outs r.Z1)
 |(r,some e)=>(m0 (U4 r) 0,some (e.1, -1::e.2.headD (-1)::e.2.tail))
def Ml{c:aq}{F:Nat}{x:E'}{d:Int}(b:cM c (UF x)=true)(f:aL d=true)(a:F<=256):n5 c F (m0 x d):=⟨b,f,O6 _,fun e g=>by simp[m0]at g,O6 _,O6 _,a⟩
def LC{c:aq}{F:Nat}{m:r5}(h:n5 c F m):oH F m<NM:=by
 have a:=h.ZJ;have b:=h.wait;unfold oH NM;have:(F-m.steps)*17<=256*17:=Oz _ (by omega);omega
section
variable {c:aq} (h:cD c) {now:Int} (hn:0<=now/\now<=1099511627776)
include h hn
theorem LH{F:Nat}{y:r5×M'}(b:y.2=none->n5 c F y.1)(a:(Mp c now F y).2=none):n5 c F (Mp c now F y).1/\y.2=none:=by
 obtain⟨m,_|e⟩:=y
 ·exact⟨(LU h hn NM m (b rfl) a).1,rfl⟩
 cases a
theorem Ee{F:Nat}{x:E'}{ev:List UInt8}{d:Int}(b:n5 c F (m0 x d))(e:x.2.2.2.2=false)(a:(o7 c now F x ev d).2=none):n5 c F (o7 c now F x ev d).1:=
 (LH h hn (fun q=>(pF h hn b e q).1) a).1
theorem Mj{F:Nat}{m:r5}(a:n5 c F m):Mb (Ug c now F NM m).2:=EP h hn NM m a (LC a)
theorem Lc{F:Nat}{x:E'}{ev:List UInt8}{d:Int}(i:n5 c F (m0 x d))(j:x.2.2.2.2=false):Mb (o7 c now F x ev d).2:=by
 have f:=pF h hn i j (ev:=ev);have g:=LZ c now F (m0 x d) ev;unfold o7;rcases a:Sh c now F (m0 x d) ev with⟨⟨m,_|e⟩,b⟩
 ·rw[a]at f;exact Mj h hn (f rfl).1
 rw[a]at g;exact g
theorem ug{F:Nat}(e:F<=256)(f: ∀v∈c.vars,aL v.start=true):((cK c now).2=none->(T' (m0 (U4 (cK c now).1) 0) (cK c now).1.outs (cK c now).1.Z1).2=none->n5 c F (T' (m0 (U4 (cK c now).1) 0) (cK c now).1.outs (cK c now).1.Z1).1):=by
 intro d a;obtain⟨g,i,_⟩:=qk h hn f d;unfold T' at a |-;split at a
 ·cases a
 rename_i b;rw[OK b];simp only[m0,QE]at b |-;exact⟨g,rfl,show (cK c now).1.Z1.length<=16 by omega,i.raf,show (cK c now).1.outs.length<=256 by omega,O6 _,e⟩
end
end
section
attribute [local go_sem] eN ob
def AW(env:b7)(es:List (List AV))(c:ek es.length 24):cy prog env 153 [.seq 2 es] (.own 81 2 es):=by
 cases es with
 | nil=>
   refine cy.empty fun A a=> ?_;cases A with
   | none=>
     refine qw func153 call153 ntmps153 results153 ?_;repeat refine sm ?_
     (refine aO ?_;refine⟨_,(by show (au _ _ _).run _=some _;simp only[go_sem];rfl),?_⟩)
     exact i8.own_nil _ _ (by decide)
   | some A=>
     refine qf func153 call153 ntmps153 results153 ?_;repeat refine sm ?_
     exact L0
 | cons d l=>
   have b:ek (l.length+1) 24:=c;refine qf func153 call153 ntmps153 results153 ?_;have F:=b;exact fl
def rS{P:Program}{rs:List ResultVar}{ids:List Nat}{grown:Nat->Bool}{vs0:Nat->Nat}{post:(Nat->Nat)->List (Nat×Row)}{res:(Nat->Nat)->AV}{s:St}(h:Km P rs ids grown vs0 post res .ret s:=by
 refine sO ?_ ?_<;>simp only[go_sem,F,Sr,O8,To,Sf,AV.tuple.injEq,SJ,ne_eq]):Km P rs ids grown vs0 post res .ret s:=h
def K2{P:Program}{env:b7}{nt:Nat}{c:Code}{Q:Exit->St->Prop}{s:St}(r:Nat)(h:gu P env nt c Q { s with rows:=na s.rows r none }):gu P env nt c Q s:=
 CL (s':={ s with rows:=na s.rows r none }) ⟨fun _=> .inl rfl,fun k=>by
  by_cases e:k=r
  ·subst e;exact .inr (aE _ _ _)
  exact .inl (ct _ _ _ e),rfl,rfl⟩ h
def Vk:r5×M'->Bool
 |(m,none)=>m.x.2.2.2.2
 |_=>false
def Lq{env:b7}{V I J K:Addr}{c:aq}{d:Int}(E:Tw env V I J K c d){fu:Nat}{m:r5}(x:n5 c fu m):
 g6 prog env 113 [1000,1001,1002] Q' (fun g=>[.loc 1000 (g 1000) 0 0]) (RQ c d fu false m) (RQ c d fu (Vk (Ug c d fu NM m)) (Ug c d fu NM m).1) (fun _=>mQ I J K (Ug c d fu NM m).2):=by
 obtain⟨X,a⟩: ∃X,Ug c d fu NM m=X:=⟨_,rfl⟩;have r:=LC x;rw[a];refine qi func113 call113 ntmps113 results113 ?_;intro vs L B;obtain⟨j,l,p⟩:=Vf B;have F:=pf WX WW WQ j l p;repeat refine st ?_
 refine xL ?_;repeat refine st ?_
 refine xM ?_;show gu _ _ _ _ _ _;repeat refine st ?_
 refine lp (D:=r5×Nat) (fun _ u=>[(0, .loc 1000 (u 1000) 0 0)]) (fun y u=>RQ c d fu false y.1 u) (fun y u t=>(n5 c fu y.1/\Ug c d fu y.2 y.1=X/\oH fu y.1<y.2)/\u 1000=vs 1000/\t 1000=false/\t 1001=false/\t 1002=false) (fun y=>oH fu y.1) (m,NM) ⟨⟨x,a,r⟩,by simp only[go_sem,j,l,p,O8]⟩ ?_;try clear j l p B r a x
 rintro⟨m,n⟩ ws L ⟨⟨x,a,r⟩,v,j,l,p⟩;simp only at x a r;obtain⟨n,rfl⟩: ∃k,n=k+1:=⟨n-1,by omega⟩;unfold Ug at a;by_cases f:m.x.2.2.2.2=true
 ·rw[OL f]at a;subst a;have h:Vk (m,none)=true:=f;have N:mQ I J K none= .lit .nilIface:=rfl;show gu _ _ _ _ _ _;have F:=zs WX WW WQ h N f v j l p;repeat refine st ?_
  show gu _ _ _ _ _ _;refine aO ?_;simp only[bR,bf,pL];exact rS
 rw[OK f]at a;have f:m.x.2.2.2.2=false:=by simpa using f
 have s:=yL E x f [];have S:=pF E.h E.hn x f (ev:=[]);have H:=zS E.h E.hn x f (ev:=[]);rcases R:Sh c d fu m []with⟨⟨i,_|e⟩,b⟩
 ·rw[R]at a s S H;obtain⟨P,W,Q⟩:=S rfl;obtain⟨f1,f2⟩:=H rfl;simp only at a s P W Q f1 f2;cases b with
  | true=>
    simp only at a;unfold mQ RQ MT at s;have F:=L7 WX WW WQ f v j l p;repeat refine st ?_
    refine iL [(1000,1000),(1001,1001),(1002,1002)] s ?_;repeat refine st ?_
    refine⟨(i,n),⟨⟨P,a,by have:=f2 rfl;simp only;omega⟩,?_⟩,?_,?_,?_⟩
    ·simp only[go_sem,v,j,l,p,O8]
    ·exact qe
    ·exact qe
    exact f2 rfl
  | false=>
    obtain rfl:i=m:=by rcases Q with⟨q,_⟩|⟨_,q⟩;cases q;exact q
    unfold mQ RQ MT at s;simp only at a;cases A:i.wait with
    | nil=>
      rw[A]at a;simp only at a;subst a;have h:Vk (i,none)=false:=f;have N:mQ I J K none= .lit .nilIface:=rfl;show gu _ _ _ _ _ _;have F:=u4 WX WW WQ h N A f v j l p;repeat refine st ?_
      refine iL [(1000,1000),(1001,1001),(1002,1002)] s ?_;repeat refine st ?_
      refine aO ?_;simp only[bR,bf,pL];exact rS
    | cons e w=>
      rw[A]at a;simp only at a;have q0:i.wait[0]? =some e:=by rw[A];rfl
      have q5:(0:Int)< (i.wait.length:Int):=by rw[A];simp only[OU];omega
      have U:((i.wait.length:Int)==0)=false:=by rw[R4];omega
      have F:=y' WX WW WQ U f v j l p;repeat refine st ?_
      refine iL [(1000,1000),(1001,1001),(1002,1002)] s ?_
      iterate 20 (refine st ?_)
      refine dH [(1002,⟨2,i.wait.map ew,81,true⟩)] ?_ ?_
      ·exact qe
      have z:=EM x A;have Z:=AW env (w.map ew) (by rw[O4];have:=z.wait;exact aG (by simp only at this;omega) (by omega));have G:=yL E z f e.1;have M:=pF E.h E.hn z f (ev:=e.1);have C:=zS E.h E.hn z f (ev:=e.1);have q3:(i.wait.drop 1).take (i.wait.length-1)=w:=by rw[A,List.drop_one,List.tail_cons,OU,QX,Ob]
      have q4:(1:Int)<=(i.wait.length:Int):=by rw[A];simp only[OU];omega
      rcases hB:Sh c d fu { i with wait:=w,data:=e.2 } e.1 with⟨⟨O,Y⟩,b⟩;rw[hB]at a G M C;simp only at a G M C;unfold RQ MT at G;simp only at G;have F:=fb WX WW WQ WT q0 q3 q4 q5 U f v<|jw j l p;repeat (first|refine oO rfl (by simp only[go_sem,aM,F];exact⟨rfl,rfl⟩) ?_|refine gR ?_|refine gO ?_|refine oC rfl (Z) (by simp only[go_sem,aM,F];exact iR) (by simp only[go_sem,aM,F];exact⟨rfl,rfl⟩) ?_|refine oZ (ki ?_)|refine oZ ?_|refine oS ?_|refine gT ?_|refine gD mixed ?_|refine oB ?_|refine oK ?_|(refine oX ?_;simp only[bR,bf, ↓reduceIte,Nat.reduceEqDiff,reduceCtorEq])|refine oY (by simp only[go_sem,aM,F];exact iR) ?_|refine oN (by simp only[go_sem,aM,F];exact iR) ?_)
      refine iY [(1000,1000),(1001,1001),(1002,41)] rfl (G) (by decide) (by decide) (by simp only[go_sem,aM,F]<;>rfl) (by simp only[go_sem,aM,F,O8]<;>trivial) (by simp only[go_sem,aM,F,O8]<;>trivial) (by intro o;simp only[go_sem,aM,F,behind,O8]<;>trivial) (by intro o;simp only[go_sem,aM,F]<;>rfl) (by simp only[go_sem,aM,F,behind];exact iR) (by simp only[go_sem,aM,F,behind];exact iR) ?_
      iterate 6 (refine st ?_)
      show gu _ _ _ _ _ _;refine K2 1002 ?_;refine MX 41 1002 ⟨2,O.wait.map ew,81,true⟩ (by decide) (by simp only[go_sem]) (by simp only[go_sem]) (PD 1) rfl ?_;rcases Y with _|⟨k,T⟩
      ·obtain⟨g1,_,g3⟩:=M rfl;obtain⟨h1,h2⟩:=C rfl;have hlt:oH fu { i with wait:=w,data:=e.2 } <oH fu i:=by unfold oH;rw[A];simp
       unfold mQ;simp only at a h1 |-;have F:=vb WX WW WQ v j l p;repeat refine st ?_
       refine⟨(O,n),⟨⟨g1,a,by simp only;omega⟩,?_⟩,?_,?_,by simp only;omega⟩
       ·simp only[go_sem,v,j,l,p,O8]
       ·exact qe
       exact qe
      simp only at a;subst a;have h:Vk (O,some (k,T))=false:=rfl;unfold mQ;simp only;have F:=L7 WX WW WQ h v j l p;repeat refine st ?_
      refine aO ?_;simp only[bR,bf,pL];exact rS
 rw[R]at a s;simp only at a s;subst a;have h:Vk (i,some e)=false:=rfl;obtain⟨k,T⟩:=e;unfold mQ RQ MT at s;simp only at s;show gu _ _ _ _ _ _;unfold mQ;simp only;have F:=y' WX WW WQ h f v j l p;repeat refine st ?_
 refine iL [(1000,1000),(1001,1001),(1002,1002)] s ?_;repeat refine st ?_
 show gu _ _ _ _ _ _;refine aO ?_;simp only[bR,bf,pL];exact rS
end
section
def Ih(n f:Int):Bool:=decide (0<=n)&&decide (n<=1099511627776)&&decide (0<=f)&&decide (f<=256)
def qZ(env:b7)(a b:Addr)(k:fk env a b)(d:List UInt8)(c:aq)(n f:Int):cy prog env 53 [Sg d,aH c,I n,I f] (if Ih n f=true then gc else dj (-1) (b6 a)):=by
 have e:(if Ih n f=true then gc else dj (-1) (b6 a))=if n<0 then dj (-1) (b6 a) else if 1099511627776<n then dj (-1) (b6 a) else if f<0 then dj (-1) (b6 a) else if 256<f then dj (-1) (b6 a) else gc:=by
  unfold Ih;by_cases g:n<0<;>by_cases h:1099511627776<n<;>by_cases i:f<0<;>by_cases j:256<f<;>simp[g,h,i,j]<;>omega
 rw[e];have f0:=nD env a b k d;unfold aH;refine qf func53 call53 ntmps53 results53 ?_;have F:=trivial;exact nb f0
end
section
def kD:List AV:=[gb,gb,gb,gb,B false]
def gz:List AV:=[gb,I 0,B false]
def dS(e:AV):AV:= .tuple [.agg kD, .agg gz,e]
def Ie(b c d:Addr)(g:Nat->Nat):r5×M'->AV
 |(m,none)=> .tuple [.agg (o' m.x), .agg [.row 1001 (g 1001),I m.steps,B m.x.2.2.2.2],gc]
 |(_,some (k,a))=>dS (dj (-1) (dj (a.headD (-1)) (ik a.tail (b6 (if k=2 then b else if k=6 then c else d)))))
def wE(b c d:Addr):r5×M'->AV
 |(m,none)=> .tuple [.agg (o' m.x), .agg [cI m.said,I m.steps,B m.x.2.2.2.2],gc]
 |(_,some (k,a))=>dS (dj (-1) (dj (a.headD (-1)) (ik a.tail (b6 (if k=2 then b else if k=6 then c else d)))))
def wH{env:b7}{p d e f:Addr}{c:aq}{a:Int}(E:Tw env p d e f c a){fu:Nat}{m:r5}(q:n5 c fu m)(n:List UInt8):
 g6 prog env 56 [1000,1001,1002] Q' (fun g=>[.loc 1000 (g 1000) 0 0,Sg n,gc]) (RQ c a fu false m) (RQ c a fu (Vk (Ug c a fu NM m)) (Ug c a fu NM m).1) (fun g=>Ie d e f g (Ug c a fu NM m)):=by
 have f0:=Lq E q;generalize Ug c a fu NM m=X at*;rcases X with⟨s,_|⟨k,o⟩⟩
 ·unfold Ie;unfold Vk mQ RQ MT at f0;unfold Vk RQ MT o';simp only at f0 |-;refine qi func56 call56 ntmps56 results56 ?_;intro r l b;obtain⟨h,i,j⟩:=Vf b;have F:=mX WQ h i j;repeat refine st ?_
  refine iL [(1000,1000),(1001,1001),(1002,1002)] f0 ?_;repeat refine st ?_
  exact rI
 unfold Ie dS kD gz;unfold Vk mQ RQ MT at f0;unfold Vk RQ MT;simp only at f0 |-;have f1:=du env n (o.headD (-1)) (ik o.tail (b6 (if k=2 then d else if k=6 then e else f)));refine qi func56 call56 ntmps56 results56 ?_;intro r l b;obtain⟨h,i,j⟩:=Vf b;have F:=mX WQ h i j;repeat refine st ?_
 refine iL [(1000,1000),(1001,1001),(1002,1002)] f0 ?_;repeat refine g8 f1 ?_
 exact rI
def pe(env:b7)(es:Nat->Nat->List AV)(S W:List (List AV))(b:List UInt8)(p:Int)(e:AV):
 g6 prog env 56 [1000,1001,1002] Q' (fun g=>[.loc 1000 (g 1000) 0 0,Sg b,dj p e]) (fun g=>[(1000,⟨13,[es (g 1001) (g 1002)],143,false⟩),(1001,⟨1,S,3,true⟩),(1002,⟨2,W,81,true⟩)]) (fun g=>[(1000,⟨13,[es (g 1001) (g 1002)],143,false⟩),(1001,⟨1,S,3,true⟩),(1002,⟨2,W,81,true⟩)]) (fun _=>dS (dj (-1) (dj p e))):=by
 have f1:=du env b p e;unfold dS kD gz;refine qi func56 call56 ntmps56 results56 ?_;intro i h a;obtain⟨c,d,f⟩:=Vf a;have F:=mX WQ c d f;repeat refine g8 f1 ?_
 exact rI
def Kp(a b:Addr)(c:aq)(x:E')(d n f:Int):AV:=if cM c (UF x)=false then dj (-1) (dj (-1) (b6 a)) else if x.2.2.2.2=true then dj (-1) (b6 b) else if aL d=false then dj (-1) (b6 a) else if Ih n f=true then gc else dj (-1) (b6 a)
def AD(env:b7)(b j i:Addr)(k:fk env b i)(q:env 1=some (b6 j))(c:aq)(h:cD c)(v:h9 c)(x:E')(s:UH (UF x))(u: ∀t∈x.2.2.2.1,t.1.length<=9223372036854775807)(r: ∀m∈x.2.2.1,ek m.2.length 8)(g:List UInt8)(d n f:Int):
 cy prog env 57 [Sg g,aH c, .agg (o' x),I d,I n,I f] (Kp b j c x d n f):=by
 have p:=gS q;have f0:=nE env b i k c h v (UF x) s u r;have f1:=dD env d;have f2:=qZ env b i k g c n f;have f3:=du env g (-1) (b6 b);have f4:=bW env g j;have f5:=nD env b i k g;rw[FD]at f0;unfold rF at f0;unfold Kp;unfold aH at f0 f2 |-;unfold o' at f0 |-;cases o:cM c (UF x)
 ·rw[o,OK P3]at f0;rw[OL rfl];refine qf func57 call57 ntmps57 results57 ?_;repeat refine E8 f0 f3 ?_
  exact L0
 rw[o,OL rfl]at f0;rw[OK (by simp)];by_cases a:x.2.2.2.2=true
 ·rw[OL a];refine qf func57 call57 ntmps57 results57 ?_;have F:=ai a p;exact po f0 f4
 rw[OK a];have a:x.2.2.2.2=false:=by simpa using a
 cases l:aL d
 ·rw[l]at f1;rw[OL rfl];refine qf func57 call57 ntmps57 results57 ?_;have F:=a;exact UR f0 f1 f5
 rw[l]at f1;rw[OK (by simp)];cases e:Ih n f
 ·rw[e,OK P3]at f2;rw[OK P3];refine qf func57 call57 ntmps57 results57 ?_;have F:=a;exact UR f0 f1 f2
 rw[e,OL rfl]at f2;rw[OL rfl];refine qf func57 call57 ntmps57 results57 ?_;have F:=a;exact UR f0 f1 f2
def Cw(env:b7)(c:aq)(x:E')(ev:List UInt8)(d n f:Int)(p:Int)(e:AV)(a:cy prog env 57 [Sg [109,97,99,114,111,46,83,101,110,100],aH c, .agg (o' x),I d,I n,I f] (dj p e)):cy prog env 22 [aH c, .agg (o' x), .agg [Sg ev,I d],I n,I f] (dS (dj p e)):=by
 unfold dS kD gz;unfold aH o' at a |-;refine qf func22 call22 ntmps22 results22 ?_;repeat refine nf a ?_
 exact L0
def V4(ev:List UInt8):Bool:= !(ev == [])&& !decide (37< (ev.length:Int))
def Cv(env:b7)(a h:Addr)(i:fk env a h)(c:aq)(x:E')(ev:List UInt8)(g:V4 ev=false)(d n f:Int)(b:cy prog env 57 [Sg [109,97,99,114,111,46,83,101,110,100],aH c, .agg (o' x),I d,I n,I f] gc):cy prog env 22 [aH c, .agg (o' x), .agg [Sg ev,I d],I n,I f] (dS (dj (-1) (b6 a))):=by
 have f1:=nD env a h i [109,97,99,114,111,46,83,101,110,100];unfold dS kD gz;unfold aH o' at b |-;unfold V4 at g;cases e:ev == []
 ·rw[e,Pb,PQ,Pm,OR]at g;refine qf func22 call22 ntmps22 results22 ?_;have F:=ai e g;repeat refine PJ b f1 ?_
  show gu _ _ _ _ _ _;exact aR
 refine qf func22 call22 ntmps22 results22 ?_;have F:=e;repeat refine PJ b f1 ?_
 show gu _ _ _ _ _ _;exact aR
def Gq{env:b7}{w h i j:Addr}{c:aq}{e:Int}(E:Tw env w h i j c e){fu:Nat}{x:E'}{ev:List UInt8}{d:Int}(t:cM c (UF x)=true)(v:x.2.2.2.2=false)(B:aL d=true)(z:fu<=256)(o:V4 ev=true)(l:cy prog env 57 [Sg [109,97,99,114,111,46,83,101,110,100],aH c, .agg (o' x),I d,I e,I fu] gc):
 cy prog env 22 [aH c, .agg (o' x), .agg [Sg ev,I d],I e,I fu] (wE h i j (o7 c e fu x ev d)):=by
 have u:=Ml t B z;have k:=jk E.h E.hs.vars (gI t);have C:=k.act;have D:=k.vars;have G:=k.mem;have f2:=sn env x (by omega) (by omega) (by omega) k.ZI (aG (O3 k.Z4 (by omega)) (by omega));have g:=yL E u v ev;have s:=pF E.h E.hn u v (ev:=ev);unfold V4 at o;rw[OJ,PT,PT,Ov]at o;obtain⟨p,q⟩:=o;unfold o7;rcases r:Sh c e fu (m0 x d) ev with⟨⟨m,_|⟨k,n⟩⟩,b⟩
 ·rw[r]at g s;obtain⟨y,_,_⟩:=s rfl;have f:=wH E y [109,97,99,114,111,46,83,101,110,100];show cy _ _ _ _ (wE h i j (Ug c e fu NM m));simp only at f g;generalize Ug c e fu NM m=X at*;unfold aH o' at l |-;obtain⟨A,V,M,T,O⟩:=x;unfold m0 RQ MT mQ at g;unfold RQ MT at f;simp only at*;rcases X with⟨H,_|⟨k,n⟩⟩
  ·unfold Ie Vk o' at f;unfold wE o';simp only at f |-;refine qf func22 call22 ntmps22 results22 ?_;have F:=jw WQ p q;repeat refine g8 l ?_
   refine iL [(8,9001),(11,9002),(14,9003)] f2 ?_
   iterate 8 (refine st ?_)
   show gu _ _ _ _ _ _;refine dH [(9001,⟨1,A.map aa,3,true⟩),(9002,⟨1,V.map aa,3,true⟩),(9003,⟨2,T.map ew,95,true⟩)] ?_ ?_
   ·exact qe
   refine nC 49 9005 0 6 81 2 ?_;refine nC 49 9004 0 7 3 1 ?_;repeat refine st ?_
   refine iL [(1000,49),(1001,9004),(1002,9005)] g ?_;repeat refine st ?_
   refine iL [(1000,49),(1001,9004),(1002,9005)] f ?_;exact fl
  unfold Ie Vk dS kD gz at f;unfold wE dS kD gz;simp only at f |-;refine qf func22 call22 ntmps22 results22 ?_;have F:=jw WQ p q;repeat refine g8 l ?_
  refine iL [(8,9001),(11,9002),(14,9003)] f2 ?_
  iterate 8 (refine st ?_)
  show gu _ _ _ _ _ _;refine dH [(9001,⟨1,A.map aa,3,true⟩),(9002,⟨1,V.map aa,3,true⟩),(9003,⟨2,T.map ew,95,true⟩)] ?_ ?_
  ·exact qe
  refine nC 49 9005 0 6 81 2 ?_;refine nC 49 9004 0 7 3 1 ?_;repeat refine st ?_
  refine iL [(1000,49),(1001,9004),(1002,9005)] g ?_;repeat refine st ?_
  refine iL [(1000,49),(1001,9004),(1002,9005)] f ?_;exact fl
 rw[r]at g;have f:=pe env (fun a b=>MT c e fu false m fun k=>if k=1001 then a else b) (m.said.map aa) (m.wait.map ew) [109,97,99,114,111,46,83,101,110,100] (n.headD (-1)) (ik n.tail (b6 (if k=2 then h else if k=6 then i else j)));show cy _ _ _ _ (dS (dj (-1) (dj (n.headD (-1)) (ik n.tail (b6 (if k=2 then h else if k=6 then i else j))))));unfold aH o' at l |-;obtain⟨A,V,M,T,O⟩:=x;unfold m0 RQ MT mQ at g;unfold MT dS kD gz at f;unfold dS kD gz;simp only[PW,Nat.reduceEqDiff,P8]at*;refine qf func22 call22 ntmps22 results22 ?_;have F:=jw WQ p q;repeat refine g8 l ?_
 refine iL [(8,9001),(11,9002),(14,9003)] f2 ?_
 iterate 8 (refine st ?_)
 show gu _ _ _ _ _ _;refine dH [(9001,⟨1,A.map aa,3,true⟩),(9002,⟨1,V.map aa,3,true⟩),(9003,⟨2,T.map ew,95,true⟩)] ?_ ?_
 ·exact qe
 refine nC 49 9005 0 6 81 2 ?_;refine nC 49 9004 0 7 3 1 ?_;repeat refine st ?_
 refine iL [(1000,49),(1001,9004),(1002,9005)] g ?_;repeat refine st ?_
 refine iL [(1000,49),(1001,9004),(1002,9005)] f ?_;exact fl
end
section
def LL{n:Int}{fu:Nat}(b:0<=n/\n<=1099511627776)(a:fu<=256):Ih n fu=true:=by
 unfold Ih;simp only[OJ,OR];omega
def DJ{env:b7}{p h i g:Addr}{c:aq}{d:Int}(E:Tw env p h i g c d)(q: ∀v∈c.vars,aL v.start=true){fu:Nat}(s:fu<=256):
 cy prog env 21 [aH c,I d,I fu] (wE h i g (jr c d fu)):=by
 have f0:=qZ env p g E.he [109,97,99,114,111,46,66,101,103,105,110] c d fu;rw[LL E.hn s,OL rfl]at f0;have f1:=EI env p h g c d ⟨E.he,E.h2,E.h,E.hs,rfl,E.hn⟩ q;have n:=ug E.h E.hn s q;have o:=qk E.h E.hn q;have l:=ub c 0 d ⟨[],c.vars.map (·.start),[],[],false,[],[]⟩ (zL (kf c (-1)));change xS (cK c d).2 at l;unfold jr;unfold aH at f0 f1 |-;rcases t:cK c d with⟨r,_|⟨k,f⟩⟩
 ·rw[t]at f1 n o;obtain⟨_,w,_⟩:=o rfl;have n:=n rfl;have j:=BQ env h i g E.he.e8 c d fu (m0 (U4 r) 0) r.outs r.Z1 (O6 _) (O6 _) w.outs w.Z1;unfold vB at f1;simp only at f1 n |-;rcases u:T' (m0 (U4 r) 0) r.outs r.Z1 with⟨m,_|⟨k,f⟩⟩
  ·rw[u]at j n;have e:=wH E (n rfl) [109,97,99,114,111,46,66,101,103,105,110];show cy _ _ _ _ (wE h i g (Ug c d fu NM m));generalize Ug c d fu NM m=X at*;unfold m0 U4 RQ MT mQ at j;unfold RQ MT at e;simp only at j e;rcases X with⟨z,_|⟨k,f⟩⟩
   ·unfold Ie Vk o' at e;unfold wE o';simp only at e |-;refine qf func21 call21 ntmps21 results21 ?_;have F:=Q'.eq_1
    iterate 47 (first|refine st ?_|refine cC f0 ?_|refine cC f1 ?_)
    show gu _ _ _ _ _ _;refine nC 35 9005 0 6 81 2 ?_;refine nC 35 9004 0 7 3 1 ?_;repeat refine st ?_
    refine iL [(1000,35),(1001,9004),(1002,9005)] j ?_;repeat refine st ?_
    refine iL [(1000,35),(1001,9004),(1002,9005)] e ?_;exact fl
   unfold Ie Vk dS kD gz at e;unfold wE dS kD gz;simp only at e |-;refine qf func21 call21 ntmps21 results21 ?_;have F:=Q'.eq_1
   iterate 47 (first|refine st ?_|refine cC f0 ?_|refine cC f1 ?_)
   show gu _ _ _ _ _ _;refine nC 35 9005 0 6 81 2 ?_;refine nC 35 9004 0 7 3 1 ?_;repeat refine st ?_
   refine iL [(1000,35),(1001,9004),(1002,9005)] j ?_;repeat refine st ?_
   refine iL [(1000,35),(1001,9004),(1002,9005)] e ?_;exact fl
  rw[u]at j;have e:=pe env (fun a b=>MT c d fu false m fun k=>if k=1001 then a else b) (m.said.map aa) (m.wait.map ew) [109,97,99,114,111,46,66,101,103,105,110] (f.headD (-1)) (ik f.tail (b6 (if k=2 then h else if k=6 then i else g)));show cy _ _ _ _ (dS (dj (-1) (dj (f.headD (-1)) (ik f.tail (b6 (if k=2 then h else if k=6 then i else g))))));unfold m0 U4 RQ MT mQ at j;unfold MT dS kD gz at e;unfold dS kD gz;simp only[PW,Nat.reduceEqDiff,P8]at j e;refine qf func21 call21 ntmps21 results21 ?_;have F:=Q'.eq_1
  iterate 47 (first|refine st ?_|refine cC f0 ?_|refine cC f1 ?_)
  show gu _ _ _ _ _ _;refine nC 35 9005 0 6 81 2 ?_;refine nC 35 9004 0 7 3 1 ?_;repeat refine st ?_
  refine iL [(1000,35),(1001,9004),(1002,9005)] j ?_;repeat refine st ?_
  refine iL [(1000,35),(1001,9004),(1002,9005)] e ?_;exact fl
 rw[t]at f1 l;have y:=l (k,f) rfl
 have x:cj h g (some (k,f))=dj (f.headD (-1)) (ik f.tail (b6 (if k=2 then h else if k=6 then i else g))):=by
  unfold cj;simp only;rcases y with rfl|rfl<;>rfl
 unfold vB at f1;simp only[x]at f1;have e:=pe env (fun a b=>[.ref 9 [aK c] 0 0,gb,gb,gb,gb,B false, .row 1002 b, .row 1001 a,I 0,B false,I 0,I d,I fu]) [] [] [109,97,99,114,111,46,66,101,103,105,110] (-1) (dj (f.headD (-1)) (ik f.tail (b6 (if k=2 then h else if k=6 then i else g))));show cy _ _ _ _ (dS (dj (-1) (dj (-1) (dj (f.headD (-1)) (ik f.tail (b6 (if k=2 then h else if k=6 then i else g)))))));unfold dS kD gz at e |-;generalize ik f.tail _=V at*;refine qf func21 call21 ntmps21 results21 ?_;have F:=Q'.eq_1
 iterate 47 (first|refine st ?_|refine cC f0 ?_|refine cC f1 ?_)
 show gu _ _ _ _ _ _;refine nC 35 9005 0 6 81 2 ?_;refine nC 35 9004 0 7 3 1 ?_;repeat refine st ?_
 refine iL [(1000,35),(1001,9004),(1002,9005)] e ?_;exact fl
end
section
end
section
def UN.fewI{c:aq}{x:E'}(k:UN c x):LA x/\UH (UF x):=by
 have b:maxLen=9223372036854775807:=rfl;have e:=k.act;have f:=k.vars;have g:=k.mem;have h:=k.Z4;refine⟨⟨⟨by omega,by omega⟩,⟨by omega,fun m a=> ?_⟩,by omega,fun t d=> ?_⟩,⟨show x.1.length<=1000000 by omega,show x.2.1.length<=1000000 by omega,show x.2.2.1.length<=1000000 by omega,show x.2.2.2.1.length<=9223372036854775807 by omega⟩⟩
 ·have:=(k.ZI m a).2;unfold Kz;omega
 have:=k.nms t d;unfold vC;omega
end
section
def od(c:aq)(a:Int)(F:Nat):List (List UInt8×Int)->r5->List r5->Except (Nat×List Int) (r5×List r5)
 |[],m,o=> .ok (m,o)
 | e::l,m,o=>if m.x.2.2.2.2=true then .ok (m,o) else if aL e.2=false\/V4 e.1=false then .error (1,[]) else match o7 c a F m.x e.1 e.2 with
   |(b,none)=>od c a F l b (o++[b])
   |(_,some (k,d))=> .error (k,d.headD (-1)::d.tail)
def IZ(c:aq)(a:Int)(F:Nat)(l:List (List UInt8×Int)):Except (Nat×List Int) (r5×List r5):=match jr c a F with
 |(m,none)=>od c a F l m [m]
 |(_,some (k,b))=> .error (k,b.headD (-1)::b.tail)
def VS(m:r5):List AV:=[cI m.said,I m.steps,B m.x.2.2.2.2]
def sV(a b c d:Addr):Except (Nat×List Int) (r5×List r5)->AV
 | .ok (m,o)=> .tuple [.agg (o' m.x), .seq 3 (o.map VS),gc]
 | .error (k,e)=> .tuple [.agg kD,gb,dj (-1) (dj (-1) (ik e (b6 (if k=1 then a else if k=2 then b else if k=6 then c else d))))]
def qt{c:aq}(h:cD c){a:Int}(e:0<=a/\a<=1099511627776){F:Nat}(f:F<=256)(i: ∀v∈c.vars,aL v.start=true)(d:(jr c a F).2=none):n5 c F (jr c a F).1:=by
 have b:=ug h e f i;unfold jr at d |-;rcases g:cK c a with⟨r,_|y⟩<;>rw[g]at d b
 ·exact(LH h e (fun z=>b rfl z) d).1
 cases d
def Dy{c:aq}(h:cD c){a:Int}(i:0<=a/\a<=1099511627776){F:Nat}(j:F<=256)(l: ∀v∈c.vars,aL v.start=true){e:Nat×List Int}(d:(jr c a F).2=some e):e.1=2\/e.1=6\/e.1=8:=by
 have b:=ug h i j l;have f:=ub c 0 a (g5 c) (zL (kf c (-1)));change xS (cK c a).2 at f;unfold jr at d;rcases k:cK c a with⟨r,_|y⟩<;>rw[k]at d b f
 ·simp only at d b;rcases g:T' (m0 (U4 r) 0) r.outs r.Z1 with⟨m,_|y⟩<;>rw[g]at d b
  ·exact Mj h i (b trivial rfl) _ d
  cases d;unfold T' at g;split at g<;>cases g;exact .inr (.inr rfl)
 cases d;have:=f y rfl;simp only;omega
def n5.x{c:aq}{F:Nat}{m:r5}(h:n5 c F m){d:Int}(a:aL d=true):n5 c F (m0 m.x d):=Ml h.inst a h.ZJ
def Cx(env:b7)(c:aq)(l:List (List UInt8×Int))(n f:Int)(p:Int)(e:AV)(a:cy prog env 21 [aH c,I n,I f] (dS (dj p e))):cy prog env 7 [aH c, .seq 2 (l.map ew),I n,I f] (.tuple [.agg kD,gb,dj (-1) (dj p e)]):=by
 have f1:=du env [109,97,99,114,111,46,80,108,97,121] p e;unfold dS kD gz at a;unfold kD;unfold aH at a |-;refine qf func7 call7 ntmps7 results7 ?_;repeat refine E8 a f1 ?_
 exact L0
def Gt{env:b7}{g u w a7 h:Addr}{c:aq}{a:Int}(E:Tw env g u w h c a)(h7:env 1=some (b6 a7))(hv: ∀v∈c.vars,aL v.start=true){fu:Nat}(Q:fu<=256)(l:List (List UInt8×Int))(hl:l.length<=1000):
 cy prog env 7 [aH c, .seq 2 (l.map ew),I a,I fu] (sV g u w h (IZ c a fu l)):=by
 have J:=DJ E hv Q;have L:=qt E.h E.hn Q hv;have f1:=fun p e=>du env [109,97,99,114,111,46,80,108,97,121] p e
 have z: ∀(m:r5)(f:n5 c fu m)(d:m.x.2.2.2.2=false)(e:List UInt8×Int),((aL e.2=false\/V4 e.1=false)/\cy prog env 22 [aH c, .agg (o' m.x), .agg [Sg e.1,I e.2],I a,I fu] (dS (dj (-1) (b6 g))))\/(¬(aL e.2=false\/V4 e.1=false)/\cy prog env 22 [aH c, .agg (o' m.x), .agg [Sg e.1,I e.2],I a,I fu] (wE u w h (o7 c a fu m.x e.1 e.2))):=fun m f d e=>by
  have kI:=jk E.h E.hs.vars (gI f.inst);have knm: ∀t∈m.x.2.2.2.1,t.1.length<=9223372036854775807:=fun t ht=>O3 (kI.nms t ht) (by omega);have P:=AD env g a7 h E.he h7 c E.h E.hs m.x kI.fewI.2 knm kI.ZI [109,97,99,114,111,46,83,101,110,100] e.2 a fu;cases r:aL e.2
  ·rw[show Kp g a7 c m.x e.2 a fu=dj (-1) (b6 g) by unfold Kp;rw[f.inst,d,r];rfl]at P;exact .inl ⟨.inl rfl,Cw env c m.x e.1 e.2 a fu _ _ P⟩
  rw[show Kp g a7 c m.x e.2 a fu=gc by unfold Kp;rw[f.inst,d,r,LL E.hn Q];rfl]at P;cases T:V4 e.1
  ·exact .inl ⟨.inr rfl,Cv env g h E.he c m.x e.1 T e.2 a fu P⟩
  exact .inr ⟨by simp,Gq E f.inst d r Q T P⟩
 have M:=fun(m:r5)(f:n5 c fu m)(d:m.x.2.2.2.2=false)(e:List UInt8×Int)(r:aL e.2=true)=>Ee E.h E.hn (f.x r) d (ev:=e.1);have hser:=fun(m:r5)(f:n5 c fu m)(d:m.x.2.2.2.2=false)(e:List UInt8×Int)(r:aL e.2=true)=>Lc E.h E.hn (f.x r) d (ev:=e.1);have K:=fun e=>Dy E.h E.hn Q hv (e:=e);have U: ∀k:Nat,(k=2\/k=6\/k=8)->(if k=1 then g else if k=2 then u else if k=6 then w else h)=(if k=2 then u else if k=6 then w else h):=fun k hk=>by rw[OK (by omega)]
 unfold IZ;rcases hB:jr c a fu with⟨m,_|⟨k,s⟩⟩
 case some=>
  rw[hB]at J K;have f2:=Cx env c l a fu _ _ J;show cy _ _ _ _ (.tuple [.agg kD,gb,dj (-1) (dj (-1) (dj (s.headD (-1)) (ik s.tail (b6 (if k=1 then g else if k=2 then u else if k=6 then w else h)))))]);rw[U k (K _ rfl)];exact f2
 rw[hB]at J L;have f:=L rfl;simp only at f;show cy _ _ _ _ (sV g u w h (od c a fu l m [m]));obtain⟨X,b⟩: ∃X,od c a fu l m [m]=X:=⟨_,rfl⟩;rw[b];try clear hB L K
 unfold wE o' at J;unfold aH at J z |-;simp only at J;refine qf func7 call7 ntmps7 results7 ?_;repeat refine nf J ?_
 refine aN (D:=Nat×r5×List r5) (fun y vs=>[(0, .ref 9 [aK c] 0 0),(2,I a),(3,I fu),(8, .loc 8 (vs 8) 0 0),(11, .loc 11 (vs 11) 0 0),(12, .loc 12 (vs 12) 0 0),(14, .row 31 (vs 31)),(32, .seq 2 (l.map ew)),(33,I l.length),(34,I y.1)]) (fun y _=>[(8,⟨5,[[gb,gb,gb,gb,B false]],39,false⟩),(11,⟨5,[o' y.2.1.x],39,false⟩),(12,⟨3,[VS y.2.1],77,false⟩),(31,⟨3,y.2.2.map VS,77,true⟩)]) (fun y _ G=>(y.1<=l.length/\n5 c fu y.2.1/\od c a fu (l.drop y.1) y.2.1 y.2.2=X/\y.2.2.length=y.1+1)/\G 8=false/\G 11=false/\G 12=false/\G 31=false) (fun y=>l.length-y.1) (0,m,[m]) ?_ ?_ ?_ ?_
 ·exact⟨⟨O6 _,f,b,rfl⟩,by simp only[go_sem,O8]⟩
 ·exact Wg
 ·have F:=o'.eq_1
  (simp only[go_sem,VS,F])
  try rfl
 try clear f b
 rintro⟨i,m,o⟩ us es ⟨⟨hi,f,b,W⟩,N,j,n,q⟩;simp only at hi f b W;by_cases H:i<l.length
 ·obtain⟨e,S⟩:=gE H;have O:=mc H;have k2:=aD H (by omega);rw[bV S]at b;unfold od at b;have eo:VS m=[cI m.said,I m.steps,B m.x.2.2.2.2]:=rfl;rw[eo];unfold o';by_cases d:m.x.2.2.2.2=true
  ·rw[OL d]at b;subst b;unfold sV o';simp only;have F:=y' WT S O k2 d N j n q;exact fl
  rw[OK d]at b;have d:m.x.2.2.2.2=false:=by simpa using d
  rcases z m f d e with⟨R,x⟩|⟨A,x⟩
  ·rw[OL R]at b;subst b;have f2:=f1 (-1) (b6 g);show gu _ _ _ _ _ _;unfold sV ik kD;unfold dS kD gz o' at x;simp only[List.foldr_nil,PW];have F:=y' WT S O k2 d N j n q;exact po x f2
  rw[OK A]at b
  have r:aL e.2=true:=by
   cases r:aL e.2
   ·exact absurd (.inl r) A
   rfl
  have Y:=M m f d e r;have Z:=hser m f d e r;rcases hS:o7 c a fu m.x e.1 e.2 with⟨C,_|⟨k,s⟩⟩
  ·rw[hS]at b x Y;have hm2:n5 c fu C:=Y rfl;simp only at b;have q1:ek (o.length+1) 40:=aG (by omega) (by omega);have q2:(o++[C]).map VS=o.map VS++[[cI C.said,I C.steps,B C.x.2.2.2.2]]:=by rw[Oa];rfl
   unfold wE o' at x;simp only at x;have F:=zs WT S O k2 q1 d N j n q;repeat refine g8 x ?_
   refine⟨(i+1,C,o++[C]),⟨⟨H,hm2,b,by simp[W]⟩,by simp only[go_sem,N,j,n,q,O8]⟩,?_,?_,by simp only;omega⟩
   ·exact qe
   have eo2:VS C=[cI C.said,I C.steps,B C.x.2.2.2.2]:=rfl;have F:=jw W8 q2 eo2;exact qe
  rw[hS]at b x Z;subst b;have f2:=f1 (-1) (dj (s.headD (-1)) (ik s.tail (b6 (if k=2 then u else if k=6 then w else h))));show gu _ _ _ _ _ _;unfold wE dS kD gz o' at x
  have e0:sV g u w h (.error (k,s.headD (-1)::s.tail))= .tuple [.agg [gb,gb,gb,gb,B false],gb,dj (-1) (dj (-1) (dj (s.headD (-1)) (ik s.tail (b6 (if k=2 then u else if k=6 then w else h)))))]:=by
   show AV.tuple [.agg kD,gb,dj (-1) (dj (-1) (dj (s.headD (-1)) (ik s.tail (b6 (if k=1 then g else if k=2 then u else if k=6 then w else h)))))]=_;rw[U k (Z _ rfl)];rfl
  simp only[e0];simp only at x;generalize ik s.tail _=V at*;have F:=y' WT S O k2 d N j n q;exact po x f2
 obtain rfl:i=l.length:=by omega
 have O:=nl l.length;rw[Q3]at b;unfold od at b;subst b;have eo:VS m=[cI m.said,I m.steps,B m.x.2.2.2.2]:=rfl;rw[eo];unfold sV o';simp only;have F:=ld O N j n q;exact fl
end
end Go.Proofs.YtfcdkaolcdglmaaGreatDoor
