/- Is a state finished? -/
import Derived.Test.YtfhkmjbjafeckaaGreatDoorP25
set_option maxRecDepth 100000
set_option maxHeartbeats 16000000
set_option linter.unusedSimpArgs false
set_option linter.defProp false
namespace Go.Proofs.YtfhkmjbjafeckaaGreatDoor
open Go.Proofs.Tryz
open Go.RowKit
section
def L5.seq{S:Nat->Nat->Prop}{w:World}{base:Nat}{v:Value}{e:TypeId}{sz:Nat}{es:List (List AV)}(h:L5 S w base v e sz es):
 ∃S':Nat->Nat->Prop,(∀b o,S b o->S' b o)/\(∀b o,S' b o->S b o\/(base<=b/\b<w.heap.size))/\RV S' w v (.seq sz es):=by
 obtain⟨l,s,z,B,_⟩:=h;obtain⟨S',f⟩: ∃S':Nat->Nat->Prop,S'=fun b o=>S b o\/v.ownBlock=some b:=⟨_,rfl⟩;have d: ∀b o,S b o->S' b o/\k9 w w b o:=fun b o a=>⟨by rw[f];exact .inl a, .rfl⟩;refine⟨S',fun b o a=>(d b o a).1,fun b o a=> ?_,?_⟩
 ·rw[f]at a;exact a.imp id fun a=>bi s a
 rcases s.2 with⟨rfl,D⟩|⟨g,p,A,rfl,E,G,r,_,_,t⟩
 ·have q:es=[]:=Np D;subst q;exact .seq none 0 0 sz [] 0 0 (fun _ _=>undef) rfl (NC _) (fun a=>by omega) (fun i e C=>by simp at C) (fun i j c a=>by simp[bs]at a) (fun i j c a=>by simp[bs]at a)
 have k:=B;refine .seq (some ⟨g,0,none⟩) es.length p sz es g 0 (fun i j=>l.getD (i*sz+j) undef) rfl r (fun _=>rfl) k.ZS (fun i j c m=> ?_) fun i j c m=> ?_
 ·obtain⟨u,n,y⟩:=k.cell i j c m;have x:l.getD (i*sz+j) undef=u:=by simp[List.getD,n]
  rw[x,OM];exact⟨by rw[f];exact .inr rfl,ig s rfl _ u n,k.one u (Mv n)⟩
 obtain⟨u,n,y⟩:=k.cell i j c m;have x:l.getD (i*sz+j) undef=u:=by simp[List.getD,n]
 rw[x];exact y.mono d
def Sd.seen{P:Program}{env:b8}{f:FuncId}{cs:List AV}{e:TypeId}{sz:Nat}{es:List (List AV)}(h:Sd P env f cs (.own e sz es)):Sd P env f cs (.seq sz es):=by
 refine⟨h.enter,fun w S p d j l=>(h.calls w S p d j l).mono ?_⟩;rintro r t ⟨v,rfl,g,q,c,k⟩;obtain⟨a,s,m,n⟩:=L5.seq k;exact⟨v,rfl,g,a,fun b o i=>(m b o i).elim (c b o) id,n⟩
def lf(c:aq)(d now:Int)(M:List (List AV))(o:Bool)(g:Nat->Nat):List AV:=[.row 1001 (g 1001), .row 1002 (g 1002), .seq 2 M, .row 1003 (g 1003),B o, .row 1004 (g 1004), .row 1005 (g 1005), .ref 9 [ct c] 0 0,Sg c.name,I c.initial,pf c.vars,qa c.Z9,sT c.trans,I d,I now]
def Uz:=@lf.eq_1
def RY(c:aq)(d now:Int)(r:cD)(g:Nat->Nat):List (Nat×Row):=[(1000,⟨15,[lf c d now (r.mem.map fe) r.over g],150,false⟩),(1001,⟨1,r.act.map aa,3,true⟩),(1002,⟨1,r.vars.map aa,3,true⟩),(1003,⟨2,r.Z1.map c0,98,true⟩),(1004,⟨1,r.outs.map aa,3,true⟩),(1005,⟨2,r.Z7.map c0,50,true⟩)]
def UA:=@RY.eq_1
def ph(k:Nat):Bool:=k==1001||(k==1003||(k==1004||k==1005))
def UC:=@ph.eq_1
def cr(b c:Addr):tD->AV
 |none=>h9
 |some (k,a)=>dt (a.headD (-1)) (gc a.tail (bx (if k=2 then b else c)))
def fB(a b:Addr)(e:tD)(L:Nat->Nat->Option (Nat×Nat)):(cr a b e).ren L=cr a b e:=by rcases e with _|⟨_,_⟩<;>rfl
def Cb(env:b8)(c:aq)(m:c.Z9.length<=4000)(d now:Int)(r:cD)(n:r.act.length<=1000000):ip prog env 232 [1000,1001,1002,1003,1004,1005] (fun _=>false) (fun g=>[.loc 1000 (g 1000) 0 0]) (RY c d now r) (RY c d now r) (fun g=>Ty (Ti c d r) g):=by
 have f0:=j7 env c m r.act n;have f0:=(f0.lend (al (fun _=>rfl) _)).seen;have l:(Ti c d r).act.map C'=kE c.Z9.length r.act:=yd c r.act r.vars d;unfold Ty;rw[l];show ip _ _ _ _ _ _ _ _ fun g=> .agg [.row 1002 (g 1002),I d, .seq 1 (kE c.Z9.length r.act)];unfold aG at f0;generalize kE c.Z9.length r.act=L at*;refine qi func232 call232 ntmps232 results232 ?_;intro o k a;obtain⟨b,e,f,h,i,j⟩:=Sf a;have F:=n4 UA Uz b e f h i j;repeat refine st ?_
 refine lL f0 ?_;repeat refine st ?_
 exact rI
def GM(env:b8)(G:List UInt8)(x:List UInt8×Int):b7 prog env 290 [.agg (c0 x), .ref 1 [[Sg G]] 0 0] (B (x.1==G)):=by
 have a:(x.1==G)=(x.1.toArray==G.toArray):=by rw[N4];simp
 unfold c0;refine qf func290 call290 ntmps290 results290 ?_;repeat refine m9 ?_
 exact oj
def BJ(env:b8)(c:aq)(d now:Int)(r:cD)(l:r.Z1.length<=4096)(s:List UInt8):ip prog env 261 [1000,1001,1002,1003,1004,1005] ph (fun g=>[.loc 1000 (g 1000) 0 0,Sg s]) (RY c d now r) (RY c d now { r with Z1:=eg r.Z1 s }) (fun _=> .lit (.tuple #[])):=by
 have f0:ip prog env _ _ _ _ _ (fun _=>[(1000,⟨2,(eg r.Z1 s).map c0,98,true⟩),_]) _:=yY env r.Z1 (fun x=>x.1==s) 290 s 9 (GM env s) l;generalize eg r.Z1 s=L at*;refine qi func261 call261 ntmps261 results261 ?_;intro m k a;have b:=a 1000 (by simp);have e:=a 1001 (by simp);have f:=a 1002 (by simp);have h:=a 1003 (by simp);have i:=a 1004 (by simp);have j:=a 1005 (by simp);have F:=qr UA Uz UC b e f h i j;repeat refine st ?_
 refine iL [(1000,1003),(1001,3)] f0 ?_;repeat refine st ?_
 exact rN
def uf(env:b8)(a:Addr)(c:env 7=some (bx a)):b7 prog env 228 [] (dt (-1) (bx a)):=by
 have b:=iT c;have f0:=bl env [109,105,99,114,111,46,100,111] a;refine qf func228 call228 ntmps228 results228 ?_;have F:=b;exact hH f0
def wW(env:b8)(o b:Addr)(p:env 7=some (bx b))(c:aq)(d now:Int)(r:cD)(s:List UInt8)(v:Int):ip prog env 176 [1000,1001,1002,1003,1004,1005] ph (fun g=>[.loc 1000 (g 1000) 0 0,Sg s,I v]) (RY c d now r) (RY c d now (gs r s v).1) (fun _=>cr o b (gs r s v).2):=by
 have f0:=uf env b p;unfold gs;by_cases n:16<=r.Z7.length
 ·rw[Mw n];have m:(16:Int)<=(r.Z7.length:Int):=by omega
  show ip _ _ _ _ _ _ _ _ fun _=>dt (-1) (bx b);refine qi func176 call176 ntmps176 results176 ?_;intro t l a;obtain⟨e,f,h,i,j,k⟩:=Sf a;have F:=lE UA Uz UC m e f h i j k;repeat refine fc f0 ?_
  exact rI
 rw[Mt n];have m: ¬(16:Int)<=(r.Z7.length:Int):=by omega
 have q:cU (r.Z7.length+1) 24:=aC (by omega) (by omega);show ip _ _ _ _ _ _ _ _ fun _=>h9;unfold RY;simp only[NA,Nh,O5];refine qi func176 call176 ntmps176 results176 ?_;intro t l a;obtain⟨e,f,h,i,j,k⟩:=Sf a;have F:=ql Uz UG UC m q e f h i j k;repeat refine st ?_
 exact rI
def GR(env:b8)(n o:Addr)(z:env 1=some (bx n))(p:env 7=some (bx o))(c:aq)(d now:Int)(H:0<=now/\now<=1099511627776)(r:cD)(x:ff c r)(s:List UInt8)(v:Int):ip prog env 263 [1000,1001,1002,1003,1004,1005] ph (fun g=>[.loc 1000 (g 1000) 0 0,Sg s,I v]) (RY c d now r) (RY c d now (BY now r s v).1) (fun _=>cr n o (BY now r s v).2):=by
 have f0:=uf env o p;have f1:=BJ env c d now r (by have:=x.ZM;omega) s;have f2:=bl env [109,105,99,114,111,46,115,116,97,114,116] n;have w:=iT z;have q:IntKind.i64.wrap (1099511627776-now)=1099511627776-now:=aW (by omega) (by omega);unfold BY;by_cases y:v<0\/1099511627776-now<v
 ·rw[Mw y];show ip _ _ _ _ _ _ _ _ fun _=>dt (-1) (bx n);by_cases b:v<0
  ·refine qi func263 call263 ntmps263 results263 ?_;intro u m a;obtain⟨f,h,i,j,k,l⟩:=Sf a;have F:=ql UA Uz UC b w f h i j k l;repeat refine fc f2 ?_
   exact rI
  have e:1099511627776-now<v:=by omega
  refine qi func263 call263 ntmps263 results263 ?_;intro u m a;obtain⟨f,h,i,j,k,l⟩:=Sf a;have F:=ed UA Uz UC b e q w f h i j<|ai k l;repeat refine fc f2 ?_
  exact rI
 rw[Mt y];have b: ¬v<0:=by omega
 have e: ¬1099511627776-now<v:=by omega
 by_cases p:8<=(eg r.Z1 s).length
 ·rw[Mw p];have t:(8:Int)<=((eg r.Z1 s).length:Int):=by omega
  show ip _ _ _ _ _ _ _ _ fun _=>dt (-1) (bx o);generalize eg r.Z1 s=L at*;unfold RY lf at f1;refine qi func263 call263 ntmps263 results263 ?_;intro u m a;obtain⟨f,h,i,j,k,l⟩:=Sf a;have F:=ed UA Uz UC b e q t f h i j<|ai k l;repeat refine st ?_
  refine iL L6 f1 ?_;repeat refine fc f0 ?_
  exact rI
 rw[Mt p];have t: ¬(8:Int)<=((eg r.Z1 s).length:Int):=by omega
 have D:cU ((eg r.Z1 s).length+1) 24:=aC (by omega) (by omega);have E:IntKind.i64.wrap (now+v)=now+v:=aW (by omega) (by omega);have A:=GH (s,now+v) (eg r.Z1 s) (x.Z1.without s).ZZ sC (by omega);have B:bO ((eg r.Z1 s++[(s,now+v)]).map pY)=(eg r.Z1 s).map c0++[[Sg s,I (now+v)]]:=by rw[Bg,NA];rfl
 have C:=Bg (tg (s,now+v) (eg r.Z1 s));show ip _ _ _ _ _ _ _ _ fun _=>h9;generalize tg (s,now+v) (eg r.Z1 s)=G at*;generalize eg r.Z1 s=L at*;unfold RY lf at f1;refine qi func263 call263 ntmps263 results263 ?_;intro u m a;obtain⟨f,h,i,j,k,l⟩:=Sf a;have F:=ed UA Uz UC b e q t D E f h<|hU i j k l;repeat refine st ?_
 refine iL L6 f1 ?_;repeat refine st ?_
 refine xw 1003 rfl (row:=⟨2,L.map c0++[[Sg s,I (now+v)]],98,true⟩) (by simp only[go_sem]<;>exact iR) (by simp only[go_sem]<;>exact iR) (by simp only[go_sem]<;>exact iR) A B.symm rfl (Nf 1) (by simp only[go_sem];exact iR) ?_;rw[C];repeat refine st ?_
 exact rI
end
section
def MI(env:b8)(I o p:Addr)(A:fU env I p)(J:env 1=some (bx o))(c:aq)(Q:c.Z9.length<=4000)(E:c.vars.length<=1000000)(d now:Int)(R:aL d=true)(T:0<=now/\now<=1099511627776)(r:cD)(t:ff c r)(S:r.act.length<=1000000)(a:j')(m:gM c.vars.length c.Z9.length a=true):
 ip prog env 227 [1000,1001,1002,1003,1004,1005] ph (fun g=>[.loc 1000 (g 1000) 0 0, .agg (bB a)]) (RY c d now r) (RY c d now (Sl c d now r a).1) (fun _=>cr o p (Sl c d now r a).2):=by
 unfold Sl;by_cases y:a.kind=5
 ·rw[Mw y];have f1:=BJ env c d now r (by have:=t.ZM;omega) a.name;show ip _ _ _ _ _ _ _ _ fun _=>h9;generalize eg r.Z1 a.name=L at*;have n:(a.kind==5)=true:=by simp[y]
  unfold RY lf at f1;refine qi func227 call227 ntmps227 results227 ?_;intro w l b;obtain⟨e,f,h,i,j,k⟩:=Sf b;have F:=ed UF UA Uz UC fB n e f h i j k;repeat refine st ?_
  refine iL L6 f1 ?_;repeat refine st ?_
  exact rI
 rw[Mt y]
 have q:br a.code c.vars.length c.Z9.length=true:=by
  unfold gM at m;repeat' split at m
  all_goals (first|(exact absurd ‹a.kind=5› y)|(simp only[Mu]at m;exact m.2)|cases m)
 have f1:=Cb env c Q d now r S;have f2:=Hq env I o p A J (Ti c d r) (E3 t R) (by show r.vars.length<=_;rw[t.len];exact E) a.code (by rw[show (Ti c d r).act.length=c.Z9.length from pH c r.act r.vars d,show (Ti c d r).vars.length=c.vars.length from t.len];exact q);have V:(Ti c d r).vars=r.vars:=rfl;generalize (Ti c d r)=W at*;have n:(a.kind==5)=false:=by simp[y]
 unfold Ty at f1 f2;unfold vW at f2;rw[V]at f2;cases N:k8 W a.code with
 | none=>
   have f3:=i7 env [109,105,99,114,111,46,100,111] (-1) (bx o);rw[N]at f2;unfold ji at f2;show ip _ _ _ _ _ _ _ _ fun _=>dt (-1) (dt (-1) (bx o));simp only;unfold RY lf at f1;refine qi func227 call227 ntmps227 results227 ?_;intro w l b;obtain⟨e,f,h,i,j,k⟩:=Sf b;have F:=ed UF UA Uz UC fB n e f h i j k;repeat refine st ?_
   refine iL L6 f1 ?_;repeat refine st ?_
   refine iL [(1002,1002)] f2 ?_;repeat refine fc f3 ?_
   exact rI
 | some v=>
   rw[N]at f2;unfold ji at f2;simp only;have O:=wW env o p A.e8 c d now r a.name v;have P:=GR env o p J A.e8 c d now T r t a.name v;have r2:=uf env p A.e8;by_cases z:a.kind=1
   ·rw[Mw z];have u:(a.kind==1)=true:=by simp[z]
    obtain⟨G,U⟩:0<=a.n/\a.n<c.vars.length:=by
     unfold gM at m;rw[Mw z]at m;simp only[Mu,NF]at m;exact m.1.1
    have K:=t.len;have s:a.n< (r.vars.length:Int):=by omega
    obtain⟨x,Y⟩: ∃x,r.vars[a.n.toNat]? =some x:=⟨r.vars[a.n.toNat]'(by omega),Mq _⟩;show ip _ _ _ _ _ _ _ _ fun _=>h9;unfold RY lf at f1;unfold RY;simp only[QC];refine qi func227 call227 ntmps227 results227 ?_;intro w l b;obtain⟨e,f,h,i,j,k⟩:=Sf b;have F:=ed UF UE Uz UC fB n u s G Y e<|g9 f h i j k;repeat refine st ?_
    refine iL L6 f1 ?_;repeat refine st ?_
    refine iL [(1002,1002)] f2 ?_;repeat refine st ?_
    exact rI
   rw[Mt z];have u:(a.kind==1)=false:=by simp[z]
   by_cases B:a.kind=2
   ·rw[Mw B];have s:(a.kind==2)=true:=by simp[B]
    generalize gs r a.name v=X at*;unfold RY lf at f1 O;refine qi func227 call227 ntmps227 results227 ?_;intro w l b;obtain⟨e,f,h,i,j,k⟩:=Sf b;have F:=ed UF UA Uz UC fB n u s e f h<|gb i j k;repeat refine st ?_
    refine iL L6 f1 ?_;repeat refine st ?_
    refine iL [(1002,1002)] f2 ?_;repeat refine st ?_
    refine iL L6 O ?_;repeat refine st ?_
    exact rI
   rw[Mt B];have s:(a.kind==2)=false:=by simp[B]
   by_cases C:a.kind=4
   ·rw[Mw C];have D:(a.kind==4)=true:=by simp[C]
    generalize BY now r a.name v=X at*;unfold RY lf at f1 P;refine qi func227 call227 ntmps227 results227 ?_;intro w l b;obtain⟨e,f,h,i,j,k⟩:=Sf b;have F:=ed UF UA Uz UC fB n u s D e f<|hU h i j k;repeat refine st ?_
    refine iL L6 f1 ?_;repeat refine st ?_
    refine iL [(1002,1002)] f2 ?_;repeat refine st ?_
    refine iL L6 P ?_;repeat refine st ?_
    exact rI
   rw[Mt C];have D:(a.kind==4)=false:=by simp[C]
   unfold KD;by_cases M:256<=r.outs.length
   ·rw[Mw M];have H:(256:Int)<=(r.outs.length:Int):=by omega
    show ip _ _ _ _ _ _ _ _ fun _=>dt (-1) (bx p);unfold RY lf at f1;refine qi func227 call227 ntmps227 results227 ?_;intro w l b;obtain⟨e,f,h,i,j,k⟩:=Sf b;have F:=ed UF UA Uz UC fB n u s D H e<|g9 f h i j k;repeat refine st ?_
    refine iL L6 f1 ?_;repeat refine st ?_
    refine iL [(1002,1002)] f2 ?_;repeat refine fc r2 ?_
    exact rI
   rw[Mt M];have H: ¬(256:Int)<=(r.outs.length:Int):=by omega
   have Z:cU (r.outs.length+1) 8:=aC (by omega) (by omega);show ip _ _ _ _ _ _ _ _ fun _=>h9;unfold RY lf at f1;unfold RY;simp only[NA,Nh,O5];refine qi func227 call227 ntmps227 results227 ?_;intro w l b;obtain⟨e,f,h,i,j,k⟩:=Sf b;have F:=ed UF UE Uz UC fB n u s D H Z<|i' e f h i j k;repeat refine st ?_
   refine iL L6 f1 ?_;repeat refine st ?_
   refine iL [(1002,1002)] f2 ?_;repeat refine st ?_
   exact rI
structure AT(env:b8)(a1 a2 a8:Addr)(c:aq)(d now:Int):Prop where
 he:fU env a1 a8
 h2:env 1=some (bx a2)
 h:ch c
 hs:g7 c
 hd:aL d=true
 hn:0<=now/\now<=1099511627776
def C8{c:aq}{d now:Int}{r:cD}{l:List j'}{j:Nat}{a:j'}(e:l[j]? =some a):l' c d now r (l.drop j)=match Sl c d now r a with
 |(b,none)=>l' c d now b (l.drop (j+1))
 |x=>x:=by
 rw[au e]
 conv=>lhs;unfold l'
 rcases Sl c d now r a with⟨b,_|_⟩<;>rfl
def zU(env:b8)(P B C:Addr)(c:aq)(d now:Int)(E:AT env P B C c d now)(r:cD)(y:ff c r)(H:r.act.length<=1000000)(l:List j')(X:l.length<=1000)(u: ∀a∈l,gM c.vars.length c.Z9.length a=true):
 ip prog env 175 [1000,1001,1002,1003,1004,1005] ph (fun g=>[.loc 1000 (g 1000) 0 0, .seq 4 (l.map bB)]) (RY c d now r) (RY c d now (l' c d now r l).1) (fun _=>cr B C (l' c d now r l).2):=by
 have R:=E.h.Z6;have V:=E.hs.vars;have G:=fun(r:cD) y H (a:j') u=>MI env P B C E.he E.h2 c (by omega) (by omega) d now E.hd E.hn r y H a u;have J:=fun(r:cD)(y:ff c r)(a:j') u=>K4 E.hd E.hn y (a:=a) u;refine qi func175 call175 ntmps175 results175 ?_;intro T U w;obtain⟨m,n,o,p,q,s⟩:=Sf w;have F:=qr UA Uz UC m n o p q s;repeat refine st ?_
 refine lp (D:=Nat×cD) (fun x f=>[(0, .loc 1000 (f 1000) 0 0),(8, .seq 4 (l.map bB)),(9,I l.length),(10,I x.1)]) (fun x f=>RY c d now x.2 f) (fun x f e=>(x.1<=l.length/\l' c d now r l=l' c d now x.2 (l.drop x.1)/\ff c x.2/\x.2.act=r.act)/\(f 1000=T 1000/\f 1002=T 1002)/\e 1000=false/\e 1001=false/\e 1002=false/\e 1003=false/\e 1004=false/\e 1005=false) (fun x=>l.length-x.1) (0,r) ⟨⟨NG _,rfl,y,rfl⟩,by simp only[go_sem,NH],by simp only[go_sem,m,n,o,p,q,s,NH]⟩ ?_;try clear m n o p q s
 rintro⟨j,M⟩ ws Z ⟨⟨W,b,t,h⟩,⟨N,O⟩,m,n,o,p,q,s⟩;simp only at W b t h;by_cases i:j<l.length
 ·obtain⟨a,z⟩:=gE i;have v:=u a (Mv z);have f0:=G M t (by rw[h];exact H) a v;obtain⟨K,L⟩:=J M t a v;have A:=it i;have S:=aD i (by omega);rw[C8 z]at b;rcases Q:Sl c d now M a with⟨Y,_|⟨k,ps⟩⟩
  ·rw[Q]at b f0 K L;simp only at b K L;unfold cr RY lf at f0;simp only at f0;unfold bB at f0;have F:=ed UF UA Uz UC z A S m n o p<|ai q s;repeat refine st ?_
   refine iL L6 f0 ?_;repeat refine st ?_
   refine⟨(j+1,Y),⟨⟨i,b,K,L.act.trans h⟩,?_,?_⟩,?_,?_,?_⟩
   ·simp only[go_sem,N,O,NH]
   ·simp only[go_sem,m,n,o,p,q,s,NH]
   ·exact qe
   ·exact qe
   simp only;omega
  rw[Q]at b f0;simp only at b;rw[b];unfold cr RY lf at f0;unfold bB at f0;simp only at f0;show fp _ _ _ _ _ _;unfold cr;simp only;have F:=ed UF UA Uz UC z A S N O m n<|hU o p q s;repeat refine st ?_
  refine iL L6 f0 ?_;repeat refine st ?_
  exact rI
 obtain rfl:j=l.length:=by omega
 have A:=nl l.length;rw[ON]at b;rw[b];unfold l';show fp _ _ _ _ _ _;unfold cr;simp only;have F:=ed UA Uz UC A N O m n o p q s;repeat refine st ?_
 exact rI
end
section
def Hi(n:Nat)(act:List Int)(j:Nat)(a:j<n):(((List.range j).map fun k:Nat=>[B (act.contains (k:Int))])++List.replicate (n-j) [B false]).set j [B (act.contains (j:Int))]=((List.range (j+1)).map fun k:Nat=>[B (act.contains (k:Int))])++List.replicate (n-(j+1)) [B false]:=by
 rw[List.set_append_right _ _ (by simp)];simp only[NQ,Po,QQ];rw[show n-j=(n-(j+1))+1 by omega,List.replicate_succ,List.set_cons_zero,PN,NA,Nl];rfl
def sS(env:b8)(c:aq)(y:c.Z9.length<=4000)(x:nw)(o:x.1.length<=1000000)(d:Int):b7 prog env 223 [.agg (aA c), .agg (hP x),I d] (.agg (dw (L' c x.1 x.2.1 d))):=by
 have q: ¬(16777216:Int)< (c.Z9.length:Int):=by omega
 have s: ¬(c.Z9.length:Int)<0:=by omega
 have t: ¬(281474976710656:Int)< (c.Z9.length:Int):=by omega
 have r: ¬(281474976710656:Int)<1*(c.Z9.length:Int):=by omega
 unfold dw;rw[yd];show b7 _ _ _ _ (.agg [cf x.2.1,I d, .seq 1 (kE c.Z9.length x.1)]);unfold kE;unfold hP;have i: ∀j,j<=c.Z9.length->(((List.range j).map fun k:Nat=>[B (x.1.contains (k:Int))])++List.replicate (c.Z9.length-j) [B false]).length=c.Z9.length:=fun j n=>by simp;omega
 refine qf func223 call223 ntmps223 results223 ?_;have F:=g9 Uv q r s t;repeat refine st ?_
 refine aH (D:=Nat) (fun j e=>[(3, .loc 3 (e 3) 0 0),(4, .loc 4 (e 4) 0 0),(6, .loc 6 (e 6) 0 0),(7, .loc 7 (e 7) 0 0),(8,I j)])
  (fun j e=>[(3,⟨5,[aA c],26,false⟩),(4,⟨5,[[cf x.1,cf x.2.1, .seq 2 (x.2.2.1.map fe), .seq 2 (x.2.2.2.1.map c0),B x.2.2.2.2]],37,false⟩),(6,⟨3,[[cy,I 0,cy]],165,false⟩),(7,⟨3,[[cf x.2.1,I d, .row 15 (e 15)]],165,false⟩),(15,⟨1,((List.range j).map fun k:Nat=>[B (x.1.contains (k:Int))])++List.replicate (c.Z9.length-j) [B false],4,true⟩)])
  (fun j _ b=>j<=c.Z9.length/\b 15=false/\b 6=false) (fun j=>c.Z9.length-j) 0 ?_ ?_ ?_ ?_
 ·exact⟨NG _,by simp only[go_sem],by simp only[go_sem]⟩
 ·exact qe
 ·have F:=gb Uv List.range_zero Pb
  (simp only[go_sem,F])
  try rfl
 rintro j z b ⟨n,g,h⟩;have f:=i j n;by_cases a:j<c.Z9.length
 ·have m:=it a;have u:=aD a (by omega);have f0:=cK env x.1 j o;have l:=Hi c.Z9.length x.1 j a
  have sm: ∃v,(((List.range j).map fun k:Nat=>[B (x.1.contains (k:Int))])++List.replicate (c.Z9.length-j) [B false])[j]? =some [v]:=by
   rw[N3 (by simp),Pn];simp only[NQ,Po,QQ];rw[Mw (by omega)];exact⟨_,rfl⟩
  obtain⟨v,p⟩:=sm;generalize w:(((List.range j).map fun k:Nat=>[B (x.1.contains (k:Int))])++List.replicate (c.Z9.length-j) [B false])=G at*;have F:=n4 Uv m u f l p g h;repeat refine fc f0 ?_
  refine⟨j+1,⟨a,by simp only[go_sem,g],by simp only[go_sem,h]⟩,?_,?_,by omega⟩
  ·exact qe
  have F:=aA.eq_1;exact qe
 obtain rfl:j=c.Z9.length:=by omega
 have m:=nl c.Z9.length;rw[QQ,List.replicate_zero,OP];have F:=hU Uv m g h;exact ek
end
section
def fi(r:cD)(d now:Int):tD->List AV
 |none=>[cf r.act,cf r.vars, .seq 2 (r.mem.map fe), .seq 2 (r.Z1.map c0),B r.over,cf r.outs, .seq 2 (r.Z7.map c0),I d,I now,I 0,I (-1)]
 |some (k,_)=>[cf r.act, .any, .any, .any, .any,cf r.outs, .seq 2 (r.Z7.map c0),I d,I now,I (k:Nat),I (-1)]
def UB:=@fi.eq_1
def Kh(r:cD)(d now:Int)(k:Nat)(ps:List Int)(a b c e:AV):gA (.agg [cf r.act,a,b,c,e,cf r.outs, .seq 2 (r.Z7.map c0),I d,I now,I (k:Nat),I (-1)]) (.agg (fi r d now (some (k,ps)))):=
 .of (.agg (.cons (.refl _) (.cons (.any _) (.cons (.any _) (.cons (.any _) (.cons (.any _) (.cons (.refl _) (.cons (.refl _) (.cons (.refl _) (.cons (.refl _) (.cons (.refl _) (.cons (.refl _) .nil)))))))))))) (fun _ _ _ h=>by cases h) (fun _ _ _ h=>by cases h)
def iN(env:b8)(r:cD)(d now:Int)(k:Nat)(ps:List Int):b7 prog env 160 [.agg (fi r d now none),I (k:Nat)] (.agg (fi r d now (some (k,ps)))):=by
 refine qw func160 call160 ntmps160 results160 ?_;have F:=ai UB fi.eq_2;repeat refine st ?_
 (refine aM ?_;refine⟨_,(by show (aj _ _ _).run _=some _;simp only[go_sem,F];rfl),?_⟩)
 exact Kh r d now k ps _ _ _ _
def yI(env:b8)(l:List (List UInt8×Int))(p:l.length<=4000)(s:List UInt8):b7 prog env 221 [.seq 2 (l.map c0),Sg s] (.own 98 2 ((eg l s).map c0)):=by
 refine qf func221 call221 ntmps221 results221 ?_;repeat refine m9 ?_
 refine RK l.length (by omega) (fun j i=>[(0, .seq 2 (l.map c0)),(1,Sg s),(5, .row 7 (i 7)),(6,I j)]) (fun j i=>[(7,⟨2,(eg (l.take j) s).map c0,98,true⟩)]) (fun j _ f=>f 7=false) (by simp only[go_sem]) ?_ ?_
 ·rintro j o k a e h b;obtain⟨x,d⟩:=gE a;have m:(eg (l.take j) s).length<=j:=NK (NS ..) (by rw[NJ];omega);have n:cU ((eg (l.take j) s).length+1) 24:=aC (by omega) (by omega);cases c:x.1==s with
  | true=>
    have g:eg (l.take (j+1)) s=eg (l.take j) s:=by unfold eg;rw[bV d,N5];simp[c]
    have F:=i' UG d c e h b;repeat refine st ?_
    refine⟨j+1,⟨a,by simp only[go_sem,b]⟩,?_,?_,by omega⟩
    ·exact qe
    simp only[g];exact qe
  | false=>
    have g:(eg (l.take (j+1)) s).map c0=(eg (l.take j) s).map c0++[c0 x]:=by unfold eg;rw[bV d,N5];simp[c]
    have F:=mc UG d c e h n b;repeat refine st ?_
    refine⟨j+1,⟨a,by simp only[go_sem,b]⟩,?_,?_,by omega⟩
    ·exact qe
    simp only[g];exact qe
 rintro o k e b;rw[NR];have F:=ai e b;exact ek
def JX(x y:List UInt8):(Op.bytesLess y x||y==x)= !Op.bytesLess x y:=by
 cases h:Op.bytesLess x y with
 | true=>
   rw[pF h]
   have:(y==x)=false:=by
    rw[Oy];rintro rfl;rw[eP]at h;cases h
   rw[this];rfl
 | false=>
   cases a:Op.bytesLess y x with
   |true=>rfl
   |false=>rw[dy a h];simp
def LC{x y:List UInt8×Int}{L:List (List UInt8×Int)}(h:Op.bytesLess x.1 y.1=true):tg x (y::L)=x::y::L:=by simp[tg,h]
def MC{x y:List UInt8×Int}{L:List (List UInt8×Int)}(h:Op.bytesLess x.1 y.1=false):tg x (y::L)=y::tg x L:=by simp[tg,h]
def yK(env:b8)(l:List (List UInt8×Int))(z:l.length<=4000)(x:List UInt8×Int):b7 prog env 224 [.seq 2 (l.map c0), .agg (c0 x)] (.own 98 2 ((tg x l).map c0)):=by
 unfold c0;show b7 _ _ _ [.seq 2 (l.map c0),_] (.own _ 2 ((tg x l).map c0));refine qf func224 call224 ntmps224 results224 ?_;repeat refine m9 ?_
 refine T1 (D:=Nat×Bool×List (List UInt8×Int)) (fun d r=>[(0, .seq 2 (l.map c0)),(3, .loc 3 (r 3) 0 0),(5, .row 8 (r 8)),(6,B d.2.1),(7,I d.1)]) (fun d r=>[(3,⟨2,[[Sg x.1,I x.2]],98,false⟩),(8,⟨2,d.2.2.map c0,98,true⟩)]) (fun d _ p=>(d.1<=l.length/\d.2.2.length<=d.1+(if d.2.1=true then 1 else 0)/\tg x l=d.2.2++(if d.2.1=true then l.drop d.1 else tg x (l.drop d.1)))/\p 8=false) (fun d=>l.length-d.1) (0,false,[]) ⟨⟨NG _,NG _,rfl⟩,by simp only[go_sem]⟩ ?_;rintro⟨j,b,o⟩ A w ⟨⟨t,e,a⟩,f⟩;simp only at t e a;have s:o.length<=j+1:=by split at e<;>omega
 by_cases c:j<l.length
 ·obtain⟨y,m⟩:=gE c;have g:=it c;have q:=aD c (by omega);have h:cU (o.length+1) 24:=aC (by omega) (by omega);have u:cU (o.length+1+1) 24:=aC (by omega) (by omega);have k:=JX x.1 y.1;have n:(o++[y]).map c0=o.map c0++[[Sg y.1,I y.2]]:=by rw[NA];rfl
  have v:(o++[x,y]).map c0=o.map c0++[[Sg x.1,I x.2]]++[[Sg y.1,I y.2]]:=by rw[NA,Nl];rfl
  rw[au m]at a;cases b with
  | true=>
    simp only[Nt]at a;have F:=i' UG m g q h f;repeat refine st ?_
    refine⟨(j+1,true,o++[y]),⟨⟨c,by simp only[Nt,My,Na]at e |-;omega,by simp only[Nt];rw[a,Nl];rfl⟩,by simp only[go_sem,f]⟩,?_,?_,by simp only;omega⟩
    ·exact qe
    simp only[n];exact qe
  | false=>
    simp only[NU,OA]at a;cases i:Op.bytesLess x.1 y.1 with
    | true=>
      rw[i]at k;rw[LC i]at a;have F:=n4 UG m k g q h u f;repeat refine st ?_
      refine⟨(j+1,true,o++[x,y]),⟨⟨c,?_,?_⟩,by simp only[go_sem,f]⟩,?_,?_,by simp only;omega⟩
      ·simp only[NU,OA]at e;simp only[My,NN,Pq,Nt];omega
      ·simp only[Nt];rw[a,Nl];rfl
      ·exact qe
      simp only[v];exact qe
    | false=>
      rw[i]at k;rw[MC i]at a;have F:=mc UG m k g q h f;repeat refine st ?_
      refine⟨(j+1,false,o++[y]),⟨⟨c,by simp only[NU,OA,My,Na]at e |-;omega,by simp only[NU,OA];rw[a,Nl];rfl⟩,by simp only[go_sem,f]⟩,?_,?_,by simp only;omega⟩
      ·exact qe
      simp only[n];exact qe
 ·obtain rfl:j=l.length:=by omega
  have g:=nl l.length;have h:cU (o.length+1) 24:=aC (by omega) (by omega);rw[ON]at a;cases b with
  | true=>
    rw[Mw rfl,OP]at a;rw[a];have F:=ai g f;exact ek
  | false=>
    rw[Mt Nc]at a;have n:(tg x l).map c0=o.map c0++[[Sg x.1,I x.2]]:=by rw[a,NA];rfl
    rw[n];have F:=gb g h f;exact ek
def sW(env:b8)(r:cD)(d now:Int)(s:List UInt8)(v:Int):b7 prog env 107 [.agg (fi r d now none),Sg s,I v] (.agg (fi (gs r s v).1 d now (gs r s v).2)):=by
 have f0:=iN env r d now 8 [-1];unfold gs;by_cases b:16<=r.Z7.length
 ·rw[Mw b];have a:(16:Int)<=(r.Z7.length:Int):=by omega
  unfold fi at f0 |-;simp only;refine qf func107 call107 ntmps107 results107 ?_;have F:=a;exact hH f0
 rw[Mt b];have a: ¬(16:Int)<=(r.Z7.length:Int):=by omega
 have c:cU (r.Z7.length+1) 24:=aC (by omega) (by omega);have e:cU r.Z7.length 24:=aC (by omega) (by omega);unfold fi;simp only[NA,Nh,O5];refine qf func107 call107 ntmps107 results107 ?_;have F:=hU UG a c e;exact ek
end
section
def Kl(env:b8)(c:aq)(G:c.Z9.length<=4000)(H:c.vars.length<=1000)(d now:Int)(I:aL d=true)(Q:0<=now/\now<=1099511627776)(r:cD)(s:ff c r)(J:r.act.length<=1000000)(a:j')(h:gM c.vars.length c.Z9.length a=true):b7 prog env 159 [.agg (aA c), .agg (fi r d now none), .agg (bB a)] (.agg (fi (Sl c d now r a).1 d now (Sl c d now r a).2)):=by
 have M:=s.len;have K:=s.ZM;have z:=(yI env r.Z1 (by omega) a.name).lend (al (fun _=>rfl) _);unfold Sl;by_cases o:a.kind=5
 ·rw[Mw o];have b:(a.kind==5)=true:=by simp[o]
  generalize eg r.Z1 a.name=L at*;unfold fi;simp only;refine qf func159 call159 ntmps159 results159 ?_;have F:=gb Uv UF b;repeat refine st ?_
  refine lL z ?_;exact ek
 rw[Mt o];have b:(a.kind==5)=false:=by simp[o]
 have j:br a.code c.vars.length c.Z9.length=true:=by
  unfold gM at h;repeat' split at h
  all_goals (first|(exact absurd ‹a.kind=5› o)|(simp only[Mu]at h;exact h.2)|cases h)
 have f1:=sS env c G (r.act,r.vars,r.mem,r.Z1,r.over) J d;have f2:=wZ env (Ti c d r) (E3 s I) (by show r.vars.length<=_;omega) a.code (by rw[show (Ti c d r).act.length=c.Z9.length from pH c r.act r.vars d,show (Ti c d r).vars.length=c.vars.length from s.len];exact j);rw[show L' c (r.act,r.vars,r.mem,r.Z1,r.over).1 (r.act,r.vars,r.mem,r.Z1,r.over).2.1 d=Ti c d r from rfl]at f1;generalize (Ti c d r)=W at*;unfold aA hP at f1;simp only at f1;cases C:k8 W a.code with
 | none=>
   have f3:=iN env r d now 2 [-1, -1];rw[C]at f2;unfold Dx at f2;unfold fi at f3 |-;simp only;refine qf func159 call159 ntmps159 results159 ?_;have F:=gb Uv UF b;exact An f1 f2 f3
 | some v=>
   rw[C]at f2;unfold Dx at f2;simp only;have n:=sW env r d now a.name v;by_cases p:a.kind=1
   ·rw[Mw p];have g:(a.kind==1)=true:=by simp[p]
    obtain⟨w,N⟩:0<=a.n/\a.n<c.vars.length:=by
     unfold gM at h;rw[Mw p]at h;simp only[Mu,NF]at h;exact h.1.1
    have f:a.n< (r.vars.length:Int):=by omega
    have q:cU r.vars.length 8:=aC (by omega) (by omega);obtain⟨x,O⟩: ∃x,r.vars[a.n.toNat]? =some x:=⟨r.vars[a.n.toNat]'(by omega),Mq _⟩;unfold fi;simp only[QC,cf];refine qf func159 call159 ntmps159 results159 ?_;have F:=qr Uv UF UE b g f q w O;exact mw f1 f2
   rw[Mt p];have g:(a.kind==1)=false:=by simp[p]
   by_cases t:a.kind=2
   ·rw[Mw t];have f:(a.kind==2)=true:=by simp[t]
    generalize gs r a.name v=X at*;rcases X with⟨S,_|⟨k,R⟩⟩
    ·unfold fi at n |-;simp only at n |-;refine qf func159 call159 ntmps159 results159 ?_;have F:=g9 Uv UF b g f;exact An f1 f2 n
    unfold fi at n |-;simp only at n |-;refine qf func159 call159 ntmps159 results159 ?_;have F:=g9 Uv UF b g f;exact An f1 f2 n
   rw[Mt t];have f:(a.kind==2)=false:=by simp[t]
   by_cases u:a.kind=4
   ·rw[Mw u];have m:(a.kind==4)=true:=by simp[u]
    have y:IntKind.i64.wrap (1099511627776-now)=1099511627776-now:=aW (by omega) (by omega);unfold BY;by_cases D:v<0\/1099511627776-now<v
    ·rw[Mw D];have f3:=iN env r d now 2 [-1];unfold fi at f3 |-;simp only;by_cases e:v<0
     ·refine qf func159 call159 ntmps159 results159 ?_;have F:=mc Uv UF b g f m e;exact An f1 f2 f3
     have i:1099511627776-now<v:=by omega
     refine qf func159 call159 ntmps159 results159 ?_;have F:=qr Uv UF b g f m e i y;exact An f1 f2 f3
    rw[Mt D];have e: ¬v<0:=by omega
    have i: ¬1099511627776-now<v:=by omega
    by_cases A:8<=(eg r.Z1 a.name).length
    ·rw[Mw A];have l:(8:Int)<=((eg r.Z1 a.name).length:Int):=by omega
     have f3:=iN env r d now 8 [-1];generalize eg r.Z1 a.name=L at*;unfold fi at f3 |-;simp only;refine qf func159 call159 ntmps159 results159 ?_;have F:=lE Uv UF b g f m e i y l;repeat refine wc f1 f2 ?_
     refine lL z ?_;exact hH f3
    rw[Mt A];have l: ¬(8:Int)<=((eg r.Z1 a.name).length:Int):=by omega
    have q:IntKind.i64.wrap (now+v)=now+v:=aW (by omega) (by omega);have f3:=(yK env (eg r.Z1 a.name) (by omega) (a.name,now+v)).lend (al (fun _=>rfl) _);generalize tg (a.name,now+v) (eg r.Z1 a.name)=E at*;generalize eg r.Z1 a.name=L at*;unfold c0 at f3;change Sd _ _ _ [.seq 2 (L.map c0),_] (.own _ 2 (E.map c0)) at f3;unfold fi;simp only;refine qf func159 call159 ntmps159 results159 ?_;have F:=ql Uv UF b g f m e i y l q;repeat refine wc f1 f2 ?_
    refine lL z ?_;repeat refine st ?_
    refine lL f3 ?_;exact ek
   rw[Mt u];have m:(a.kind==4)=false:=by simp[u]
   unfold KD;by_cases B:256<=r.outs.length
   ·rw[Mw B];have l:(256:Int)<=(r.outs.length:Int):=by omega
    have f3:=iN env r d now 8 [-1];unfold fi at f3 |-;simp only;refine qf func159 call159 ntmps159 results159 ?_;have F:=mc Uv UF b g f m l;exact An f1 f2 f3
   rw[Mt B];have l: ¬(256:Int)<=(r.outs.length:Int):=by omega
   have q:cU (r.outs.length+1) 8:=aC (by omega) (by omega);have P:cU r.outs.length 8:=aC (by omega) (by omega);unfold fi;simp only[NA,Nh,O5,cf];refine qf func159 call159 ntmps159 results159 ?_;have F:=lE Uv UF UE b g f m l q P;exact mw f1 f2
def wD(e:tD):Prop:= ∀x,e=some x->x.1=2\/x.1=8
def u9(r:cD)(s:List UInt8)(v:Int):wD (gs r s v).2:=by
 unfold gs;split<;>(intro x h;cases h);exact .inr rfl
def Mb(c:aq)(d now:Int)(r:cD)(a:j'):wD (Sl c d now r a).2:=by
 unfold Sl;split
 ·intro x h;cases h
 split
 ·intro x h;cases h;exact .inl rfl
 split
 ·intro x h;cases h
 split
 ·exact u9 _ _ _
 split
 ·unfold BY;split
  ·intro x h;cases h;exact .inl rfl
  split
  ·intro x h;cases h;exact .inr rfl
  intro x h;cases h
 unfold KD;split
 ·intro x h;cases h;exact .inr rfl
 intro x h;cases h
def wB(c:aq)(d now:Int): ∀(l:List j')(r:cD),wD (l' c d now r l).2
 |[],r=>fun x h=>by cases h
 | a::l,r=>by
   unfold l';split
   ·exact wB c d now l _
   exact Mb c d now r a
def BX(env:b8)(c:aq)(O:c.Z9.length<=4000)(w:c.vars.length<=1000)(d now:Int)(J:aL d=true)(L:0<=now/\now<=1099511627776)(r:cD)(q:ff c r)(z:r.act.length<=1000000)(l:List j')(Q:l.length<=1000)(o: ∀a∈l,gM c.vars.length c.Z9.length a=true):b7 prog env 106 [.agg (aA c), .agg (fi r d now none), .seq 4 (l.map bB)] (.agg (fi (l' c d now r l).1 d now (l' c d now r l).2)):=by
 have y:=fun(r:cD) q z (a:j') o=>Kl env c O w d now J L r q z a o;have A:=fun(r:cD)(q:ff c r)(a:j') o=>K4 J L q (a:=a) o;refine qf func106 call106 ntmps106 results106 ?_;have F:=gb UB fi.eq_2 Uv;repeat refine st ?_
 refine aH (D:=Nat×cD×tD) (fun x v=>[(2, .seq 4 (l.map bB)),(3, .loc 3 (v 3) 0 0),(4, .loc 4 (v 4) 0 0),(6, .loc 6 (v 6) 0 0),(7,I x.1)]) (fun x v=>[(3,⟨5,[aA c],26,false⟩),(4,⟨11,[fi x.2.1 d now x.2.2],91,false⟩),(6,⟨11,[[cy,cy,cy,cy,B false,cy,cy,I 0,I 0,I 0,I 0]],91,false⟩)]) (fun x _ n=>(x.1<=l.length/\(match x.2.2 with
  |none=>l' c d now r l=l' c d now x.2.1 (l.drop x.1)/\ff c x.2.1/\x.2.1.act=r.act
  |some e=>l' c d now r l=(x.2.1,some e)))/\n 4=false/\n 6=false) (fun x=>(l.length-x.1)+(if x.2.2.isSome=true then 0 else 1)) (0,r,none) ?_ ?_ ?_ ?_
 ·exact⟨⟨NG _,rfl,q,rfl⟩,by simp only[go_sem,NH]⟩
 ·exact qe
 ·exact qe
 rintro⟨j,t,e⟩ S R ⟨⟨P,b⟩,i,m⟩;simp only at P b;rcases e with _|⟨k,G⟩
 ·obtain⟨b,s,g⟩:=b;by_cases f:j<l.length
  ·obtain⟨a,u⟩:=gE f;have p:=o a (Mv u);have f0:=y t s (by rw[g];exact z) a p;obtain⟨C,E⟩:=A t s a p;have h:=it f;have M:=aD f (by omega);rw[C8 u]at b;unfold aA bB at f0;rcases H:Sl c d now t a with⟨N,_|⟨k,G⟩⟩
   ·rw[H]at b f0 C E;simp only at b C E;unfold fi at f0;simp only at f0;have F:=qr UB fi.eq_2 Uv UF u h M i m;repeat refine fc f0 ?_
    refine⟨(j+1,N,none),⟨⟨f,b,C,E.act.trans g⟩,?_⟩,?_,?_,?_⟩
    ·simp only[go_sem,i,m,NH]
    ·exact qe
    ·exact qe
    simp;omega
   rw[H]at b f0;simp only at b;unfold fi at f0;simp only at f0;have F:=qr UB fi.eq_2 Uv UF u h M i m;repeat refine fc f0 ?_
   refine⟨(j+1,N,some (k,G)),⟨⟨f,b⟩,?_⟩,?_,?_,?_⟩
   ·simp only[go_sem,i,m,NH]
   ·exact qe
   ·exact qe
   simp;omega
  obtain rfl:j=l.length:=by omega
  have h:=nl l.length;rw[ON]at b;rw[show l' c d now t []=(t,none) from rfl]at b;rw[b];show fp _ _ _ _ _ _;have F:=i' UB fi.eq_2 Uv h i m;exact ek
 have K:((k:Int)==0)=false:=by
  have:=wB c d now l r (k,G) (by rw[b]);simp;simp only at this;omega
 rw[b];show fp _ _ _ _ _ _;by_cases f:j<l.length
 ·have h:=it f;have F:=mc UB fi.eq_2 Uv h K i m;exact ek
 obtain rfl:j=l.length:=by omega
 have h:=nl l.length;have F:=mc UB fi.eq_2 Uv h K i m;exact ek
end
section
def iQ{c:aq}{k:Nat}{s:nr}(a:c.Z9[k]? =some s):bY c k=s.kind:=by unfold bY;rw[bN,a]
def xj(env:b8)(c:aq)(h:ch c)(act:List Int): ∀(f i:Nat),i<c.Z9.length->c.Z9.length-i<=f->b7 prog env 229 [.agg (aA c),aG c, .seq 1 (kE c.Z9.length act),I i] (B (oy c act f i))
 |0,i,v,C=>by omega
 | f+1,i,v,C=>by
   have H:=h.Z6;obtain⟨s,m⟩:=gE v;have J:=fun(k:Nat) l C=>xj env c h act f k l C;have E:=it v;have f0:=bf env c h i;rw[Mw (.inr (aV.2 v))]at f0;have f0:=(f0.lend (al (fun _=>rfl) _)).seen;have O:=bE h.toRight i true;have n: ∀j∈av c i true,i<j/\j<c.Z9.length:=fun j M=>by have:=bJ h.toRight (aY M).1;omega
   have p:=eo c.Z9.length act;unfold oy;rw[iQ m,show g6 c (i:Int)=zL (av c i true) from rfl];generalize av c i true=K at*;unfold aG at f0 J |-;by_cases x:s.kind=3
   ·rw[Mw x];have u:(s.kind==3)=true:=by simp[x]
    refine qf func229 call229 ntmps229 results229 ?_;have F:=g9 Uv Uw m E u;exact ek
   rw[Mt x];have u:(s.kind==3)=false:=by simp[x]
   by_cases w:s.kind=1
   ·rw[Mw w];have y:(s.kind==1)=true:=by simp[w]
    refine qf func229 call229 ntmps229 results229 ?_;have F:=i' Uv Uw m E u y;repeat refine st ?_
    refine lL f0 ?_;repeat refine st ?_
    refine lq K.length (by omega) (fun j r=>[(2, .seq 1 (kE c.Z9.length act)),(4, .loc 4 (r 4) 0 0),(25, .seq 1 (K.map aB)),(26,I K.length),(27,I j)]) (fun j r=>[(4,⟨5,[aA c],26,false⟩)]) (fun j _ A=>(zL K).find? (fun k=>act.contains k)=((zL K).drop j).find? fun k=>act.contains k) rfl ?_ ?_
    ·rintro j G z b g q a;obtain⟨k,e⟩:=gE b;obtain⟨_,l⟩:=n k (Mv e);obtain⟨t,D⟩:=gE l;have L:=it l;have d:=kU (act:=act) l;rw[au (rJ e),List.find?_cons]at a;cases o:act.contains (k:Int) with
     | true=>
       rw[o]at d a;simp only at a;rw[a];simp only[iQ D];show fp _ _ _ _ _ _;have F:=ql Uv Uw Ux m D e g q L d p;exact ek
     | false=>
       rw[o]at d a;simp only at a;have F:=ql Uv Uw Ux m D e g q L d p;repeat refine st ?_
       exact qn (j+1) ⟨b,a⟩
    rintro G z g a;rw[OG (by rw[am];omega)]at a;rw[a];show fp _ _ _ _ _ _;simp only[QK];have F:=g;exact ek
   rw[Mt w];have y:(s.kind==1)=false:=by simp[w]
   refine qf func229 call229 ntmps229 results229 ?_;have F:=i' Uv Uw m E u y;repeat refine st ?_
   refine lL f0 ?_;repeat refine st ?_
   refine lq K.length (by omega) (fun j r=>[(1, .ref 9 [ct c] 0 0),(2, .seq 1 (kE c.Z9.length act)),(4, .loc 4 (r 4) 0 0),(45, .seq 1 (K.map aB)),(46,I K.length),(47,I j)]) (fun j r=>[(4,⟨5,[aA c],26,false⟩)]) (fun j _ A=>((zL K).all fun k=>oy c act f k)=((zL K).drop j).all fun k=>oy c act f k) rfl ?_ ?_
   ·rintro j G z b g q a;obtain⟨k,e⟩:=gE b;obtain⟨N,l⟩:=n k (Mv e);have f1:=J k l (by omega);rw[au (rJ e),Qg]at a;cases o:oy c act f (k:Int) with
    | true=>
      rw[o]at f1 a;rw[Nj]at a;unfold aA at f1;have F:=g9 Uv Ux e g q;repeat refine fc f1 ?_
      exact qn (j+1) ⟨b,a⟩
    | false=>
      rw[o]at f1 a;rw[Ng]at a;rw[a];unfold aA at f1;show fp _ _ _ _ _ _;have F:=g9 Uv Ux e g q;exact hH f1
   rintro G z g a;rw[OG (by rw[am];omega)]at a;rw[a];show fp _ _ _ _ _ _;have F:=g;exact ek
def Hv(env:b8)(d e:Addr)(n:fU env d e)(c:aq)(h:ch c)(k:g7 c)(act:List Int)(g:act.length<=1000000)(m:tI c act=true)(i:Nat)(hi:i<c.Z9.length):b7 prog env 178 [aG c, .seq 1 (act.map aa),I i] (.tuple [B (tw c act i),h9]):=by
 have j:=h.Z6;have f0:=ck env d e n c h k act g;unfold vx at f0;rw[m]at f0;simp only[Nt]at f0;have f1:=((j7 env c (by omega) act g).lend (al (fun _=>rfl) _)).seen;have f2:=ay env c k;have f3:=xj env c h act 40 i hi (by omega);have b:=eo c.Z9.length act;have a:=kU (act:=act) hi;have l:=it hi;unfold tw;cases f:act.contains (i:Int) with
 | true=>
   rw[f]at a;rw[Nj];unfold aG at*;unfold aA at f2 f3;refine qf func178 call178 ntmps178 results178 ?_;have F:=gb b a l;repeat refine fc f0 ?_
   refine lL f1 ?_;exact mw f2 f3
 | false=>
   rw[f]at a;rw[Ng];unfold aG at*;refine qf func178 call178 ntmps178 results178 ?_;have F:=gb b a l;repeat refine fc f0 ?_
   refine lL f1 ?_;exact ek
end
end Go.Proofs.YtfhkmjbjafeckaaGreatDoor
