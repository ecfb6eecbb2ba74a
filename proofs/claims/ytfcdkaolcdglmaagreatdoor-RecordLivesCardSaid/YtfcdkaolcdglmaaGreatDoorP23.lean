/- An instance in the midst of a step: states become active. -/
import Derived.Test.YtfcdkaolcdglmaaGreatDoorP22
set_option maxRecDepth 100000
set_option maxHeartbeats 16000000
set_option linter.unusedSimpArgs false
set_option linter.defProp false
namespace Go.Proofs.YtfcdkaolcdglmaaGreatDoor
open Go.Proofs.Tryz
open Go.RowKit
section
def Mw.seq{S:Nat->Nat->Prop}{w:World}{base:Nat}{v:Value}{e:TypeId}{sz:Nat}{es:List (List AV)}(h:Mw S w base v e sz es):
 ∃S':Nat->Nat->Prop,(∀b o,S b o->S' b o)/\(∀b o,S' b o->S b o\/(base<=b/\b<w.heap.size))/\RV S' w v (.seq sz es):=by
 obtain⟨l,s,z,B,_⟩:=h;obtain⟨S',f⟩: ∃S':Nat->Nat->Prop,S'=fun b o=>S b o\/v.ownBlock=some b:=⟨_,rfl⟩;have d: ∀b o,S b o->S' b o/\k0 w w b o:=fun b o a=>⟨by rw[f];exact .inl a, .rfl⟩;refine⟨S',fun b o a=>(d b o a).1,fun b o a=> ?_,?_⟩
 ·rw[f]at a;exact a.imp id fun a=>bZ s a
 rcases s.2 with⟨rfl,D⟩|⟨g,p,A,rfl,E,G,r,_,_,t⟩
 ·have q:es=[]:=Ox D;subst q;exact .seq none 0 0 sz [] 0 0 (fun _ _=>undef) rfl (OO _) (fun a=>by omega) (fun i e C=>by simp at C) (fun i j c a=>by simp[bt]at a) (fun i j c a=>by simp[bt]at a)
 have k:=B;refine .seq (some ⟨g,0,none⟩) es.length p sz es g 0 (fun i j=>l.getD (i*sz+j) undef) rfl r (fun _=>rfl) k.ZQ (fun i j c m=> ?_) fun i j c m=> ?_
 ·obtain⟨u,n,y⟩:=k.cell i j c m;have x:l.getD (i*sz+j) undef=u:=by simp[List.getD,n]
  rw[x,PR];exact⟨by rw[f];exact .inr rfl,iU s rfl _ u n,k.one u (OM n)⟩
 obtain⟨u,n,y⟩:=k.cell i j c m;have x:l.getD (i*sz+j) undef=u:=by simp[List.getD,n]
 rw[x];exact y.mono d
def UM.seen{P:Program}{env:b7}{f:FuncId}{cs:List AV}{e:TypeId}{sz:Nat}{es:List (List AV)}(h:UM P env f cs (.own e sz es)):UM P env f cs (.seq sz es):=by
 refine⟨h.enter,fun w S p d j l=>(h.calls w S p d j l).mono ?_⟩;rintro r t ⟨v,rfl,g,q,c,k⟩;obtain⟨a,s,m,n⟩:=Mw.seq k;exact⟨v,rfl,g,a,fun b o i=>(m b o i).elim (c b o) id,n⟩
def la(c:aq)(d a:Int)(M:List (List AV))(o:Bool)(g:Nat->Nat):List AV:=[.row 1001 (g 1001), .row 1002 (g 1002), .seq 2 M, .row 1003 (g 1003),B o, .row 1004 (g 1004), .row 1005 (g 1005), .ref 9 [aK c] 0 0,Sg c.name,I c.initial,ur c.vars,u6 c.Z9,CD c.trans,I d,I a]
def WK:=@la.eq_1
def RY(c:aq)(d a:Int)(r:dg)(g:Nat->Nat):List (Nat×Row):=[(1000,⟨15,[la c d a (r.mem.map fi) r.over g],189,false⟩),(1001,⟨1,r.act.map aa,3,true⟩),(1002,⟨1,r.vars.map aa,3,true⟩),(1003,⟨2,r.Z4.map ew,95,true⟩),(1004,⟨1,r.outs.map aa,3,true⟩),(1005,⟨2,r.Z1.map ew,81,true⟩)]
def WL:=@RY.eq_1
def qr(k:Nat):Bool:=k==1001||(k==1003||(k==1004||k==1005))
def WM:=@qr.eq_1
def cj(b c:Addr):M'->AV
 |none=>gc
 |some (k,a)=>dj (a.headD (-1)) (ik a.tail (b6 (if k=2 then b else c)))
def ei(a b:Addr)(e:M')(L:Nat->Nat->Option (Nat×Nat)):(cj a b e).ren L=cj a b e:=by rcases e with _|⟨_,_⟩<;>rfl
def CQ(env:b7)(c:aq)(n:c.Z9.length<=4000)(d b:Int)(r:dg)(o:r.act.length<=1000000):g6 prog env 199 [1000,1001,1002,1003,1004,1005] (fun _=>false) (fun g=>[.loc 1000 (g 1000) 0 0]) (RY c d b r) (RY c d b r) (fun g=>VF (VU c d r) g):=by
 have f0:=j8 env c n r.act o;have f0:=(f0.lend (cA (fun _=>rfl) _)).seen;have m:(VU c d r).act.map rK=lf c.Z9.length r.act:=E0 c r.act r.vars d;unfold VF;rw[m];show g6 _ _ _ _ _ _ _ _ fun g=> .agg [.row 1002 (g 1002),I d, .seq 1 (lf c.Z9.length r.act)];unfold aH at f0;generalize lf c.Z9.length r.act=L at*;refine qi func199 call199 ntmps199 results199 ?_;intro p l a;obtain⟨e,f,h,i,j,k⟩:=UB a;have F:=L7 WL WK e f h i j k;repeat refine st ?_
 refine lL f0 ?_;repeat refine st ?_
 exact rI
def GB(env:b7)(G:List UInt8)(x:List UInt8×Int):cy prog env 236 [.agg (ew x), .ref 1 [[Sg G]] 0 0] (B (x.1==G)):=by
 have a:(x.1==G)=(x.1.toArray==G.toArray):=by rw[PC];simp
 unfold ew;refine qf func236 call236 ntmps236 results236 ?_;repeat refine sm ?_
 exact L0
def Ao(env:b7)(c:aq)(d b:Int)(r:dg)(m:r.Z4.length<=4096)(s:List UInt8):g6 prog env 218 [1000,1001,1002,1003,1004,1005] qr (fun g=>[.loc 1000 (g 1000) 0 0,Sg s]) (RY c d b r) (RY c d b { r with Z4:=g9 r.Z4 s }) (fun _=> .lit (.tuple #[])):=by
 have f0:g6 prog env _ _ _ _ _ (fun _=>[(1000,⟨2,(g9 r.Z4 s).map ew,95,true⟩),_]) _:=xj env r.Z4 (fun x=>x.1==s) 236 s 9 (GB env s) m;generalize g9 r.Z4 s=L at*;refine qi func218 call218 ntmps218 results218 ?_;intro n l a;have e:=a 1000 (by simp);have f:=a 1001 (by simp);have h:=a 1002 (by simp);have i:=a 1003 (by simp);have j:=a 1004 (by simp);have k:=a 1005 (by simp);have F:=y' WL WK WM e f h i j k;repeat refine st ?_
 refine iL [(1000,1003),(1001,3)] f0 ?_;repeat refine st ?_
 exact rN
def uL(env:b7)(a:Addr)(c:env 2=some (b6 a)):cy prog env 196 [] (dj (-1) (b6 a)):=by
 have b:=gS c;have f0:=bW env [109,105,99,114,111,46,100,111] a;refine qf func196 call196 ntmps196 results196 ?_;have F:=b;exact nb f0
def vw(env:b7)(p e:Addr)(q:env 2=some (b6 e))(c:aq)(d b:Int)(r:dg)(s:List UInt8)(v:Int):g6 prog env 175 [1000,1001,1002,1003,1004,1005] qr (fun g=>[.loc 1000 (g 1000) 0 0,Sg s,I v]) (RY c d b r) (RY c d b (lP r s v).1) (fun _=>cj p e (lP r s v).2):=by
 have f0:=uL env e q;unfold lP;by_cases o:16<=r.Z1.length
 ·rw[OL o];have n:(16:Int)<=(r.Z1.length:Int):=by omega
  show g6 _ _ _ _ _ _ _ _ fun _=>dj (-1) (b6 e);refine qi func175 call175 ntmps175 results175 ?_;intro u m a;obtain⟨f,h,i,j,k,l⟩:=UB a;have F:=zs WL WK WM n f h i j k l;repeat refine g8 f0 ?_
  exact rI
 rw[OK o];have n: ¬(16:Int)<=(r.Z1.length:Int):=by omega
 have t:ek (r.Z1.length+1) 24:=aG (by omega) (by omega);show g6 _ _ _ _ _ _ _ _ fun _=>gc;unfold RY;simp only[Oa,PE,Pv];refine qi func175 call175 ntmps175 results175 ?_;intro u m a;obtain⟨f,h,i,j,k,l⟩:=UB a;have F:=u4 WK WT WM n t f h i j k l;repeat refine st ?_
 exact rI
def GG(env:b7)(o p:Addr)(A:env 3=some (b6 o))(q:env 2=some (b6 p))(c:aq)(d a:Int)(H:0<=a/\a<=1099511627776)(r:dg)(y:fy c r)(s:List UInt8)(v:Int):g6 prog env 220 [1000,1001,1002,1003,1004,1005] qr (fun g=>[.loc 1000 (g 1000) 0 0,Sg s,I v]) (RY c d a r) (RY c d a (Tt a r s v).1) (fun _=>cj o p (Tt a r s v).2):=by
 have f0:=uL env p q;have f1:=Ao env c d a r (by have:=y.ZE;omega) s;have f2:=bW env [109,105,99,114,111,46,115,116,97,114,116] o;have x:=gS A;have t:IntKind.i64.wrap (1099511627776-a)=1099511627776-a:=bB (by omega) (by omega);unfold Tt;by_cases z:v<0\/1099511627776-a<v
 ·rw[OL z];show g6 _ _ _ _ _ _ _ _ fun _=>dj (-1) (b6 o);by_cases e:v<0
  ·refine qi func220 call220 ntmps220 results220 ?_;intro w n b;obtain⟨h,i,j,k,l,m⟩:=UB b;have F:=u4 WL WK WM e x h i j k l m;repeat refine g8 f2 ?_
   exact rI
  have f:1099511627776-a<v:=by omega
  refine qi func220 call220 ntmps220 results220 ?_;intro w n b;obtain⟨h,i,j,k,l,m⟩:=UB b;have F:=fb WL WK WM e f t x h i j k<|ai l m;repeat refine g8 f2 ?_
  exact rI
 rw[OK z];have e: ¬v<0:=by omega
 have f: ¬1099511627776-a<v:=by omega
 by_cases q:8<=(g9 r.Z4 s).length
 ·rw[OL q];have u:(8:Int)<=((g9 r.Z4 s).length:Int):=by omega
  show g6 _ _ _ _ _ _ _ _ fun _=>dj (-1) (b6 p);generalize g9 r.Z4 s=L at*;unfold RY la at f1;refine qi func220 call220 ntmps220 results220 ?_;intro w n b;obtain⟨h,i,j,k,l,m⟩:=UB b;have F:=fb WL WK WM e f t u h i j k<|ai l m;repeat refine st ?_
  refine iL L6 f1 ?_;repeat refine g8 f0 ?_
  exact rI
 rw[OK q];have u: ¬(8:Int)<=((g9 r.Z4 s).length:Int):=by omega
 have E:ek ((g9 r.Z4 s).length+1) 24:=aG (by omega) (by omega);have G:IntKind.i64.wrap (a+v)=a+v:=bB (by omega) (by omega);have B:=Fu (s,a+v) (g9 r.Z4 s) (y.Z4.without s).ZY rj (by omega);have C:bI ((g9 r.Z4 s++[(s,a+v)]).map pU)=(g9 r.Z4 s).map ew++[[Sg s,I (a+v)]]:=by rw[BU,Oa];rfl
 have D:=BU (RC (s,a+v) (g9 r.Z4 s));show g6 _ _ _ _ _ _ _ _ fun _=>gc;generalize RC (s,a+v) (g9 r.Z4 s)=L2 at*;generalize g9 r.Z4 s=L at*;unfold RY la at f1;refine qi func220 call220 ntmps220 results220 ?_;intro w n b;obtain⟨h,i,j,k,l,m⟩:=UB b;have F:=fb WL WK WM e f t u E G h i<|mX j k l m;repeat refine st ?_
 refine iL L6 f1 ?_;repeat refine st ?_
 refine xP 1003 rfl (row:=⟨2,L.map ew++[[Sg s,I (a+v)]],95,true⟩) (by simp only[go_sem]<;>exact iR) (by simp only[go_sem]<;>exact iR) (by simp only[go_sem]<;>exact iR) B C.symm rfl (PD 1) (by simp only[go_sem];exact iR) ?_;rw[D];repeat refine st ?_
 exact rI
end
section
def NT(env:b7)(J p q:Addr)(B:fk env J q)(K:env 3=some (b6 p))(c:aq)(R:c.Z9.length<=4000)(G:c.vars.length<=1000000)(d e:Int)(S:aL d=true)(U:0<=e/\e<=1099511627776)(r:dg)(u:fy c r)(T:r.act.length<=1000000)(a:n9)(n:iM c.vars.length c.Z9.length a=true):
 g6 prog env 195 [1000,1001,1002,1003,1004,1005] qr (fun g=>[.loc 1000 (g 1000) 0 0, .agg (bg a)]) (RY c d e r) (RY c d e (Vs c d e r a).1) (fun _=>cj p q (Vs c d e r a).2):=by
 unfold Vs;by_cases z:a.kind=5
 ·rw[OL z];have f1:=Ao env c d e r (by have:=u.ZE;omega) a.name;show g6 _ _ _ _ _ _ _ _ fun _=>gc;generalize g9 r.Z4 a.name=L at*;have o:(a.kind==5)=true:=by simp[z]
  unfold RY la at f1;refine qi func195 call195 ntmps195 results195 ?_;intro y m b;obtain⟨f,h,i,j,k,l⟩:=UB b;have F:=fb WU WL WK WM ei o f h i j k l;repeat refine st ?_
  refine iL L6 f1 ?_;repeat refine st ?_
  exact rI
 rw[OK z]
 have s:cP a.code c.vars.length c.Z9.length=true:=by
  unfold iM at n;repeat' split at n
  all_goals (first|(exact absurd ‹a.kind=5› z)|(simp only[OJ]at n;exact n.2)|cases n)
 have f1:=CQ env c R d e r T;have f2:=Hy env J p q B K (VU c d r) (Kc u S) (by show r.vars.length<=_;rw[u.len];exact G) a.code (by rw[show (VU c d r).act.length=c.Z9.length from xu c r.act r.vars d,show (VU c d r).vars.length=c.vars.length from u.len];exact s);have Y:(VU c d r).vars=r.vars:=rfl;generalize (VU c d r)=W at*;have o:(a.kind==5)=false:=by simp[z]
 unfold VF at f1 f2;unfold uv at f2;rw[Y]at f2;cases O:rG W a.code with
 | none=>
   have f3:=du env [109,105,99,114,111,46,100,111] (-1) (b6 p);rw[O]at f2;unfold jl at f2;show g6 _ _ _ _ _ _ _ _ fun _=>dj (-1) (dj (-1) (b6 p));simp only;unfold RY la at f1;refine qi func195 call195 ntmps195 results195 ?_;intro y m b;obtain⟨f,h,i,j,k,l⟩:=UB b;have F:=fb WU WL WK WM ei o f h i j k l;repeat refine st ?_
   refine iL L6 f1 ?_;repeat refine st ?_
   refine iL [(1002,1002)] f2 ?_;repeat refine g8 f3 ?_
   exact rI
 | some v=>
   rw[O]at f2;unfold jl at f2;simp only;have P:=vw env p q B.e8 c d e r a.name v;have Q:=GG env p q K B.e8 c d e U r u a.name v;have r2:=uL env q B.e8;by_cases A:a.kind=1
   ·rw[OL A];have w:(a.kind==1)=true:=by simp[A]
    obtain⟨H,V⟩:0<=a.n/\a.n<c.vars.length:=by
     unfold iM at n;rw[OL A]at n;simp only[OJ,OR]at n;exact n.1.1
    have M:=u.len;have t:a.n< (r.vars.length:Int):=by omega
    obtain⟨x,Z⟩: ∃x,r.vars[a.n.toNat]? =some x:=⟨r.vars[a.n.toNat]'(by omega),OE _⟩;show g6 _ _ _ _ _ _ _ _ fun _=>gc;unfold RY la at f1;unfold RY;simp only[Rk];refine qi func195 call195 ntmps195 results195 ?_;intro y m b;obtain⟨f,h,i,j,k,l⟩:=UB b;have F:=fb WU WN WK WM ei o w t H Z f<|ld h i j k l;repeat refine st ?_
    refine iL L6 f1 ?_;repeat refine st ?_
    refine iL [(1002,1002)] f2 ?_;repeat refine st ?_
    exact rI
   rw[OK A];have w:(a.kind==1)=false:=by simp[A]
   by_cases C:a.kind=2
   ·rw[OL C];have t:(a.kind==2)=true:=by simp[C]
    generalize lP r a.name v=X at*;unfold RY la at f1 P;refine qi func195 call195 ntmps195 results195 ?_;intro y m b;obtain⟨f,h,i,j,k,l⟩:=UB b;have F:=fb WU WL WK WM ei o w t f h i<|jw j k l;repeat refine st ?_
    refine iL L6 f1 ?_;repeat refine st ?_
    refine iL [(1002,1002)] f2 ?_;repeat refine st ?_
    refine iL L6 P ?_;repeat refine st ?_
    exact rI
   rw[OK C];have t:(a.kind==2)=false:=by simp[C]
   by_cases D:a.kind=4
   ·rw[OL D];have E:(a.kind==4)=true:=by simp[D]
    generalize Tt e r a.name v=X at*;unfold RY la at f1 Q;refine qi func195 call195 ntmps195 results195 ?_;intro y m b;obtain⟨f,h,i,j,k,l⟩:=UB b;have F:=fb WU WL WK WM ei o w t E f h<|mX i j k l;repeat refine st ?_
    refine iL L6 f1 ?_;repeat refine st ?_
    refine iL [(1002,1002)] f2 ?_;repeat refine st ?_
    refine iL L6 Q ?_;repeat refine st ?_
    exact rI
   rw[OK D];have E:(a.kind==4)=false:=by simp[D]
   unfold Mh;by_cases N:256<=r.outs.length
   ·rw[OL N];have I:(256:Int)<=(r.outs.length:Int):=by omega
    show g6 _ _ _ _ _ _ _ _ fun _=>dj (-1) (b6 q);unfold RY la at f1;refine qi func195 call195 ntmps195 results195 ?_;intro y m b;obtain⟨f,h,i,j,k,l⟩:=UB b;have F:=fb WU WL WK WM ei o w t E I f<|ld h i j k l;repeat refine st ?_
    refine iL L6 f1 ?_;repeat refine st ?_
    refine iL [(1002,1002)] f2 ?_;repeat refine g8 r2 ?_
    exact rI
   rw[OK N];have I: ¬(256:Int)<=(r.outs.length:Int):=by omega
   have q3:ek (r.outs.length+1) 8:=aG (by omega) (by omega);show g6 _ _ _ _ _ _ _ _ fun _=>gc;unfold RY la at f1;unfold RY;simp only[Oa,PE,Pv];refine qi func195 call195 ntmps195 results195 ?_;intro y m b;obtain⟨f,h,i,j,k,l⟩:=UB b;have F:=fb WU WN WK WM ei o w t E I q3<|pf f h i j k l;repeat refine st ?_
   refine iL L6 f1 ?_;repeat refine st ?_
   refine iL [(1002,1002)] f2 ?_;repeat refine st ?_
   exact rI
structure I'(env:b7)(a1 a2 a8:Addr)(c:aq)(d now:Int):Prop where
 he:fk env a1 a8
 h2:env 3=some (b6 a2)
 h:cD c
 hs:h9 c
 hd:aL d=true
 hn:0<=now/\now<=1099511627776
def K7{c:aq}{d b:Int}{r:dg}{l:List n9}{j:Nat}{a:n9}(f:l[j]? =some a):tI c d b r (l.drop j)=match Vs c d b r a with
 |(e,none)=>tI c d b e (l.drop (j+1))
 |x=>x:=by
 rw[bV f]
 conv=>lhs;unfold tI
 rcases Vs c d b r a with⟨e,_|_⟩<;>rfl
def yo(env:b7)(Q C G:Addr)(c:aq)(d e:Int)(E:I' env Q C G c d e)(r:dg)(z:fy c r)(J:r.act.length<=1000000)(l:List n9)(Y:l.length<=1000)(v: ∀a∈l,iM c.vars.length c.Z9.length a=true):
 g6 prog env 174 [1000,1001,1002,1003,1004,1005] qr (fun g=>[.loc 1000 (g 1000) 0 0, .seq 4 (l.map bg)]) (RY c d e r) (RY c d e (tI c d e r l).1) (fun _=>cj C G (tI c d e r l).2):=by
 have S:=E.h.Z6;have W:=E.hs.vars;have H:=fun(r:dg) z J (a:n9) v=>NT env Q C G E.he E.h2 c (by omega) (by omega) d e E.hd E.hn r z J a v;have K:=fun(r:dg)(z:fy c r)(a:n9) v=>Mq E.hd E.hn z (a:=a) v;refine qi func174 call174 ntmps174 results174 ?_;intro U V y;obtain⟨n,o,p,q,s,t⟩:=UB y;have F:=y' WL WK WM n o p q s t;repeat refine st ?_
 refine lp (D:=Nat×dg) (fun x h=>[(0, .loc 1000 (h 1000) 0 0),(8, .seq 4 (l.map bg)),(9,I l.length),(10,I x.1)]) (fun x h=>RY c d e x.2 h) (fun x h f=>(x.1<=l.length/\tI c d e r l=tI c d e x.2 (l.drop x.1)/\fy c x.2/\x.2.act=r.act)/\(h 1000=U 1000/\h 1002=U 1002)/\f 1000=false/\f 1001=false/\f 1002=false/\f 1003=false/\f 1004=false/\f 1005=false) (fun x=>l.length-x.1) (0,r) ⟨⟨O6 _,rfl,z,rfl⟩,by simp only[go_sem,O8],by simp only[go_sem,n,o,p,q,s,t,O8]⟩ ?_;try clear n o p q s t
 rintro⟨j,N⟩ ws es ⟨⟨X,b,u,i⟩,⟨O,P⟩,n,o,p,q,s,t⟩;simp only at X b u i;by_cases m:j<l.length
 ·obtain⟨a,A⟩:=gE m;have w:=v a (OM A);have f0:=H N u (by rw[i];exact J) a w;obtain⟨L,M⟩:=K N u a w;have B:=mc m;have T:=aD m (by omega);rw[K7 A]at b;rcases R:Vs c d e N a with⟨Z,_|⟨k,ps⟩⟩
  ·rw[R]at b f0 L M;simp only at b L M;unfold cj RY la at f0;simp only at f0;unfold bg at f0;have F:=fb WU WL WK WM A B T n o p q<|ai s t;repeat refine st ?_
   refine iL L6 f0 ?_;repeat refine st ?_
   refine⟨(j+1,Z),⟨⟨m,b,L,M.act.trans i⟩,?_,?_⟩,?_,?_,?_⟩
   ·simp only[go_sem,O,P,O8]
   ·simp only[go_sem,n,o,p,q,s,t,O8]
   ·exact qe
   ·exact qe
   simp only;omega
  rw[R]at b f0;simp only at b;rw[b];unfold cj RY la at f0;unfold bg at f0;simp only at f0;show gu _ _ _ _ _ _;unfold cj;simp only;have F:=fb WU WL WK WM A B T O P n o<|mX p q s t;repeat refine st ?_
  refine iL L6 f0 ?_;repeat refine st ?_
  exact rI
 obtain rfl:j=l.length:=by omega
 have B:=nl l.length;rw[Q3]at b;rw[b];unfold tI;show gu _ _ _ _ _ _;unfold cj;simp only;have F:=fb WL WK WM B O P n o p q s t;repeat refine st ?_
 exact rI
end
section
end
section
end
section
def xS(e:M'):Prop:= ∀x,e=some x->x.1=2\/x.1=8
def uC(r:dg)(s:List UInt8)(v:Int):xS (lP r s v).2:=by
 unfold lP;split<;>(intro x h;cases h);exact .inr rfl
def Nn(c:aq)(d b:Int)(r:dg)(a:n9):xS (Vs c d b r a).2:=by
 unfold Vs;split
 ·intro x h;cases h
 split
 ·intro x h;cases h;exact .inl rfl
 split
 ·intro x h;cases h
 split
 ·exact uC _ _ _
 split
 ·unfold Tt;split
  ·intro x h;cases h;exact .inl rfl
  split
  ·intro x h;cases h;exact .inr rfl
  intro x h;cases h
 unfold Mh;split
 ·intro x h;cases h;exact .inr rfl
 intro x h;cases h
def zT(c:aq)(d b:Int): ∀(l:List n9)(r:dg),xS (tI c d b r l).2
 |[],r=>fun x h=>by cases h
 | a::l,r=>by
   unfold tI;split
   ·exact zT c d b l _
   exact Nn c d b r a
end
section
def sq{c:aq}{k:Nat}{s:pc}(a:c.Z9[k]? =some s):eP c k=s.kind:=by unfold eP;rw[bO,a]
def xB(env:b7)(c:aq)(h:cD c)(act:List Int): ∀(f i:Nat),i<c.Z9.length->c.Z9.length-i<=f->cy prog env 197 [.agg (aA c),aH c, .seq 1 (lf c.Z9.length act),I i] (B (vU c act f i))
 |0,i,v,C=>by omega
 | f+1,i,v,C=>by
   have H:=h.Z6;obtain⟨s,m⟩:=gE v;have J:=fun(k:Nat) l C=>xB env c h act f k l C;have E:=mc v;have f0:=bX env c h i;rw[OL (.inr (ak.2 v))]at f0;have f0:=(f0.lend (cA (fun _=>rfl) _)).seen;have O:=d7 h.toRight i true;have n: ∀j∈aw c i true,i<j/\j<c.Z9.length:=fun j M=>by have:=bK h.toRight (ae M).1;omega
   have p:=eZ c.Z9.length act;unfold vU;rw[sq m,show hU c (i:Int)=zL (aw c i true) from rfl];generalize aw c i true=K at*;unfold aH at f0 J |-;by_cases x:s.kind=3
   ·rw[OL x];have u:(s.kind==3)=true:=by simp[x]
    refine qf func197 call197 ntmps197 results197 ?_;have F:=ld WH WI m E u;exact fl
   rw[OK x];have u:(s.kind==3)=false:=by simp[x]
   by_cases w:s.kind=1
   ·rw[OL w];have y:(s.kind==1)=true:=by simp[w]
    refine qf func197 call197 ntmps197 results197 ?_;have F:=pf WH WI m E u y;repeat refine st ?_
    refine lL f0 ?_;repeat refine st ?_
    refine lq K.length (by omega) (fun j r=>[(2, .seq 1 (lf c.Z9.length act)),(4, .loc 4 (r 4) 0 0),(25, .seq 1 (K.map aB)),(26,I K.length),(27,I j)]) (fun j r=>[(4,⟨5,[aA c],26,false⟩)]) (fun j _ A=>(zL K).find? (fun k=>act.contains k)=((zL K).drop j).find? fun k=>act.contains k) rfl ?_ ?_
    ·rintro j G z b g q a;obtain⟨k,e⟩:=gE b;obtain⟨_,l⟩:=n k (OM e);obtain⟨t,D⟩:=gE l;have L:=mc l;have d:=kY (act:=act) l;rw[bV (CP e),List.find?_cons]at a;cases o:act.contains (k:Int) with
     | true=>
       rw[o]at d a;simp only at a;rw[a];simp only[sq D];show gu _ _ _ _ _ _;have F:=u4 WH WI WJ m D e g q L d p;exact fl
     | false=>
       rw[o]at d a;simp only at a;have F:=u4 WH WI WJ m D e g q L d p;repeat refine st ?_
       exact qn (j+1) ⟨b,a⟩
    rintro G z g a;rw[Pp (by rw[cQ];omega)]at a;rw[a];show gu _ _ _ _ _ _;simp only[Tl];have F:=g;exact fl
   rw[OK w];have y:(s.kind==1)=false:=by simp[w]
   refine qf func197 call197 ntmps197 results197 ?_;have F:=pf WH WI m E u y;repeat refine st ?_
   refine lL f0 ?_;repeat refine st ?_
   refine lq K.length (by omega) (fun j r=>[(1, .ref 9 [aK c] 0 0),(2, .seq 1 (lf c.Z9.length act)),(4, .loc 4 (r 4) 0 0),(45, .seq 1 (K.map aB)),(46,I K.length),(47,I j)]) (fun j r=>[(4,⟨5,[aA c],26,false⟩)]) (fun j _ A=>((zL K).all fun k=>vU c act f k)=((zL K).drop j).all fun k=>vU c act f k) rfl ?_ ?_
   ·rintro j G z b g q a;obtain⟨k,e⟩:=gE b;obtain⟨N,l⟩:=n k (OM e);have f1:=J k l (by omega);rw[bV (CP e),Sc]at a;cases o:vU c act f (k:Int) with
    | true=>
      rw[o]at f1 a;rw[PQ]at a;unfold aA at f1;have F:=ld WH WJ e g q;repeat refine g8 f1 ?_
      exact qn (j+1) ⟨b,a⟩
    | false=>
      rw[o]at f1 a;rw[PU]at a;rw[a];unfold aA at f1;show gu _ _ _ _ _ _;have F:=ld WH WJ e g q;exact nb f1
   rintro G z g a;rw[Pp (by rw[cQ];omega)]at a;rw[a];show gu _ _ _ _ _ _;have F:=g;exact fl
def IB(env:b7)(d e:Addr)(n:fk env d e)(c:aq)(h:cD c)(k:h9 c)(act:List Int)(g:act.length<=1000000)(m:F' c act=true)(i:Nat)(hi:i<c.Z9.length):cy prog env 176 [aH c, .seq 1 (act.map aa),I i] (.tuple [B (Dh c act i),gc]):=by
 have j:=h.Z6;have f0:=cY env d e n c h k act g;unfold vL at f0;rw[m]at f0;simp only[PW]at f0;have f1:=((j8 env c (by omega) act g).lend (cA (fun _=>rfl) _)).seen;have f2:=ap env c k;have f3:=xB env c h act 40 i hi (by omega);have b:=eZ c.Z9.length act;have a:=kY (act:=act) hi;have l:=mc hi;unfold Dh;cases f:act.contains (i:Int) with
 | true=>
   rw[f]at a;rw[PQ];unfold aH at*;unfold aA at f2 f3;refine qf func176 call176 ntmps176 results176 ?_;have F:=jw b a l;repeat refine g8 f0 ?_
   refine lL f1 ?_;exact po f2 f3
 | false=>
   rw[f]at a;rw[PU];unfold aH at*;refine qf func176 call176 ntmps176 results176 ?_;have F:=jw b a l;repeat refine g8 f0 ?_
   refine lL f1 ?_;exact fl
end
section
end
section
def xk(env:b7)(l:List Int)(p:Int->Bool)(g:FuncId)(G:Int)(P:TypeId)(U: ∀d,cy prog env g [I d, .ref 1 [[I G]] 0 0] (B (p d)))(hl:l.length<=4096):
 g6 prog env 229 [1000,1001] (fun k=>k==1000) (fun vs=>[.row 1000 (vs 1000), .clo g [.loc 1001 (vs 1001) 0 0]]) (fun _=>[(1000,⟨1,l.map aa,3,true⟩),(1001,⟨1,[[I G]],P,false⟩)]) (fun _=>[(1000,⟨1,(l.filter fun d=> !p d).map aa,3,true⟩),(1001,⟨1,[[I G]],P,false⟩)]) (fun vs=> .row 1000 (vs 1000)):=by
 have f0:=(qd env l p g [[I G]] U hl).lend rfl;cases t:mI p l with
 | none=>
   rw[t]at f0;obtain⟨m,_⟩:=pu t;rw[m];refine qi func229 call229 ntmps229 results229 ?_;intro vs z h;obtain⟨e,f⟩:=Us h;have F:=mX e f Xf mJ.eq_2;repeat refine st ?_
   refine lL f0 ?_;repeat refine st ?_
   exact rI
 | some s=>
   rw[t]at f0;obtain⟨m,E,d0,H,J⟩:=pt t;have R:((s:Int) == -1)=false:=by simp
   have r:=aD m (by omega);refine qi func229 call229 ntmps229 results229 ?_;intro vs z h;obtain⟨e,f⟩:=Us h;have F:=pf e f Xf mJ.eq_2 R r;repeat refine st ?_
   refine lL f0 ?_;repeat refine st ?_
   refine aN (D:=Nat×List Int) (fun x i=>[(0, .row 1000 (i 1000)),(1, .clo g [.loc 1001 (i 1001) 0 0]),(5,I (((l.take x.1).filter fun d=> !p d).length:Int)),(6,I (x.1:Int))]) (fun x i=>[(1000,⟨1,x.2.map aa,3,true⟩),(1001,⟨1,[[I G]],P,false⟩)]) (fun x i o=>(x.1<=l.length/\x.2.length=l.length/\((l.take x.1).filter fun d=> !p d).length<x.1/\x.2.take ((l.take x.1).filter fun d=> !p d).length=(l.take x.1).filter (fun d=> !p d)/\x.2.drop x.1=l.drop x.1)/\i 1001=vs 1001/\o 1000=false/\o 1001=false) (fun x=>l.length-x.1) (s+1,l) ?_ ?_ ?_ ?_
   ·have b:(l.take (s+1)).filter (fun d=> !p d)=l.take s:=by
     rw[dF H,PH, <-E];simp[J]
    refine⟨⟨m,rfl,?_,?_,rfl⟩,by simp only[go_sem],by simp only[go_sem,e],by simp only[go_sem,f]⟩
    ·rw[b,OZ];omega
    simp only;rw[b,OZ,Qd (by omega)]
   ·have b:((l.take (s+1)).filter fun d=> !p d).length=s:=by
     rw[dF H,PH, <-E];simp[J];omega
    simp only[b];exact qe
   ·exact qe
   try clear e f R r m E H J t
   rintro⟨j,L⟩ ws es ⟨⟨hj,K,hc,u,w⟩,Q,e,f⟩;simp only at hj K hc u w;generalize a:((l.take j).filter fun d=> !p d).length=c at*;by_cases n:j<l.length
   ·obtain⟨d,V⟩:=gE n
    have v:L[j]? =some d:=by
     have:=Oj (fun q:List Int=>q[0]?) w;simpa[V]using this
    have f1:=U d;have r:(j:Int)< (L.length:Int):=by omega
    have S:=aD n (by omega);have T:=dF V;cases m:p d
    ·rw[m]at f1;obtain⟨y,hy⟩: ∃x,L[c]? =some x:=⟨L[c]'(by omega),OE (by omega)⟩;have A:(c:Int)< (L.length:Int):=by omega
     have C:IntKind.i64.wrap ((c:Int)+1)=((c+1:Nat):Int):=aD (show c<l.length by omega) (by omega);have b:((l.take (j+1)).filter fun d=> !p d)=(l.take j).filter (fun d=> !p d)++[d]:=by rw[T,PH];simp[m]
     have hs:(L.map aa).set c [I d]=(L.set c d).map aa:=by rw[Rk]
     have F:=y' v hy e f r S A C hs;repeat refine st ?_
     refine oL (cB rfl (by simp only[go_sem,F];exact iR)) (f1.lend rfl) (by simp only[go_sem,F];exact iR) (by simp only[go_sem,F];exact⟨rfl,rfl⟩) ?_;repeat refine st ?_
     refine⟨(j+1,L.set c d),⟨⟨n,by simpa using K,?_,?_,?_⟩,?_,?_,?_⟩,?_,?_,?_⟩
     ·simp only[b,ON,Pa,a];omega
     ·simp only[b,ON,Pa,a];rw[<-u];apply PM;intro k;rw[Om,Pg];by_cases hk:k<c
      ·rw[OL (by omega),OK (by omega),Oq (by simp;omega),Om,OL hk]
      by_cases N:k=c
      ·subst N;rw[OL (by omega),OL rfl,OL (by omega),Og (by rw[OZ];omega),OZ,Qd (by omega)];simp
      rw[OK (by omega),OT (by rw[ON,OZ,Pa];omega)]
     ·simp only;rw[List.drop_set_of_lt (by omega)];have:=Oj (List.drop 1) w;simpa[S4]using this
     ·simp only[go_sem,Q]
     ·simp only[go_sem,e]
     ·simp only[go_sem,f]
     ·have O:((l.take (j+1)).filter fun d=> !p d).length=c+1:=by rw[b,ON,a];rfl
      simp only[O];exact qe
     ·exact qe
     simp only;omega
    rw[m]at f1;have b:((l.take (j+1)).filter fun d=> !p d)=(l.take j).filter (fun d=> !p d):=by rw[T,PH];simp[m]
    have F:=ld v e f r S;repeat refine st ?_
    refine oL (cB rfl (by simp only[go_sem,F];exact iR)) (f1.lend rfl) (by simp only[go_sem,F];exact iR) (by simp only[go_sem,F];exact⟨rfl,rfl⟩) ?_;repeat refine st ?_
    refine⟨(j+1,L),⟨⟨n,K,?_,?_,?_⟩,?_,?_,?_⟩,?_,?_,?_⟩
    ·simp only[b,a];omega
    ·simp only[b,a];exact u
    ·simp only;have:=Oj (List.drop 1) w;simpa[S4]using this
    ·simp only[go_sem,Q]
    ·simp only[go_sem,e]
    ·simp only[go_sem,f]
    ·simp only[b,a];exact qe
    ·exact qe
    simp only;omega
   have r: ¬(j:Int)< (L.length:Int):=by omega
   have M:l.take j=l:=PI (by omega);rw[M]at u a;have A:(c:Int)<=(L.length:Int):=by omega
   have C:c<=L.length:=by omega
   have W: ∀X:List (List AV),((L.take c).map aa++X).take c=(l.filter fun d=> !p d).map aa:=fun X=>by
    rw[Qv (by rw[O4,OZ];omega),u]
   have Y:c+(L.length-c)=L.length:=by omega
   have Z:min c L.length=c:=by omega
   have F:=u4 Q e f @OZ.{0} @List.length_replicate.{0} r A C W Y Z;repeat refine st ?_
   exact rI
end
section
def DU{c:aq}{d a:Int}{r:dg}{l:List Int}{j:Nat}{i:Int}(hi:l[j]? =some i):bd c d a r (l.drop j)=match tI c d a r (Ep c i) with
 |(b,none)=>bd c d a { b with act:=b.act.filter fun k=> !(k==i) } (l.drop (j+1))
 |x=>x:=by
 rw[bV hi]
 conv=>lhs;unfold bd
 rcases tI c d a r (Ep c i) with⟨b,_|_⟩<;>rfl
def Fg{c:aq}(h:cD c){k:Nat}{s:pc}(d:c.Z9[k]? =some s):(s.out.length<=32/\ ∀a∈s.out,iM c.vars.length c.Z9.length a=true)/\s.ZW.length<=32/\ ∀a∈s.ZW,iM c.vars.length c.Z9.length a=true:=by
 have b:=h.st k s d;unfold cG eR at b;simp only[OJ,OR,OP]at b;exact⟨⟨b.2.1,b.2.2⟩,b.1.2.1,b.1.2.2⟩
def DV(env:b7)(G d:Int):cy prog env 230 [I d, .ref 1 [[I G]] 0 0] (B (d==G)):=by
 refine qf func230 call230 ntmps230 results230 ?_;repeat refine sm ?_
 exact L0
def VL(c:aq)(d a:Int)(G:List Nat)(r:dg)(g:Nat->Nat):List (Nat×Row):=(1006,⟨1,G.map aB,3,true⟩)::RY c d a r g
def Xn:=@VL.eq_1
def H5(env:b7)(a1 O P:Addr)(c:aq)(d e:Int)(E:I' env a1 O P c d e)(r:dg)(J:fy c r)(H:r.act.length<=4096)(G:List Nat)(hG: ∀i∈G,i<c.Z9.length)(Q:G.length<=4096):
 g6 prog env 207 [1000,1001,1002,1003,1004,1005,1006] qr (fun g=>[.loc 1000 (g 1000) 0 0, .row 1006 (g 1006)]) (VL c d e G r) (VL c d e G.reverse (bd c d e r (zL G.reverse)).1) (fun _=>cj O P (bd c d e r (zL G.reverse)).2):=by
 have hfew:=E.h.Z6;have hcv:=E.hs.vars;have T:=fun(r:dg) J H (l:List n9) U S=>yo env a1 O P c d e E r J H l U S;have V:=fun(r:dg)(J:fy c r)(l:List n9) S=>mV E.hd E.hn (l:=l) J S;have A:=fun(l:List Int)(i:Int)(H:l.length<=4096)=>xk env l (fun k=>k==i) 230 i 3 (fun k=>DV env i k) H;have g1:=sN (zL G) (by rw[cQ];omega);have g2:bI ((zL G).map tA)=G.map aB:=by rw[bl,gL]
 have g3:bI ((zL G).reverse.map tA)=G.reverse.map aB:=by rw[bl, <-gL];simp
 have hR: ∀i∈G.reverse,i<c.Z9.length:=fun i hi=>hG i (TU.1 hi);have hRl:G.reverse.length<=4096:=by rw[Q6];exact Q
 generalize G.reverse=R at*;refine qi func207 call207 ntmps207 results207 ?_;intro vs esc B;obtain⟨o,p,q,t,u,v,h⟩:=Wz B;have F:=u4 Xn WL WK WM o p q t u v h;repeat refine st ?_
 refine oU 1006 rfl (row:=⟨1,G.map aB,3,true⟩) g1 (PD 0) rfl g2.symm (by simp only[go_sem,h]<;>exact iR) (by simp only[go_sem,h]<;>exact iR) (by simp only[go_sem,h]<;>exact iR) (by simp only[go_sem,h]<;>exact iR) ?_;rw[g3];repeat refine st ?_
 refine lp (D:=Nat×dg) (fun x f=>[(0, .loc 1000 (f 1000) 0 0),(10, .row 1006 (f 1006)),(11,I R.length),(12,I x.1)]) (fun x f=>VL c d e R x.2 f) (fun x f a=>(x.1<=R.length/\bd c d e r (zL R)=bd c d e x.2 ((zL R).drop x.1)/\fy c x.2/\x.2.act.length<=4096)/\(f 1000=vs 1000/\f 1002=vs 1002/\f 1006=vs 1006)/\a 1000=false/\a 1001=false/\a 1002=false/\a 1003=false/\a 1004=false/\a 1005=false/\a 1006=false) (fun x=>R.length-x.1) (0,r) ⟨⟨O6 _,rfl,J,H⟩,by simp only[go_sem,O8],by simp only[go_sem,o,p,q,t,u,v,h,O8]⟩ ?_;try clear o p q t u v h g1 g2 g3
 rintro⟨j,Y⟩ ws es ⟨⟨hj,b,z,w⟩,⟨Z,v2,v6⟩,o,p,q,t,u,v,h⟩;simp only at hj b z w;by_cases n:j<R.length
 ·obtain⟨i,M⟩:=gE n;have C:=hR i (OM M);obtain⟨s,L⟩:=gE C;obtain⟨⟨s1,s2⟩,_⟩:=Fg E.h L;have ho:Ep c i=s.out:=by unfold Ep;rw[bO,L]
  have f0:=T Y z (by omega) s.out (by omega) s2;obtain⟨W,X⟩:=V Y z s.out s2;have N:=mc n;have q2:=aD n (by omega);have q3:=mc C;rw[DU (CP M),ho]at b;rcases hX:tI c d e Y s.out with⟨K,_|⟨k,ps⟩⟩
  ·rw[hX]at b f0 W X;simp only at b W X;have m:K.act.length<=4096:=by have:=X.act;rw[this];exact w
   have f3:=A K.act i m;have y:(K.act.filter fun k=> !(k==(i:Int))).length<=4096:=O3 (Ol ..) m;generalize hF:(K.act.filter fun k=> !(k==(i:Int)))=L2 at*;unfold cj RY la at f0;simp only at f0;have F:=fb WI WJ Xg Xn WL WK WM M L N q2<|L7 q3 o p q t u v h;repeat refine st ?_
   refine iL L6 f0 ?_;repeat refine st ?_
   refine iL [(1000,1001),(1001,6)] f3 ?_;repeat refine st ?_
   refine⟨(j+1,{ K with act:=L2 }),⟨⟨n,b,{ W with },y⟩,?_,?_⟩,?_,?_,?_⟩
   ·simp only[go_sem,Z,v2,v6,O8]
   ·simp only[go_sem,o,p,q,t,u,v,h,O8]
   ·exact qe
   ·exact qe
   simp only;omega
  rw[hX]at b f0;simp only at b;rw[b];unfold cj RY la at f0;simp only at f0;show gu _ _ _ _ _ _;unfold cj;simp only;have F:=fb WI WJ Xg Xn WL WK WM M L N q2<|u4 q3 Z v2 v6 o p q t u v h;repeat refine st ?_
  refine iL L6 f0 ?_;repeat refine st ?_
  exact rI
 obtain rfl:j=R.length:=by omega
 have N:=nl R.length;rw[Pp (by rw[cQ];omega)]at b;rw[b];unfold bd;show gu _ _ _ _ _ _;unfold cj;simp only;have F:=fb Xn WL WK WM N Z v2 v6 o p q<|mX t u v h;repeat refine st ?_
 exact rI
end
section
def IE{c:aq}{d a:Int}{r:dg}{f l:List Int}{j:Nat}{i:Int}(hi:l[j]? =some i):bA c d a r f (l.drop j)=if r.act.contains i=true then bA c d a r f (l.drop (j+1)) else match tI c d a { r with act:=bi (r.act++[i]) } (V2 c i) with
 |(b,none)=>bA c d a b (if eP c i=3 then f++[i] else f) (l.drop (j+1))
 |x=>(x,[]):=by
 rw[bV hi]
 conv=>lhs;unfold bA
 rcases tI c d a { r with act:=bi (r.act++[i]) } (V2 c i) with⟨b,_|_⟩<;>rfl
def Dn(a b:Addr)(e:M')(f:List Int):AV:=match e with
 |none=> .tuple [.seq 1 (f.map aa),gc]
 |some x=> .tuple [gb,cj a b (some x)]
def KS(env:b7)(a1 W X:Addr)(c:aq)(d h:Int)(E:I' env a1 W X c d h)(r:dg)(N:fy c r)(hl:r.act.length<=1000)(G:List Nat)(hG: ∀i∈G,i<c.Z9.length)(hGl:G.length<=1000):
 g6 prog env 150 [1000,1001,1002,1003,1004,1005] qr (fun g=>[.loc 1000 (g 1000) 0 0, .seq 1 (G.map aB)]) (RY c d h r) (RY c d h (bA c d h r [] (zL G)).1.1) (fun _=>Dn W X (bA c d h r [] (zL G)).1.2 (bA c d h r [] (zL G)).2):=by
 have hfew:=E.h.Z6;have hcv:=E.hs.vars;have hdo:=fun(r:dg) N hl (l:List n9) hll ha=>yo env a1 W X c d h E r N hl l hll ha;have hok:=fun(r:dg)(N:fy c r)(l:List n9) ha=>mV E.hd E.hn (l:=l) N ha;refine qi func150 call150 ntmps150 results150 ?_;intro vs esc L;obtain⟨q,b,t,u,v,w⟩:=UB L;have F:=y' WL WK WM q b t u v w;repeat refine st ?_
 refine am 6 6 3 1 ?_;refine lp (D:=Nat×dg×List Int) (fun x o=>[(0, .loc 1000 (o 1000) 0 0),(4,gb),(5,gc),(6, .row 6 (o 6)),(10, .seq 1 (G.map aB)),(11,I G.length),(12,I x.1)]) (fun x o=>(6,⟨1,x.2.2.map aa,3,true⟩)::RY c d h x.2.1 o) (fun x o e=>(x.1<=G.length/\bA c d h r [] (zL G)=bA c d h x.2.1 x.2.2 ((zL G).drop x.1)/\fy c x.2.1/\x.2.1.act.length<=r.act.length+x.1/\x.2.2.length<=x.1)/\(o 1000=vs 1000/\o 1002=vs 1002)/\e 1000=false/\e 1001=false/\e 1002=false/\e 1003=false/\e 1004=false/\e 1005=false/\e 6=false) (fun x=>G.length-x.1) (0,r,[]) ⟨⟨O6 _,rfl,N,OO _,OO _⟩,by simp only[go_sem,O8],by simp only[go_sem,q,b,t,u,v,w,O8]⟩ ?_;try clear q b t u v w
 rintro⟨j,m,f⟩ ws es ⟨⟨hj,a,z,K,hfl⟩,⟨Q,R⟩,q,b,t,u,v,w,A⟩;simp only at hj a z K hfl;by_cases p:j<G.length
 ·obtain⟨i,H⟩:=gE p;have M:=hG i (OM H);obtain⟨s,B⟩:=gE M;obtain⟨_,s1,s2⟩:=Fg E.h B;have ho:V2 c i=s.ZW:=by unfold V2;rw[bO,B]
  have hk:eP c i=s.kind:=by unfold eP;rw[bO,B]
  have J:=mc p;have U:=aD p (by omega);have V:=mc M;have C:=(bG env m.act i (by omega)).lend rfl;rw[IE (CP H),ho,hk]at a;cases hc:m.act.contains (i:Int) with
  | true=>
    rw[hc]at a C;simp only[PW]at a;have F:=fb WI WJ Xg WL WK WM H B J U V<|vb q b t u v w A;repeat refine st ?_
    refine lL C ?_;repeat refine st ?_
    refine⟨(j+1,m,f),⟨⟨p,a,z,by simp only;omega,by simp only;omega⟩,?_,?_⟩,?_,?_,?_⟩
    ·simp only[go_sem,Q,R,O8]
    ·simp only[go_sem,q,b,t,u,v,w,A,O8]
    ·exact qe
    ·exact qe
    simp only;omega
  | false=>
    rw[hc]at a C;simp only[On,P8]at a;have n:(bi (m.act++[(i:Int)])).length<=r.act.length+(j+1):=by rw[pV,ON,Pa];omega
    have f0:=hdo { m with act:=bi (m.act++[(i:Int)]) } { z with } (by simp only;omega) s.ZW (by omega) s2;obtain⟨O,P⟩:=hok { m with act:=bi (m.act++[(i:Int)]) } { z with } s.ZW s2;have Y:=qM (m.act++[(i:Int)]) (by simp;omega);have Z:bI ((m.act++[(i:Int)]).map tA)=m.act.map aa++[[I i]]:=by rw[bl,Oa];rfl
    have g3:=bl (bi (m.act++[(i:Int)]));have q4:ek (m.act.length+1) 8:=aG (by omega) (by omega);rcases hX:tI c d h { m with act:=bi (m.act++[(i:Int)]) } s.ZW with⟨r2,_|⟨k,ps⟩⟩
    ·rw[hX]at a f0 O P;simp only at a O P;have y:r2.act.length<=r.act.length+(j+1):=by have:=P.act;rw[this];exact n
     try clear P n
     generalize hS:bi (m.act++[(i:Int)])=S at*;unfold cj RY la at f0;simp only at f0;cases T:s.kind==3 with
     | false=>
       have h4: ¬s.kind=3:=by simpa using T
       rw[OK h4]at a;have F:=fb WI WJ Xg WL WK WM H B J U V<|y' q4 T q b t u v w A;repeat refine st ?_
       refine lL C ?_;repeat refine st ?_
       refine oU 1001 rfl (row:=⟨1,m.act.map aa++[[I i]],3,true⟩) Y (PD 0) rfl Z.symm (by simp only[go_sem,b]<;>exact iR) (by simp only[go_sem,b]<;>exact iR) (by simp only[go_sem,b]<;>exact iR) (by simp only[go_sem,b]<;>exact iR) ?_;rw[g3];repeat refine st ?_
       refine iL L6 f0 ?_;repeat refine st ?_
       refine⟨(j+1,r2,f),⟨⟨p,a,O,y,by simp only;omega⟩,?_,?_⟩,?_,?_,?_⟩
       ·simp only[go_sem,Q,R,O8]
       ·simp only[go_sem,q,b,t,u,v,w,A,O8]
       ·exact qe
       ·exact qe
       simp only;omega
     | true=>
       have h4:s.kind=3:=by simpa using T
       rw[OL h4]at a;have q5:ek (f.length+1) 8:=aG (by omega) (by omega);have q6:(f++[(i:Int)]).map aa=f.map aa++[[I i]]:=by rw[Oa];rfl
       have F:=fb WI WJ Xg WL WK WM H B J U V<|zs q4 q5 T q b t u v w A;repeat refine st ?_
       refine lL C ?_;repeat refine st ?_
       refine oU 1001 rfl (row:=⟨1,m.act.map aa++[[I i]],3,true⟩) Y (PD 0) rfl Z.symm (by simp only[go_sem,b]<;>exact iR) (by simp only[go_sem,b]<;>exact iR) (by simp only[go_sem,b]<;>exact iR) (by simp only[go_sem,b]<;>exact iR) ?_;rw[g3];repeat refine st ?_
       refine iL L6 f0 ?_;repeat refine st ?_
       refine⟨(j+1,r2,f++[(i:Int)]),⟨⟨p,a,O,y,by simp only[ON,Pa];omega⟩,?_,?_⟩,?_,?_,?_⟩
       ·simp only[go_sem,Q,R,O8]
       ·simp only[go_sem,q,b,t,u,v,w,A,O8]
       ·exact qe
       ·simp only[q6];exact qe
       simp only;omega
    rw[hX]at a f0;simp only at a;rw[a];try clear O P n
    generalize hS:bi (m.act++[(i:Int)])=S at*;unfold cj RY la at f0;simp only at f0;show gu _ _ _ _ _ _;unfold Dn cj;simp only;have F:=fb WI WJ Xg WL WK WM H B J U V<|zs q4 Q R q b t u v w A;repeat refine st ?_
    refine lL C ?_;repeat refine st ?_
    refine oU 1001 rfl (row:=⟨1,m.act.map aa++[[I i]],3,true⟩) Y (PD 0) rfl Z.symm (by simp only[go_sem,b]<;>exact iR) (by simp only[go_sem,b]<;>exact iR) (by simp only[go_sem,b]<;>exact iR) (by simp only[go_sem,b]<;>exact iR) ?_;rw[g3];repeat refine st ?_
    refine iL L6 f0 ?_;repeat refine st ?_
    exact rI
 obtain rfl:j=G.length:=by omega
 have J:=nl G.length;rw[Pp (by rw[cQ];omega)]at a;rw[a];unfold bA;show gu _ _ _ _ _ _;unfold Dn;simp only;refine iX (dT.frozen 6 6 ⟨1,f.map aa,3,true⟩ rfl (PD 0) (by simp only[go_sem]) (by simp only[go_sem])) ?_;have F:=fb WL WK WM J Q R q b t u v<|ai w A;repeat refine st ?_
 exact rI
end
end Go.Proofs.YtfcdkaolcdglmaaGreatDoor
