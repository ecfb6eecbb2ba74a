/- What MicroEnabled's list of variables gives. -/
import Derived.Test.YtfhkmjbjafeckaaGreatDoorQ34
set_option maxRecDepth 100000
set_option maxHeartbeats 16000000
set_option linter.unusedSimpArgs false
set_option linter.defProp false
namespace Go.Proofs.YtfhkmjbjafeckaaGreatDoor
open Go.Proofs.Tryz
section
open Go.RowKit
def By(k p:Int):List AV:=[b6,b6,b6,b6,B false,b6,I 0,I k,I p]
def tR(m:mw):List AV:=[bs m.x.1,bs m.x.2.1, .seq 2 (m.x.2.2.1.map fj), .seq 2 (m.x.2.2.2.1.map cI),B m.x.2.2.2.2,bs m.said,I m.steps,I 0,I (-1)]
def r0(m:mw):tn->List AV
 |none=>tR m
 |some (k,a)=>By (k:Nat) (Tj a)
def Fr(m:mw):List AV:=[.seq 2 (m.wait.map cI),I m.data]
def ix(env:cf)(k p:Int):b8 prog env 58 [I k,I p] (.agg (By k p)):=by
 unfold By;refine qf func58 call58 ntmps58 results58 ?_;repeat refine nw ?_
 exact px
def wo(env:cf)(m:mw)(o:List Int)(w:List (List UInt8×Int))(d now:Int)(k:Nat)(b:((k:Int)==0)=false)(h:m.said.length<=256)(l:m.wait.length<=16)(i:o.length<=256)(j:w.length<=16):
 b8 prog env 31 [.agg (tR m), .agg (Fr m), .agg [.any, .any, .any, .any, .any,bs o, .seq 2 (w.map cI),I d,I now,I (k:Nat),I (-1)]] (.tuple [.agg (By (k:Nat) (-1)), .agg [.seq 2 ((m.wait++w).map cI),I m.data]]):=by
 have f0:=ix env k (-1);have c:dd m.said.length 8:=aC (by omega) (by omega);have e:dd (m.said.length+o.length) 8:=aC (by omega) (by omega);have f:dd m.wait.length 24:=aC (by omega) (by omega);have g:dd (m.wait.length+w.length) 24:=aC (by omega) (by omega);have a:((k:Int) != 0)=true:=by rw[bne,b];rfl
 unfold tR Fr By at*;simp only[NC];refine qf func31 call31 ntmps31 results31 ?_;have F:=ii a c e f g;exact kb f0
def wn(env:cf)(m:mw)(r:cD)(d now:Int)(i:m.said.length<=256)(n:m.wait.length<=16)(j:r.outs.length<=256)(l:r.Z8.length<=16):
 b8 prog env 31 [.agg (tR m), .agg (Fr m), .agg (fk r d now none)] (.tuple [.agg (r0 (sy ⟨N' r,m.said,m.steps,m.wait,m.data⟩ r.outs r.Z8).1 (sy ⟨N' r,m.said,m.steps,m.wait,m.data⟩ r.outs r.Z8).2), .agg (Fr (sy ⟨N' r,m.said,m.steps,m.wait,m.data⟩ r.outs r.Z8).1)]):=by
 have f0:=ix env 8 (-1);have c:dd m.said.length 8:=aC (by omega) (by omega);have f:dd (m.said.length+r.outs.length) 8:=aC (by omega) (by omega);have g:dd m.wait.length 24:=aC (by omega) (by omega);have h:dd (m.wait.length+r.Z8.length) 24:=aC (by omega) (by omega);have o:(m.said++r.outs).length=m.said.length+r.outs.length:=NA;have p:(m.wait++r.Z8).length=m.wait.length+r.Z8.length:=NA;unfold sy;by_cases k:256< (m.said++r.outs).length\/16< (m.wait++r.Z8).length
 ·rw[Mw k];show b8 _ _ _ _ (.tuple [.agg (By 8 (-1)), .agg [.seq 2 ((m.wait++r.Z8).map cI),I m.data]]);unfold tR Fr fk By at*;simp only[NC];by_cases a:(256:Int)< ((m.said.length+r.outs.length:Nat):Int)
  ·refine qf func31 call31 ntmps31 results31 ?_;have F:=ii a c f g h;exact kb f0
  have b:(16:Int)< ((m.wait.length+r.Z8.length:Nat):Int):=by omega
  refine qf func31 call31 ntmps31 results31 ?_;have F:=kv a b c f g h;exact kb f0
 rw[Mv k];have a: ¬(256:Int)< ((m.said.length+r.outs.length:Nat):Int):=by omega
 have b: ¬(16:Int)< ((m.wait.length+r.Z8.length:Nat):Int):=by omega
 have e:bs (m.said++r.outs)= .seq 1 (m.said.map aa++r.outs.map aa):=by unfold bs;rw[NC]
 unfold r0 tR Fr fk N';simp only[NC,e];refine qf func31 call31 ntmps31 results31 ?_;have F:=kv a b c f g h;exact fc
def Ll(c:aq)(now:Int)(F:Nat)(m:mw)(ev:List UInt8):AV:=match lx c m ev with
 | .error n=> .tuple [.agg (By 2 (1000+(n:Nat))), .agg (Fr m),B false]
 | .ok []=> .tuple [.agg (tR m), .agg (Fr m),B false]
 | .ok (k::l)=>if F<=m.steps then .tuple [.agg (By 6 (-1)), .agg (Fr m),B false] else match md c m.data now (bj m.x) (k::l) with
   |(r,some e)=> .tuple [.agg (By (e.1:Nat) (-1)), .agg [.seq 2 ((m.wait++r.Z8).map cI),I m.data],B true]
   |(r,none)=> .tuple [.agg (r0 (FL m r).1 (FL m r).2), .agg (Fr (FL m r).1),B true]
def Ed(c:aq)(now:Int)(F:Nat)(m:mw)(ev:List UInt8): ∃W b,Ll c now F m ev= .tuple [.agg (r0 (v2 c now F m ev).1.1 (v2 c now F m ev).1.2), .agg [.seq 2 W,I (v2 c now F m ev).1.1.data],B b]/\((v2 c now F m ev).1.2=none->W=(v2 c now F m ev).1.1.wait.map cI/\b=(v2 c now F m ev).2):=by
 unfold Ll v2;cases lx c m ev with
 |error n=>exact⟨_,_,rfl,fun h=>by cases h⟩
 | ok f=>
   cases f with
   |nil=>exact⟨_,_,rfl,fun _=>⟨rfl,rfl⟩⟩
   | cons k l=>
     simp only;unfold rt;by_cases a:F<=m.steps
     ·rw[Mw a,Mw a];exact⟨_,_,rfl,fun h=>by cases h⟩
     rw[Mv a,Mv a];rcases g:md c m.data now (bj m.x) (k::l) with⟨r,_|e⟩
     ·refine⟨(FL m r).1.wait.map cI,true,?_,fun _=>⟨rfl,rfl⟩⟩;simp only;unfold Fr;rfl
     have i:=FK (FB (c:=c) (d:=m.data) (now:=now) (ts:=k::l) (r:=bj m.x) (e:=e) (by rw[g]));refine⟨(m.wait++r.Z8).map cI,true,?_,fun h=>by cases h⟩;simp only[r0];rw[i]
def Hv(env:cf){c:aq}(h:ct c)(e:hP c){x:tD}{d:Int}(f:cq c (M' x)=true)(g:aJ d=true)(ev:List UInt8):b8 prog env 61 [.agg (aA c), .agg (i' x),Sg ev,I d] (Tr (rY c x.1 (IS c x.1 x.2.1 d) ev (x4 c (x.1.map Int.toNat)))):=by
 have a:=dp f;have k:=(e9 h e.vars a).act;obtain⟨l,b,i⟩:=tQ a.lg;rw[yz b];exact yY env c h e x d ⟨by omega,a.len,a.fit,g,a.lg⟩ ev l b i
def wm(env:cf){c:aq}(h:ct c)(A:hP c)(t:c.vars.length<=8){now:Int}(z:0<=now/\now<=1099511627776){fu:Nat}{m:mw}(i:kE c fu m)(ev:List UInt8):
 b8 prog env 34 [.agg (aA c), .agg (tR m), .agg (Fr m),Sg ev,I now,I fu] (Ll c now fu m ev):=by
 have p:=dp i.inst;have H:=(e9 h A.vars p).act;have a:=Hv env h A i.inst i.data ev;change b8 _ _ _ _ (Tr (lx c m ev)) at a;unfold Ll;cases s:lx c m ev with
 | error n=>
   rw[s]at a;have f0:=ix env 2 (1000+(n:Nat));unfold Tr aA i' at a;unfold aA tR Fr By at*;simp only at a;refine qf func34 call34 ntmps34 results34 ?_;repeat refine sL a f0 ?_
   exact px
 | ok f=>
   rw[s]at a;cases f with
   | nil=>
     unfold Tr aA i' at a;unfold aA tR Fr;simp only[O3]at a;refine qf func34 call34 ntmps34 results34 ?_;repeat refine jG a ?_
     exact px
   | cons k l=>
     have x:=qN h p.lg s;have q:(((l.length+1:Nat):Int)==0)=false:=by rw[Oz];omega
     simp only;by_cases v:fu<=m.steps
     ·rw[Mw v];have o:(fu:Int)<=(m.steps:Int):=by omega
      have f0:=ix env 6 (-1);unfold Tr aA i' at a;unfold aA tR Fr By at*;simp only[Nh]at a;refine qf func34 call34 ntmps34 results34 ?_;have F:=ai q o;exact ns a f0
     rw[Mv v];have o: ¬(fu:Int)<=(m.steps:Int):=by omega
     have D:=i.ZQ;have u:IntKind.i64.wrap ((m.steps:Int)+1)=((m.steps+1:Nat):Int):=aD (show m.steps<fu by omega) (by omega);have b:=DT env c h t m.data now i.data z m.x p (by omega) (k::l) x;have d:=Ik h i.data z p x;have j:=sQ c m.data now (bj m.x) (k::l);rcases w:md c m.data now (bj m.x) (k::l) with⟨r,_|⟨e,J⟩⟩
     ·rw[w]at b d;have g:=wn env ⟨m.x,m.said,m.steps+1,m.wait,m.data⟩ r m.data now i.said i.wait d.outs d.Z8;change b8 _ _ _ _ (.tuple [.agg (r0 (FL m r).1 (FL m r).2), .agg (Fr (FL m r).1)]) at g;show b8 _ _ _ _ (.tuple [.agg (r0 (FL m r).1 (FL m r).2), .agg (Fr (FL m r).1),B true]);generalize FL m r=Y at*;rcases Y with⟨y,_|⟨G,C⟩⟩
      ·unfold r0 at g |-;unfold TO fk at b;unfold Tr aA i' at a;unfold aA i' at b;unfold aA;unfold tR Fr at*;unfold fk at g;simp only[Nh]at a b g |-;refine qf func34 call34 ntmps34 results34 ?_;have F:=gs q o u;exact D0 a b g
      unfold r0 at g |-;unfold TO fk at b;unfold Tr aA i' at a;unfold aA i' at b;unfold aA;unfold tR Fr By at*;unfold fk at g;simp only[Nh]at a b g |-;refine qf func34 call34 ntmps34 results34 ?_;have F:=gs q o u;exact D0 a b g
     rw[w]at b d j;have E:=uD j rfl;have g:=wo env ⟨m.x,m.said,m.steps+1,m.wait,m.data⟩ r.outs r.Z8 m.data now e E i.said i.wait d.outs d.Z8;unfold TO at b;unfold Tr aA i' at a;unfold aA i' at b;unfold aA;unfold tR Fr By at*;simp only[Nh]at a b g |-;refine qf func34 call34 ntmps34 results34 ?_;have F:=gs q o u;exact D0 a b g
def wb(env:cf){c:aq}(h:ct c)(hs:hP c)(hvl:c.vars.length<=8){now:Int}(J:0<=now/\now<=1099511627776){fu:Nat}{m:mw}(t:kE c fu m):
 b8 prog env 33 [.agg (aA c), .agg (tR m), .agg (Fr m),I now,I fu] (.agg (r0 (y1 c now fu NM m).1 (y1 c now fu NM m).2)):=by
 obtain⟨X,a⟩: ∃X,y1 c now fu NM m=X:=⟨_,rfl⟩;have l:=El t;have M:=IX h J t;rw[a]at M |-;have C:=fun(m:mw)(t:kE c fu m) ev=>wm env h hs hvl J t ev
 have R: ∀k Z,X.2=some (k,Z)->((k:Int)==0)=false:=fun k Z P=>by
  have:=M _ P;simp only at this;rw[Oz];omega
 unfold aA at C |-;refine qf func33 call33 ntmps33 results33 ?_;have F:=aA.eq_1;repeat refine st ?_
 refine aH (D:=mw×tn×List (List AV)×Nat) (fun y vs=>[(3,I now),(4,I fu),(5, .loc 5 (vs 5) 0 0),(6, .loc 6 (vs 6) 0 0),(7, .loc 7 (vs 7) 0 0),(10, .loc 10 (vs 10) 0 0),(11,I y.2.2.2)]) (fun y _=>[(5,⟨5,[[Sg c.name,I c.initial,qa c.vars,rv c.Z9,tg c.trans]],26,false⟩),(6,⟨9,[r0 y.1 y.2.1],46,false⟩),(7,⟨2,[[.seq 2 y.2.2.1,I y.1.data]],87,false⟩),(10,⟨9,[[b6,b6,b6,b6,B false,b6,I 0,I 0,I 0]],46,false⟩)]) (fun y _ A=>((match y.2.1 with
  |none=>kE c fu y.1/\(∃k,y1 c now fu k y.1=X/\jS fu y.1<k)/\y.2.2.1=y.1.wait.map cI/\jS fu y.1+y.2.2.2<=5000
  |some e=>X.2=some e/\y.2.2.2<=5001))/\A 6=false/\A 7=false/\A 10=false) (fun y=>match y.2.1 with
  |none=>jS fu y.1+1
  |some _=>0) (m,none,m.wait.map cI,0) ?_ ?_ ?_ ?_
 ·exact⟨⟨t,⟨NM,a,l⟩,rfl,by unfold NM at l;simp only;omega⟩,by simp only[go_sem,NH]⟩
 ·exact qe
 ·(simp only[go_sem,r0,tR,Fr])
  try rfl
 try clear t a l
 rintro⟨m,e,W,n⟩ us es ⟨s,o,p,d⟩;simp only at s;rcases e with _|⟨k,Z⟩
 case some=>
  obtain⟨a,hn5⟩:=s;have P:=R k Z a;have z:(n:Int)<10000:=by omega
  rw[a];unfold r0 By;simp only;have F:=ii z P o p d;exact fc
 obtain⟨t,⟨k,a,l⟩,rfl,hn5⟩:=s;obtain⟨k,rfl⟩: ∃j,k=j+1:=⟨k-1,by omega⟩;have z:(n:Int)<10000:=by omega
 have K:IntKind.i64.wrap ((n:Int)+1)=((n+1:Nat):Int):=aD (show n<10000 by omega) (by omega);unfold y1 at a;by_cases i:m.x.2.2.2.2=true
 ·rw[Mw i]at a;subst a;unfold r0 tR;simp only;have F:=ii z i o p d;exact fc
 rw[Mv i]at a;have i:m.x.2.2.2.2=false:=by simpa using i
 have f:=C m t [];have ha:=km h J t i (ev:=[]);have O:=ri h J t i (ev:=[]);obtain⟨W1,b1,hr,T⟩:=Ed c now fu m [];rw[hr]at f;try clear hr
 rcases hA:v2 c now fu m []with⟨⟨g,_|⟨V,H⟩⟩,b⟩
 case some=>
  rw[hA]at a f;simp only at a f;have r:X.2=some (V,H):=by rw[<-a]
  have P:=R _ _ r;have Q:((V:Int) != 0)=true:=by rw[bne,P];rfl
  unfold r0 tR By Fr at f;unfold r0 tR;simp only at f |-;cases b1 with
  | true=>
    have F:=m7 z K i Q o p d;repeat refine ff f ?_
    refine⟨(g,some (V,H),W1,n+1),⟨⟨r,by simp only;omega⟩,by simp only[go_sem,o,p,d,NH]⟩,?_,?_,by simp only;omega⟩
    ·exact qe
    ·(simp only[go_sem,r0,By])
  | false=>
    have F:=m7 z K i Q o p d;repeat refine ff f ?_
    refine⟨(g,some (V,H),W1,n+1),⟨⟨r,by simp only;omega⟩,by simp only[go_sem,o,p,d,NH]⟩,?_,?_,by simp only;omega⟩
    ·exact qe
    ·(simp only[go_sem,r0,By])
 rw[hA]at a f ha O T;obtain⟨d1,d2,d3⟩:=ha rfl;obtain⟨f1,f2⟩:=O rfl;obtain⟨L,N⟩:=T rfl;simp only at a f d1 d2 d3 f1 f2 L N;subst L N;cases b1 with
 | true=>
   simp only at a;have f2:=f2 rfl;unfold r0 tR Fr at f;unfold r0 tR;simp only at f |-;have F:=kv z K i o p d;repeat refine ff f ?_
   refine⟨(g,none,g.wait.map cI,n+1),⟨⟨d1,⟨k,a,show jS fu g<k by omega⟩,rfl,by simp only;omega⟩,by simp only[go_sem,o,p,d,NH]⟩,?_,?_,by simp only;omega⟩
   ·exact qe
   ·(simp only[go_sem,r0,tR])
 |false=>
 obtain rfl:g=m:=by rcases d3 with⟨q,_⟩|⟨_,q⟩;cases q;exact q
 simp only at a;cases v:g.wait with
 | nil=>
   rw[v]at a;simp only at a;subst a;have q3:((g.wait.length:Int)==0)=true:=by rw[v];rfl
   rw[<-v];unfold r0 tR Fr at f;unfold r0 tR;simp only at f |-;have F:=m7 z K q3 i o p d;exact kb f
 | cons e w=>
   rw[v]at a;simp only at a;have q3:((g.wait.length:Int)==0)=false:=by rw[v,Oz];simp only[NQ];omega
   have q4:g.wait[0]? =some e:=by rw[v];rfl
   have q5:(0:Int)< (g.wait.length:Int):=by rw[v];simp only[NQ];omega
   have q6:(1:Int)<=(g.wait.length:Int):=by omega
   have q7:(g.wait.drop 1).take (g.wait.length-1)=w:=by rw[v,List.drop_one,SH,NQ,Pu,NS]
   have G:=zl t v;have x:=C _ G e.1;have hb:=km h J G i (ev:=e.1);have E:=ri h J G i (ev:=e.1);have hfl:jS fu { g with wait:=w,data:=e.2 } <jS fu g:=by unfold jS;rw[v];simp
   obtain⟨W2,b2,S,u⟩:=Ed c now fu { g with wait:=w,data:=e.2 } e.1;rw[S]at x;try clear S
   rw[<-v];rcases hB:v2 c now fu { g with wait:=w,data:=e.2 } e.1 with⟨⟨Y,er⟩,b⟩;rw[hB]at a x hb E u;simp only at a x hb E u;rcases er with _|⟨k2,U⟩
   ·obtain⟨g1,_,_⟩:=hb rfl;obtain⟨h1,_⟩:=E rfl;obtain⟨hW2,_⟩:=u rfl;simp only at a h1;subst hW2;unfold r0 tR Fr at f x;unfold r0 tR;simp only at f x |-;have F:=ed UD z K q3 q4 q5 q6 q7 i o p d;repeat refine y3 f x ?_
    refine⟨(Y,none,Y.wait.map cI,n+1),⟨⟨g1,⟨k,a,show jS fu Y<k by omega⟩,rfl,by simp only;omega⟩,by simp only[go_sem,o,p,d,NH]⟩,?_,?_,by simp only;omega⟩
    ·exact qe
    ·(simp only[go_sem,r0,tR])
   simp only at a;have r:X.2=some (k2,U):=by rw[<-a]
   unfold r0 tR Fr at f;unfold r0 tR By Fr at x;unfold r0 tR;simp only at f x |-;have F:=ed UD z K q3 q4 q5 q6 q7 i o p d;repeat refine y3 f x ?_
   refine⟨(Y,some (k2,U),W2,n+1),⟨⟨r,by simp only;omega⟩,by simp only[go_sem,o,p,d,NH]⟩,?_,?_,by simp only;omega⟩
   ·exact qe
   ·(simp only[go_sem,r0,By])
def nN(env:cf)(c:aq)(k p:Int)(W:List (List AV))(d now f:Int)(e:(k==0)=false):b8 prog env 33 [.agg (aA c), .agg (By k p), .agg [.seq 2 W,I d],I now,I f] (.agg (By k p)):=by
 unfold By aA;refine qf func33 call33 ntmps33 results33 ?_;have F:=e;repeat refine st ?_
 refine aH (D:=Nat) (fun _ g=>[(6, .loc 6 (g 6) 0 0),(10, .loc 10 (g 10) 0 0),(11,I (0:Nat))]) (fun y _=>[(6,⟨9,[[b6,b6,b6,b6,B false,b6,I 0,I k,I p]],46,false⟩),(10,⟨9,[[b6,b6,b6,b6,B false,b6,I 0,I 0,I 0]],46,false⟩)]) (fun y _ b=>b 10=false) (fun y=>y) 0 ?_ ?_ ?_ ?_
 ·simp only[go_sem]
 ·exact qe
 ·exact qe
 rintro y j i a;have h:((0:Nat):Int)<10000:=by omega
 have F:=gs h e a;exact fc
def Ad(env:cf){c:aq}(h:ct c)(q:hP c)(e:c.vars.length<=8){now:Int}(f:0<=now/\now<=1099511627776){fu:Nat}{x:tD}{ev:List UInt8}{d:Int}(s:cq c (M' x)=true)(v:x.2.2.2.2=false)(t:aJ d=true)(r:fu<=256):
 b8 prog env 16 [.agg (aA c), .agg (i' x), .agg [Sg ev,I d],I now,I fu] (.agg (r0 (iK c now fu x ev d).1 (iK c now fu x ev d).2)):=by
 have o:=Kb s t r;have f0:=wm env h q e f o ev;have l:=km h f o v (ev:=ev);have n:=I1 c now fu (m0 x d) ev;obtain⟨W,w,p,a⟩:=Ed c now fu (m0 x d) ev;rw[p]at f0;try clear p
 have f1:=f0.args (cs':=[.agg (aA c), .agg [bs x.1,bs x.2.1, .seq 2 (x.2.2.1.map fj), .seq 2 (x.2.2.2.1.map cI),B x.2.2.2.2,b6,I 0,I 0,I (-1)], .agg [b6,I d],Sg ev,I now,I fu]) (.cons (.refl _) (.cons (.agg (.cons (.refl _) (.cons (.refl _) (.cons (.refl _) (.cons (.refl _) (.cons (.refl _) (.cons (.nil 1) (.cons (.refl _) (.cons (.refl _) (.cons (.refl _) .nil)))))))))) (.cons (.agg (.cons (.nil 2) (.cons (.refl _) .nil))) (.cons (.refl _) (.cons (.refl _) (.cons (.refl _) .nil))))));try clear f0
 unfold iK;rcases i:v2 c now fu (m0 x d) ev with⟨⟨m,_|⟨k,g⟩⟩,b⟩
 ·rw[i]at f1 l a;obtain⟨j,_⟩:=a rfl;simp only at j;subst j;have f2:=wb env h q e f (l rfl).1;show b8 _ _ _ _ (.agg (r0 (y1 c now fu NM m).1 (y1 c now fu NM m).2));generalize y1 c now fu NM m=X at*;unfold aA at f1 f2 |-;unfold i';unfold Fr at f2;simp only at f1;rcases X with⟨y,_|⟨k,g⟩⟩
  ·unfold r0 tR at f1 f2 |-;simp only at f1 f2 |-;refine qf func16 call16 ntmps16 results16 ?_;repeat refine sL f1 f2 ?_
   exact px
  unfold r0 at f1 f2 |-;unfold tR By at*;simp only at f1 f2 |-;refine qf func16 call16 ntmps16 results16 ?_;repeat refine sL f1 f2 ?_
  exact px
 rw[i]at f1 n
 have u:((k:Int)==0)=false:=by
  have:=n _ rfl;simp only at this;rw[Oz];omega
 have f2:=nN env c k (Tj g) W m.data now fu u;show b8 _ _ _ _ (.agg (By (k:Nat) (Tj g)));unfold aA at f1 f2 |-;unfold i';unfold r0 at f1;unfold By at*;simp only at f1;refine qf func16 call16 ntmps16 results16 ?_;repeat refine sL f1 f2 ?_
 exact px
def oG(env:cf){c:aq}(h:ct c)(x:hP c)(o:c.vars.length<=8){now:Int}(q:0<=now/\now<=1099511627776)(s: ∀v∈c.vars,aJ v.start=true){fu:Nat}(u:fu<=256):
 b8 prog env 14 [.agg (aA c),I now,I fu] (.agg (r0 (cd c now fu).1 (cd c now fu).2)):=by
 have f0:=DX env c h o now q s;have b:=(pE (bL h) (l:=zL (h9 c (-1))) (show aJ 0=true by rfl) q (y6 s) .nil).1;have i:=lX c 0 now (g4 c) (zL (h9 c (-1)));have j:=fun e=>C1 (c:=c) (d:=0) (now:=now) (l:=zL (h9 c (-1))) (r:=g4 c) (e:=e);change fe c (gu c now).1 at b;change rK (gu c now).2 at i;change ∀e,(gu c now).2=some e->GB e at j;have f:=jm h q u s;unfold cd;rcases t:gu c now with⟨r,_|⟨k,n⟩⟩
 ·rw[t]at f0 b f;have f:=f rfl;have a:=wn env (m0 ([],[],[],[],false) 0) r 0 now (NJ _) (NJ _) b.outs b.Z8;have a:=a.args (cs':=[.agg [b6,b6,b6,b6,B false,b6,I 0,I 0,I (-1)], .agg [b6,I 0], .agg (fk r 0 now none)]) (.cons (.agg (.cons (.nil 1) (.cons (.nil 1) (.cons (.nil 2) (.cons (.nil 2) (.cons (.refl _) (.cons (.nil 1) (.cons (.refl _) (.cons (.refl _) (.cons (.refl _) .nil)))))))))) (.cons (.agg (.cons (.nil 2) (.cons (.refl _) .nil))) (.cons (.refl _) .nil)));change b8 _ _ _ _ (.tuple [.agg (r0 (sy (m0 (N' r) 0) r.outs r.Z8).1 (sy (m0 (N' r) 0) r.outs r.Z8).2), .agg (Fr (sy (m0 (N' r) 0) r.outs r.Z8).1)]) at a;simp only at f;rcases g:sy (m0 (N' r) 0) r.outs r.Z8 with⟨m,_|⟨k,n⟩⟩
  ·rw[g]at a f;have f2:=wb env h x o q (f rfl);simp only[g];show b8 _ _ _ _ (.agg (r0 (y1 c now fu NM m).1 (y1 c now fu NM m).2));generalize y1 c now fu NM m=X at*;unfold aA at f0 f2 |-;unfold fk at f0 a;unfold Fr at a f2;simp only at f0 a;rcases X with⟨y,_|⟨k,n⟩⟩
   ·unfold r0 tR at a f2 |-;simp only at a f2 |-;refine qf func14 call14 ntmps14 results14 ?_;repeat refine Ci f0 a f2 ?_
    exact px
   unfold r0 at a f2 |-;unfold tR By at*;simp only at a f2 |-;refine qf func14 call14 ntmps14 results14 ?_;repeat refine Ci f0 a f2 ?_
   exact px
  rw[g]at a
  have p:((k:Int)==0)=false:=by
   unfold sy at g;split at g<;>cases g;rfl
  have f2:=nN env c k (Tj n) (m.wait.map cI) m.data now fu p;simp only[g];show b8 _ _ _ _ (.agg (By (k:Nat) (Tj n)));unfold aA at f0 f2 |-;unfold fk at f0 a;unfold Fr at a;unfold r0 at a;unfold By at*;simp only at f0 a;refine qf func14 call14 ntmps14 results14 ?_;repeat refine Ci f0 a f2 ?_
  exact px
 rw[t]at f0 b i j;have p:=uD i rfl;have a:=wo env (m0 ([],[],[],[],false) 0) r.outs r.Z8 0 now k p (NJ _) (NJ _) b.outs b.Z8;have a:=a.args (cs':=[.agg [b6,b6,b6,b6,B false,b6,I 0,I 0,I (-1)], .agg [b6,I 0], .agg [bs r.act, .any, .any, .any, .any,bs r.outs, .seq 2 (r.Z8.map cI),I 0,I now,I (k:Nat),I (-1)]]) (.cons (.agg (.cons (.nil 1) (.cons (.nil 1) (.cons (.nil 2) (.cons (.nil 2) (.cons (.refl _) (.cons (.nil 1) (.cons (.refl _) (.cons (.refl _) (.cons (.refl _) .nil)))))))))) (.cons (.agg (.cons (.nil 2) (.cons (.refl _) .nil))) (.cons (.agg (.cons (.any _) (.cons (.refl _) (.cons (.refl _) (.cons (.refl _) (.cons (.refl _) (.cons (.refl _) (.cons (.refl _) (.cons (.refl _) (.cons (.refl _) (.cons (.refl _) (.cons (.refl _) .nil)))))))))))) .nil)));have f2:=nN env c k (-1) ((([]:List (List UInt8×Int))++r.Z8).map cI) 0 now fu p;have w:=FK (j (k,n) rfl);show b8 _ _ _ _ (.agg (By (k:Nat) (Tj (-1::n.headD (-1)::n.tail))));rw[w];unfold aA at f0 f2 |-;unfold fk at f0;unfold m0 at a;unfold By at*;simp only at f0 a;refine qf func14 call14 ntmps14 results14 ?_;repeat refine Ci f0 a f2 ?_
 exact px
def Mp(x:Nat×List Int):Prop:=(∃p,x.2=[p]/\ -1<=p)\/x.2=[-1, -1]\/x.2=[-1, -1, -1]
def FP{e:Nat×List Int}(h:GB e):Mp (e.1, -1::e.2.headD (-1)::e.2.tail):=by
 rcases h with h|h
 ·exact .inr (.inl (by rw[h];rfl))
 exact .inr (.inr (by rw[h];rfl))
def K6{m:mw}{o:List Int}{r:List (List UInt8×Int)}{x:Nat×List Int}(h:(sy m o r).2=some x):Mp x:=by
 unfold sy at h;split at h<;>cases h;exact .inl ⟨-1,rfl,by omega⟩
def Lw{c:aq}{now:Int}{F:Nat}{m:mw}{ev:List UInt8}{x:Nat×List Int}(h:(v2 c now F m ev).1.2=some x):Mp x:=by
 unfold v2 at h;split at h
 ·cases h;exact .inl ⟨_,rfl,by omega⟩
 ·cases h
 unfold rt at h;simp only at h;split at h
 ·cases h;exact .inl ⟨-1,rfl,by omega⟩
 split at h
 ·rename_i r e a;cases h;exact FP (FB (by rw[a]))
 exact K6 h
def K9{c:aq}{now:Int}{F:Nat}{x:Nat×List Int}(d:x.1≠0): ∀(n:Nat)(m:mw),(y1 c now F n m).2=some x->Mp x
 |0,m,h=>by cases h;exact absurd rfl d
 | n+1,m,h=>by
   unfold y1 at h;split at h
   ·cases h
   have a:=Lw (c:=c) (now:=now) (F:=F) (m:=m) (ev:=[]) (x:=x);rcases i:v2 c now F m []with⟨⟨f,_|e⟩,_|_⟩<;>rw[i]at h a
   ·simp only at h;split at h
    ·cases h
    rename_i e w o;have g:=Lw (c:=c) (now:=now) (F:=F) (m:={ f with wait:=w,data:=e.2 }) (ev:=e.1) (x:=x);rcases j:v2 c now F { f with wait:=w,data:=e.2 } e.1 with⟨⟨k,_|l⟩,b⟩<;>rw[j]at h g
    ·exact K9 d n k h
    exact g h
   ·exact K9 d n f h
   ·exact a h
   exact a h
section
variable {c:aq} (h:ct c) {now:Int} (hn:0<=now/\now<=1099511627776) {F:Nat}
include h hn
theorem MF{m:mw}(b:kE c F m){x:Nat×List Int}(e:(y1 c now F NM m).2=some x):Mp x/\(x.1=2\/x.1=6\/x.1=8):=by
 have a:=IX h hn b _ e;exact⟨K9 (by omega) NM m e,a⟩
theorem Jt(k:F<=256)(p: ∀v∈c.vars,aJ v.start=true){e:Nat×List Int}(b:(cd c now F).2=some e):Mp e/\(e.1=2\/e.1=6\/e.1=8):=by
 have a:=jm h hn k p;have f:=lX c 0 now (g4 c) (zL (h9 c (-1)));have g:=fun e=>C1 (c:=c) (d:=0) (now:=now) (l:=zL (h9 c (-1))) (r:=g4 c) (e:=e);change rK (gu c now).2 at f;change ∀e,(gu c now).2=some e->GB e at g;unfold cd at b;rcases n:gu c now with⟨r,_|y⟩<;>rw[n]at b a f g
 ·simp only at b a;have j:=fun x=>K6 (m:=m0 (N' r) 0) (o:=r.outs) (r:=r.Z8) (x:=x);rcases i:sy (m0 (N' r) 0) r.outs r.Z8 with⟨m,_|y⟩<;>rw[i]at b a j
  ·exact MF h hn (a trivial rfl) b
  cases b;refine⟨j _ rfl,?_⟩;unfold sy at i;split at i<;>cases i;exact .inr (.inr rfl)
 cases b;have:=f y rfl;exact⟨FP (g y rfl),by simp only;omega⟩
end
end
section
open Go.RowKit
structure L4(n:Nat)(w:World)(b0 o0 b1 o1 b2 o2 b3 o3:Nat)(a:Addr):Prop where
 l0:b0<n
 l1:b1<n
 l2:b2<n
 l3:b3<n
 lg:9<n
 p0:w.cell? ⟨b0,o0+1,none⟩=some (.int .i64 (-1))
 s0:w.cell? ⟨b0,o0+2,none⟩=some (.iface 134 (.pointer (some ⟨b1,o1,none⟩)))
 p1:w.cell? ⟨b1,o1+1,none⟩=some (.int .i64 (-1))
 s1:w.cell? ⟨b1,o1+2,none⟩=some (.iface 134 (.pointer (some ⟨b2,o2,none⟩)))
 p2:w.cell? ⟨b2,o2+1,none⟩=some (.int .i64 (-1))
 s2:w.cell? ⟨b2,o2+2,none⟩=some (.iface 134 (.pointer (some ⟨b3,o3,none⟩)))
 p3:w.cell? ⟨b3,o3+1,none⟩=some (.int .i64 (-1))
 s3:w.cell? ⟨b3,o3+2,none⟩=some (.iface 369 (.pointer (some a)))
 hg:w.cell? ⟨9,0,none⟩=some zE
def L4.below{n:Nat}{w l:World}{c g d i e j f k:Nat}{a:Addr}(h:L4 n w c g d i e j f k a)(b:Below n w l):L4 n l c g d i e j f k a:=
 ⟨h.l0,h.l1,h.l2,h.l3,h.lg,(b.cell (p:=⟨c,g+1,none⟩) h.l0).trans h.p0,(b.cell (p:=⟨c,g+2,none⟩) h.l0).trans h.s0,(b.cell (p:=⟨d,i+1,none⟩) h.l1).trans h.p1,(b.cell (p:=⟨d,i+2,none⟩) h.l1).trans h.s1,(b.cell (p:=⟨e,j+1,none⟩) h.l2).trans h.p2,(b.cell (p:=⟨e,j+2,none⟩) h.l2).trans h.s2,(b.cell (p:=⟨f,k+1,none⟩) h.l3).trans h.p3,(b.cell (p:=⟨f,k+2,none⟩) h.l3).trans h.s3,(b.cell (p:=⟨9,0,none⟩) h.lg).trans h.hg⟩
def Gs(b0 o0 b1 o1 b2 o2 b3 o3:Nat)(a:Addr)(w:World)(L:L4 w.heap.size w b0 o0 b1 o1 b2 o2 b3 o3 a):
 Calls prog 40 #[.iface 134 (.pointer (some ⟨b0,o0,none⟩))] w fun e w'=>e= .returned (.int .i64 (-1))/\Below w.heap.size w w':=by
 have hb0:=(OY w.heap.size w).alloc (ND _) (.cells #[.pointer none] 134);have L0:=Nc (L.below hb0);have B0:=Nc hb0;have hwb:gc (w.alloc (.cells #[.pointer none] 134)) w.heap.size 134 #[.pointer none]:=gc.new w 134 #[.pointer none];try clear hb0 L
 go_enter func40,ntmps40
 go_wp2_with fail
 refine Pk 5 ?_;rw[Ow]
 go_wp2_with fail
 refine(bZ ⟨b0,o0,none⟩ ⟨w.heap.size,0,none⟩ (.pointer none) _ L0.out.hg (by simp) (hwb.frozen 0) rfl).mono ?_;rintro e w2 ⟨rfl,hc0,fz0,hb⟩;have L1:=Nc (L0.out.below hb);have B1:=Nc (B0.out.trans hb);have hp0:=L1.out.p0;have hs0:=L1.out.s0;try clear hb
 go_wp2_with fail
 try clear hp0 hs0
 rw[Ow]
 go_wp2_with fail
 refine(bZ ⟨b1,o1,none⟩ ⟨w.heap.size,0,none⟩ (.pointer (some ⟨b0,o0,none⟩)) w2 L1.out.hg hc0 fz0 rfl).mono ?_;rintro e w3 ⟨rfl,hc1,fz1,hb⟩;have L2:=Nc (L1.out.below hb);have B2:=Nc (B1.out.trans hb);have hp0:=L2.out.p1;have hs0:=L2.out.s1;try clear hb
 go_wp2_with fail
 try clear hp0 hs0
 rw[Ow]
 go_wp2_with fail
 refine(bZ ⟨b2,o2,none⟩ ⟨w.heap.size,0,none⟩ (.pointer (some ⟨b1,o1,none⟩)) w3 L2.out.hg hc1 fz1 rfl).mono ?_;rintro e w4 ⟨rfl,hc2,fz2,hb⟩;have L3:=Nc (L2.out.below hb);have B3:=Nc (B2.out.trans hb);have hp0:=L3.out.p2;have hs0:=L3.out.s2;try clear hb
 go_wp2_with fail
 try clear hp0 hs0
 rw[Ow]
 go_wp2_with fail
 refine(bZ ⟨b3,o3,none⟩ ⟨w.heap.size,0,none⟩ (.pointer (some ⟨b2,o2,none⟩)) w4 L3.out.hg hc2 fz2 rfl).mono ?_;rintro e w5 ⟨rfl,hc3,fz3,hb⟩;have L4:=Nc (L3.out.below hb);have B4:=Nc (B3.out.trans hb);have hp0:=L4.out.p3;have hs0:=L4.out.s3;try clear hb
 go_wp2_with fail
 try clear hp0 hs0
 rw[Ow]
 go_wp2_with fail
 refine(z8 a ⟨w.heap.size,0,none⟩ w5 L4.out.hg).mono ?_;rintro e w9 ⟨rfl,rfl⟩
 go_wp2_with fail
 go_ret
 have hsz:=B4.out.size;exact⟨rfl,((B4.out.alloc hsz _).alloc (by simp;omega) _).alloc (by simp;omega) _⟩
def Gv(env:cf)(m:env 9=some (.lit zE))(a:Addr):b8 prog env 40 [c0 (-1) (c0 (-1) (c0 (-1) (c0 (-1) (bt a))))] (I (-1)):=by
 refine mn call40 fun w S D l n o=> ?_
 match D,n with
 | [v],_=>
   obtain⟨u,b,_,_,k⟩:=l.env _ _ m;rw[k.lit_inv]at b;obtain⟨g,p,E,rfl,c,A,t⟩:=iW (o 0 v _ rfl rfl);obtain⟨h,q,G,rfl,d,B,x⟩:=iW t;obtain⟨i,r,H,rfl,e,C,y⟩:=iW x;obtain⟨j,s,J,rfl,p3,f,z⟩:=iW y;rw[z.lit_inv]at f;exact Gs g p h q i r j s a w ⟨ah c,ah d,ah e,ah p3,ah b,c,A,d,B,e,C,p3,f,b⟩
def jr(env:cf)(a:Nat->Addr)(c: ∀w,env.inv w->ql w a)(k:Nat)(d:1<=k/\k<=9)(p:Int)(ps:List Int):b8 prog env 13 [c0 p (fp ps (bt (a k))),I k] (B true):=by
 have f0:b8 prog env 30 [c0 p (fp ps (bt (a k)))] (I k):=BC env a c k d (p::ps);have b:(((k:Nat):Int)==0)=false:=by simp;omega
 generalize fp ps (bt (a k))=X at*;refine qf func13 call13 ntmps13 results13 ?_;have F:=b;exact kb f0
def D2(env:cf)(b:env 9=some (.lit zE))(a:Addr){k:Nat}{ps:List Int}(h:Mp (k,ps)):b8 prog env 40 [c0 (-1) (c0 (ps.headD (-1)) (fp ps.tail (bt a)))] (I (Tj ps)):=by
 rcases h with⟨p,h,d⟩|h|h<;>simp only at h<;>subst h
 ·have:=Gx env b p d a
  rw[show Tj [p]=p by
   unfold Tj;by_cases c:0<=p
   ·simp[c]
   simp[c];omega]
  exact this
 ·exact Gw env b (-1) (by omega) a
 exact Gv env b a
def I9:zw (([],[],[],[],false):tD):=by
 refine⟨⟨NJ _,NJ _⟩,⟨NJ _,fun m a=> ?_⟩,NJ _,fun t b=> ?_⟩
 ·simp at a
 simp at b
def G7(env:cf):b8 prog env 17 [.agg du, .agg du] (B true):=by
 have f0:=lA env [] [] ([],[],[],[],false) I9 rfl rfl;have s:DS (.agg du) (.agg (i' ([],[],[],[],false))):= .agg (.cons (.nil 1) (.cons (.nil 1) (.cons (.nil 2) (.cons (.nil 2) (.cons (.refl _) .nil)))));exact f0.args (.cons s (.cons s .nil))
def A6(env:cf)(m:mw)(b:zw m.x)(c:m.said.length<=1000000):b8 prog env 20 [.agg (i' m.x), .agg [bs m.said,I m.steps,B m.x.2.2.2.2],ik, .agg (tR m)] (B true):=by
 have f0:=lA env m.x.1 m.x.2.1 m.x b rfl rfl;rw[show ((m.x.1==m.x.1)&&(m.x.2.1==m.x.2.1))=true by simp]at f0;have f1:=mH env m.said c;unfold i' at f0 |-;unfold tR;cases a:m.x.2.2.2.2
 ·refine qf func20 call20 ntmps20 results20 ?_;have F:=a;exact ns f0 f1
 refine qf func20 call20 ntmps20 results20 ?_;have F:=a;exact ns f0 f1
def A7(env:cf)(a:Nat->Addr)(f: ∀w,env.inv w->ql w a)(g:env 9=some (.lit zE))(k:Nat)(ps:List Int)(i:Mp (k,ps))(h:k=2\/k=6\/k=8):b8 prog env 20 [.agg du, .agg dt,c0 (-1) (c0 (ps.headD (-1)) (fp ps.tail (bt (if k=2 then a 2 else if k=6 then a 6 else a 8)))), .agg (By (k:Nat) (Tj ps))] (B true):=by
 have b:(if k=2 then a 2 else if k=6 then a 6 else a 8)=a k:=by rcases h with rfl|rfl|rfl<;>rfl
 have e:((k:Int) != 0)=true:=by rw[Rf];omega
 have d:b8 prog env 13 [c0 (-1) (c0 (ps.headD (-1)) (fp ps.tail (bt (a k)))),I k] (B true):=jr env a f k (by omega) (-1) (ps.headD (-1)::ps.tail);have c:=D2 env g (a k) i;have fz:=G7 env;rw[b];generalize fp ps.tail (bt (a k))=V at*;unfold du dt By at*;refine qf func20 call20 ntmps20 results20 ?_;have F:=e;exact D0 d c fz
def sG(env:cf)(a:Addr)(d:env 6=some (bt a))(b:List UInt8)(n f:Int):b8 prog env 36 [Sg b, .lit (.pointer none),I n,I f] (c0 (-1) (bt a)):=by
 have c:=gg d;have f0:=b9 env b a;refine qf func36 call36 ntmps36 results36 ?_;have F:=c;exact kb f0
def vk(env:cf)(a:Addr)(b:env 6=some (bt a))(n f:Int):b8 prog env 19 [.lit (.pointer none),I n,I f] (bq (c0 (-1) (bt a))):=by
 have f0:=sG env a b [109,97,99,114,111,46,66,101,103,105,110] n f;unfold bq du dt;refine qf func19 call19 ntmps19 results19 ?_;repeat refine jG f0 ?_
 exact px
def mz(a:Nat->Addr)(c:aq)(K:jL c)(n f:Int):b8 prog (bf a) 4 [.agg (aA c),I n,I f] (B true):=by
 have D:=HK a;have Q:=D7 a;have J:=yZ a;have N:bf a 1=some (bt (a 2)):=rfl;have O:bf a 5=some (bt (a 6)):=rfl;have P:bf a 6=some (bt (a 7)):=rfl;have W:bf a 9=some (.lit zE):=rfl;have t7:b8 prog (bf a) 13 [c0 (-1) (bt (a 7)),I 7] (B true):=jr (bf a) a J 7 (by omega) (-1) [];have t1:b8 prog (bf a) 13 [c0 (-1) (bt (a 1)),I 1] (B true):=jr (bf a) a J 1 (by omega) (-1) [];have l:=rJ (bf a) (a 1) (a 2) (a 6) (a 7) (a 8) D N O P Q;have j:=vk (bf a) (a 7) P n f;have i:=jB (bf a) c;have p:=kN (bf a) c;unfold bq du dt at j;cases g:lv c with
 | false=>
   have b:=qq (bf a) c g;generalize bt (a 7)=H at*;unfold aA at b i p;unfold lv at g;cases R:mS c with
   | false=>
     rw[R]at i;refine qf func4 call4 ntmps4 results4 ?_;have F:=aA.eq_1;exact TL j b t7 i p l
   | true=>
     rw[R]at i g;rw[Np]at g;rw[g]at p;refine qf func4 call4 ntmps4 results4 ?_;have F:=aA.eq_1;exact TL j b t7 i p l
 |true=>
 have h:=xU g;have L:=og (tj g);obtain⟨M,G⟩:=C5 (tj g);have b:=tM (bf a) (a 1) (a 8) D Q c K g;have o:=o6 (bf a) n f;try clear i p
 cases C:uP n f with
 | false=>
   rw[C]at o;have f0:=qm (bf a) (a 1) (a 8) D c n f C;unfold bq du dt at f0;generalize bt (a 7)=H at*;generalize bt (a 1)=Y at*;unfold aA aG at b;unfold aG at f0;refine qf func4 call4 ntmps4 results4 ?_;have F:=aA.eq_1;exact Un j b t7 f0 o t1 l
 |true=>
 rw[C]at o;obtain⟨w,s,rfl,d⟩:=K2 C;have E:CT (bf a) (a 1) (a 2) (a 6) (a 8) c n:=⟨D,N,O,h,L,w⟩;have f1:=nQ E G d;have f2:=oG (bf a) h L M w G d;have u:=fun e=>Jt h w d G (e:=e)
 have x:(cd c n s).2=none->kE c s (cd c n s).1:=fun q=>by
  have t:=jm h w d G;unfold cd at q |-;rcases A:gu c n with⟨r,_|y⟩<;>rw[A]at q t
  ·exact(Em h w (fun z=>t rfl z) q).1
  cases q
 rcases A:cd c n s with⟨m,_|⟨k,S⟩⟩
 ·rw[A]at f1 f2 x;have v:kE c s m:=x rfl;have X:=(e9 h L.vars (dp v.inst)).fewI;have f3:=A6 (bf a) m X.1 (NN v.said (by omega));generalize bt (a 7)=H at*;unfold qh at f1;unfold r0 at f2;unfold tR at f2 f3;unfold aA aG at b;unfold aG i' at f1;unfold aA at f2;unfold i' at f3;simp only at f1 f2;refine qf func4 call4 ntmps4 results4 ?_;have F:=aA.eq_1;exact Ug j b t7 o f1 f2 f3 l
 rw[A]at f1 f2 u;obtain⟨T,U⟩:=u _ rfl;have f3:=A7 (bf a) a J W k S T U;unfold qh bq at f1;unfold r0 at f2;simp only at f1 f2;generalize c0 (S.headD (-1)) _=V at*;generalize bt (a 7)=H at*;unfold du dt at f1 f3;unfold By at f2 f3;unfold aA aG at b;unfold aG at f1;unfold aA at f2;refine qf func4 call4 ntmps4 results4 ?_;have F:=aA.eq_1;exact Ug j b t7 o f1 f2 f3 l
end
section
open Go.RowKit Go.ChangeShapes
def Tryz.etName:prog.globalNamed "errors.errorType" =some 9:=by kernel_rfl
def Tryz.rtRow:(prog.cutTypes.find? (·.1 == "internal/reflectlite.rtype")).map (·.2)=some 237:=by kernel_rfl
def Tryz.errRow:((List.range prog.types.size).filter fun t=>prog.rowNamed t [101,114,114,111,114])=[40]:=by kernel_rfl
def Au{W:World}{l:List (String×DataW Unit)}(h:handlesMet prog l W)(a:("errors.errorType",Rows.laid_errors_errorType)∈l):W.cell? ⟨9,0,none⟩=some zE:=by
 obtain⟨name,u,j,c,d,e,f,b⟩:=h _ a;have g:name=[101,114,114,111,114]:=(OV c).symm;subst g;obtain rfl:=OV (Tryz.rtRow.symm.trans d);have a:j∈(List.range prog.types.size).filter fun t=>prog.rowNamed t [101,114,114,111,114]:=NF.2 ⟨NZ.2 e,f⟩;rw[Tryz.errRow]at a;obtain rfl:=NP.1 a;have i:typeHandle prog 40= .pointer (some ⟨11,40,none⟩):=by kernel_rfl
 rw[i]at b;simpa using R6 Tryz.etName b 0
def H4{W:World}(h:laidMetH prog [("math/bits.deBruijn32tab",Rows.laid_math_bits_deBruijn32tab),("errors.errorType",Rows.laid_errors_errorType),("scrinium/api.ErrForm",Rows.laid_scrinium_api_ErrForm),("scrinium/api.ErrRange",Rows.laid_scrinium_api_ErrRange),("scrinium/api.ErrFull",Rows.laid_scrinium_api_ErrFull),("scrinium/api.ErrNone",Rows.laid_scrinium_api_ErrNone),("scrinium/api.ErrCorrupt",Rows.laid_scrinium_api_ErrCorrupt),("scrinium/api.ErrFuel",Rows.laid_scrinium_api_ErrFuel),("scrinium/api.ErrState",Rows.laid_scrinium_api_ErrState),("scrinium/api.ErrLong",Rows.laid_scrinium_api_ErrLong),("scrinium/api.ErrTwice",Rows.laid_scrinium_api_ErrTwice)] W):(∃l,ql W l)/\r5 W/\W.cell? ⟨9,0,none⟩=some zE:=by
 have k:laidMet prog [("math/bits.deBruijn32tab",Rows.laid_math_bits_deBruijn32tab),("scrinium/api.ErrForm",Rows.laid_scrinium_api_ErrForm),("scrinium/api.ErrRange",Rows.laid_scrinium_api_ErrRange),("scrinium/api.ErrFull",Rows.laid_scrinium_api_ErrFull),("scrinium/api.ErrNone",Rows.laid_scrinium_api_ErrNone),("scrinium/api.ErrCorrupt",Rows.laid_scrinium_api_ErrCorrupt),("scrinium/api.ErrFuel",Rows.laid_scrinium_api_ErrFuel),("scrinium/api.ErrState",Rows.laid_scrinium_api_ErrState),("scrinium/api.ErrLong",Rows.laid_scrinium_api_ErrLong),("scrinium/api.ErrTwice",Rows.laid_scrinium_api_ErrTwice)] W/\handlesMet prog [("errors.errorType",Rows.laid_errors_errorType)] W:=h;have n:=Au k.2 (by simp);obtain⟨t,p,f,c⟩:=k.1;obtain⟨r,t0,m,f0,s,q,e,g,i,d,a,rfl⟩:=p;refine⟨mG ?_,KD e g i d,n⟩;rw[Px _ _ _ (by kernel_rfl)];exact⟨q,a,(O8.1 f).2.1,fun b j o=>c b j (Ov _ o)⟩
end
end Go.Proofs.YtfhkmjbjafeckaaGreatDoor
