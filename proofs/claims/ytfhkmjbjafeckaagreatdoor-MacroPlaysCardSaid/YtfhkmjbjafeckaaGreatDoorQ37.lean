/- Events and pairs of ints that came in. -/
import Derived.Test.YtfhkmjbjafeckaaGreatDoorQ35
set_option maxRecDepth 100000
set_option maxHeartbeats 16000000
set_option linter.unusedSimpArgs false
set_option linter.defProp false
namespace Go.Proofs.YtfhkmjbjafeckaaGreatDoor
open Go.Proofs.Tryz
section
open Go.RowKit
def fY(c:aq)(now:Int)(F:Nat):List (List UInt8×Int)->mw->List mw->Except (Nat×List Int) (mw×List mw)
 |[],m,o=> .ok (m,o)
 | e::l,m,o=>if m.x.2.2.2.2=true then .ok (m,o) else if aJ e.2=false\/S8 e.1=false then .error (1,[]) else match iK c now F m.x e.1 e.2 with
   |(a,none)=>fY c now F l a (o++[a])
   |(_,some (k,b))=> .error (k,b.headD (-1)::b.tail)
def IW(c:aq)(now:Int)(F:Nat)(l:List (List UInt8×Int)):Except (Nat×List Int) (mw×List mw):=match cd c now F with
 |(m,none)=>fY c now F l m [m]
 |(_,some (k,a))=> .error (k,a.headD (-1)::a.tail)
def Ti(m:mw):List AV:=[bs m.said,I m.steps,B m.x.2.2.2.2]
def so(a b c d:Addr):Except (Nat×List Int) (mw×List mw)->AV
 | .ok (m,o)=> .tuple [.agg (i' m.x), .seq 3 (o.map Ti),ik]
 | .error (k,e)=> .tuple [.agg du,b6,c0 (-1) (c0 (-1) (fp e (bt (if k=1 then a else if k=2 then b else if k=6 then c else d))))]
def rF{c:aq}(h:ct c){now:Int}(d:0<=now/\now<=1099511627776){F:Nat}(e:F<=256)(g: ∀v∈c.vars,aJ v.start=true)(b:(cd c now F).2=none):kE c F (cd c now F).1:=by
 have a:=jm h d e g;unfold cd at b |-;rcases f:gu c now with⟨r,_|y⟩<;>rw[f]at b a
 ·exact(Em h d (fun z=>a rfl z) b).1
 cases b
def uU{c:aq}(h:ct c){now:Int}(g:0<=now/\now<=1099511627776){F:Nat}(i:F<=256)(k: ∀v∈c.vars,aJ v.start=true){e:Nat×List Int}(b:(cd c now F).2=some e):e.1=2\/e.1=6\/e.1=8:=by
 have a:=jm h g i k;have d:=lX c 0 now (g4 c) (zL (h9 c (-1)));change rK (gu c now).2 at d;unfold cd at b;rcases j:gu c now with⟨r,_|y⟩<;>rw[j]at b a d
 ·simp only at b a;rcases f:sy (m0 (N' r) 0) r.outs r.Z8 with⟨m,_|y⟩<;>rw[f]at b a
  ·exact IX h g (a trivial rfl) _ b
  cases b;unfold sy at f;split at f<;>cases f;exact .inr (.inr rfl)
 cases b;have:=d y rfl;simp only;omega
def kE.x{c:aq}{F:Nat}{m:mw}(h:kE c F m){d:Int}(a:aJ d=true):kE c F (m0 m.x d):=Kb h.inst a h.ZQ
def tF(env:cf)(c:aq)(l:List (List UInt8×Int))(n f:Int)(p:Int)(e:AV)(a:b8 prog env 19 [aG c,I n,I f] (bq (c0 p e))):b8 prog env 11 [aG c, .seq 2 (l.map cI),I n,I f] (.tuple [.agg du,b6,c0 (-1) (c0 p e)]):=by
 have f1:=eZ env [109,97,99,114,111,46,80,108,97,121] p e;unfold bq du dt at a;unfold du;unfold aG at a |-;refine qf func11 call11 ntmps11 results11 ?_;repeat refine sL a f1 ?_
 exact px
def HP{env:cf}{f s u a7 g:Addr}{c:aq}{now:Int}(E:CT env f s u g c now)(h7:env 6=some (bt a7))(hv: ∀v∈c.vars,aJ v.start=true){fu:Nat}(P:fu<=256)(l:List (List UInt8×Int))(hl:l.length<=1000):
 b8 prog env 11 [aG c, .seq 2 (l.map cI),I now,I fu] (so f s u g (IW c now fu l)):=by
 have H:=nQ E hv P;have K:=rF E.h E.hn P hv;have f1:=fun p e=>eZ env [109,97,99,114,111,46,80,108,97,121] p e
 have x: ∀(m:mw)(d:kE c fu m)(b:m.x.2.2.2.2=false)(e:List UInt8×Int),((aJ e.2=false\/S8 e.1=false)/\b8 prog env 22 [aG c, .agg (i' m.x), .agg [Sg e.1,I e.2],I now,I fu] (bq (c0 (-1) (bt f))))\/(¬(aJ e.2=false\/S8 e.1=false)/\b8 prog env 22 [aG c, .agg (i' m.x), .agg [Sg e.1,I e.2],I now,I fu] (qh s u g (iK c now fu m.x e.1 e.2))):=fun m d b e=>by
  have kI:=e9 E.h E.hs.vars (dp d.inst);have knm: ∀t∈m.x.2.2.2.1,t.1.length<=9223372036854775807:=fun t ht=>NN (kI.nms t ht) (by omega);have O:=qo env f a7 g E.he h7 c E.h E.hs m.x kI.fewI.2 knm kI.ZN [109,97,99,114,111,46,83,101,110,100] e.2 now fu;cases q:aJ e.2
  ·rw[show FF f a7 c m.x e.2 now fu=c0 (-1) (bt f) by unfold FF;rw[d.inst,b,q];rfl]at O;exact .inl ⟨.inl rfl,Da env c m.x e.1 e.2 now fu _ _ O⟩
  rw[show FF f a7 c m.x e.2 now fu=ik by unfold FF;rw[d.inst,b,q,K1 E.hn P];rfl]at O;cases S:S8 e.1
  ·exact .inl ⟨.inr rfl,D9 env f g E.he c m.x e.1 S e.2 now fu O⟩
  exact .inr ⟨by simp,wy E d.inst b q P S O⟩
 have L:=fun(m:mw)(d:kE c fu m)(b:m.x.2.2.2.2=false)(e:List UInt8×Int)(q:aJ e.2=true)=>sW E.h E.hn (d.x q) b (ev:=e.1);have Z:=fun(m:mw)(d:kE c fu m)(b:m.x.2.2.2.2=false)(e:List UInt8×Int)(q:aJ e.2=true)=>yq E.h E.hn (d.x q) b (ev:=e.1);have J:=fun e=>uU E.h E.hn P hv (e:=e);have T: ∀k:Nat,(k=2\/k=6\/k=8)->(if k=1 then f else if k=2 then s else if k=6 then u else g)=(if k=2 then s else if k=6 then u else g):=fun k hk=>by rw[Mv (by omega)]
 unfold IW;rcases hB:cd c now fu with⟨m,_|⟨k,r⟩⟩
 case some=>
  rw[hB]at H J;have f2:=tF env c l now fu _ _ H;show b8 _ _ _ _ (.tuple [.agg du,b6,c0 (-1) (c0 (-1) (c0 (r.headD (-1)) (fp r.tail (bt (if k=1 then f else if k=2 then s else if k=6 then u else g)))))]);rw[T k (J _ rfl)];exact f2
 rw[hB]at H K;have d:=K rfl;simp only at d;show b8 _ _ _ _ (so f s u g (fY c now fu l m [m]));obtain⟨X,a⟩: ∃X,fY c now fu l m [m]=X:=⟨_,rfl⟩;rw[a];try clear hB K J
 unfold qh i' at H;unfold aG at H x |-;simp only at H;refine qf func11 call11 ntmps11 results11 ?_;repeat refine jG H ?_
 refine aH (D:=Nat×mw×List mw) (fun y vs=>[(0, .ref 9 [cy c] 0 0),(2,I now),(3,I fu),(8, .loc 8 (vs 8) 0 0),(11, .loc 11 (vs 11) 0 0),(12, .loc 12 (vs 12) 0 0),(14, .row 31 (vs 31)),(32, .seq 2 (l.map cI)),(33,I l.length),(34,I y.1)]) (fun y _=>[(8,⟨5,[[b6,b6,b6,b6,B false]],37,false⟩),(11,⟨5,[i' y.2.1.x],37,false⟩),(12,⟨3,[Ti y.2.1],56,false⟩),(31,⟨3,y.2.2.map Ti,56,true⟩)]) (fun y _ C=>(y.1<=l.length/\kE c fu y.2.1/\fY c now fu (l.drop y.1) y.2.1 y.2.2=X/\y.2.2.length=y.1+1)/\C 8=false/\C 11=false/\C 12=false/\C 31=false) (fun y=>l.length-y.1) (0,m,[m]) ?_ ?_ ?_ ?_
 ·exact⟨⟨NJ _,d,a,rfl⟩,by simp only[go_sem,NH]⟩
 ·exact TZ
 ·have F:=i'.eq_1
  (simp only[go_sem,Ti,F])
  try rfl
 try clear d a
 rintro⟨i,m,o⟩ us es ⟨⟨hi,d,a,U⟩,M,h,j,n⟩;simp only at hi d a U;by_cases G:i<l.length
 ·obtain⟨e,R⟩:=gE G;have N:=ip G;have k2:=aD G (by omega);rw[aZ R]at a;unfold fY at a;have eo:Ti m=[bs m.said,I m.steps,B m.x.2.2.2.2]:=rfl;rw[eo];unfold i';by_cases b:m.x.2.2.2.2=true
  ·rw[Mw b]at a;subst a;unfold so i';simp only;have F:=qs UD R N k2 b M h j n;exact fc
  rw[Mv b]at a;have b:m.x.2.2.2.2=false:=by simpa using b
  rcases x m d b e with⟨Q,w⟩|⟨z,w⟩
  ·rw[Mw Q]at a;subst a;have f2:=f1 (-1) (bt f);show fq _ _ _ _ _ _;unfold so fp du;unfold bq du dt i' at w;simp only[List.foldr_nil,Nn];have F:=qs UD R N k2 b M h j n;exact ns w f2
  rw[Mv z]at a
  have q:aJ e.2=true:=by
   cases q:aJ e.2
   ·exact absurd (.inl q) z
   rfl
  have W:=L m d b e q;have Y:=Z m d b e q;rcases hS:iK c now fu m.x e.1 e.2 with⟨A,_|⟨k,r⟩⟩
  ·rw[hS]at a w W;have hm2:kE c fu A:=W rfl;simp only at a;have q1:dd (o.length+1) 40:=aC (by omega) (by omega);have q2:(o++[A]).map Ti=o.map Ti++[[bs A.said,I A.steps,B A.x.2.2.2.2]]:=by rw[NC];rfl
   unfold qh i' at w;simp only at w;have F:=mX UD R N k2 q1 b M h j n;repeat refine ff w ?_
   refine⟨(i+1,A,o++[A]),⟨⟨G,hm2,a,by simp[U]⟩,by simp only[go_sem,M,h,j,n,NH]⟩,?_,?_,by simp only;omega⟩
   ·exact qe
   have eo2:Ti A=[bs A.said,I A.steps,B A.x.2.2.2.2]:=rfl;have F:=gs UK q2 eo2;exact qe
  rw[hS]at a w Y;subst a;have f2:=f1 (-1) (c0 (r.headD (-1)) (fp r.tail (bt (if k=2 then s else if k=6 then u else g))));show fq _ _ _ _ _ _;unfold qh bq du dt i' at w
  have e0:so f s u g (.error (k,r.headD (-1)::r.tail))= .tuple [.agg [b6,b6,b6,b6,B false],b6,c0 (-1) (c0 (-1) (c0 (r.headD (-1)) (fp r.tail (bt (if k=2 then s else if k=6 then u else g)))))]:=by
   show AV.tuple [.agg du,b6,c0 (-1) (c0 (-1) (c0 (r.headD (-1)) (fp r.tail (bt (if k=1 then f else if k=2 then s else if k=6 then u else g)))))]=_;rw[T k (Y _ rfl)];rfl
  simp only[e0];simp only at w;generalize fp r.tail _=V at*;have F:=qs UD R N k2 b M h j n;exact ns w f2
 obtain rfl:i=l.length:=by omega
 have N:=nl l.length;rw[OE]at a;unfold fY at a;subst a;have eo:Ti m=[bs m.said,I m.steps,B m.x.2.2.2.2]:=rfl;rw[eo];unfold so i';simp only;have F:=ii N M h j n;exact fc
def Ue(P:Program)(env:cf)(s:St)(o:Oper)(K:St->Prop):Prop:=
 (∀c,o.op≠ .defer c)/\ ∀(x:ph)(a:Act)(w:World)(m:lP),x.env=env->dT x s a w m-> ∃d e v b c,(execOp a.eval o).run P w= .ok (.value v) d/\dT x b a d e/\RL d e b v c/\K (b.put o.dst c)
section
variable {P:Program} {env:cf} {nt:Nat} {Q:Exit->St->Prop} {s:St} {ops:Array Oper}
theorem vW{x:ph}{ro:Option Nat}{Q:Exit->Act->World->Prop}(u:(ops.all fun o=>o.dst.all (· <x.nt))=true): ∀ {d:List C'}{s:St}{K:St->List fU->Prop}(k:Nat)(b:List Nat){a:Act}{w:World}{m:lP},jt P x.env d s K->(∀(j:Nat)(q:C'),d[j]? =some q->ops[k+j]? =some q.o/\q.g=j4 ops q.o)->dT x s a w m->
 (∀s' c e p m',K s' c->dT x s' e p m'->wpOpsIn (Sc ro) 3 P ops Q b e p)->wpOpsIn (Sc ro) 3 P ops Q (List.range' k d.length++b) a w
 |[],s,K,k,b,a,w,m,h,l,g,f=>f s [] a w m h g
 | q::d,s,K,k,b,a,w,m,h,l,g,f=>by
   obtain⟨I,y,r,z⟩:=h;obtain⟨n,G⟩:=l 0 q rfl;rw[PP]at n;rw[G]at r;rw[NQ,List.range'_succ,RI,SS]
   refine kx n g (fun t C=> ?_) r fun e p m' i=>vW u (k+1) b z (fun j E A=>by
    have:=l (j+1) E (by simpa using A)
    rwa [show k+(j+1)=k+1+j by omega]at this) i fun s' c v H D B=>f s' (y::c) v H D B
   have:=(PM.1 u) _ (Pf n);rw[C]at this;simpa using this
theorem yi{V:Nat}{A B:List C'}{o:Oper}(D:L' ops=A++⟨o, .always⟩::B)(n:(ops.all fun o=>o.dst.all (· <nt))=true)(h:jt P env A s fun G _=>Ue P env G o fun H=>jt P env B H fun y _=>Q .normal y):fq P env nt (.region V ops false) Q s:=fun ro x M O a w m L=>by
 subst M;subst O;refine wpIn_region ?_
 have N:ops.size=A.length+(B.length+1):=by
  have:=N7 List.length D;simpa[L']using this
 have b: ∀(j:Nat)(q:C'),(A++⟨o, .always⟩::B)[j]? =some q->ops[j]? =some q.o/\q.g=j4 ops q.o:=fun j q d=>by
  rw[<-D]at d;have:=yt j q d;rwa [OI]at this
 have S:List.range ops.size=List.range' 0 A.length++A.length::List.range' (A.length+1) B.length:=by
  rw[N,RS,List.range'_append_1 .. |>.symm,OI,List.range'_succ]
 rw[S]
 refine vW n 0 _ h (fun j q d=>by
  have p:=(Mt.1 d).1;have:=b j q (by rw[N9 p];exact d)
  rwa [OI]) L fun G K z w1 W C k=> ?_
 obtain⟨E,i⟩:=b A.length ⟨o, .always⟩ (by rw[NY (ND _),QA];rfl);rw[SS];unfold wpOpIn;rw[E];simp only
 have U:Region.wanted o (yielded ops z.tmps)=true:=by
  unfold j4 at i;cases f:o.guard with
  |none=>simp[Region.wanted,f]
  | some jw=>
    simp only[f]at i;split at i<;>cases i
 rw[Mw U];obtain⟨w2,m2,v,H,c,Y,Z,r3,r4⟩:=C.2 x z w1 W rfl k;refine K7 C.1 ?_;unfold Oper.wp;rw[Y]
 have R:=Z.put o.dst (fun t T=>by
  have:=(PM.1 n) _ (Pf E);rw[T]at this
  simpa using this) r3
 have:=vW (Q:=fun e I w'=> ∃g u,Q e g/\dT x g I w' u) (ro:=ro) n (A.length+1) [] r4 (fun j q d=>by
  have:=b (A.length+1+j) q (by rw[NY (by omega),show A.length+1+j-A.length=j+1 by omega];exact d)
  exact this) R fun y _ J w3 X r l=>(⟨y,X,r,l⟩: ∃g u,Q .normal g/\dT x g J w3 u)
 rw[OM]at this;exact this
end
section
variable {P:Program} {env:cf} {s:St} {o:Oper} {K:St->Prop}
theorem LS{g o n c k lo:Nat}(h:c≠lo):Pl (.slice (some ⟨g,o,none⟩) n c) k lo= .slice (some ⟨g,o+k,none⟩) (n-lo) (c-lo):=by
 show Value.slice (if c=lo then _ else _) _ _=_;rw[Mv h];simp only[NU,nq]
theorem Jk{g o n c k lo:Nat}(h:c=lo):Pl (.slice (some ⟨g,o,none⟩) n c) k lo= .slice (some ⟨g,o,none⟩) (n-lo) (c-lo):=by
 show Value.slice (if c=lo then _ else _) _ _=_;rw[Mw h]
end
def dg.sub0{s:St}(r t:Nat)(row:Row)(j:row.sz≠0)(i:s.rows r=some row)(u:s.f t= .row r (s.vs r)):dg s (s.put (some t) (.sub r (s.vs r) 0)):=fun x a w m f=>by
 have l:=f.slot t;rw[u]at l;have k:a.tmps.getD t undef=m.ρ r:=l.row_.2 rfl row i;obtain⟨v,n,_⟩:=((f.rows r row i).cells j).own
 have p:Pl (m.ρ r) (0*row.sz) 0=m.ρ r:=by
  rcases n.2 with⟨e,_⟩|⟨g,b,d,e,_⟩
  ·rw[e];rfl
  rw[e];by_cases h:b=0
  ·rw[Jk h];rfl
  rw[LS h,Pr];rfl
 have q:(m.ρ r).oneCell'=true:=by
  rcases n.2 with⟨e,_⟩|⟨g,b,d,e,_⟩<;>rw[e]<;>rfl
 exact⟨_,f.tell t (.sub r (s.vs r) 0) (by
  rw[k];refine .sub r _ 0 q (ND _) fun _ o c=> ?_;rw[i]at c;cases c
  exact p.symm)⟩
def MC(sz r v lo:Nat)(b:Bool):AV:=if b=true then .full sz [] else .sub r v lo
section
variable {P:Program} {env:cf} {s:St} {o:Oper} {K:St->Prop}
end
def dg.tail{s:St}(r t:Nat)(row:Row)(a:row.sz≠0)(b:s.rows r=some row)(c:s.f t= .row r (s.vs r)):dg s (s.put (some t) (MC row.sz r (s.vs r) 0 false)):=dg.sub0 r t row a b c
end
section
open Go.RowKit
section
variable {P:Program} {env:cf} {s:St} {o:Oper} {K:St->Prop}
theorem MA{n e a f:Nat}{z:List Value}{t:TypeId}(h:ef P t=some ⟨.arr n e a,f,z⟩):P.underlying t=some (.array n e)/\ ∃c,P.info? e=some c/\c.size=a:=by
 obtain⟨g,d,b,_⟩:=wS h;cases g<;>simp only[rp]at b<;>(repeat' split at b)<;>first|(cases b;exact⟨d,_,by assumption,rfl⟩)|cases b
theorem rU{t e:TypeId}{a:TypeInfo}(w:World)(b p n:Nat)(k:IntKind)(i:Nat)(f:P.underlying t=some (.array n e))(hi:P.info? e=some a)(g:i<n):
 (Instr.indexAt t (.pointer (some ⟨b,p,none⟩)) (.int k (i:Int))).run P w= .ok (.pointer (some ⟨b,p+i*a.size,none⟩)) w:=by
 have d:(sizeOf e).run P w= .ok a.size w:=by simp[sizeOf,typeInfo,hi]
 have c:(0:Int)<=(i:Int):=by omega
 have h:(i:Int)< (n:Int):=by omega
 simp[Instr.indexAt,asIntOf,NO f,c,d,SR,Instr.sureAddr];omega
theorem Kv{t:TypeId}{e n b N:Nat}{O:List Value}{y i:Operand}{r j off m:Nat}{k:IntKind}{row:Row}(u:o.op= .indexAddr t y i)(D:ef P t=some ⟨.arr n e b,N,O⟩)(I:gt env s.f y= .loc r (s.vs r) j off)(hi:gt env s.f i= .lit (.int k (m:Int)))(E:m<n)(v:s.rows r=some row)
 (C:K (s.put o.dst (.loc r (s.vs r) j (off+m*b)))):Ue P env s o K:=by
 refine⟨fun c q=>(by rw[u]at q;cases q),fun x a w M H p=> ?_⟩;subst H;obtain⟨G,Q,J,L⟩:=MA D;have f:=ao p y;have d:=ao p i;rw[I]at f;rw[hi]at d;have d:=d.lit_;obtain⟨_,f⟩:=f.loc_;obtain⟨g,A,B⟩:=f rfl row v;have l:=rU (P:=P) w g (j*row.sz+off) n k m G J E;refine⟨w,M, .pointer (some ⟨g,j*row.sz+(off+m*b),none⟩),s,_,?_,p, .loc r _ j (off+m*b) rfl (ND _) fun _ z h=>⟨g,A,by rw[v]at h;cases h;rfl⟩,C⟩;unfold execOp;simp only[u,B,d,N2,l,NR,Nq,L,QV]
theorem L8{nt q:Nat}{ops:Array Oper}{Q:Exit->St->Prop}{B:List C'}{t:TypeId}{e n a u:Nat}{w:List Value}{y i:Operand}{r j off:Nat}(m:Nat){k:IntKind}{row:Row}{o:Oper}(f:L' ops=⟨o, .always⟩::B)(b:(ops.all fun o=>o.dst.all (· <nt))=true)(d:o.op= .indexAddr t y i)(l:ef P t=some ⟨.arr n e a,u,w⟩)(p:gt env s.f y= .loc r (s.vs r) j off)(hi:gt env s.f i= .lit (.int k (m:Int)))(c:m<n)(g:s.rows r=some row)
 (h:jt P env B (s.put o.dst (.loc r (s.vs r) j (off+m*a))) fun v _=>Q .normal v):fq P env nt (.region q ops false) Q s:=
 yi (A:=[]) f b (oZ (Kv d l p hi c g h))
theorem aV{nt id:Nat}{ops:Array Oper}{Q:Exit->St->Prop}{B:List C'}{t:TypeId}{e n esz n0:Nat}{z0:List Value}{y i:Operand}{r j off:Nat}(m:Nat){k:IntKind}{row:Row}{o:Oper}(h:jt P env B (s.put o.dst (.loc r (s.vs r) j (off+m*esz))) fun s3 _=>Q .normal s3)
 (hq:L' ops=⟨o, .always⟩::B:=by exact rfl)(hd:(ops.all fun o=>o.dst.all (· <nt))=true:=by kernel_rfl)(ho:o.op= .indexAddr t y i:=by exact rfl)(ht:ef P t=some ⟨.arr n e esz,n0,z0⟩:=by exact rfl)(hy:gt env s.f y= .loc r (s.vs r) j off:=by simp only[go_sem];exact iR)(hi:gt env s.f i= .lit (.int k (m:Int)):=by simp only[go_sem];exact iR)(hm:m<n:=by decide)(hr:s.rows r=some row:=by exact rfl):fq P env nt (.region id ops false) Q s:=
 L8 m hq hd ho ht hy hi hm hr h
end
end
section
open Go.RowKit
def FJ{c:aq}(h:ct c){now:Int}(p:0<=now/\now<=1099511627776){F:Nat} : ∀(l:List (List UInt8×Int))(m:mw)(o:List mw)(b:mw)(d:List mw),kE c F m->(∀y∈o,kE c F y)->fY c now F l m o= .ok (b,d)->kE c F b/\ ∀y∈d,kE c F y
 | [],m,o,b,d,f,g,a=>by
   unfold fY at a;cases a;exact⟨f,g⟩
 | e::l,m,o,b,d,f,g,a=>by
   unfold fY at a;split at a
   ·cases a;exact⟨f,g⟩
   rename_i j;split at a
   ·cases a
   rename_i s
   have i:aJ e.2=true:=by
    cases i:aJ e.2
    ·exact absurd (.inl i) s
    rfl
   have n:=sW h p (f.x i) (by simpa using j) (ev:=e.1);rcases r:iK c now F m.x e.1 e.2 with⟨u,_|⟨k,v⟩⟩<;>rw[r]at a n
   ·exact FJ h p l u _ b d (n rfl) (fun y t=>by
     rcases N1.1 t with q|q
     ·exact g y q
     rw[NP.1 q];exact n rfl) a
   cases a
def wt{c:aq}(h:ct c){now:Int}(g:0<=now/\now<=1099511627776){F:Nat} : ∀(l:List (List UInt8×Int))(m:mw)(o:List mw)(k:Nat)(ps:List Int),kE c F m->fY c now F l m o= .error (k,ps)->k=1\/k=2\/k=6\/k=8
 | [],m,o,k,ps,f,a=>by
   unfold fY at a;cases a
 | e::l,m,o,k,ps,f,a=>by
   unfold fY at a;split at a
   ·cases a
   rename_i b;split at a
   ·cases a;exact .inl rfl
   rename_i p
   have d:aJ e.2=true:=by
    cases d:aJ e.2
    ·exact absurd (.inl d) p
    rfl
   have j:=sW h g (f.x d) (by simpa using b) (ev:=e.1);have i:=yq h g (f.x d) (by simpa using b) (ev:=e.1);rcases n:iK c now F m.x e.1 e.2 with⟨q,_|⟨s,r⟩⟩<;>rw[n]at a j i
   ·exact wt h g l q _ k ps (j rfl) a
   cases a;exact .inr (i _ rfl)
def AtK(c:aq)(now:Int)(F k:Nat)(ps:List Int)(l:List (List UInt8×Int)):mw->tn->Prop
 |m,none=>kE c F m/\ ∃o,fY c now F l m o= .error (k,ps)
 |_,some e=>e.1=k
def oA(p:Nat->Addr)(c:aq)(hcf:jL c)(l:List (List UInt8×Int))(n f:Int):b8 prog (bh p cF) 3 [.agg (aA c), .seq 2 (l.map cI), .agg [I n,I f]] (B true):=by
 have J:=JU p;have hT:=HX p;have h2:bh p cF 1=some (bt (p 2)):=rfl;have h6:bh p cF 5=some (bt (p 6)):=rfl;have h7:bh p cF 6=some (bt (p 7)):=rfl;have fa:=rJ (bh p cF) (p 1) (p 2) (p 6) (p 7) (p 8) J h2 h6 h7 hT;have fl:=jB (bh p cF) c;have fr:=kN (bh p cF) c;cases hg:lv c with
 | false=>
   have W:=qq (bh p cF) c hg;unfold aA at W fl fr;unfold lv at hg;cases hl:mS c with
   | false=>
     rw[hl]at fl;refine qf func3 call3 ntmps3 results3 ?_;have F:=aA.eq_1;repeat (first|refine aV 0 ?_|refine aV 1 ?_|refine cC W ?_|refine cC fl ?_|refine cC fr ?_|refine cC fa ?_|refine st ?_)
     exact aR
   | true=>
     rw[hl]at fl hg;rw[Np]at hg;rw[hg]at fr;refine qf func3 call3 ntmps3 results3 ?_;have F:=aA.eq_1;repeat (first|refine aV 0 ?_|refine aV 1 ?_|refine cC W ?_|refine cC fl ?_|refine cC fr ?_|refine cC fa ?_|refine st ?_)
     exact aR
 |true=>
 have h:=xU hg;have hs:=og (tj hg);obtain⟨hvl,hv⟩:=C5 (tj hg);have W:=tM (bh p cF) (p 1) (p 8) J hT c hcf hg;have fb:=o6 (bh p cF) n f;try clear fl fr
 by_cases hl:(12:Int)< (l.length:Int)
 ·unfold aA aG at W;refine qf func3 call3 ntmps3 results3 ?_;have F:=ai Us hl;repeat (first|refine aV 0 ?_|refine aV 1 ?_|refine cC W ?_|refine cC fa ?_|refine st ?_)
  exact aR
 cases hb:uP n f with
 | false=>
   rw[hb]at fb;have f0:=tF (bh p cF) c l n f _ _ (qm (bh p cF) (p 1) (p 8) J c n f hb);have t1:b8 prog (bh p cF) 13 [c0 (-1) (c0 (-1) (bt (p 1))),I 1] (B true):=qV p cF 1 (by omega) (-1) [-1];unfold du at f0;generalize bt (p 1)=E1 at*;unfold aA aG at W;unfold aG at f0;refine qf func3 call3 ntmps3 results3 ?_;have F:=ai Us hl;repeat (first|refine aV 0 ?_|refine aV 1 ?_|refine cC W ?_|refine cC f0 ?_|refine cC fb ?_|refine cC t1 ?_|refine cC fa ?_|refine st ?_)
   exact aR
 |true=>
 rw[hb]at fb;obtain⟨hn,M,rfl,Y⟩:=K2 hb;have E:CT (bh p cF) (p 1) (p 2) (p 6) (p 8) c n:=⟨J,h2,h6,h,hs,hn⟩;have f1:=HP E h7 hv Y l (by omega);have f2:=oG (bh p cF) h hs hvl hn hv Y;have N:=rF h hn Y hv;have hbk:=fun e=>uU h hn Y hv (e:=e);have fS:=fun(m:mw)(R:kE c M m)(z:m.x.2.2.2.2=false)(e:List UInt8×Int)(G:aJ e.2=true)=>Ad (bh p cF) h hs hvl hn (x:=m.x) (ev:=e.1) (d:=e.2) R.inst z G Y;have hsend:=fun(m:mw)(R:kE c M m)(z:m.x.2.2.2.2=false)(e:List UInt8×Int)(G:aJ e.2=true)=>sW h hn (R.x G) z (ev:=e.1);have hser:=fun(m:mw)(R:kE c M m)(z:m.x.2.2.2.2=false)(e:List UInt8×Int)(G:aJ e.2=true)=>yq h hn (R.x G) z (ev:=e.1);have fF:=fun d=>gF (bh p cF) d;have ft:=fun(k:Nat) hk (ps:List Int)=>qV p cF k hk (-1) (-1::ps);obtain⟨X,g⟩: ∃X,IW c n M l=X:=⟨_,rfl⟩;rw[g]at f1;unfold IW at g;unfold aA aG at W;unfold aG at f1;unfold aA at f2 fS;rcases X with⟨K,pX⟩|⟨T,ox⟩
 ·obtain⟨w,er,hB⟩: ∃w er,cd c n M=(w,er):=⟨_,_,rfl⟩;rw[hB]at f2 g N hbk
  have h0:(K=1\/K=2\/K=6\/K=8)/\AtK c n M K pX l w er:=by
   rcases er with _|⟨k,ps⟩
   ·exact⟨wt h hn _ _ _ _ _ (N rfl) g,N rfl,_,g⟩
   cases g;exact⟨.inr (hbk _ rfl),rfl⟩
  try clear g N hbk hB
  obtain⟨hk,h0⟩:=h0;have ft:=ft K (by omega) pX;unfold so du at f1;simp only at f1;rw[show (if K=1 then p 1 else if K=2 then p 2 else if K=6 then p 6 else p 8)=p K by rcases hk with rfl|rfl|rfl|rfl<;>rfl]at f1;change b8 _ _ _ [c0 (-1) (c0 (-1) (fp pX (bt (p K)))),_] _ at ft;generalize c0 (-1) (fp _ _)=V at f1 ft;rcases her:er with _|⟨k0,ps0⟩
  all_goals
   rw[her]at f2 h0;unfold r0 at f2;first|unfold tR at f2|unfold By at f2
   simp only at f2;have F:=ai Us hl;refine qf func3 call3 ntmps3 results3 ?_;repeat (first|refine aV 0 ?_|refine aV 1 ?_|refine cC W ?_|refine cC f1 ?_|refine cC fb ?_|refine cC f2 ?_|refine st ?_)
   refine aH (D:=Nat×(mw×tn)×List (List AV)) (fun y S=>[(1, .seq 2 (l.map cI)),(3, .loc 3 (S 3) 0 0),(8,I n),(9,I M),(10, .loc 10 (S 10) 0 0),(11,b6),(12,c0 (-1) V),(13, .loc 13 (S 13) 0 0),(14, .row 73 (S 73)),(15,I y.1)]) (fun y _=>[(3,⟨5,[aA c],26,false⟩),(10,⟨5,[du],37,false⟩),(13,⟨9,[r0 y.2.1.1 y.2.1.2],46,false⟩),(73,⟨9,y.2.2,46,true⟩)]) (fun y _ C=>(y.1<=l.length/\AtK c n M K pX (l.drop y.1) y.2.1.1 y.2.1.2/\y.2.2.length=y.1+1)/\C 3=false/\C 10=false/\C 13=false/\C 73=false) (fun y=>l.length-y.1) (0,(w,er),[r0 w er]) ?_ ?_ ?_ ?_
   ·exact⟨⟨NJ _,her ▸ h0,rfl⟩,by simp only[go_sem,NH]⟩
   ·exact qe
   ·have F:=ai Us her
    (simp only[go_sem,du,r0,tR,By,F])
    try rfl
   rintro⟨i,⟨m,_|⟨k,ps⟩⟩,A⟩ us es ⟨⟨hi,hA,hAl⟩,P,u,v,r⟩
   ·simp only at hi hA hAl;obtain⟨R,o,g⟩:=hA;by_cases t:i<l.length
    ·obtain⟨e,J⟩:=gE t;have O:=ip t;have k2:=aD t (by omega);rw[aZ J]at g;unfold fY at g;have eo:r0 m none=[bs m.x.1,bs m.x.2.1, .seq 2 (m.x.2.2.1.map fj), .seq 2 (m.x.2.2.2.1.map cI),B m.x.2.2.2.2,bs m.said,I m.steps,I 0,I (-1)]:=rfl;by_cases z:m.x.2.2.2.2=true
     ·rw[Mw z]at g;cases g
     rw[Mv z]at g;have z:m.x.2.2.2.2=false:=by simpa using z
     rw[eo];unfold du;have hm1:=R;have H:=fF e.2;cases Q:e.1 == []with
     | true=>
       rw[Mw (.inr (by unfold S8;rw[Q];rfl))]at g;cases g;have F:=mX UD J O k2 z Q P u v r;repeat (first|refine aV 0 ?_|refine aV 1 ?_|refine cC ft ?_|refine cC fa ?_|refine st ?_)
       exact aR
     |false=>
     by_cases hL:37< (e.1.length:Int)
     ·rw[Mw (.inr (by unfold S8;rw[Q,Ny hL];rfl))]at g;cases g;have F:=o' UD J O k2 z Q hL P u v r;repeat (first|refine aV 0 ?_|refine aV 1 ?_|refine cC ft ?_|refine cC fa ?_|refine st ?_)
      exact aR
     cases G:aJ e.2 with
     | false=>
       rw[Mw (.inl G)]at g;cases g;rw[G]at H;have F:=o' UD J O k2 z Q hL P u v r;repeat (first|refine aV 0 ?_|refine aV 1 ?_|refine cC H ?_|refine cC ft ?_|refine cC fa ?_|refine st ?_)
       exact aR
     |true=>
     rw[Mv (by unfold S8;rw[G,Q,Nm hL];simp)]at g;rw[G]at H;have L:=fS m R z e G;have Z:=hsend m R z e G;have q1:dd (A.length+1) 152:=aC (by omega) (by omega);unfold i' at L;rcases hS:iK c n M m.x e.1 e.2 with⟨s,_|⟨j2,ps2⟩⟩
     ·rw[hS]at L g Z;unfold r0 tR at L;simp only at L g;have F:=ed UD J O k2 q1 z Q hL P u v r;repeat (first|refine aV 0 ?_|refine aV 1 ?_|refine cC H ?_|refine cC L ?_|refine st ?_)
      refine⟨(i+1,(s,none),A++[r0 s none]),⟨⟨t,⟨Z rfl,_,g⟩,by simp[hAl]⟩,by simp only[go_sem,P,u,v,r,NH]⟩,?_,?_,by simp only;omega⟩
      ·exact qe
      have U:r0 s none=[bs s.x.1,bs s.x.2.1, .seq 2 (s.x.2.2.1.map fj), .seq 2 (s.x.2.2.2.1.map cI),B s.x.2.2.2.2,bs s.said,I s.steps,I 0,I (-1)]:=rfl;have F:=U;exact qe
     rw[hS]at L g;have hj:j2=K:=(Prod.mk.inj (Except.error.inj g)).1;unfold r0 By at L;simp only at L;have F:=ed UD J O k2 q1 z Q hL P u v r;repeat (first|refine aV 0 ?_|refine aV 1 ?_|refine cC H ?_|refine cC L ?_|refine st ?_)
     refine⟨(i+1,(s,some (j2,ps2)),A++[r0 s (some (j2,ps2))]),⟨⟨t,hj,by simp[hAl]⟩,by simp only[go_sem,P,u,v,r,NH]⟩,?_,?_,by simp only;omega⟩
     ·exact qe
     have U:r0 s (some (j2,ps2))=[b6,b6,b6,b6,B false,b6,I 0,I (j2:Nat),I (Tj ps2)]:=rfl;have F:=U;exact qe
    obtain rfl:i=l.length:=by omega
    rw[OE]at g;unfold fY at g;cases g
   have k3:((k:Int)==0)=false:=by
    have:k=K:=hA;rw[Oz];omega
   have k4:((k:Int) != 0)=true:=by rw[Rf];have:k=K:=hA;omega
   have hA:k=K:=hA;subst hA;have eo:r0 m (some (k,ps))=[b6,b6,b6,b6,B false,b6,I 0,I (k:Nat),I (Tj ps)]:=rfl;by_cases t:i<l.length
   ·have O:=ip t;show fq _ _ _ _ _ _;rw[eo];unfold du;have F:=m7 O k3 k4 P u v r;repeat (first|refine aV 0 ?_|refine aV 1 ?_|refine cC ft ?_|refine cC fa ?_|refine st ?_)
    exact aR
   have O: ¬(i:Int)< (l.length:Int):=by omega
   show fq _ _ _ _ _ _;rw[eo];unfold du;have F:=m7 O k3 k4 P u v r;repeat (first|refine aV 0 ?_|refine aV 1 ?_|refine cC ft ?_|refine cC fa ?_|refine st ?_)
   exact aR
 unfold so i' at f1;simp only at f1;rcases hB:cd c n M with⟨w,_|⟨k0,ps0⟩⟩
 case some=>
  rw[hB]at g;cases g
 rw[hB]at f2 g N;have hw:kE c M w:=N rfl;simp only at g;obtain⟨hXm,hXo⟩:=FJ h hn l w [w] _ _ hw (fun y hy=>by rw[NP.1 hy];exact hw) g;have kI:=(e9 h hs.vars (dp hXm.inst)).fewI;have f3:=lA (bh p cF) T.x.1 T.x.2.1 T.x kI.1 rfl rfl;rw[show ((T.x.1==T.x.1)&&(T.x.2.1==T.x.2.1))=true by simp]at f3;unfold i' at f3;unfold r0 tR at f2;simp only at f2;try clear N hbk hB ft kI hXm
 have F:=ai Us hl;refine qf func3 call3 ntmps3 results3 ?_;repeat (first|refine aV 0 ?_|refine aV 1 ?_|refine cC W ?_|refine cC f1 ?_|refine cC fb ?_|refine cC f2 ?_|refine st ?_)
 refine aH (D:=Nat×mw×List mw) (fun y S=>[(1, .seq 2 (l.map cI)),(3, .loc 3 (S 3) 0 0),(8,I n),(9,I M),(10, .loc 10 (S 10) 0 0),(11, .seq 3 (ox.map Ti)),(12,ik),(13, .loc 13 (S 13) 0 0),(14, .row 73 (S 73)),(15,I y.1)]) (fun y _=>[(3,⟨5,[aA c],26,false⟩),(10,⟨5,[i' T.x],37,false⟩),(13,⟨9,[tR y.2.1],46,false⟩),(73,⟨9,y.2.2.map tR,46,true⟩)]) (fun y _ C=>(y.1<=l.length/\kE c M y.2.1/\fY c n M (l.drop y.1) y.2.1 y.2.2= .ok (T,ox)/\y.2.2.length=y.1+1)/\C 3=false/\C 10=false/\C 13=false/\C 73=false) (fun y=>l.length-y.1) (0,w,[w]) ?_ ?_ ?_ ?_
 ·exact⟨⟨NJ _,hw,g,rfl⟩,by simp only[go_sem,NH]⟩
 ·exact qe
 ·have F:=ai Us UK
  (simp only[go_sem,tR,F])
  try rfl
 try clear hw g
 rintro⟨i,m,o⟩ us es ⟨⟨hi,R,g,hol⟩,P,u,v,r⟩;simp only at hi R g hol;have eo:tR m=[bs m.x.1,bs m.x.2.1, .seq 2 (m.x.2.2.1.map fj), .seq 2 (m.x.2.2.2.1.map cI),B m.x.2.2.2.2,bs m.said,I m.steps,I 0,I (-1)]:=rfl;rw[eo];unfold i';by_cases hgo:i<l.length/\m.x.2.2.2.2=false
 ·obtain⟨t,z⟩:=hgo;obtain⟨e,J⟩:=gE t;have O:=ip t;have k2:=aD t (by omega);rw[aZ J]at g;unfold fY at g;rw[Mv (by rw[z];decide)]at g;by_cases hG:aJ e.2=false\/S8 e.1=false
  ·rw[Mw hG]at g;cases g
  rw[Mv hG]at g
  have G:aJ e.2=true:=by
   cases G:aJ e.2
   ·exact absurd (.inl G) hG
   rfl
  have Q:(e.1 == [])=false:=by
   cases Q:e.1 == []
   ·rfl
   exact absurd (.inr (by unfold S8;rw[Q];rfl)) hG
  have hL: ¬37< (e.1.length:Int):=fun hL=>hG (.inr (by unfold S8;rw[Q,Ny hL];rfl));have H:=fF e.2;rw[G]at H;have L:=fS m R z e G;have Z:=hsend m R z e G;have q1:dd (o.length+1) 152:=aC (by omega) (by omega);unfold i' at L;rcases hS:iK c n M m.x e.1 e.2 with⟨s,_|⟨j2,ps2⟩⟩<;>rw[hS]at L g Z
  case some=>cases g
  unfold r0 tR at L;simp only at L g;have q2:(o++[s]).map tR=o.map tR++[[bs s.x.1,bs s.x.2.1, .seq 2 (s.x.2.2.1.map fj), .seq 2 (s.x.2.2.2.1.map cI),B s.x.2.2.2.2,bs s.said,I s.steps,I 0,I (-1)]]:=by rw[NC];rfl
  have F:=ed UD J O k2 q1 z Q hL P u v r;repeat (first|refine aV 0 ?_|refine aV 1 ?_|refine cC H ?_|refine cC L ?_|refine st ?_)
  refine⟨(i+1,s,o++[s]),⟨⟨t,Z rfl,g,by simp[hol]⟩,by simp only[go_sem,P,u,v,r,NH]⟩,?_,?_,by simp only;omega⟩
  ·exact qe
  have U:tR s=[bs s.x.1,bs s.x.2.1, .seq 2 (s.x.2.2.1.map fj), .seq 2 (s.x.2.2.2.1.map cI),B s.x.2.2.2.2,bs s.said,I s.steps,I 0,I (-1)]:=rfl;have F:=gs UK q2 U;exact qe
 have hE:T=m/\ox=o:=by
  rcases P8 i l.length with a|a
  ·obtain⟨e,J⟩:=gE a;rw[aZ J]at g;unfold fY at g;rw[Mw (by cases q:m.x.2.2.2.2;exact absurd ⟨a,q⟩ hgo;rfl)]at g;cases g;exact⟨rfl,rfl⟩
  obtain rfl:i=l.length:=by omega
  rw[OE]at g;unfold fY at g;cases g;exact⟨rfl,rfl⟩
 obtain⟨rfl,rfl⟩:=hE;have hbE: ∀b:Bool,(b != b)=false:=fun b=>by cases b<;>rfl
 by_cases t:i<l.length
 case' pos=>
  have O:=ip t;have z:T.x.2.2.2.2=true:=by cases q:T.x.2.2.2.2;exact absurd ⟨t,q⟩ hgo;rfl
  show fq _ _ _ _ _ _;have F:=kv O z P u v r;repeat (first|refine aV 0 ?_|refine aV 1 ?_|refine cC f3 ?_|refine st ?_)
 case' neg=>
  have O: ¬(i:Int)< (l.length:Int):=by omega
  show fq _ _ _ _ _ _;have F:=ii O P u v r;repeat (first|refine aV 0 ?_|refine aV 1 ?_|refine cC f3 ?_|refine st ?_)
 all_goals
  have F:=r;refine lq ox.length (by omega) (fun j S=>[(11, .seq 3 (ox.map Ti)),(14, .row 73 (S 73)),(16,I j)]) (fun _ _=>[(73,⟨9,ox.map tR,46,true⟩)]) (fun j _ C=>C 73=false) (by simp only[go_sem,r]) ?_ ?_
  ·rintro j S OF hjl p1 p2 r;obtain⟨y,hy⟩:=gE hjl;have f5:=mH (bh p cF) y.said (NN (hXo y (My hy)).said (by omega));have u1:Ti y=[bs y.said,I y.steps,B y.x.2.2.2.2]:=rfl;have u2:tR y=[bs y.x.1,bs y.x.2.1, .seq 2 (y.x.2.2.1.map fj), .seq 2 (y.x.2.2.2.1.map cI),B y.x.2.2.2.2,bs y.said,I y.steps,I 0,I (-1)]:=rfl;have q1:(ox.map Ti)[j]? =some [bs y.said,I y.steps,B y.x.2.2.2.2]:=by rw[NE,hy];rfl
   have q2:(ox.map tR)[j]? =some [bs y.x.1,bs y.x.2.1, .seq 2 (y.x.2.2.1.map fj), .seq 2 (y.x.2.2.2.1.map cI),B y.x.2.2.2.2,bs y.said,I y.steps,I 0,I (-1)]:=by rw[NE,hy];rfl
   have F:=m7 hy p1 p2 u1 u2 hbE r;repeat (first|refine aV 0 ?_|refine aV 1 ?_|refine cC f5 ?_|refine st ?_)
   exact qn (j+1) ⟨hjl,by simp only[go_sem,r]⟩
  rintro S OF p1 r;have F:=ai p1 r;repeat (first|refine aV 0 ?_|refine aV 1 ?_|refine cC fa ?_|refine st ?_)
  exact aR
end
section
open Go.RowKit Go.ChangeShapes Go.WideShapes Go.ChangeAt Go.Deep
def Ls:prog.cellsOf 50=2:=by kernel_rfl
section
variable {H:Type} {enc:TypeId×Value->H} {w:World} {base:Nat} {spare:Nat->Bool} {held:Bool}
theorem JF(m:Nat)(cs:List Value)(y:DataW H×List MemPlace)(h:DataW.trod enc prog w base spare held m 50 cs=some y): ∃a:List UInt8×Int,RE w cI vq cs a:=by
 obtain⟨s,n,_,_,d,b,c⟩:=Po Tryz.underlying50 h;rw[Ls]at d;obtain⟨e,f,rfl⟩:=IY d;obtain⟨q,j⟩:=dO b c 0 _ rfl 9 0 1 rfl rfl jk;obtain⟨o,g, -,l⟩:=QB Tryz.underlying9 (show DataW.trod enc prog w base spare held n 9 [e]=some q from j);cases g;obtain⟨⟨t0⟩⟩:=o;obtain⟨r,k⟩:=dO b c 1 _ rfl 3 1 1 rfl rfl kl;obtain⟨p,i, -, -⟩:=Ou Tryz.underlying3 (show DataW.trod enc prog w base spare held n 3 [f]=some r from k);cases i;exact⟨(t0,p),⟨⟨rfl, .lit _⟩,⟨rfl, .lit _⟩,trivial⟩,(by simpa[vq,ByteArray.size]using l)⟩
end
end
section
open Go.RowKit Go.ChangeShapes Go.WideShapes Go.ChangeAt Go.Deep
def Mf:prog.cellsOf 28=2:=by kernel_rfl
section
variable {H:Type} {enc:TypeId×Value->H} {w:World} {base:Nat} {spare:Nat->Bool} {held:Bool}
theorem JE{k:Reach}{e:Nat}{v:Value}{d:DataW H}{p:List MemPlace}(j:Value.okWide prog w k e 27 v)(h:DataW.Trod enc prog w base spare held 27 v d p): ∃l:List (List UInt8×Int),RV (fun b _=>b<w.heap.size) w v (.seq 2 (l.map cI)):=by
 obtain⟨A,n,c,rfl⟩:=okWide_slice Tryz.underlying27 j;obtain⟨a,g⟩:=h;obtain⟨x,l,f,⟨_,i⟩,_,_⟩:=da (size:=2) cI vq (fun _=>rfl) Tryz.underlying27 Ls (by decide) JF g;obtain rfl:Value.slice A n c=x:=(List.cons.inj f).1;exact⟨l,i⟩
theorem JD{y:Reach}{n:Nat}{v:Value}{d:DataW H}{p:List MemPlace}(k:Value.okWide prog w y n 28 v)(h:DataW.Trod enc prog w base spare held 28 v d p): ∃a b:Int,RV (fun b _=>b<w.heap.size) w v (.agg [I a,I b]):=by
 obtain⟨c,rfl,u⟩: ∃c,v= .agg c/\c.size=prog.cellsOf 28:=by
  simp only[Value.okWide,Tryz.underlying28]at k;obtain⟨c,r,s,_⟩:=k;exact⟨c,r,s⟩
 obtain⟨l⟩:=c;obtain⟨e,t⟩:=h;obtain⟨D,m,_,_,j,x,i⟩:=DataW.trod_array Tryz.underlying28 t;rw[Mf]at j;obtain⟨B,C,rfl⟩:=IY (show l.length=2 from j);have f:=i 0 (by decide);have g:=i 1 (by decide);rw[kl,Ms (by omega)]at f g;obtain⟨z,o, -, -⟩:=Ou Tryz.underlying3 f;obtain⟨A,q, -, -⟩:=Ou Tryz.underlying3 g;cases o;cases q;exact⟨z,A,SY.agg ⟨⟨rfl, .lit _⟩,⟨rfl, .lit _⟩,trivial⟩⟩
end
end
end Go.Proofs.YtfhkmjbjafeckaaGreatDoor
