/- Reverse and Compact of the library at ints: the shelf's contracts laid at this program. -/
import Derived.Test.YtfhkmjbjafeckaaGreatDoorQ17
import Derived.Shelf.Slices.Reverse
import Derived.Shelf.Slices.CompactI
set_option linter.unusedSimpArgs false
set_option linter.defProp false
namespace Go.Proofs.YtfhkmjbjafeckaaGreatDoor
open Go.Proofs.Tryz
open Go.RowKit
set_option maxRecDepth 100000
set_option maxHeartbeats 8000000
def IA{act:List Int}{j:Nat}{x v:Int}(c:act[j]? =some x)(a:(act.take j).contains v=false)(b:x≠v):(act.take (j+1)).contains v=false:=by
 rw[N4,c];simp at a |-;exact⟨a,fun q=>b q.symm⟩
def dJ(env:cf)(act:List Int)(v:Int)(l:act.length<=1000000):b8 prog env 98 [.seq 1 (act.map aa),I v] (B (act.contains v)):=by
 refine qf func98 call98 ntmps98 results98 ?_;repeat refine nw ?_
 refine Q' act.length (by omega) (fun j _=>[(0, .seq 1 (act.map aa)),(1,I v),(5,I j)]) (fun _ _=>[]) (fun j _ _=>(act.take j).contains v=false) rfl ?_ ?_
 ·rintro j k f b d i a;obtain⟨x,c⟩:=gE b;by_cases e:x=v
  ·have h:act.contains v=true:=by rw[Mz, <-e];exact My c
   rw[h];have g:(x==v)=true:=by simpa using e
   have F:=gs c d g;exact fc
  have g:(x==v)=false:=by simpa using e
  have F:=i0 c d i g;repeat refine st ?_
  exact qn (j+1) ⟨b,IA c a e⟩
 rintro k f d a;rw[NS]at a;rw[a];have F:=d;exact fc
def lj(env:cf)(act:List Int)(ks:List Nat)(l:act.length<=1000000)(p:ks.length<=4000):b8 prog env 162 [.seq 1 (act.map aa), .seq 1 (ks.map aB)] (I (ch act ks:Nat)):=by
 have o:ch act []=0:=rfl;refine qf func162 call162 ntmps162 results162 ?_;repeat refine nw ?_
 have F:=o;refine lq ks.length (by omega) (fun j _=>[(0, .seq 1 (act.map aa)),(1, .seq 1 (ks.map aB)),(5,I (ch act (ks.take j):Nat)),(6,I j)]) (fun _ _=>[]) (fun _ _ _=>True) trivial ?_ ?_
 ·rintro j n e c d i _;obtain⟨k,b⟩:=gE c;have f0:=dJ env act k l;have a:=zC (act:=act) b;have f:=zD act (ks.take j);rw[NK]at f;have m:=aD (show ch act (ks.take j)<ks.length by omega) (by omega);cases h:act.contains (k:Int) with
  | true=>
    rw[h]at f0 a;rw[Mw rfl]at a;have F:=ii Uu b d i m;repeat refine ff f0 ?_
    refine⟨j+1,⟨c,trivial⟩,?_,?_,by omega⟩
    ·have F:=a;exact qe
    ·(simp only[go_sem,a])
  | false=>
    rw[h]at f0 a;rw[Mv Nb,PP]at a;have F:=i0 Uu b d i;repeat refine ff f0 ?_
    refine⟨j+1,⟨c,trivial⟩,?_,?_,by omega⟩
    ·have F:=a;exact qe
    ·(simp only[go_sem,a])
 rintro n e d _;have g:ks.take ks.length=ks:=NS;have F:=ai d g;exact fc
def oa(l:List Nat)(j:Nat):List Nat:=(List.range j).filter fun k=>D' l (k:Int)
def DD(env:cf)(c:aq)(q:c.Z9.length<=4000)(l:List Nat)(n:l.length<=1000000):b8 prog env 105 [.agg (aA c), .seq 1 (l.map aB)] (.own 3 1 ((nL c l).map aB)):=by
 show b8 _ _ _ _ (.own _ 1 ((oa l c.Z9.length).map aB));refine qf func105 call105 ntmps105 results105 ?_;have F:=aA.eq_1;repeat refine st ?_
 have F:=aA.eq_1;refine lq c.Z9.length (by omega) (fun j i=>[(1, .seq 1 (l.map aB)),(2, .loc 2 (i 2) 0 0),(5, .row 7 (i 7)),(6,I j)]) (fun j _=>[(2,⟨5,[aA c],26,false⟩),(7,⟨1,(oa l j).map aB,3,true⟩)]) (fun j _ a=>a 7=false) rfl ?_ ?_
 ·rintro j p a e f h b;have f1:=sk env l j n;unfold Su at f1;have d:oa l (j+1)=if D' l (j:Int) then oa l j++[j] else oa l j:=jv (fun k:Nat=>D' l (k:Int)) j
  have o:(oa l j).length<=j:=gH (fun k:Nat=>D' l (k:Int)) j;have m:dd ((oa l j).length+1) 8:=aC (by omega) (by omega);cases g:D' l (j:Int) with
  | true=>
    rw[g]at f1 d;rw[Mw rfl]at d;have F:=kv Us Uu f h m b;repeat refine ff f1 ?_
    refine⟨j+1,⟨e,by simp only[go_sem,b]⟩,?_,?_,by omega⟩
    ·exact qe
    have F:=i0 Us Uu d @NC.{0,0};exact qe
  | false=>
    rw[g]at f1 d;rw[Mv Nb]at d;have F:=ii Us Uu f h b;repeat refine ff f1 ?_
    refine⟨j+1,⟨e,by simp only[go_sem,b]⟩,?_,?_,by omega⟩
    ·exact qe
    have F:=gs Us Uu d;exact qe
 rintro p a f b;have F:=gs Us f b;exact fc
end Go.Proofs.YtfhkmjbjafeckaaGreatDoor
set_option linter.unusedSimpArgs false
namespace Go.Proofs.YtfhkmjbjafeckaaGreatDoor
open Go.Proofs.Tryz
open Go.RowKit
set_option maxRecDepth 100000
set_option maxHeartbeats 8000000
def fp(ps:List Int)(e:AV):AV:=ps.foldr (fun p x=>c0 p x) e
def vR{S:Nat->Nat->Prop}{w:World}{a:Addr}(d:PJ w a): ∀(ps:List Int)(v:Value),RV S w v (fp ps (bt a))->iZ w a ps.length v
 |[],v,h=>⟨h.lit_inv,d⟩
 | p::ps,v,h=>by
   have h:RV S w v (.iface 134 (.ref 3 [[.any,I p,fp ps (bt a)]] 0 0)):=h;cases h with
   | iface t v c h=>
     cases h with
     | ref n l i k b o u m g j=>
       have e:=g 0 2 (fp ps (bt a)) rfl;have f:=j 0 2 (fp ps (bt a)) rfl;refine⟨b,o+(0*3+0),u 0 2,rfl,?_,vR d ps _ f⟩;have:=e.2.1;simpa using this
def EL(a:Nat->Addr)(mo:Td)(k:Nat)(c:1<=k/\k<=9)(ps:List Int):b8 prog (bh a mo) 30 [fp ps (bt (a k))] (I k):=
 mn call30 fun w S h d f g=>by
  match h,f with
  | [v],_=>
    have b:ql w a:=d.inv.1;refine(C3 b k c ps.length v (vR (sV b k c) ps v (g 0 v _ rfl rfl))).mono ?_;rintro e i ⟨rfl,rfl⟩;exact⟨rfl,OY _ _⟩
def eZ(env:cf)(s:List UInt8)(p:Int)(e:AV):b8 prog env 29 [Sg s,c0 p e] (c0 (-1) (c0 p e)):=by
 refine qw func29 call29 ntmps29 results29 ?_;repeat refine nw ?_
 (refine aM ?_;refine⟨_,(by show (ag _ _ _).run _=some _;simp only[go_sem];rfl),?_⟩)
 exact lw _ _ _ rfl _ _ (.refl _)
def Jc(env:cf)(s:List UInt8)(p:Int)(a:Addr):b8 prog env 202 [Sg s,I p,bt a] (c0 (max p (-1)) (bt a)):=by
 refine b8.args (cs:=[Sg s,I p, .iface 369 (.lit (.pointer (some a)))]) ?_ (.cons (.refl _) (.cons (.refl _) (.cons (.ifl _ _) .nil)));by_cases b:p< -1
 ·rw[show max p (-1)= -1 by omega];refine qw func202 call202 ntmps202 results202 ?_;have F:=b;repeat refine st ?_
  (refine aM ?_;refine⟨_,(by show (ag _ _ _).run _=some _;simp only[go_sem,F];rfl),?_⟩)
  exact lw _ _ _ rfl _ _ (.lfi _ _)
 rw[show max p (-1)=p by omega];refine qw func202 call202 ntmps202 results202 ?_;have F:=b;repeat refine st ?_
 (refine aM ?_;refine⟨_,(by show (ag _ _ _).run _=some _;simp only[go_sem,F];rfl),?_⟩)
 exact lw _ _ _ rfl _ _ (.lfi _ _)
def EW(env:cf)(a b:Addr)(d:gb env a b)(p:Int):b8 prog env 183 [I p] (c0 (max p (-1)) (bt a)):=by
 have c:=gg d.e1;have f0:=Jc env [108,101,103,97,108,46,67,104,101,99,107] p a;refine qf func183 call183 ntmps183 results183 ?_;have F:=c;exact kb f0
def Dj{c:aq}{act:List Int}{j:Nat}{x:Int}(b:act[j]? =some x)(a: ∀m,m<j->zG c act m=true)(d:zG c act j=false):rX c act=(1,max x (-1)):=by
 have e:=(Mt.1 b).1;unfold rX;rw[dN e a d];simp only[N3,b,OJ]
def cj(env:cf)(u C:Addr)(N:gb env u C)(c:aq)(h:ct c)(J:hP c)(act:List Int)(T:act.length<=1000000):b8 prog env 129 [aG c, .seq 1 (act.map aa)] (wC u c act):=by
 have O:=h.Z6;have f0:=ay env c J;have f1:=j5 env c (by omega) act T;have f2:=fun(k:Nat)(s:n4)(B:c.Z9[k]? =some s)=>J7 env c h act k s B;have f3:=bc env c h (-1);rw[Mw (.inl rfl)]at f3;have V:=bU h.toRight (-1) true;have G: ∀j∈av c (-1) true,j<c.Z9.length:=fun j S=>by have:=bF h.toRight (aY S).1;omega
 have f4:=uo env c.Z9.length act (av c (-1) true) (by omega) (by omega) G;have R:=IE env u C N (-1) (by omega);have d:=ei c.Z9.length act;unfold aG at f0 f1 f2 f3 |-;refine qf func129 call129 ntmps129 results129 ?_;have F:=aA.eq_1;repeat refine y3 f0 f1 ?_
 have F:=aA.eq_1;refine lq act.length (by omega) (fun j Q=>[(0, .ref 9 [cy c] 0 0),(1, .seq 1 (act.map aa)),(5, .loc 5 (Q 5) 0 0),(6, .row 17 (Q 17)),(18, .seq 1 (act.map aa)),(19,I act.length),(20,I j)]) (fun _ _=>[(5,⟨5,[aA c],26,false⟩),(17,⟨1,ld c.Z9.length act,4,true⟩)]) (fun j _ _=> ∀m,m<j->zG c act m=true) (fun m q=>absurd q (by omega)) ?_ ?_
 ·rintro j U D n i P b;obtain⟨x,o⟩:=gE n;have a:=zF (c:=c) o;have A:=EW env u C N x;have f:zG c act j=false->wC u c act=c0 (max x (-1)) (bt u):=fun g=>C6 (Dj o b g);by_cases r:x<0
  ·rw[f (by rw[a,vJ (by unfold fi;rw[Nm (by omega)];rfl),Oc])];have F:=gs o i r;exact kb A
  obtain⟨k,rfl⟩:=fg (show 0<=x by omega);by_cases v:(c.Z9.length:Int)<=k
  ·rw[f (by rw[a,vJ (by unfold fi;rw[Nm (p:=(k:Int)<_) (by omega),Oc]),Oc])];have F:=ii o i r v d;exact kb A
  obtain⟨s,B⟩: ∃s,c.Z9[k]? =some s:=⟨c.Z9[k]'(by omega),Ms _⟩;have f2:=f2 k s B;rw[J8 B]at a;by_cases H:0<j
  ·have w:(0:Int)< (j:Int):=by omega
   have L:IntKind.i64.wrap ((j:Int)-1)=((j-1:Nat):Int):=by rw[aX (by omega) (by omega)];omega
   have K:=Ks H n;have M:((j-1:Nat):Int)< (act.length:Int):=by omega
   have z:(j==0)=false:=by simp;omega
   generalize act.getD (j-1) 0=y at*;by_cases E:(k:Int)<=y
   ·rw[f (by rw[a,z,Nm (by omega)];rfl)];have F:=mX o i r v d w L M K E;exact kb A
   cases g:zO c act k s with
   | false=>
     rw[g]at f2 a;rw[f (by rw[a,Oc])];have F:=o' Us o i r v d w L M K E;exact ns f2 A
   | true=>
     rw[g,z,Ny (show y< (k:Int) by omega)]at a;rw[g]at f2;have F:=ed Us o i P r v d w L M K E;repeat refine ff f2 ?_
     refine⟨j+1,⟨n,fun m q=>by rcases PX.1 q with e|e;exact b m e;rw[e];exact a⟩,?_,?_,by omega⟩
     ·exact qe
     have F:=aA.eq_1;exact qe
  ·have w: ¬(0:Int)< (j:Int):=by omega
   have z:(j==0)=true:=by simp;omega
   cases g:zO c act k s with
   | false=>
     rw[g,z]at a;rw[g]at f2;rw[f (by rw[a,Oc])];have F:=m7 Us o i r v d w;exact ns f2 A
   | true=>
     rw[g,z]at a;rw[g]at f2;have F:=qr Us o i P r v d w;repeat refine ff f2 ?_
     refine⟨j+1,⟨n,fun m q=>by rcases PX.1 q with e|e;exact b m e;rw[e];exact a⟩,?_,?_,by omega⟩
     ·exact qe
     have F:=aA.eq_1;exact qe
 rintro U D i b
 have l:rX c act=if ch act (av c (-1) true)=1 then(0, -1) else(1, -1):=by
  unfold rX;rw[bT b]
 by_cases q:ch act (av c (-1) true)=1
 ·rw[Mw q]at l;rw[LW l];have t:((ch act (av c (-1) true):Nat):Int)=1:=by omega
  have F:=ai i t;exact ns f3 f4
 rw[Mv q]at l;rw[C6 l];have t:(((ch act (av c (-1) true):Nat):Int) != 1)=true:=by simp;omega
 have F:=ai i t;exact D0 f3 f4 R
end Go.Proofs.YtfhkmjbjafeckaaGreatDoor
namespace Go.Proofs.YtfhkmjbjafeckaaGreatDoor
open Go.Proofs.Tryz
open Go.RowKit
def dg.frozen{s:St}(r t:Nat)(row:Row)(g:row.pure=true)(b:row.sz≠0)(e:s.rows r=some row)(h:s.f t= .row r (s.vs r)):dg s ((s.show r).put (some t) (.seq row.sz row.es)):=fun x a w m d=>by
 obtain⟨k,i,l,j⟩:=d.show r row e b g;have f:=d.slot t;rw[h]at f;have c:a.tmps.getD t undef=m.ρ r:=f.row_.2 rfl row e;exact⟨_,i.tell t (.seq row.sz row.es) (by rw[c];exact .val j)⟩
def dg.nil{s:St}(t sz:Nat)(e:s.f t= .lit (.slice none 0 0)):dg s (s.put (some t) (.seq sz [])):=fun x a w m c=>by
 have d:=c.slot t;rw[e]at d;have b:=d.lit_;exact⟨_,c.tell t (.seq sz []) (by rw[b];exact .val (DS.nil sz _ _ _ (.lit _)))⟩
section
variable {P:Program} {env:cf} {nt:Nat} {s:St}
theorem Fv{c a:Code}{f:Exit->St->Prop}{D:Type}(F:D->(Nat->Nat)->List (Nat×AV))(R:D->(Nat->Nat)->List (Nat×Row))(b:D->(Nat->Nat)->(Nat->Bool)->Prop)
 (h:fq P env nt c (bD (fun s=> ∃d,b d s.vs s.esc/\cP s (F d s.vs)/\br s (R d s.vs)) f) s)(i: ∀d vs esc,b d vs esc->fq P env nt a f (head (F d vs) (R d vs) vs esc)):
 fq P env nt c (bD (fq P env nt a f) f) s:=
 vT h fun e s g=>by
  cases e with
  | normal=>
    obtain⟨d,j,k,l⟩:=g;exact lY _ _ k l (i d _ _ j)
  |_=>exact g
end
def pS(Q:Exit->St->Prop):Exit->St->Prop
 | .goto _,_=>False
 |e,s=>Q e s
def dY{P:Program}{b:Frame}{a:Act}{k:List Item}{cs:List Frame}{w:World}{c:Code} :step P (lone (b.atR a (.code (.scope c)::k)) cs w)= .next (lone (b.atR a (.code c:: .inScope c::k)) cs w):=
 step_lone_go (by simp[stepG,stepG.exec,Frame.atR])
def sC{P:Program}{b:Frame}{a:Act}{k:List Item}{cs:List Frame}{w:World}{c:Code} :step P (lone (b.atR a (.inScope c::k)) cs w)= .next (lone (b.atR a k) cs w):=
 step_lone_go (by simp[stepG,stepG.exec,Frame.atR])
def AK{F:Fence}{n:Nat}{P:Program}{Q:Exit->Act->World->Prop}{a:Act}{w:World}{c:Code}(h:c.wpIn F n P (Exit.noGoto Q) a w):(Code.scope c).wpIn F n P Q a w:=by
 intro b k t s o q;have i:(lone (b.atR a (.code (.scope c)::k)) t w).fenced P F:=fenced_calm o q rfl;obtain⟨e,f,g,j,d⟩:=h b (.inScope c::k) t s o q;cases e with
 |normal=>exact⟨.normal,f,g,j, .head i dY (StepsIn.trans d (.one (fenced_calm o q rfl) sC))⟩
 | exit id=>
   have u:exitTo id (.inScope c::k)=exitTo id k:=by simp[exitTo]
   exact⟨.exit id,f,g,j,fun y p=> .head i dY (d.1 y (by rw[u];exact p)),
    fun r p=>let ⟨m,v,x⟩:=d.2 r (by rw[u];exact p);⟨m,v, .head i dY x⟩⟩
 |goto l=>exact j.elim
 |ret=>exact⟨_,f,g,j, .of_steps (.one i dY) d⟩
 |panic z=>exact⟨_,f,g,j, .of_steps (.one i dY) d⟩
 |outgrown=>exact⟨_,f,g,j, .of_steps (.one i dY) d⟩
def yC{P:Program}{env:cf}{nt:Nat}{Q:Exit->St->Prop}{s:St}{c:Code}(h:fq P env nt c (pS Q) s):fq P env nt (.scope c) Q s:=fun j x d f a w m b=>
 AK (PS (h j x d f a w m b) fun e n o ⟨k,i,q,g⟩=>by
  cases e with
  |goto l=>exact q.elim
  |_=>exact⟨k,i,q,g⟩)
end Go.Proofs.YtfhkmjbjafeckaaGreatDoor
set_option linter.unusedSimpArgs false
namespace Go.Proofs.YtfhkmjbjafeckaaGreatDoor
open Go.Proofs.Tryz
open Go.RowKit
set_option maxRecDepth 100000
set_option maxHeartbeats 8000000
def pr(env:cf)(c:aq)(h:Right c)(i:Int):b8 prog env 163 [.agg (aA c),I i] (.own 3 1 ((kf c i).map aa)):=by
 have m:=h.Z6;have u:(kf c i).length<=40:=kZ 40 i;refine qf func163 call163 ntmps163 results163 ?_;have F:=aA.eq_1;repeat refine st ?_
 refine aH (D:=Int×List Int) (fun d p=>[(1,I d.1),(2, .loc 2 (p 2) 0 0),(5, .row 7 (p 7)),(6,I d.2.length)]) (fun d _=>[(2,⟨5,[aA c],26,false⟩),(7,⟨1,d.2.map aa,3,true⟩)]) (fun d _ e=>kf c i=d.2++kf c d.1/\e 7=false/\(d.2=[]\/d.2.length<40-(d.1+1).toNat\/d.1<40)) (fun d=>(d.1+1).toNat) (i,[]) ?_ ?_ ?_ ?_
 ·exact⟨rfl,rfl, .inl rfl⟩
 ·(simp only[go_sem,F])
  try rfl
 ·have F:=aA.eq_1
  (simp only[go_sem,F])
  try rfl
 rintro⟨d,l⟩ z e ⟨a,g, -⟩;simp only at a;have f0:=sj env c d;have t:l.length<=40:=by have:=N7 List.length a;rw[NA]at this;omega
 cases b:fi c d with
 | false=>
   rw[b]at f0;rw[cX b,OM]at a;by_cases q:l.length<40
   ·have f:(l.length:Int)<40:=by omega
    have F:=i0 Us f a g;exact kb f0
   have f: ¬(l.length:Int)<40:=by omega
   have F:=i0 Us f a g;exact kb f0
 | true=>
   rw[b]at f0;obtain⟨k,s,rfl,o,x⟩:=dB b;have n:=eH o;have j:=dZ h b;rw[n]at j;rw[sK h b,n]at a
   have y:l.length+1<=40:=by
    have:=N7 List.length a;rw[NA,NQ]at this;omega
   have f:(l.length:Int)<40:=by omega
   have v:((k:Nat):Int)< (c.Z9.length:Int):=by have:=(aI.1 b).2;omega
   have w:IntKind.i64.wrap ((l.length:Int)+1)=((l.length+1:Nat):Int):=aD (Nat.lt_succ_self _) (by omega);have r:dd (l.length+1) 8:=⟨by omega,by omega⟩;have F:=qr Us Ut f v w o r g;repeat refine ff f0 ?_
   refine⟨(s.parent,l++[s.parent]),⟨?_,by simp only[go_sem,g],?_⟩,?_,?_,?_⟩
   ·show kf c i=(l++[s.parent])++kf c s.parent;rw[a,Nj];rfl
   ·exact .inr (.inr (by show s.parent<40;omega))
   ·simp only[NA,Nf];exact qe
   ·have F:=ai Us @NC.{0,0};exact qe
   show (s.parent+1).toNat< ((k:Int)+1).toNat;omega
def gf(env:cf)(c:aq)(a:Right c)(k i:Int):b8 prog env 167 [.agg (aA c),I k,I i] (B (b4 c k i)):=by
 have b:(kf c i).length<=40:=kZ 40 i;have f0:=pr env c a i;have f1:=dJ env (kf c i) k (by omega);unfold aA at f0;unfold b4;refine qf func167 call167 ntmps167 results167 ?_;have F:=aA.eq_1;exact ns f0 f1
def E0{c:aq}(a:Right c){k i:Nat}(_hi:i<c.Z9.length):(pf c i).testBit k=b4 c k i:=by
 unfold b4 kf pf;rw[ul a,N8,NI,Mz]
def fQ(env:cf)(c:aq)(a:Right c)(k i:Int):b8 prog env 194 [aQ c,I k,I i] (B (b4 c k i)):=by
 have n:=a.Z6;have f0:=sN env c i;cases d:fi c i with
 | false=>
   rw[d]at f0;have:b4 c k i=false:=by unfold b4;rw[cX d];rfl
   rw[this];refine qf func194 call194 ntmps194 results194 ?_;repeat refine jG f0 ?_
   exact px
 | true=>
   rw[d]at f0;obtain⟨m,s,rfl,u,w⟩:=dB d;have f:=(Mt.1 u).1;by_cases e:k= -1
   ·subst e;have:b4 c (-1) m=true:=by unfold b4;rw[Mz];exact sI a (m+1) m d (by omega)
    rw[this];refine qf func194 call194 ntmps194 results194 ?_;repeat refine jG f0 ?_
    exact px
   ·have j:(k == -1)=false:=by simpa using e
    have f1:=sN env c k;cases b:fi c k with
    | false=>
      rw[b]at f1
      have:b4 c k m=false:=by
       cases l:b4 c k m with
       |false=>rfl
       | true=>
         unfold b4 at l;have v:=kF a 40 _ _ (Mz.1 l);rw[aI.2 ⟨by omega,by omega⟩]at b;cases b
      rw[this];refine qf func194 call194 ntmps194 results194 ?_;have F:=j;exact ns f0 f1
    | true=>
      rw[b]at f1;obtain⟨p,sp,rfl,h,_⟩:=dB b;have t:=(Mt.1 h).1;have g:pf c m<4294967296:=nR a (by omega);have f2:=BQ env (pf c m) g p (by omega);rw[E0 a f]at f2;have o:(mP c c.Z9.length)[m]? =some (pf c m):=by rw[kV f,Mw f]
      have q:((m:Nat):Int)< (c.Z9.length:Int):=by omega
      have r:=d7 c c.Z9.length;refine qf func194 call194 ntmps194 results194 ?_;have F:=kv UQ US j o q r;exact D0 f0 f1 f2
def bk:List Int->Int->Nat->Int
 |[],_,_=> -1
 |x::l,v,k=>if x=v then k else bk l v (k+1)
def Hg{l:List Int}{v:Int}{k:Nat}{x:Int}(h:l[k]? =some x)(a:bk l v 0=bk (l.drop k) v k):(x=v->bk l v 0=k)/\(x≠v->bk l v 0=bk (l.drop (k+1)) v (k+1)):=by
 obtain⟨b,rfl⟩:=Mt.1 h;rw[Ol b]at a;simp only[bk]at a;exact⟨fun e=>by rw[a,Mw e],fun e=>by rw[a,Mv e]⟩
def F1(v:Int): ∀(l:List Int)(k:Nat),decide (0<=bk l v k)=l.contains v
 |[],k=>rfl
 | x::l,k=>by
   have b:=F1 v l (k+1);by_cases e:x=v
   ·have a:bk (x::l) v k=k:=Mw e;rw[a,N8,NI,Mz];exact⟨fun _=>by rw[e];exact QQ ..,fun _=>by omega⟩
   have a:bk (x::l) v k=bk l v (k+1):=Mv e;rw[a,b,N8,Mz,Mz,NX];exact⟨.inr,fun h=>h.resolve_left fun h=>e h.symm⟩
def Dt(env:cf)(l:List Int)(v:Int)(o:l.length<=1000000):b8 prog env 192 [.seq 1 (l.map aa),I v] (I (bk l v 0)):=by
 refine qf func192 call192 ntmps192 results192 ?_;repeat refine nw ?_
 refine Q' l.length (by omega) (fun k _=>[(0, .seq 1 (l.map aa)),(1,I v),(7,I l.length),(8,I k)]) (fun _ _=>[]) (fun k _ _=>bk l v 0=bk (l.drop k) v k) rfl ?_ ?_
 ·rintro k n c a b j d;obtain⟨x,f,_⟩:=aS a;obtain⟨i,m⟩:=Hg f d;by_cases e:x=v
  ·rw[i e];have g:(v==x)=true:=by simp[e]
   have F:=i0 b j g f;exact fc
  have g:(v==x)=false:=by simpa using fun h=>e h.symm
  have F:=i0 b j g f;repeat refine st ?_
  exact qn (k+1) ⟨a,m e⟩
 rintro n c b d;rw[d,OH (by omega),show bk [] v l.length= -1 from rfl];have F:=b;exact fc
def bI(env:cf)(l:List Int)(v:Int)(a:l.length<=1000000):b8 prog env 136 [.seq 1 (l.map aa),I v] (B (l.contains v)):=by
 have h:=F1 v l 0;refine qf func136 call136 ntmps136 results136 ?_;repeat refine jG (Dt env l v a) ?_
 (refine aM ?_;show (ag _ _ _).run _=some _;simp only[go_sem])
 exact N7 B h
def oe(env:cf)(c:aq)(f:hP c)(k:Nat)(t:tS)(a:c.trans[k]? =some t):b8 prog env 270 [aG c,I k] (.tuple [.agg (ax t),B true]):=by
 have f0:=ay env c f;have g:=(Mt.1 a).1;have b:((k:Nat):Int)< (c.trans.length:Int):=by omega
 have d: ¬(c.trans.length:Int)<=(k:Int):=by omega
 have e: ¬((k:Nat):Int)<0:=by omega
 refine qf func270 call270 ntmps270 results270 ?_;have F:=kv Us Uv b d e a;exact kb f0
def uj{c:aq}{k:Nat}{s:n4}(a:c.Z9[k]? =some s):an c k=(s.kind==1):=by unfold an;rw[bK,a]
def ng(env:cf)(c:aq)(p:Right c)(z:hP c)(t:tS)(_hsrc:fi c t.src=true):b8 prog env 272 [aG c, .agg (ax t)] (I (n5 c t.src t.target)):=by
 have w:=p.Z6;have f0:=ay env c z;have f1:=bP env c;have f2:=yn env c p t.src;have A:(kf c t.src).length<=40:=kZ 40 t.src
 have f: ∀x∈kf c t.src,x<0\/fi c x=true:=fun x g=>by
  rcases Qu x 0 with h|h
  ·exact .inl h
  exact .inr (gX p g h).1
 unfold n5;generalize kf c t.src=U at*;unfold aG at f0 f1 |-;refine qf func272 call272 ntmps272 results272 ?_;have F:=ax.eq_1;repeat refine Sw f0 f1 f2 ?_
 have F:=ai Uv Us;refine lq U.length (by omega) (fun j v=>[(0, .ref 9 [cy c] 0 0),(3, .loc 3 (v 3) 0 0),(5, .loc 5 (v 5) 0 0),(14, .row 14 (v 14)),(15,I U.length),(16,I j)]) (fun j _=>[(3,⟨5,[ax t],83,false⟩),(5,⟨5,[aA c],26,false⟩),(14,⟨1,U.map aa,3,true⟩)]) (fun j _ _=>U.find? (rz c t.target)=(U.drop j).find? (rz c t.target)) rfl ?_ ?_
 ·rintro j C q i l r a;obtain⟨x,g⟩:=gE i;rw[iG g]at a;rcases f x (My g) with e|B
  ·have y:rz c t.target x=true:=by unfold rz;rw[Ny e];rfl
   rw[y]at a;simp only[Nn]at a;rw[a,OJ];have F:=ai g l;repeat (first|refine oO rfl (by simp only[go_sem,e,F];exact⟨rfl,rfl⟩) ?_|refine gR ?_|refine gO ?_|refine oZ (kj ?_)|refine oZ ?_|refine oS ?_|refine gT ?_|refine gD mixed ?_|refine oB ?_|refine oK ?_|(refine oX ?_;simp only[bD,ba, ↓reduceIte,Nat.reduceEqDiff,reduceCtorEq])|refine oY (by simp only[go_sem,e,F];exact iR) ?_|refine oN (by simp only[go_sem,e,F];exact iR) ?_)
   (refine aM ?_;show (ag _ _ _).run _=some _;simp only[go_sem,e,F])
  ·obtain⟨k,s,rfl,d,_⟩:=dB B;have D:=(Mt.1 d).1;have e: ¬((k:Nat):Int)<0:=by omega
   have u:((k:Nat):Int)< (c.Z9.length:Int):=by omega
   have n:rz c t.target (k:Int)=(an c (k:Int)&&b4 c (k:Int) t.target):=by unfold rz;rw[Nm e,PF]
   have o:=uj d;have f3:=fQ env c p k t.target;cases b:(s.kind==1) with
   | false=>
     rw[n,o,b,Nt]at a;simp only[NW,OB]at a;have F:=mX Uv Us Ut g d l r u e b;repeat refine ff f1 ?_
     refine⟨j+1,⟨i,a⟩,?_,?_,by omega⟩
     ·exact qe
     have F:=ai Uv Us;exact qe
   | true=>
     rw[n,o,b,Np]at a;cases m:b4 c (k:Int) t.target with
     | false=>
       rw[m]at a f3;simp only[NW,OB]at a;unfold aQ at f1 f3;have F:=mX Uv Us Ut g d l r u e b;repeat refine y3 f1 f3 ?_
       refine⟨j+1,⟨i,a⟩,?_,?_,by omega⟩
       ·exact qe
       have F:=ai Uv Us;exact qe
     | true=>
       rw[m]at a f3;simp only[Nn]at a;rw[a,OJ];unfold aQ at f1 f3;have F:=mX Uv Us Ut g d l r u e b;exact ns f1 f3
 rintro C q l a;rw[OE]at a;rw[a];simp only[QK,PH];have F:=l;exact fc
def ct.src{c:aq}(h:ct c){k:Nat}{t:tS}(e:c.trans[k]? =some t):fi c t.src=true/\(t.target= -1\/fi c t.target=true):=by
 have:=h.tr k t e;unfold d9 at this;simp only[Mx,OO,OQ,NI]at this;refine⟨?_,this.2.imp id fun q=>aI.2 q⟩;have b:=this.1.1.1.1;unfold az at b;split at b
 ·rename_i s a;unfold at_ at a;split at a
  ·rename_i d;have:=(Mt.1 a).1;exact aI.2 ⟨d,by omega⟩
  cases a
 cases b
def mN(env:cf)(c:aq)(m:Right c)(t:tS)(_hsrc:fi c t.src=true):b8 prog env 169 [.agg (aA c), .agg (ax t)] (I (n5 c t.src t.target)):=by
 have w:=m.Z6;have f2:=pr env c m t.src;have z:(kf c t.src).length<=40:=kZ 40 t.src
 have e: ∀x∈kf c t.src,x= -1\/fi c x=true:=fun x f=>by
  rcases Qu x 0 with h|h
  ·have:=(kF m 40 _ _ f).1;exact .inl (by omega)
  exact .inr (gX m f h).1
 unfold n5;generalize kf c t.src=U at*;unfold aA at f2;refine qf func169 call169 ntmps169 results169 ?_;have F:=ai Uv Us;repeat refine ff f2 ?_
 have F:=ai Uv Us;refine lq U.length (by omega) (fun j v=>[(2, .loc 2 (v 2) 0 0),(3, .loc 3 (v 3) 0 0),(5, .row 10 (v 10)),(6,I j)]) (fun j _=>[(2,⟨5,[aA c],26,false⟩),(3,⟨5,[ax t],83,false⟩),(10,⟨1,U.map aa,3,true⟩)]) (fun j _ _=>U.find? (rz c t.target)=(U.drop j).find? (rz c t.target)) rfl ?_ ?_
 ·rintro j B p g i r a;obtain⟨x,f⟩:=gE g;rw[iG f]at a;rcases e x (My f) with rfl|A
  ·have y:rz c t.target (-1)=true:=by unfold rz;rw[Ny (by omega)];rfl
   rw[y]at a;simp only[Nn]at a;rw[a,OJ];have F:=ai f i;exact fc
  ·obtain⟨k,s,rfl,d,_⟩:=dB A;have C:=(Mt.1 d).1;have q:(((k:Nat):Int) == -1)=false:=by simp
   have u:((k:Nat):Int)< (c.Z9.length:Int):=by omega
   have n:rz c t.target (k:Int)=(an c (k:Int)&&b4 c (k:Int) t.target):=by unfold rz;rw[Nm (by omega),PF]
   have o:=uj d;have f3:=gf env c m k t.target;unfold aA at f3;cases b:(s.kind==1) with
   | false=>
     rw[n,o,b,Nt]at a;simp only[NW,OB]at a;have F:=mX Uv Us Ut f d i r u q b;repeat refine ff f3 ?_
     refine⟨j+1,⟨g,a⟩,?_,?_,by omega⟩
     ·exact qe
     have F:=ai Uv Us;exact qe
   | true=>
     rw[n,o,b,Np]at a;cases l:b4 c (k:Int) t.target with
     | false=>
       rw[l]at a f3;simp only[NW,OB]at a;have F:=mX Uv Us Ut f d i r u q b;repeat refine ff f3 ?_
       refine⟨j+1,⟨g,a⟩,?_,?_,by omega⟩
       ·exact qe
       have F:=ai Uv Us;exact qe
     | true=>
       rw[l]at a f3;simp only[Nn]at a;rw[a,OJ];have F:=mX Uv Us Ut f d i r u q b;exact kb f3
 rintro B p i a;rw[OE]at a;rw[a];simp only[QK,PH];have F:=i;exact fc
end Go.Proofs.YtfhkmjbjafeckaaGreatDoor
namespace Go.Proofs
def Tryz.revI_ren:Go.Shelf.Ren:=⟨fun|112=>276|n=>n,fun|28=>33|3=>3|4=>4|0=>0|n=>n,fun|n=>n⟩
def Tryz.revI:Go.Proofs.Lays.n112 prog Tryz.revI_ren:={
 mixed:=by kernel_rfl
 f112:=func276.trans (congrArg some (by kernel_rfl))
 t0:=Tryz.underlying0
 a0:=Tryz.isAgg0
 z0:=Tryz.sizeOf0
 v0:=Tryz.zeroValue0
 t3:=Tryz.underlying3
 a3:=Tryz.isAgg3
 z3:=Tryz.sizeOf3
 v3:=Tryz.zeroValue3
 t4:=Tryz.underlying4
 a4:=Tryz.isAgg4
 z4:=Tryz.sizeOf4
 v4:=Tryz.zeroValue4
 t28:=Tryz.underlying33
 a28:=Tryz.isAgg33
 z28:=Tryz.sizeOf33
 v28:=Tryz.zeroValue33 }
def Tryz.compI_ren:Go.Shelf.Ren:=⟨fun|20=>265|n=>n,fun|22=>33|3=>3|4=>4|0=>0|n=>n,fun|n=>n⟩
def Tryz.compI:Go.Proofs.Lays2.n20 prog Tryz.compI_ren:={
 mixed:=by kernel_rfl
 f20:=func265.trans (congrArg some (by kernel_rfl))
 t0:=Tryz.underlying0
 a0:=Tryz.isAgg0
 z0:=Tryz.sizeOf0
 v0:=Tryz.zeroValue0
 t3:=Tryz.underlying3
 a3:=Tryz.isAgg3
 z3:=Tryz.sizeOf3
 v3:=Tryz.zeroValue3
 t4:=Tryz.underlying4
 a4:=Tryz.isAgg4
 z4:=Tryz.sizeOf4
 v4:=Tryz.zeroValue4
 t22:=Tryz.underlying33
 a22:=Tryz.isAgg33
 z22:=Tryz.sizeOf33
 v22:=Tryz.zeroValue33
 i3:=by kernel_rfl }
end Go.Proofs
namespace Go.Proofs.YtfhkmjbjafeckaaGreatDoor
open Go.Proofs.Tryz
open Go.RowKit Go.Sort Go.Shelf Go.Lib
def Tryz.revIEnter: ∀(args:Array Value)(w:World),(callFunc 276 args).run prog w= .ok (.enter 276 args) w:=Ra func276 (by kernel_rfl) rfl
def Tryz.compIEnter: ∀(args:Array Value)(w:World),(callFunc 265 args).run prog w= .ok (.enter 265 args) w:=Ra func265 (by kernel_rfl) rfl
def sY(l:List Int)(f:l.length<=9223372036854775807):A' prog 276 [] 3 1 (l.map tY) (l.reverse.map tY):=by
 by_cases e:l=[]
 ·subst e;exact nB Tryz.revIEnter fun p a w=>Any.slices_Reverse_int_empty Tryz.revI p a w
 refine kG (by rw[NT];exact Oi.2 e) Tryz.revIEnter (by simp) (fun x d=> ?_) (fun x d=> ?_) fun w g a b j=> ?_
 ·obtain⟨y,_,rfl⟩:=NG.1 d;rfl
 ·obtain⟨y,_,rfl⟩:=NG.1 d;exact⟨rfl,fun u h=>by rw[NP.1 h];rfl⟩
 have b:Holds id w g 0 (l.map (Value.int .i64)).toArray:=by rw[<-d8];exact b
 have:=Any.slices_Reverse_int Tryz.revI g 0 a l w (t6 b) f;rw[NT];refine(show Calls prog 276 #[.slice (some ⟨g,0,none⟩) l.length a] w _ from this).mono ?_;rintro i k ⟨rfl,n,rfl⟩;refine⟨rfl,n, #[],?_⟩;have c: ∀W:World,grow W #[]=W:=fun W=>by simp[grow]
 rw[c,jZ,show (l.reverse.map tY).flatten=l.reverse.map (Value.int .i64) from d8 (Value.int .i64) _];simp
def EJ(l:List Int)(J:l.length<=9223372036854775807):TA prog 265 3 1 (l.map tY) ((Lib.compact l).map tY):=by
 refine⟨Tryz.compIEnter,fun x M=> ?_,fun w o v e=> ?_⟩
 ·obtain⟨y,_,rfl⟩:=NG.1 M;exact⟨rfl,fun u L=>by rw[NP.1 L];rfl⟩
 rw[show (l.map tY).flatten=l.map (Value.int .i64) from d8 (Value.int .i64) _,NT]at e;rw[show ((Lib.compact l).map tY).flatten=(Lib.compact l).map (Value.int .i64) from d8 (Value.int .i64) _,NT];by_cases z:l=[]
 ·subst z
  obtain⟨p,a,rfl⟩: ∃p a,v= .slice p 0 a:=by
   rcases e.2 with⟨rfl,_⟩|⟨g,a,b,rfl,_⟩
   ·exact⟨_,_,rfl⟩
   exact⟨_,_,rfl⟩
  refine(show Calls prog 265 #[.slice p 0 a] w _ from Any.slices_Compact_int_empty Tryz.compI p a w).mono ?_;rintro E N ⟨rfl,rfl⟩;exact⟨_,rfl,rfl,⟨rfl,rfl,rfl,ND _,fun _ _ _=>rfl⟩,fun _ h=>h,e⟩
 rcases e.2 with⟨_,h⟩|⟨g,a,b,rfl,c,d,A,G,B,H⟩
 ·exact absurd (Nl h) z
 have O:g<w.heap.size:=(N5.1 d).1
 have I:Holds (Value.int .i64) w g 0 l.toArray:=fun j D=>by
  have m:j<l.length:=by simpa using D
  have r:(b.toList.take (l.length*1))[j]? =(l.map (Value.int .i64))[j]? :=by rw[H]
  rw[PV (by omega),NE,Ms m]at r;refine⟨?_,by simp[World.frozen?,d]⟩;simp only[World.cell?,d,OI,Rk,NW,OB];rw[<-Pg,r,Pi _ j D];rfl
 have i:(Lib.compact l).length<=l.length:=by
  unfold Lib.compact Lib.compactUpTo;rw[NT];exact NN (NV ..) (by simp)
 refine(show Calls prog 265 #[.slice (some ⟨g,0,none⟩) l.length a] w _ from Any.slices_Compact_int Tryz.compI g 0 a l w I J A).mono ?_;rintro E N ⟨rfl,q,rfl⟩;rw[jZ];generalize C:((Lib.compact l++List.replicate (l.length-(Lib.compact l).length) 0).toArray.map (Value.int .i64))=F;have f:F.size=l.length:=by rw[<-C];simp;omega
 have k: ∀W:World,grow W #[]=W:=fun W=>by simp[grow]
 have s:=PL (n:=q) (os:= #[]) F d;have t:=lC (w:=w) (g:=g) (n:=q) (os:= #[]) F;rw[k]at s t;refine⟨_,rfl,rfl,t,fun _ h=>h,⟨by rw[NT,Q7], .inr ⟨g,a,_,rfl,c,s,NN i A,G,by simp[putCells,B],?_⟩⟩⟩;have K:=ub b F (by rw[f,B];omega);rw[Q7]
 have:((putCells id 0 F b).toList.take (Lib.compact l).length)=(F.toList).take (Lib.compact l).length:=by
  rw[<-K,Ri,P3 (by omega)]
 rw[this, <-C];simp
end Go.Proofs.YtfhkmjbjafeckaaGreatDoor
