/- Reverse and Compact of the library at ints: the shelf's contracts laid at this program. -/
import Derived.Test.YtfhkmjbjafeckaaGreatDoorP17
import Derived.Shelf.Slices.Reverse
import Derived.Shelf.Slices.CompactI
set_option linter.unusedSimpArgs false
set_option linter.defProp false
namespace Go.Proofs.YtfhkmjbjafeckaaGreatDoor
open Go.Proofs.Tryz
open Go.RowKit
set_option maxRecDepth 100000
set_option maxHeartbeats 8000000
def gc(ps:List Int)(e:AV):AV:=ps.foldr (fun p x=>dt p x) e
def C2{S:Nat->Nat->Prop}{w:World}{a:Addr}(d:RM w a): ∀(ps:List Int)(v:Value),RV S w v (gc ps (bx a))->iZ w a ps.length v
 |[],v,h=>⟨h.lit_inv,d⟩
 | p::ps,v,h=>by
   have h:RV S w v (.iface 134 (.ref 3 [[.any,I p,gc ps (bx a)]] 0 0)):=h;cases h with
   | iface t v c h=>
     cases h with
     | ref n l i k b o u m g j=>
       have e:=g 0 2 (gc ps (bx a)) rfl;have f:=j 0 2 (gc ps (bx a)) rfl;refine⟨b,o+(0*3+0),u 0 2,rfl,?_,C2 d ps _ f⟩;have:=e.2.1;simpa using this
def i7(env:b8)(s:List UInt8)(p:Int)(e:AV):b7 prog env 29 [Sg s,dt p e] (dt (-1) (dt p e)):=by
 refine qw func29 call29 ntmps29 results29 ?_;repeat refine m9 ?_
 (refine aM ?_;refine⟨_,(by show (aj _ _ _).run _=some _;simp only[go_sem];rfl),?_⟩)
 exact lr _ _ _ rfl _ _ (.refl _)
def J5(env:b8)(s:List UInt8)(p:Int)(a:Addr):b7 prog env 202 [Sg s,I p,bx a] (dt (max p (-1)) (bx a)):=by
 refine b7.args (cs:=[Sg s,I p, .iface 369 (.lit (.pointer (some a)))]) ?_ (.cons (.refl _) (.cons (.refl _) (.cons (.ifl _ _) .nil)));by_cases b:p< -1
 ·rw[show max p (-1)= -1 by omega];refine qw func202 call202 ntmps202 results202 ?_;have F:=b;repeat refine st ?_
  (refine aM ?_;refine⟨_,(by show (aj _ _ _).run _=some _;simp only[go_sem,F];rfl),?_⟩)
  exact lr _ _ _ rfl _ _ (.lfi _ _)
 rw[show max p (-1)=p by omega];refine qw func202 call202 ntmps202 results202 ?_;have F:=b;repeat refine st ?_
 (refine aM ?_;refine⟨_,(by show (aj _ _ _).run _=some _;simp only[go_sem,F];rfl),?_⟩)
 exact lr _ _ _ rfl _ _ (.lfi _ _)
def ET(env:b8)(a b:Addr)(d:fU env a b)(p:Int):b7 prog env 183 [I p] (dt (max p (-1)) (bx a)):=by
 have c:=iT d.e1;have f0:=J5 env [108,101,103,97,108,46,67,104,101,99,107] p a;refine qf func183 call183 ntmps183 results183 ?_;have F:=c;exact hH f0
def tF{c:aq}{act:List Int}{j:Nat}{x:Int}(b:act[j]? =some x)(a: ∀m,m<j->vh c act m=true)(d:vh c act j=false):kN c act=(1,max x (-1)):=by
 have e:=(Mr.1 b).1;unfold kN;rw[dO e a d];simp only[NW,b,OH]
def ck(env:b8)(u C:Addr)(N:fU env u C)(c:aq)(h:ch c)(J:g7 c)(act:List Int)(T:act.length<=1000000):b7 prog env 129 [aG c, .seq 1 (act.map aa)] (vx u c act):=by
 have O:=h.Z6;have f0:=ay env c J;have f1:=j7 env c (by omega) act T;have f2:=fun(k:Nat)(s:nr)(B:c.Z9[k]? =some s)=>J1 env c h act k s B;have f3:=bf env c h (-1);rw[Mw (.inl rfl)]at f3;have V:=bE h.toRight (-1) true;have G: ∀j∈av c (-1) true,j<c.Z9.length:=fun j S=>by have:=bJ h.toRight (aY S).1;omega
 have f4:=ue env c.Z9.length act (av c (-1) true) (by omega) (by omega) G;have R:=ID env u C N (-1) (by omega);have d:=eo c.Z9.length act;unfold aG at f0 f1 f2 f3 |-;refine qf func129 call129 ntmps129 results129 ?_;have F:=aA.eq_1;repeat refine wc f0 f1 ?_
 have F:=aA.eq_1;refine lq act.length (by omega) (fun j Q=>[(0, .ref 9 [ct c] 0 0),(1, .seq 1 (act.map aa)),(5, .loc 5 (Q 5) 0 0),(6, .row 17 (Q 17)),(18, .seq 1 (act.map aa)),(19,I act.length),(20,I j)]) (fun _ _=>[(5,⟨5,[aA c],26,false⟩),(17,⟨1,kE c.Z9.length act,4,true⟩)]) (fun j _ _=> ∀m,m<j->vh c act m=true) (fun m q=>absurd q (by omega)) ?_ ?_
 ·rintro j U D n i P b;obtain⟨x,o⟩:=gE n;have a:=tG (c:=c) o;have A:=ET env u C N x;have f:vh c act j=false->vx u c act=dt (max x (-1)) (bx u):=fun g=>C0 (tF o b g);by_cases r:x<0
  ·rw[f (by rw[a,ox (by unfold fb;rw[N7 (by omega)];rfl),OB])];have F:=gb o i r;exact hH A
  obtain⟨k,rfl⟩:=fg (show 0<=x by omega);by_cases v:(c.Z9.length:Int)<=k
  ·rw[f (by rw[a,ox (by unfold fb;rw[N7 (p:=(k:Int)<_) (by omega),OB]),OB])];have F:=g9 o i r v d;exact hH A
  obtain⟨s,B⟩: ∃s,c.Z9[k]? =some s:=⟨c.Z9[k]'(by omega),Mq _⟩;have f2:=f2 k s B;rw[CC B]at a;by_cases H:0<j
  ·have w:(0:Int)< (j:Int):=by omega
   have L:IntKind.i64.wrap ((j:Int)-1)=((j-1:Nat):Int):=by rw[aW (by omega) (by omega)];omega
   have K:=FD H n;have M:((j-1:Nat):Int)< (act.length:Int):=by omega
   have z:(j==0)=false:=by simp;omega
   generalize act.getD (j-1) 0=y at*;by_cases E:(k:Int)<=y
   ·rw[f (by rw[a,z,N7 (by omega)];rfl)];have F:=lE o i r v d w L M K E;exact hH A
   cases g:rj c act k s with
   | false=>
     rw[g]at f2 a;rw[f (by rw[a,OB])];have F:=ql Uv o i r v d w L M K E;exact mw f2 A
   | true=>
     rw[g,z,Ni (show y< (k:Int) by omega)]at a;rw[g]at f2;have F:=ed Uv o i P r v d w L M K E;repeat refine fc f2 ?_
     refine⟨j+1,⟨n,fun m q=>by rcases OW.1 q with e|e;exact b m e;rw[e];exact a⟩,?_,?_,by omega⟩
     ·exact qe
     have F:=aA.eq_1;exact qe
  ·have w: ¬(0:Int)< (j:Int):=by omega
   have z:(j==0)=true:=by simp;omega
   cases g:rj c act k s with
   | false=>
     rw[g,z]at a;rw[g]at f2;rw[f (by rw[a,OB])];have F:=mc Uv o i r v d w;exact mw f2 A
   | true=>
     rw[g,z]at a;rw[g]at f2;have F:=n4 Uv o i P r v d w;repeat refine fc f2 ?_
     refine⟨j+1,⟨n,fun m q=>by rcases OW.1 q with e|e;exact b m e;rw[e];exact a⟩,?_,?_,by omega⟩
     ·exact qe
     have F:=aA.eq_1;exact qe
 rintro U D i b
 have l:kN c act=if b6 act (av c (-1) true)=1 then(0, -1) else(1, -1):=by
  unfold kN;rw[bK b]
 by_cases q:b6 act (av c (-1) true)=1
 ·rw[Mw q]at l;rw[LM l];have t:((b6 act (av c (-1) true):Nat):Int)=1:=by omega
  have F:=ai i t;exact mw f3 f4
 rw[Mt q]at l;rw[C0 l];have t:(((b6 act (av c (-1) true):Nat):Int) != 1)=true:=by simp;omega
 have F:=ai i t;exact An f3 f4 R
def vg(env:b8)(c:aq)(h:ch c)(act:List Int)(D:act.length<=1000000):b7 prog env 139 [.agg (aA c), .seq 1 (act.map aa)] (.tuple [I (kN c act).1,I (kN c act).2]):=by
 have E:=h.Z6;have f3:=bh env c (-1) true (by omega);have L:=bE h.toRight (-1) true;have f4:=gF env act (av c (-1) true) D (by omega);refine qf func139 call139 ntmps139 results139 ?_;have F:=aA.eq_1;repeat refine st ?_
 have F:=aA.eq_1;refine lq act.length (by omega) (fun j J=>[(1, .seq 1 (act.map aa)),(2, .loc 2 (J 2) 0 0),(6,I j)]) (fun _ _=>[(2,⟨5,[aA c],26,false⟩)]) (fun j _ _=> ∀m,m<j->vh c act m=true) (fun m l=>absurd l (by omega)) ?_ ?_
 ·rintro j K u g i H b;obtain⟨x,n⟩:=gE g;have t:max x (-1)=if x< -1 then -1 else x:=by split<;>omega
  have a:=tG (c:=c) n;have f0:=sY env c x;have f:vh c act j=false->kN c act=(1,max x (-1)):=fun d=>tF n b d;cases r:fb c x with
  | false=>
    rw[r]at f0;rw[f (by rw[a,ox r,OB])];have F:=hU Uv n i t;exact hH f0
  | true=>
    rw[r]at f0;obtain⟨k,s,rfl,G,M⟩:=cS r;have f2:=A4 env c h act D k s G;rw[CC G]at a;by_cases z:0<j
    ·have p:(0:Int)< (j:Int):=by omega
     have B:IntKind.i64.wrap ((j:Int)-1)=((j-1:Nat):Int):=by rw[aW (by omega) (by omega)];omega
     have A:=FD z g;have C:((j-1:Nat):Int)< (act.length:Int):=by omega
     have q:(j==0)=false:=by simp;omega
     generalize act.getD (j-1) 0=y at*;by_cases v:(k:Int)<=y
     ·rw[f (by rw[a,q,N7 (by omega)];rfl)];have F:=qr Uv n i p B C t A v;exact hH f0
     cases d:rj c act k s with
     | false=>
       rw[d]at f2 a;rw[f (by rw[a,OB])];have F:=qr Uv n i p B C t A v;exact mw f0 f2
     | true=>
       rw[d,q,Ni (show y< (k:Int) by omega)]at a;rw[d]at f2;have F:=qr Uv n i H p B C A v;repeat refine wc f0 f2 ?_
       refine⟨j+1,⟨g,fun m l=>by rcases OW.1 l with e|e;exact b m e;rw[e];exact a⟩,?_,?_,by omega⟩
       ·exact qe
       have F:=aA.eq_1;exact qe
    ·have p: ¬(0:Int)< (j:Int):=by omega
     have q:(j==0)=true:=by simp;omega
     cases d:rj c act k s with
     | false=>
       rw[d,q]at a;rw[d]at f2;rw[f (by rw[a,OB])];have F:=g9 Uv n i p t;exact mw f0 f2
     | true=>
       rw[d,q]at a;rw[d]at f2;have F:=g9 Uv n i H p;repeat refine wc f0 f2 ?_
       refine⟨j+1,⟨g,fun m l=>by rcases OW.1 l with e|e;exact b m e;rw[e];exact a⟩,?_,?_,by omega⟩
       ·exact qe
       have F:=aA.eq_1;exact qe
 rintro K u i b
 have w:kN c act=if b6 act (av c (-1) true)=1 then(0, -1) else(1, -1):=by
  unfold kN;rw[bK b]
 rw[w];by_cases l:b6 act (av c (-1) true)=1
 ·rw[Mw l];have o:((b6 act (av c (-1) true):Nat):Int)=1:=by omega
  have F:=gb Uv i o;exact mw f3 f4
 rw[Mt l];have o:(((b6 act (av c (-1) true):Nat):Int) != 1)=true:=by simp;omega
 have F:=gb Uv i o;exact mw f3 f4
end Go.Proofs.YtfhkmjbjafeckaaGreatDoor
namespace Go.Proofs.YtfhkmjbjafeckaaGreatDoor
open Go.Proofs.Tryz
open Go.RowKit
def dd.frozen{s:St}(r t:Nat)(row:Row)(g:row.pure=true)(b:row.sz≠0)(e:s.rows r=some row)(h:s.f t= .row r (s.vs r)):dd s ((s.show r).put (some t) (.seq row.sz row.es)):=fun x a w m d=>by
 obtain⟨k,i,l,j⟩:=d.show r row e b g;have f:=d.slot t;rw[h]at f;have c:a.tmps.getD t undef=m.ρ r:=f.row_.2 rfl row e;exact⟨_,i.tell t (.seq row.sz row.es) (by rw[c];exact .val j)⟩
def dd.nil{s:St}(t sz:Nat)(e:s.f t= .lit (.slice none 0 0)):dd s (s.put (some t) (.seq sz [])):=fun x a w m c=>by
 have d:=c.slot t;rw[e]at d;have b:=d.lit_;exact⟨_,c.tell t (.seq sz []) (by rw[b];exact .val (F'.nil sz _ _ _ (.lit _)))⟩
section
variable {P:Program} {env:b8} {nt:Nat} {s:St}
theorem Fs{c a:Code}{f:Exit->St->Prop}{D:Type}(F:D->(Nat->Nat)->List (Nat×AV))(R:D->(Nat->Nat)->List (Nat×Row))(b:D->(Nat->Nat)->(Nat->Bool)->Prop)
 (h:fp P env nt c (bD (fun s=> ∃d,b d s.vs s.esc/\cV s (F d s.vs)/\bw s (R d s.vs)) f) s)(i: ∀d vs esc,b d vs esc->fp P env nt a f (head (F d vs) (R d vs) vs esc)):
 fp P env nt c (bD (fp P env nt a f) f) s:=
 vK h fun e s g=>by
  cases e with
  | normal=>
    obtain⟨d,j,k,l⟩:=g;exact lU _ _ k l (i d _ _ j)
  |_=>exact g
end
def pM(Q:Exit->St->Prop):Exit->St->Prop
 | .goto _,_=>False
 |e,s=>Q e s
def dZ{P:Program}{b:Frame}{a:Act}{k:List Item}{cs:List Frame}{w:World}{c:Code} :step P (lone (b.atR a (.code (.scope c)::k)) cs w)= .next (lone (b.atR a (.code c:: .inScope c::k)) cs w):=
 step_lone_go (by simp[stepG,stepG.exec,Frame.atR])
def ry{P:Program}{b:Frame}{a:Act}{k:List Item}{cs:List Frame}{w:World}{c:Code} :step P (lone (b.atR a (.inScope c::k)) cs w)= .next (lone (b.atR a k) cs w):=
 step_lone_go (by simp[stepG,stepG.exec,Frame.atR])
def zw{F:Fence}{n:Nat}{P:Program}{Q:Exit->Act->World->Prop}{a:Act}{w:World}{c:Code}(h:c.wpIn F n P (Exit.noGoto Q) a w):(Code.scope c).wpIn F n P Q a w:=by
 intro b k t s o q;have i:(lone (b.atR a (.code (.scope c)::k)) t w).fenced P F:=fenced_calm o q rfl;obtain⟨e,f,g,j,d⟩:=h b (.inScope c::k) t s o q;cases e with
 |normal=>exact⟨.normal,f,g,j, .head i dZ (StepsIn.trans d (.one (fenced_calm o q rfl) ry))⟩
 | exit id=>
   have u:exitTo id (.inScope c::k)=exitTo id k:=by simp[exitTo]
   exact⟨.exit id,f,g,j,fun y p=> .head i dZ (d.1 y (by rw[u];exact p)),
    fun r p=>let ⟨m,v,x⟩:=d.2 r (by rw[u];exact p);⟨m,v, .head i dZ x⟩⟩
 |goto l=>exact j.elim
 |ret=>exact⟨_,f,g,j, .of_steps (.one i dZ) d⟩
 |panic z=>exact⟨_,f,g,j, .of_steps (.one i dZ) d⟩
 |outgrown=>exact⟨_,f,g,j, .of_steps (.one i dZ) d⟩
def xr{P:Program}{env:b8}{nt:Nat}{Q:Exit->St->Prop}{s:St}{c:Code}(h:fp P env nt c (pM Q) s):fp P env nt (.scope c) Q s:=fun j x d f a w m b=>
 zw (PS (h j x d f a w m b) fun e n o ⟨k,i,q,g⟩=>by
  cases e with
  |goto l=>exact q.elim
  |_=>exact⟨k,i,q,g⟩)
end Go.Proofs.YtfhkmjbjafeckaaGreatDoor
set_option linter.unusedSimpArgs false
namespace Go.Proofs.YtfhkmjbjafeckaaGreatDoor
open Go.Proofs.Tryz
open Go.RowKit
set_option maxRecDepth 100000
set_option maxHeartbeats 8000000
def pg(env:b8)(c:aq)(h:Right c)(i:Int):b7 prog env 163 [.agg (aA c),I i] (.own 3 1 ((j0 c i).map aa)):=by
 have m:=h.Z6;have u:(j0 c i).length<=40:=kV 40 i;refine qf func163 call163 ntmps163 results163 ?_;have F:=aA.eq_1;repeat refine st ?_
 refine aH (D:=Int×List Int) (fun d p=>[(1,I d.1),(2, .loc 2 (p 2) 0 0),(5, .row 7 (p 7)),(6,I d.2.length)]) (fun d _=>[(2,⟨5,[aA c],26,false⟩),(7,⟨1,d.2.map aa,3,true⟩)]) (fun d _ e=>j0 c i=d.2++j0 c d.1/\e 7=false/\(d.2=[]\/d.2.length<40-(d.1+1).toNat\/d.1<40)) (fun d=>(d.1+1).toNat) (i,[]) ?_ ?_ ?_ ?_
 ·exact⟨rfl,rfl, .inl rfl⟩
 ·(simp only[go_sem,F])
  try rfl
 ·have F:=aA.eq_1
  (simp only[go_sem,F])
  try rfl
 rintro⟨d,l⟩ z e ⟨a,g, -⟩;simp only at a;have f0:=sY env c d;have t:l.length<=40:=by have:=N6 List.length a;rw[My]at this;omega
 cases b:fb c d with
 | false=>
   rw[b]at f0;rw[cc b,OP]at a;by_cases q:l.length<40
   ·have f:(l.length:Int)<40:=by omega
    have F:=hU Uv f a g;exact hH f0
   have f: ¬(l.length:Int)<40:=by omega
   have F:=hU Uv f a g;exact hH f0
 | true=>
   rw[b]at f0;obtain⟨k,s,rfl,o,x⟩:=cS b;have n:=eH o;have j:=d4 h b;rw[n]at j;rw[sF h b,n]at a
   have y:l.length+1<=40:=by
    have:=N6 List.length a;rw[My,NN]at this;omega
   have f:(l.length:Int)<40:=by omega
   have v:((k:Nat):Int)< (c.Z9.length:Int):=by have:=(aI.1 b).2;omega
   have w:IntKind.i64.wrap ((l.length:Int)+1)=((l.length+1:Nat):Int):=aD (Nat.lt_succ_self _) (by omega);have r:cU (l.length+1) 8:=⟨by omega,by omega⟩;have F:=n4 Uv Uw f v w o r g;repeat refine fc f0 ?_
   refine⟨(s.parent,l++[s.parent]),⟨?_,by simp only[go_sem,g],?_⟩,?_,?_,?_⟩
   ·show j0 c i=(l++[s.parent])++j0 c s.parent;rw[a,Nl];rfl
   ·exact .inr (.inr (by show s.parent<40;omega))
   ·simp only[My,Na];exact qe
   ·have F:=ai Uv @NA.{0,0};exact qe
   show (s.parent+1).toNat< ((k:Int)+1).toNat;omega
def eT(env:b8)(c:aq)(a:Right c)(k i:Int):b7 prog env 167 [.agg (aA c),I k,I i] (B (a7 c k i)):=by
 have b:(j0 c i).length<=40:=kV 40 i;have f0:=pg env c a i;have f1:=cK env (j0 c i) k (by omega);unfold aA at f0;unfold a7;refine qf func167 call167 ntmps167 results167 ?_;have F:=aA.eq_1;exact mw f0 f1
def EX{c:aq}(a:Right c){k i:Nat}(_hi:i<c.Z9.length):(pc c i).testBit k=a7 c k i:=by
 unfold a7 j0 pc;rw[ud a,N4,NF,Mx]
def fV(env:b8)(c:aq)(a:Right c)(k i:Int):b7 prog env 194 [aQ c,I k,I i] (B (a7 c k i)):=by
 have n:=a.Z6;have f0:=sH env c i;cases d:fb c i with
 | false=>
   rw[d]at f0;have:a7 c k i=false:=by unfold a7;rw[cc d];rfl
   rw[this];refine qf func194 call194 ntmps194 results194 ?_;repeat refine jJ f0 ?_
   exact oj
 | true=>
   rw[d]at f0;obtain⟨m,s,rfl,u,w⟩:=cS d;have f:=(Mr.1 u).1;by_cases e:k= -1
   ·subst e;have:a7 c (-1) m=true:=by unfold a7;rw[Mx];exact sD a (m+1) m d (by omega)
    rw[this];refine qf func194 call194 ntmps194 results194 ?_;repeat refine jJ f0 ?_
    exact oj
   ·have j:(k == -1)=false:=by simpa using e
    have f1:=sH env c k;cases b:fb c k with
    | false=>
      rw[b]at f1
      have:a7 c k m=false:=by
       cases l:a7 c k m with
       |false=>rfl
       | true=>
         unfold a7 at l;have v:=kC a 40 _ _ (Mx.1 l);rw[aI.2 ⟨by omega,by omega⟩]at b;cases b
      rw[this];refine qf func194 call194 ntmps194 results194 ?_;have F:=j;exact mw f0 f1
    | true=>
      rw[b]at f1;obtain⟨p,sp,rfl,h,_⟩:=cS b;have t:=(Mr.1 h).1;have g:pc c m<4294967296:=nJ a (by omega);have f2:=BG env (pc c m) g p (by omega);rw[EX a f]at f2;have o:(mL c c.Z9.length)[m]? =some (pc c m):=by rw[kS f,Mw f]
      have q:((m:Nat):Int)< (c.Z9.length:Int):=by omega
      have r:=d8 c c.Z9.length;refine qf func194 call194 ntmps194 results194 ?_;have F:=i' UT UW j o q r;exact An f0 f1 f2
def bo:List Int->Int->Nat->Int
 |[],_,_=> -1
 |x::l,v,k=>if x=v then k else bo l v (k+1)
def Ha{l:List Int}{v:Int}{k:Nat}{x:Int}(h:l[k]? =some x)(a:bo l v 0=bo (l.drop k) v k):(x=v->bo l v 0=k)/\(x≠v->bo l v 0=bo (l.drop (k+1)) v (k+1)):=by
 obtain⟨b,rfl⟩:=Mr.1 h;rw[Om b]at a;simp only[bo]at a;exact⟨fun e=>by rw[a,Mw e],fun e=>by rw[a,Mt e]⟩
def FV(v:Int): ∀(l:List Int)(k:Nat),decide (0<=bo l v k)=l.contains v
 |[],k=>rfl
 | x::l,k=>by
   have b:=FV v l (k+1);by_cases e:x=v
   ·have a:bo (x::l) v k=k:=Mw e;rw[a,N4,NF,Mx];exact⟨fun _=>by rw[e];exact QR ..,fun _=>by omega⟩
   have a:bo (x::l) v k=bo l v (k+1):=Mt e;rw[a,b,N4,Mx,Mx,NV];exact⟨.inr,fun h=>h.resolve_left fun h=>e h.symm⟩
def Dq(env:b8)(l:List Int)(v:Int)(o:l.length<=1000000):b7 prog env 192 [.seq 1 (l.map aa),I v] (I (bo l v 0)):=by
 refine qf func192 call192 ntmps192 results192 ?_;repeat refine m9 ?_
 refine RK l.length (by omega) (fun k _=>[(0, .seq 1 (l.map aa)),(1,I v),(7,I l.length),(8,I k)]) (fun _ _=>[]) (fun k _ _=>bo l v 0=bo (l.drop k) v k) rfl ?_ ?_
 ·rintro k n c a b j d;obtain⟨x,f,_⟩:=aS a;obtain⟨i,m⟩:=Ha f d;by_cases e:x=v
  ·rw[i e];have g:(v==x)=true:=by simp[e]
   have F:=hU b j g f;exact ek
  have g:(v==x)=false:=by simpa using fun h=>e h.symm
  have F:=hU b j g f;repeat refine st ?_
  exact qn (k+1) ⟨a,m e⟩
 rintro n c b d;rw[d,OG (by omega),show bo [] v l.length= -1 from rfl];have F:=b;exact ek
def bL(env:b8)(l:List Int)(v:Int)(a:l.length<=1000000):b7 prog env 136 [.seq 1 (l.map aa),I v] (B (l.contains v)):=by
 have h:=FV v l 0;refine qf func136 call136 ntmps136 results136 ?_;repeat refine jJ (Dq env l v a) ?_
 (refine aM ?_;show (aj _ _ _).run _=some _;simp only[go_sem])
 exact N6 B h
def o6(env:b8)(c:aq)(f:g7 c)(k:Nat)(t:tR)(a:c.trans[k]? =some t):b7 prog env 270 [aG c,I k] (.tuple [.agg (ax t),B true]):=by
 have f0:=ay env c f;have g:=(Mr.1 a).1;have b:((k:Nat):Int)< (c.trans.length:Int):=by omega
 have d: ¬(c.trans.length:Int)<=(k:Int):=by omega
 have e: ¬((k:Nat):Int)<0:=by omega
 refine qf func270 call270 ntmps270 results270 ?_;have F:=i' Uv Uy b d e a;exact hH f0
def ub{c:aq}{k:Nat}{s:nr}(a:c.Z9[k]? =some s):an c k=(s.kind==1):=by unfold an;rw[bN,a]
def nU(env:b8)(c:aq)(p:Right c)(z:g7 c)(t:tR)(_hsrc:fb c t.src=true):b7 prog env 272 [aG c, .agg (ax t)] (I (ns c t.src t.target)):=by
 have w:=p.Z6;have f0:=ay env c z;have f1:=bQ env c;have f2:=yg env c p t.src;have A:(j0 c t.src).length<=40:=kV 40 t.src
 have f: ∀x∈j0 c t.src,x<0\/fb c x=true:=fun x g=>by
  rcases Qw x 0 with h|h
  ·exact .inl h
  exact .inr (gY p g h).1
 unfold ns;generalize j0 c t.src=U at*;unfold aG at f0 f1 |-;refine qf func272 call272 ntmps272 results272 ?_;have F:=ax.eq_1;repeat refine Sx f0 f1 f2 ?_
 have F:=ai Uy Uv;refine lq U.length (by omega) (fun j v=>[(0, .ref 9 [ct c] 0 0),(3, .loc 3 (v 3) 0 0),(5, .loc 5 (v 5) 0 0),(14, .row 14 (v 14)),(15,I U.length),(16,I j)]) (fun j _=>[(3,⟨5,[ax t],83,false⟩),(5,⟨5,[aA c],26,false⟩),(14,⟨1,U.map aa,3,true⟩)]) (fun j _ _=>U.find? (rp c t.target)=(U.drop j).find? (rp c t.target)) rfl ?_ ?_
 ·rintro j C q i l r a;obtain⟨x,g⟩:=gE i;rw[iH g]at a;rcases f x (Mv g) with e|B
  ·have y:rp c t.target x=true:=by unfold rp;rw[Ni e];rfl
   rw[y]at a;simp only[Nt]at a;rw[a,OH];have F:=ai g l;repeat (first|refine oO rfl (by simp only[go_sem,e,F];exact⟨rfl,rfl⟩) ?_|refine gR ?_|refine gO ?_|refine oZ (ke ?_)|refine oZ ?_|refine oS ?_|refine gT ?_|refine gD mixed ?_|refine oB ?_|refine oK ?_|(refine oX ?_;simp only[bD,be, ↓reduceIte,Nat.reduceEqDiff,reduceCtorEq])|refine oY (by simp only[go_sem,e,F];exact iR) ?_|refine oN (by simp only[go_sem,e,F];exact iR) ?_)
   (refine aM ?_;show (aj _ _ _).run _=some _;simp only[go_sem,e,F])
  ·obtain⟨k,s,rfl,d,_⟩:=cS B;have D:=(Mr.1 d).1;have e: ¬((k:Nat):Int)<0:=by omega
   have u:((k:Nat):Int)< (c.Z9.length:Int):=by omega
   have n:rp c t.target (k:Int)=(an c (k:Int)&&a7 c (k:Int) t.target):=by unfold rp;rw[N7 e,Oj]
   have o:=ub d;have f3:=fV env c p k t.target;cases b:(s.kind==1) with
   | false=>
     rw[n,o,b,Ng]at a;simp only[NU,OA]at a;have F:=lE Uy Uv Uw g d l r u e b;repeat refine fc f1 ?_
     refine⟨j+1,⟨i,a⟩,?_,?_,by omega⟩
     ·exact qe
     have F:=ai Uy Uv;exact qe
   | true=>
     rw[n,o,b,Nj]at a;cases m:a7 c (k:Int) t.target with
     | false=>
       rw[m]at a f3;simp only[NU,OA]at a;unfold aQ at f1 f3;have F:=lE Uy Uv Uw g d l r u e b;repeat refine wc f1 f3 ?_
       refine⟨j+1,⟨i,a⟩,?_,?_,by omega⟩
       ·exact qe
       have F:=ai Uy Uv;exact qe
     | true=>
       rw[m]at a f3;simp only[Nt]at a;rw[a,OH];unfold aQ at f1 f3;have F:=lE Uy Uv Uw g d l r u e b;exact mw f1 f3
 rintro C q l a;rw[ON]at a;rw[a];simp only[QK,PG];have F:=l;exact ek
def ch.src{c:aq}(h:ch c){k:Nat}{t:tR}(e:c.trans[k]? =some t):fb c t.src=true/\(t.target= -1\/fb c t.target=true):=by
 have:=h.tr k t e;unfold da at this;simp only[Mu,OQ,Nz,NF]at this;refine⟨?_,this.2.imp id fun q=>aI.2 q⟩;have b:=this.1.1.1.1;unfold az at b;split at b
 ·rename_i s a;unfold at_ at a;split at a
  ·rename_i d;have:=(Mr.1 a).1;exact aI.2 ⟨d,by omega⟩
  cases a
 cases b
def mG(env:b8)(c:aq)(m:Right c)(t:tR)(_hsrc:fb c t.src=true):b7 prog env 169 [.agg (aA c), .agg (ax t)] (I (ns c t.src t.target)):=by
 have w:=m.Z6;have f2:=pg env c m t.src;have z:(j0 c t.src).length<=40:=kV 40 t.src
 have e: ∀x∈j0 c t.src,x= -1\/fb c x=true:=fun x f=>by
  rcases Qw x 0 with h|h
  ·have:=(kC m 40 _ _ f).1;exact .inl (by omega)
  exact .inr (gY m f h).1
 unfold ns;generalize j0 c t.src=U at*;unfold aA at f2;refine qf func169 call169 ntmps169 results169 ?_;have F:=ai Uy Uv;repeat refine fc f2 ?_
 have F:=ai Uy Uv;refine lq U.length (by omega) (fun j v=>[(2, .loc 2 (v 2) 0 0),(3, .loc 3 (v 3) 0 0),(5, .row 10 (v 10)),(6,I j)]) (fun j _=>[(2,⟨5,[aA c],26,false⟩),(3,⟨5,[ax t],83,false⟩),(10,⟨1,U.map aa,3,true⟩)]) (fun j _ _=>U.find? (rp c t.target)=(U.drop j).find? (rp c t.target)) rfl ?_ ?_
 ·rintro j B p g i r a;obtain⟨x,f⟩:=gE g;rw[iH f]at a;rcases e x (Mv f) with rfl|A
  ·have y:rp c t.target (-1)=true:=by unfold rp;rw[Ni (by omega)];rfl
   rw[y]at a;simp only[Nt]at a;rw[a,OH];have F:=ai f i;exact ek
  ·obtain⟨k,s,rfl,d,_⟩:=cS A;have C:=(Mr.1 d).1;have q:(((k:Nat):Int) == -1)=false:=by simp
   have u:((k:Nat):Int)< (c.Z9.length:Int):=by omega
   have n:rp c t.target (k:Int)=(an c (k:Int)&&a7 c (k:Int) t.target):=by unfold rp;rw[N7 (by omega),Oj]
   have o:=ub d;have f3:=eT env c m k t.target;unfold aA at f3;cases b:(s.kind==1) with
   | false=>
     rw[n,o,b,Ng]at a;simp only[NU,OA]at a;have F:=lE Uy Uv Uw f d i r u q b;repeat refine fc f3 ?_
     refine⟨j+1,⟨g,a⟩,?_,?_,by omega⟩
     ·exact qe
     have F:=ai Uy Uv;exact qe
   | true=>
     rw[n,o,b,Nj]at a;cases l:a7 c (k:Int) t.target with
     | false=>
       rw[l]at a f3;simp only[NU,OA]at a;have F:=lE Uy Uv Uw f d i r u q b;repeat refine fc f3 ?_
       refine⟨j+1,⟨g,a⟩,?_,?_,by omega⟩
       ·exact qe
       have F:=ai Uy Uv;exact qe
     | true=>
       rw[l]at a f3;simp only[Nt]at a;rw[a,OH];have F:=lE Uy Uv Uw f d i r u q b;exact hH f3
 rintro B p i a;rw[ON]at a;rw[a];simp only[QK,PG];have F:=i;exact ek
end Go.Proofs.YtfhkmjbjafeckaaGreatDoor
namespace Go.Proofs
def Tryz.revI_ren:Go.Shelf.Ren:=⟨fun|112=>276|n=>n,fun|28=>33|3=>3|4=>4|0=>0|n=>n,fun|n=>n⟩
def Tryz.revI:Go.Proofs.Lays.n112 prog Tryz.revI_ren:={
 mixed:=by kernel_rfl
 f112:=func276.trans (congrArg some (by kernel_rfl))
 t0:=Tryz.underlying0
 a0:=Tryz.isAgg0
 z0:=Tryz.sizeOf0
 v0:=Tryz.zeroValue0
 t3:=Tryz.underlying3
 a3:=Tryz.isAgg3
 z3:=Tryz.sizeOf3
 v3:=Tryz.zeroValue3
 t4:=Tryz.underlying4
 a4:=Tryz.isAgg4
 z4:=Tryz.sizeOf4
 v4:=Tryz.zeroValue4
 t28:=Tryz.underlying33
 a28:=Tryz.isAgg33
 z28:=Tryz.sizeOf33
 v28:=Tryz.zeroValue33 }
def Tryz.compI_ren:Go.Shelf.Ren:=⟨fun|20=>265|n=>n,fun|22=>33|3=>3|4=>4|0=>0|n=>n,fun|n=>n⟩
def Tryz.compI:Go.Proofs.Lays2.n20 prog Tryz.compI_ren:={
 mixed:=by kernel_rfl
 f20:=func265.trans (congrArg some (by kernel_rfl))
 t0:=Tryz.underlying0
 a0:=Tryz.isAgg0
 z0:=Tryz.sizeOf0
 v0:=Tryz.zeroValue0
 t3:=Tryz.underlying3
 a3:=Tryz.isAgg3
 z3:=Tryz.sizeOf3
 v3:=Tryz.zeroValue3
 t4:=Tryz.underlying4
 a4:=Tryz.isAgg4
 z4:=Tryz.sizeOf4
 v4:=Tryz.zeroValue4
 t22:=Tryz.underlying33
 a22:=Tryz.isAgg33
 z22:=Tryz.sizeOf33
 v22:=Tryz.zeroValue33
 i3:=by kernel_rfl }
end Go.Proofs
namespace Go.Proofs.YtfhkmjbjafeckaaGreatDoor
open Go.Proofs.Tryz
open Go.RowKit Go.Sort Go.Shelf Go.Lib
def Tryz.revIEnter: ∀(args:Array Value)(w:World),(callFunc 276 args).run prog w= .ok (.enter 276 args) w:=Rb func276 (by kernel_rfl) rfl
def Tryz.compIEnter: ∀(args:Array Value)(w:World),(callFunc 265 args).run prog w= .ok (.enter 265 args) w:=Rb func265 (by kernel_rfl) rfl
def sP(l:List Int)(f:l.length<=9223372036854775807):CT prog 276 [] 3 1 (l.map tM) (l.reverse.map tM):=by
 by_cases e:l=[]
 ·subst e;exact mh Tryz.revIEnter fun p a w=>Any.slices_Reverse_int_empty Tryz.revI p a w
 refine kD (by rw[NQ];exact O2.2 e) Tryz.revIEnter (by simp) (fun x d=> ?_) (fun x d=> ?_) fun w g a b j=> ?_
 ·obtain⟨y,_,rfl⟩:=NE.1 d;rfl
 ·obtain⟨y,_,rfl⟩:=NE.1 d;exact⟨rfl,fun u h=>by rw[NO.1 h];rfl⟩
 have b:Holds id w g 0 (l.map (Value.int .i64)).toArray:=by rw[<-d9];exact b
 have:=Any.slices_Reverse_int Tryz.revI g 0 a l w (tP b) f;rw[NQ];refine(show Calls prog 276 #[.slice (some ⟨g,0,none⟩) l.length a] w _ from this).mono ?_;rintro i k ⟨rfl,n,rfl⟩;refine⟨rfl,n, #[],?_⟩;have c: ∀W:World,grow W #[]=W:=fun W=>by simp[grow]
 rw[c,j4,show (l.reverse.map tM).flatten=l.reverse.map (Value.int .i64) from d9 (Value.int .i64) _];simp
def EH(l:List Int)(J:l.length<=9223372036854775807):TD prog 265 3 1 (l.map tM) ((Lib.compact l).map tM):=by
 refine⟨Tryz.compIEnter,fun x M=> ?_,fun w o v e=> ?_⟩
 ·obtain⟨y,_,rfl⟩:=NE.1 M;exact⟨rfl,fun u L=>by rw[NO.1 L];rfl⟩
 rw[show (l.map tM).flatten=l.map (Value.int .i64) from d9 (Value.int .i64) _,NQ]at e;rw[show ((Lib.compact l).map tM).flatten=(Lib.compact l).map (Value.int .i64) from d9 (Value.int .i64) _,NQ];by_cases z:l=[]
 ·subst z
  obtain⟨p,a,rfl⟩: ∃p a,v= .slice p 0 a:=by
   rcases e.2 with⟨rfl,_⟩|⟨g,a,b,rfl,_⟩
   ·exact⟨_,_,rfl⟩
   exact⟨_,_,rfl⟩
  refine(show Calls prog 265 #[.slice p 0 a] w _ from Any.slices_Compact_int_empty Tryz.compI p a w).mono ?_;rintro E N ⟨rfl,rfl⟩;exact⟨_,rfl,rfl,⟨rfl,rfl,rfl,NC _,fun _ _ _=>rfl⟩,fun _ h=>h,e⟩
 rcases e.2 with⟨_,h⟩|⟨g,a,b,rfl,c,d,A,G,B,H⟩
 ·exact absurd (Np h) z
 have O:g<w.heap.size:=(N2.1 d).1
 have I:Holds (Value.int .i64) w g 0 l.toArray:=fun j D=>by
  have m:j<l.length:=by simpa using D
  have r:(b.toList.take (l.length*1))[j]? =(l.map (Value.int .i64))[j]? :=by rw[H]
  rw[PV (by omega),NB,Mq m]at r;refine⟨?_,by simp[World.frozen?,d]⟩;simp only[World.cell?,d,OM,Rk,NU,OA];rw[<-Ph,r,Pj _ j D];rfl
 have i:(Lib.compact l).length<=l.length:=by
  unfold Lib.compact Lib.compactUpTo;rw[NQ];exact NK (NS ..) (by simp)
 refine(show Calls prog 265 #[.slice (some ⟨g,0,none⟩) l.length a] w _ from Any.slices_Compact_int Tryz.compI g 0 a l w I J A).mono ?_;rintro E N ⟨rfl,q,rfl⟩;rw[j4];generalize C:((Lib.compact l++List.replicate (l.length-(Lib.compact l).length) 0).toArray.map (Value.int .i64))=F;have f:F.size=l.length:=by rw[<-C];simp;omega
 have k: ∀W:World,grow W #[]=W:=fun W=>by simp[grow]
 have s:=RT (n:=q) (os:= #[]) F d;have t:=kw (w:=w) (g:=g) (n:=q) (os:= #[]) F;rw[k]at s t;refine⟨_,rfl,rfl,t,fun _ h=>h,⟨by rw[NQ,Q7], .inr ⟨g,a,_,rfl,c,s,NK i A,G,by simp[putCells,B],?_⟩⟩⟩;have K:=uZ b F (by rw[f,B];omega);rw[Q7]
 have:((putCells id 0 F b).toList.take (Lib.compact l).length)=(F.toList).take (Lib.compact l).length:=by
  rw[<-K,Ri,P4 (by omega)]
 rw[this, <-C];simp
end Go.Proofs.YtfhkmjbjafeckaaGreatDoor
