/- Reverse and Compact of the library at ints: the shelf's contracts laid at this program. -/
import Derived.Test.YtknkhdgfhbogdaaGreatDoorP17
import Derived.Shelf.Slices.Reverse
import Derived.Shelf.Slices.CompactI
set_option linter.defProp false
namespace Go.Proofs.YtknkhdgfhbogdaaGreatDoor
open Go.Proofs.Tryz
open Go.RowKit
def cU.frozen{s:St}(r t:Nat)(row:Row)(g:row.pure=true)(b:row.sz≠0)(e:s.rows r=some row)(h:s.f t= .row r (s.vs r)):cU s ((s.show r).put (some t) (.seq row.sz row.es)):=fun x a w m d=>by
 obtain⟨k,i,l,j⟩:=d.show r row e b g;have f:=d.slot t;rw[h]at f;have c:a.tmps.getD t undef=m.ρ r:=f.row_.2 rfl row e;exact⟨_,i.tell t (.seq row.sz row.es) (by rw[c];exact .val j)⟩
def cU.nil{s:St}(t sz:Nat)(e:s.f t= .lit (.slice none 0 0)):cU s (s.put (some t) (.seq sz [])):=fun x a w m c=>by
 have d:=c.slot t;rw[e]at d;have b:=d.lit_;exact⟨_,c.tell t (.seq sz []) (by rw[b];exact .val (DS.nil sz _ _ _ (.lit _)))⟩
section
variable {P:Program} {env:b6} {nt:Nat} {s:St}
theorem Ed{c a:Code}{f:Exit->St->Prop}{D:Type}(F:D->(Nat->Nat)->List (Nat×AV))(R:D->(Nat->Nat)->List (Nat×Row))(b:D->(Nat->Nat)->(Nat->Bool)->Prop)
 (h:fk P env nt c (bB (fun s=> ∃d,b d s.vs s.esc/\cP s (F d s.vs)/\bp s (R d s.vs)) f) s)(i: ∀d vs esc,b d vs esc->fk P env nt a f (head (F d vs) (R d vs) vs esc)):
 fk P env nt c (bB (fk P env nt a f) f) s:=
 uU h fun e s g=>by
  cases e with
  | normal=>
    obtain⟨d,j,k,l⟩:=g;exact lB _ _ k l (i d _ _ j)
  |_=>exact g
end
def oc(Q:Exit->St->Prop):Exit->St->Prop
 | .goto _,_=>False
 |e,s=>Q e s
def dU{P:Program}{b:Frame}{a:Act}{k:List Item}{cs:List Frame}{w:World}{c:Code} :step P (lone (b.atR a (.code (.scope c)::k)) cs w)= .next (lone (b.atR a (.code c:: .inScope c::k)) cs w):=
 step_lone_go (by simp[stepG,stepG.exec,Frame.atR])
def rD{P:Program}{b:Frame}{a:Act}{k:List Item}{cs:List Frame}{w:World}{c:Code} :step P (lone (b.atR a (.inScope c::k)) cs w)= .next (lone (b.atR a k) cs w):=
 step_lone_go (by simp[stepG,stepG.exec,Frame.atR])
def yl{F:Fence}{n:Nat}{P:Program}{Q:Exit->Act->World->Prop}{a:Act}{w:World}{c:Code}(h:c.wpIn F n P (Exit.noGoto Q) a w):(Code.scope c).wpIn F n P Q a w:=by
 intro b k t s o q;have i:(lone (b.atR a (.code (.scope c)::k)) t w).fenced P F:=fenced_calm o q rfl;obtain⟨e,f,g,j,d⟩:=h b (.inScope c::k) t s o q;cases e with
 |normal=>exact⟨.normal,f,g,j, .head i dU (StepsIn.trans d (.one (fenced_calm o q rfl) rD))⟩
 | exit id=>
   have u:exitTo id (.inScope c::k)=exitTo id k:=by simp[exitTo]
   exact⟨.exit id,f,g,j,fun y p=> .head i dU (d.1 y (by rw[u];exact p)),
    fun r p=>let ⟨m,v,x⟩:=d.2 r (by rw[u];exact p);⟨m,v, .head i dU x⟩⟩
 |goto l=>exact j.elim
 |ret=>exact⟨_,f,g,j, .of_steps (.one i dU) d⟩
 |panic z=>exact⟨_,f,g,j, .of_steps (.one i dU) d⟩
 |outgrown=>exact⟨_,f,g,j, .of_steps (.one i dU) d⟩
def wo{P:Program}{env:b6}{nt:Nat}{Q:Exit->St->Prop}{s:St}{c:Code}(h:fk P env nt c (oc Q) s):fk P env nt (.scope c) Q s:=fun j x d f a w m b=>
 yl (Nv (h j x d f a w m b) fun e n o ⟨k,i,q,g⟩=>by
  cases e with
  |goto l=>exact q.elim
  |_=>exact⟨k,i,q,g⟩)
end Go.Proofs.YtknkhdgfhbogdaaGreatDoor
set_option linter.unusedSimpArgs false
namespace Go.Proofs.YtknkhdgfhbogdaaGreatDoor
open Go.Proofs.Tryz
open Go.RowKit
set_option maxRecDepth 100000
set_option maxHeartbeats 8000000
def pA(env:b6)(c:aq)(h:Right c)(i:Int):b7 prog env 180 [.agg (aA c),I i] (.own 3 1 ((i' c i).map aa)):=by
 have m:=h.Z6;have u:(i' c i).length<=40:=kJ 40 i;refine qf func180 call180 ntmps180 results180 ?_;have F:=aA.eq_1;repeat refine st ?_
 refine aG (D:=Int×List Int) (fun d p=>[(1,I d.1),(2, .loc 2 (p 2) 0 0),(5, .row 7 (p 7)),(6,I d.2.length)]) (fun d _=>[(2,⟨5,[aA c],26,false⟩),(7,⟨1,d.2.map aa,3,true⟩)]) (fun d _ e=>i' c i=d.2++i' c d.1/\e 7=false/\(d.2=[]\/d.2.length<40-(d.1+1).toNat\/d.1<40)) (fun d=>(d.1+1).toNat) (i,[]) ?_ ?_ ?_ ?_
 ·exact⟨rfl,rfl, .inl rfl⟩
 ·(simp only[go_sem,F])
  try rfl
 ·have F:=aA.eq_1
  (simp only[go_sem,F])
  try rfl
 rintro⟨d,l⟩ z e ⟨a,g, -⟩;simp only at a;have f0:=rc env c d;have t:l.length<=40:=by have:=MS List.length a;rw[Ll]at this;omega
 cases b:ed c d with
 | false=>
   rw[b]at f0;rw[cW b,Mw]at a;by_cases q:l.length<40
   ·have f:(l.length:Int)<40:=by omega
    have F:=hH SR f a g;exact g9 f0
   have f: ¬(l.length:Int)<40:=by omega
   have F:=hH SR f a g;exact g9 f0
 | true=>
   rw[b]at f0;obtain⟨k,s,rfl,o,x⟩:=cO b;have n:=eA o;have j:=dV h b;rw[n]at j;rw[rL h b,n]at a
   have y:l.length+1<=40:=by
    have:=MS List.length a;rw[Ll,MB]at this;omega
   have f:(l.length:Int)<40:=by omega
   have v:((k:Nat):Int)< (c.Z9.length:Int):=by have:=(aI.1 b).2;omega
   have w:IntKind.i64.wrap ((l.length:Int)+1)=((l.length+1:Nat):Int):=aD (Nat.lt_succ_self _) (by omega);have r:cI (l.length+1) 8:=⟨by omega,by omega⟩;have F:=ns SR SS f v w o r g;repeat refine ef f0 ?_
   refine⟨(s.parent,l++[s.parent]),⟨?_,by simp only[go_sem,g],?_⟩,?_,?_,?_⟩
   ·show i' c i=(l++[s.parent])++i' c s.parent;rw[a,M4];rfl
   ·exact .inr (.inr (by show s.parent<40;omega))
   ·simp only[Ll,MX];exact qe
   ·have F:=ai SR @Ln.{0,0};exact qe
   show (s.parent+1).toNat< ((k:Int)+1).toNat;omega
def eM(env:b6)(c:aq)(a:Right c)(k i:Int):b7 prog env 174 [.agg (aA c),I k,I i] (B (aE c k i)):=by
 have b:(i' c i).length<=40:=kJ 40 i;have f0:=pA env c a i;have f1:=cF env (i' c i) k (by omega);unfold aA at f0;unfold aE;refine qf func174 call174 ntmps174 results174 ?_;have F:=aA.eq_1;exact m5 f0 f1
def DL{c:aq}(a:Right c){k i:Nat}(_hi:i<c.Z9.length):(n5 c i).testBit k=aE c k i:=by
 unfold aE i' n5;rw[tu a,MP,Lt,Lk]
def fG(env:b6)(c:aq)(a:Right c)(k i:Int):b7 prog env 148 [aQ c,I k,I i] (B (aE c k i)):=by
 have n:=a.Z6;have f0:=rO env c i;cases d:ed c i with
 | false=>
   rw[d]at f0;have:aE c k i=false:=by unfold aE;rw[cW d];rfl
   rw[this];refine qf func148 call148 ntmps148 results148 ?_;repeat refine jL f0 ?_
   exact p'
 | true=>
   rw[d]at f0;obtain⟨m,s,rfl,u,w⟩:=cO d;have f:=(Ld.1 u).1;by_cases e:k= -1
   ·subst e;have:aE c (-1) m=true:=by unfold aE;rw[Lk];exact rJ a (m+1) m d (by omega)
    rw[this];refine qf func148 call148 ntmps148 results148 ?_;repeat refine jL f0 ?_
    exact p'
   ·have j:(k == -1)=false:=by simpa using e
    have f1:=rO env c k;cases b:ed c k with
    | false=>
      rw[b]at f1
      have:aE c k m=false:=by
       cases l:aE c k m with
       |false=>rfl
       | true=>
         unfold aE at l;have v:=jp a 40 _ _ (Lk.1 l);rw[aI.2 ⟨by omega,by omega⟩]at b;cases b
      rw[this];refine qf func148 call148 ntmps148 results148 ?_;have F:=j;exact m5 f0 f1
    | true=>
      rw[b]at f1;obtain⟨p,sp,rfl,h,_⟩:=cO b;have t:=(Ld.1 h).1;have g:n5 c m<4294967296:=mb a (by omega);have f2:=AB env (n5 c m) g p (by omega);rw[DL a f]at f2;have o:(ln c c.Z9.length)[m]? =some (n5 c m):=by rw[kF f,Lj f]
      have q:((m:Nat):Int)< (c.Z9.length:Int):=by omega
      have r:=dZ c c.Z9.length;refine qf func148 call148 ntmps148 results148 ?_;have F:=ip Tl To j o q r;exact x5 f0 f1 f2
def bk:List Int->Int->Nat->Int
 |[],_,_=> -1
 |x::l,v,k=>if x=v then k else bk l v (k+1)
def GN{l:List Int}{v:Int}{k:Nat}{x:Int}(h:l[k]? =some x)(a:bk l v 0=bk (l.drop k) v k):(x=v->bk l v 0=k)/\(x≠v->bk l v 0=bk (l.drop (k+1)) v (k+1)):=by
 obtain⟨b,rfl⟩:=Ld.1 h;rw[N1 b]at a;simp only[bk]at a;exact⟨fun e=>by rw[a,Lj e],fun e=>by rw[a,Lf e]⟩
def EK(v:Int): ∀(l:List Int)(k:Nat),decide (0<=bk l v k)=l.contains v
 |[],k=>rfl
 | x::l,k=>by
   have b:=EK v l (k+1);by_cases e:x=v
   ·have a:bk (x::l) v k=k:=Lj e;rw[a,MP,Lt,Lk];exact⟨fun _=>by rw[e];exact Om ..,fun _=>by omega⟩
   have a:bk (x::l) v k=bk l v (k+1):=Lf e;rw[a,b,MP,Lk,Lk,MI];exact⟨.inr,fun h=>h.resolve_left fun h=>e h.symm⟩
def Cc(env:b6)(l:List Int)(v:Int)(o:l.length<=1000000):b7 prog env 146 [.seq 1 (l.map aa),I v] (I (bk l v 0)):=by
 refine qf func146 call146 ntmps146 results146 ?_;repeat refine m8 ?_
 refine PA l.length (by omega) (fun k _=>[(0, .seq 1 (l.map aa)),(1,I v),(7,I l.length),(8,I k)]) (fun _ _=>[]) (fun k _ _=>bk l v 0=bk (l.drop k) v k) rfl ?_ ?_
 ·rintro k n c a b j d;obtain⟨x,f,_⟩:=aS a;obtain⟨i,m⟩:=GN f d;by_cases e:x=v
  ·rw[i e];have g:(v==x)=true:=by simp[e]
   have F:=hH b j g f;exact dT
  have g:(v==x)=false:=by simpa using fun h=>e h.symm
  have F:=hH b j g f;repeat refine st ?_
  exact qn (k+1) ⟨a,m e⟩
 rintro n c b d;rw[d,Mm (by omega),show bk [] v l.length= -1 from rfl];have F:=b;exact dT
def bJ(env:b6)(l:List Int)(v:Int)(a:l.length<=1000000):b7 prog env 88 [.seq 1 (l.map aa),I v] (B (l.contains v)):=by
 have h:=EK v l 0;refine qf func88 call88 ntmps88 results88 ?_;repeat refine jL (Cc env l v a) ?_
 (refine aM ?_;show (ag _ _ _).run _=some _;simp only[go_sem])
 exact MS B h
def ni(env:b6)(c:aq)(f:g6 c)(k:Nat)(t:sh)(a:c.trans[k]? =some t):b7 prog env 234 [aH c,I k] (.tuple [.agg (an t),B true]):=by
 have f0:=au env c f;have g:=(Ld.1 a).1;have b:((k:Nat):Int)< (c.trans.length:Int):=by omega
 have d: ¬(c.trans.length:Int)<=(k:Int):=by omega
 have e: ¬((k:Nat):Int)<0:=by omega
 refine qf func234 call234 ntmps234 results234 ?_;have F:=ip SR SV b d e a;exact g9 f0
def tq{c:aq}{k:Nat}{s:na}(a:c.Z9[k]? =some s):al c k=(s.kind==1):=by unfold al;rw[bL,a]
def mq(env:b6)(c:aq)(p:Right c)(z:g6 c)(t:sh)(_hsrc:ed c t.src=true):b7 prog env 236 [aH c, .agg (an t)] (I (nb c t.src t.target)):=by
 have w:=p.Z6;have f0:=au env c z;have f1:=bP env c;have f2:=xe env c p t.src;have A:(i' c t.src).length<=40:=kJ 40 t.src
 have f: ∀x∈i' c t.src,x<0\/ed c x=true:=fun x g=>by
  rcases P6 x 0 with h|h
  ·exact .inl h
  exact .inr (gP p g h).1
 unfold nb;generalize i' c t.src=U at*;unfold aH at f0 f1 |-;refine qf func236 call236 ntmps236 results236 ?_;have F:=an.eq_1;repeat refine Qs f0 f1 f2 ?_
 have F:=ai SV SR;refine lq U.length (by omega) (fun j v=>[(0, .ref 9 [ca c] 0 0),(3, .loc 3 (v 3) 0 0),(5, .loc 5 (v 5) 0 0),(14, .row 14 (v 14)),(15,I U.length),(16,I j)]) (fun j _=>[(3,⟨5,[an t],53,false⟩),(5,⟨5,[aA c],26,false⟩),(14,⟨1,U.map aa,3,true⟩)]) (fun j _ _=>U.find? (rA c t.target)=(U.drop j).find? (rA c t.target)) rfl ?_ ?_
 ·rintro j C q i l r a;obtain⟨x,g⟩:=gE i;rw[gy g]at a;rcases f x (Lh g) with e|B
  ·have y:rA c t.target x=true:=by unfold rA;rw[M2 e];rfl
   rw[y]at a;simp only[Mb]at a;rw[a,Mn];have F:=ai g l;repeat (first|refine oO rfl (by simp only[go_sem,e,F];exact⟨rfl,rfl⟩) ?_|refine gR ?_|refine gO ?_|refine oZ (kP ?_)|refine oZ ?_|refine oS ?_|refine gT ?_|refine gD mixed ?_|refine oB ?_|refine oK ?_|(refine oX ?_;simp only[bB,ba, ↓reduceIte,Nat.reduceEqDiff,reduceCtorEq])|refine oY (by simp only[go_sem,e,F];exact iR) ?_|refine oN (by simp only[go_sem,e,F];exact iR) ?_)
   (refine aM ?_;show (ag _ _ _).run _=some _;simp only[go_sem,e,F])
  ·obtain⟨k,s,rfl,d,_⟩:=cO B;have D:=(Ld.1 d).1;have e: ¬((k:Nat):Int)<0:=by omega
   have u:((k:Nat):Int)< (c.Z9.length:Int):=by omega
   have n:rA c t.target (k:Int)=(al c (k:Int)&&aE c (k:Int) t.target):=by unfold rA;rw[MU e,NY]
   have o:=tq d;have f3:=fG env c p k t.target;cases b:(s.kind==1) with
   | false=>
     rw[n,o,b,M0]at a;simp only[MH,Mi]at a;have F:=la SV SR SS g d l r u e b;repeat refine ef f1 ?_
     refine⟨j+1,⟨i,a⟩,?_,?_,by omega⟩
     ·exact qe
     have F:=ai SV SR;exact qe
   | true=>
     rw[n,o,b,M5]at a;cases m:aE c (k:Int) t.target with
     | false=>
       rw[m]at a f3;simp only[MH,Mi]at a;unfold aQ at f1 f3;have F:=la SV SR SS g d l r u e b;repeat refine vb f1 f3 ?_
       refine⟨j+1,⟨i,a⟩,?_,?_,by omega⟩
       ·exact qe
       have F:=ai SV SR;exact qe
     | true=>
       rw[m]at a f3;simp only[Mb]at a;rw[a,Mn];unfold aQ at f1 f3;have F:=la SV SR SS g d l r u e b;exact m5 f1 f3
 rintro C q l a;rw[Mu]at a;rw[a];simp only[Oe,Ni];have F:=l;exact dT
def b8.src{c:aq}(h:b8 c){k:Nat}{t:sh}(e:c.trans[k]? =some t):ed c t.src=true/\(t.target= -1\/ed c t.target=true):=by
 have:=h.tr k t e;unfold d5 at this;simp only[Li,Mx,Mh,Lt]at this;refine⟨?_,this.2.imp id fun q=>aI.2 q⟩;have b:=this.1.1.1.1;unfold ax at b;split at b
 ·rename_i s a;unfold at_ at a;split at a
  ·rename_i d;have:=(Ld.1 a).1;exact aI.2 ⟨d,by omega⟩
  cases a
 cases b
def lk(env:b6)(c:aq)(m:Right c)(t:sh)(_hsrc:ed c t.src=true):b7 prog env 185 [.agg (aA c), .agg (an t)] (I (nb c t.src t.target)):=by
 have w:=m.Z6;have f2:=pA env c m t.src;have z:(i' c t.src).length<=40:=kJ 40 t.src
 have e: ∀x∈i' c t.src,x= -1\/ed c x=true:=fun x f=>by
  rcases P6 x 0 with h|h
  ·have:=(jp m 40 _ _ f).1;exact .inl (by omega)
  exact .inr (gP m f h).1
 unfold nb;generalize i' c t.src=U at*;unfold aA at f2;refine qf func185 call185 ntmps185 results185 ?_;have F:=ai SV SR;repeat refine ef f2 ?_
 have F:=ai SV SR;refine lq U.length (by omega) (fun j v=>[(2, .loc 2 (v 2) 0 0),(3, .loc 3 (v 3) 0 0),(5, .row 10 (v 10)),(6,I j)]) (fun j _=>[(2,⟨5,[aA c],26,false⟩),(3,⟨5,[an t],53,false⟩),(10,⟨1,U.map aa,3,true⟩)]) (fun j _ _=>U.find? (rA c t.target)=(U.drop j).find? (rA c t.target)) rfl ?_ ?_
 ·rintro j B p g i r a;obtain⟨x,f⟩:=gE g;rw[gy f]at a;rcases e x (Lh f) with rfl|A
  ·have y:rA c t.target (-1)=true:=by unfold rA;rw[M2 (by omega)];rfl
   rw[y]at a;simp only[Mb]at a;rw[a,Mn];have F:=ai f i;exact dT
  ·obtain⟨k,s,rfl,d,_⟩:=cO A;have C:=(Ld.1 d).1;have q:(((k:Nat):Int) == -1)=false:=by simp
   have u:((k:Nat):Int)< (c.Z9.length:Int):=by omega
   have n:rA c t.target (k:Int)=(al c (k:Int)&&aE c (k:Int) t.target):=by unfold rA;rw[MU (by omega),NY]
   have o:=tq d;have f3:=eM env c m k t.target;unfold aA at f3;cases b:(s.kind==1) with
   | false=>
     rw[n,o,b,M0]at a;simp only[MH,Mi]at a;have F:=la SV SR SS f d i r u q b;repeat refine ef f3 ?_
     refine⟨j+1,⟨g,a⟩,?_,?_,by omega⟩
     ·exact qe
     have F:=ai SV SR;exact qe
   | true=>
     rw[n,o,b,M5]at a;cases l:aE c (k:Int) t.target with
     | false=>
       rw[l]at a f3;simp only[MH,Mi]at a;have F:=la SV SR SS f d i r u q b;repeat refine ef f3 ?_
       refine⟨j+1,⟨g,a⟩,?_,?_,by omega⟩
       ·exact qe
       have F:=ai SV SR;exact qe
     | true=>
       rw[l]at a f3;simp only[Mb]at a;rw[a,Mn];have F:=la SV SR SS f d i r u q b;exact g9 f3
 rintro B p i a;rw[Mu]at a;rw[a];simp only[Oe,Ni];have F:=i;exact dT
end Go.Proofs.YtknkhdgfhbogdaaGreatDoor
namespace Go.Proofs
def Tryz.revI_ren:Go.Shelf.Ren:=⟨fun|112=>240|n=>n,fun|28=>27|3=>3|4=>4|0=>0|n=>n,fun|n=>n⟩
def Tryz.revI:Go.Proofs.Lays.n112 prog Tryz.revI_ren:={
 mixed:=by kernel_rfl
 f112:=func240.trans (congrArg some (by kernel_rfl))
 t0:=Tryz.underlying0
 a0:=Tryz.isAgg0
 z0:=Tryz.sizeOf0
 v0:=Tryz.zeroValue0
 t3:=Tryz.underlying3
 a3:=Tryz.isAgg3
 z3:=Tryz.sizeOf3
 v3:=Tryz.zeroValue3
 t4:=Tryz.underlying4
 a4:=Tryz.isAgg4
 z4:=Tryz.sizeOf4
 v4:=Tryz.zeroValue4
 t28:=Tryz.underlying27
 a28:=Tryz.isAgg27
 z28:=Tryz.sizeOf27
 v28:=Tryz.zeroValue27 }
def Tryz.compI_ren:Go.Shelf.Ren:=⟨fun|20=>228|n=>n,fun|22=>27|3=>3|4=>4|0=>0|n=>n,fun|n=>n⟩
def Tryz.compI:Go.Proofs.Lays2.n20 prog Tryz.compI_ren:={
 mixed:=by kernel_rfl
 f20:=func228.trans (congrArg some (by kernel_rfl))
 t0:=Tryz.underlying0
 a0:=Tryz.isAgg0
 z0:=Tryz.sizeOf0
 v0:=Tryz.zeroValue0
 t3:=Tryz.underlying3
 a3:=Tryz.isAgg3
 z3:=Tryz.sizeOf3
 v3:=Tryz.zeroValue3
 t4:=Tryz.underlying4
 a4:=Tryz.isAgg4
 z4:=Tryz.sizeOf4
 v4:=Tryz.zeroValue4
 t22:=Tryz.underlying27
 a22:=Tryz.isAgg27
 z22:=Tryz.sizeOf27
 v22:=Tryz.zeroValue27
 i3:=by kernel_rfl }
end Go.Proofs
namespace Go.Proofs.YtknkhdgfhbogdaaGreatDoor
open Go.Proofs.Tryz
open Go.RowKit Go.Sort Go.Shelf Go.Lib
def Tryz.revIEnter: ∀(args:Array Value)(w:World),(callFunc 240 args).run prog w= .ok (.enter 240 args) w:=Px func240 (by kernel_rfl) rfl
def Tryz.compIEnter: ∀(args:Array Value)(w:World),(callFunc 228 args).run prog w= .ok (.enter 228 args) w:=Px func228 (by kernel_rfl) rfl
def rX(l:List Int)(f:l.length<=9223372036854775807):An prog 240 [] 3 1 (l.map sP) (l.reverse.map sP):=by
 by_cases e:l=[]
 ·subst e;exact mN Tryz.revIEnter fun p a w=>Any.slices_Reverse_int_empty Tryz.revI p a w
 refine jq (by rw[ME];exact NG.2 e) Tryz.revIEnter (by simp) (fun x d=> ?_) (fun x d=> ?_) fun w g a b j=> ?_
 ·obtain⟨y,_,rfl⟩:=Lp.1 d;rfl
 ·obtain⟨y,_,rfl⟩:=Lp.1 d;exact⟨rfl,fun u h=>by rw[MA.1 h];rfl⟩
 have b:Holds id w g 0 (l.map (Value.int .i64)).toArray:=by rw[<-d4];exact b
 have:=Any.slices_Reverse_int Tryz.revI g 0 a l w (sR b) f;rw[ME];refine(show Calls prog 240 #[.slice (some ⟨g,0,none⟩) l.length a] w _ from this).mono ?_;rintro i k ⟨rfl,n,rfl⟩;refine⟨rfl,n, #[],?_⟩;have c: ∀W:World,grow W #[]=W:=fun W=>by simp[grow]
 rw[c,jP,show (l.reverse.map sP).flatten=l.reverse.map (Value.int .i64) from d4 (Value.int .i64) _];simp
def Cr(l:List Int)(J:l.length<=9223372036854775807):RS prog 228 3 1 (l.map sP) ((Lib.compact l).map sP):=by
 refine⟨Tryz.compIEnter,fun x M=> ?_,fun w o v e=> ?_⟩
 ·obtain⟨y,_,rfl⟩:=Lp.1 M;exact⟨rfl,fun u L=>by rw[MA.1 L];rfl⟩
 rw[show (l.map sP).flatten=l.map (Value.int .i64) from d4 (Value.int .i64) _,ME]at e;rw[show ((Lib.compact l).map sP).flatten=(Lib.compact l).map (Value.int .i64) from d4 (Value.int .i64) _,ME];by_cases z:l=[]
 ·subst z
  obtain⟨p,a,rfl⟩: ∃p a,v= .slice p 0 a:=by
   rcases e.2 with⟨rfl,_⟩|⟨g,a,b,rfl,_⟩
   ·exact⟨_,_,rfl⟩
   exact⟨_,_,rfl⟩
  refine(show Calls prog 228 #[.slice p 0 a] w _ from Any.slices_Compact_int_empty Tryz.compI p a w).mono ?_;rintro E N ⟨rfl,rfl⟩;exact⟨_,rfl,rfl,⟨rfl,rfl,rfl,Lr _,fun _ _ _=>rfl⟩,fun _ h=>h,e⟩
 rcases e.2 with⟨_,h⟩|⟨g,a,b,rfl,c,d,A,G,B,H⟩
 ·exact absurd (M7 h) z
 have O:g<w.heap.size:=(MN.1 d).1
 have I:Holds (Value.int .i64) w g 0 l.toArray:=fun j D=>by
  have m:j<l.length:=by simpa using D
  have r:(b.toList.take (l.length*1))[j]? =(l.map (Value.int .i64))[j]? :=by rw[H]
  rw[Nx (by omega),Lo,Lc m]at r;refine⟨?_,by simp[World.frozen?,d]⟩;simp only[World.cell?,d,Mt,QE,MH,Mi];rw[<-ON,r,OQ _ j D];rfl
 have i:(Lib.compact l).length<=l.length:=by
  unfold Lib.compact Lib.compactUpTo;rw[ME];exact Ly (MF ..) (by simp)
 refine(show Calls prog 228 #[.slice (some ⟨g,0,none⟩) l.length a] w _ from Any.slices_Compact_int Tryz.compI g 0 a l w I J A).mono ?_;rintro E N ⟨rfl,q,rfl⟩;rw[jP];generalize C:((Lib.compact l++List.replicate (l.length-(Lib.compact l).length) 0).toArray.map (Value.int .i64))=F;have f:F.size=l.length:=by rw[<-C];simp;omega
 have k: ∀W:World,grow W #[]=W:=fun W=>by simp[grow]
 have s:=O' (n:=q) (os:= #[]) F d;have t:=kY (w:=w) (g:=g) (n:=q) (os:= #[]) F;rw[k]at s t;refine⟨_,rfl,rfl,t,fun _ h=>h,⟨by rw[ME,PG], .inr ⟨g,a,_,rfl,c,s,Ly i A,G,by simp[putCells,B],?_⟩⟩⟩;have K:=t6 b F (by rw[f,B];omega);rw[PG]
 have:((putCells id 0 F b).toList.take (Lib.compact l).length)=(F.toList).take (Lib.compact l).length:=by
  rw[<-K,QC,OD (by omega)]
 rw[this, <-C];simp
end Go.Proofs.YtknkhdgfhbogdaaGreatDoor
