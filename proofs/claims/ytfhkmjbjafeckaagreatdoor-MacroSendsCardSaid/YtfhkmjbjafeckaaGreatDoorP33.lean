/- A step of a right instance with transitions that may be taken together, on both sides. -/
import Derived.Test.YtfhkmjbjafeckaaGreatDoorP32
set_option maxRecDepth 100000
set_option maxHeartbeats 16000000
set_option linter.unusedSimpArgs false
set_option linter.defProp false
namespace Go.Proofs.YtfhkmjbjafeckaaGreatDoor
open Go.Proofs.Tryz
section
open Go.RowKit
def Lm(e:tD):Prop:= ∀x,e=some x->x.1=2\/x.1=6\/x.1=8
def JH(c:aq)(now:Int)(F:Nat)(m:rx)(l:List Nat):Lm (rt c now F m l).2:=by
 unfold rt;split
 ·intro x a;cases a;exact .inr (.inl rfl)
 split
 ·rename_i y e b;intro x a;cases a;have:=sK c m.data now (bn m.x) l e (by rw[b]);exact this.elim .inl fun q=> .inr (.inr q)
 unfold IT DB;split
 ·intro x a;cases a;exact .inr (.inr rfl)
 intro x a;cases a
def IY(c:aq)(now:Int)(F:Nat)(m:rx)(ev:List UInt8):Lm (va c now F m ev).1.2:=by
 unfold va;split
 ·intro x a;cases a;exact .inl rfl
 ·intro x a;cases a
 exact JH _ _ _ _ _
def z8{c:aq}{F:Nat}{m:rx}(a:n9 c F m){e:List UInt8×Int}{w:List (List UInt8×Int)}(b:m.wait=e::w):n9 c F { m with wait:=w,data:=e.2 } :=
 { a with data:=a.waf e (by rw[b];simp),wait:=by have:=a.wait;rw[b]at this;simp at this |-;omega,waf:=fun x d=>a.waf x (by rw[b];simp[d]) }
section
variable {c:aq} (h:ch c) {now:Int} (hn:0<=now/\now<=1099511627776)
include h hn
theorem rc{F:Nat}{m:rx}(i:n9 c F m)(j:m.x.2.2.2.2=false){ev:List UInt8}(g:(va c now F m ev).1.2=none):jV F (va c now F m ev).1.1<=jV F m/\((va c now F m ev).2=true->jV F (va c now F m ev).1.1<jV F m):=by
 obtain⟨d,_,f⟩:=kg h hn i j g;have k:=d.wait;rcases f with⟨b,a,l⟩|⟨b,a⟩
 ·have:jV F (va c now F m ev).1.1<jV F m:=by
   unfold jV;rw[a];have e:F-m.steps=(F-(m.steps+1))+1:=by omega
   rw[e];omega
  exact⟨by omega,fun _=>this⟩
 rw[a];exact⟨NC _,fun e=>by rw[b]at e;cases e⟩
theorem Ea{F:Nat} : ∀(n:Nat)(m:rx),n9 c F m->jV F m<n->Lm (AI c now F n m).2
 |0,m,_,y=>by omega
 | n+1,m,p,y=>by
   unfold AI;by_cases d:m.x.2.2.2.2=true
   ·rw[Mw d];intro x r;cases r
   rw[Mt d];have d:m.x.2.2.2.2=false:=by simpa using d
   have o:=kg h hn p d (ev:=[]);have i:=rc h hn p d (ev:=[]);have a:=IY c now F m [];rcases l:va c now F m []with⟨⟨f,_|e⟩,_|_⟩
   ·rw[l]at o;obtain⟨B,C,v⟩:=o rfl;obtain rfl:f=m:=by rcases v with⟨q,_⟩|⟨_,q⟩;cases q;exact q
    simp only;cases u:f.wait with
    |nil=>intro x r;cases r
    | cons e w=>
      have k:=z8 p u;have t:=kg h hn k d (ev:=e.1);have j:=rc h hn k d (ev:=e.1);have g:=IY c now F { f with wait:=w,data:=e.2 } e.1;have z:jV F { f with wait:=w,data:=e.2 } <jV F f:=by unfold jV;rw[u];simp
      simp only;rcases s:va c now F { f with wait:=w,data:=e.2 } e.1 with⟨⟨A,_|e⟩,b⟩
      ·rw[s]at t j;exact Ea n A (t rfl).1 (by have:=(j rfl).1;simp only at this;omega)
      rw[s]at g;exact g
   ·rw[l]at o i;exact Ea n f (o rfl).1 (by have:=(i rfl).2 rfl;simp only at this;omega)
   ·rw[l]at a;exact a
   rw[l]at a;exact a
theorem IU{F:Nat} : ∀(n:Nat)(m:rx),n9 c F m->(AI c now F n m).2=none->n9 c F (AI c now F n m).1/\m.steps<=(AI c now F n m).1.steps/\((AI c now F n m).1.x.2.2.2.2=true\/((AI c now F n m).1.x.2.2.2.2=false/\lu c (AI c now F n m).1 []= .ok []/\(AI c now F n m).1.wait=[]))
 |0,m,_,a=>by cases a
 | n+1,m,o,a=>by
   unfold AI at a |-;by_cases g:m.x.2.2.2.2=true
   ·rw[Mw g];exact⟨o,NC _, .inl g⟩
   rw[Mt g]at a |-;have g:m.x.2.2.2.2=false:=by simpa using g
   have j:=kg h hn o g (ev:=[]);rcases d:va c now F m []with⟨⟨i,_|e⟩,_|_⟩
   ·rw[d]at a j;obtain⟨y,C,p⟩:=j rfl;obtain rfl:i=m:=by rcases p with⟨q,_⟩|⟨_,q⟩;cases q;exact q
    simp only at a |-;cases s:i.wait with
    | nil=>
      refine⟨o,NC _, .inr ⟨g,?_,s⟩⟩;unfold va at d;cases B:lu c i []with
      |error n=>rw[B]at d;cases d
      | ok f=>
        rw[B]at d;cases f with
        |nil=>rfl
        | cons k l=>
          have:=N6 Prod.snd d;cases this
    | cons e w=>
      rw[s]at a;have r:=z8 o s;have A:=kg h hn r g (ev:=e.1);simp only at a |-;rcases z:va c now F { i with wait:=w,data:=e.2 } e.1 with⟨⟨t,_|e⟩,b⟩
      ·rw[z]at a A;obtain⟨D,_,E⟩:=A rfl;obtain⟨u,v,x⟩:=IU n t D a;refine⟨u,?_,x⟩
       have:i.steps<=t.steps:=by
        rcases E with⟨_,q,_⟩|⟨_,q⟩
        ·simp only at q;have q:t.steps=i.steps+1:=q;omega
        simp only at q;rw[q];exact NC _
       exact NK this v
      rw[z]at a;cases a
   ·rw[d]at a j;obtain⟨y,C,p⟩:=j rfl;obtain⟨u,v,x⟩:=IU n i y a;refine⟨u,?_,x⟩;rcases p with⟨_,q,_⟩|⟨q,_⟩
    ·simp only at q v |-;omega
    cases q
   ·rw[d]at a;cases a
   rw[d]at a;cases a
end
end
section
open Go.RowKit
def Ug:Option Bool->AV
 |some b=> .tuple [B b,I 0]
 |none=> .tuple [B false,I 2]
def DT(env:b8)(c:aq)(h:ch c)(p:g7 c)(x:nw)(d:Int)(f:H' c x d)(n:Nat)(t:tR)(b:c.trans[n]? =some t):b7 prog env 165 [.agg (aA c), .agg (hP x),I n,I d] (Ug (fh (L' c x.1 x.2.1 d) t.guard)):=by
 have l:=h.Z6;have i:=(Mr.1 b).1;have k:=it i;have j:(L' c x.1 x.2.1 d).vars.length<=1000000:=by show x.2.1.length<=_;have:=f.len;have:=p.vars;omega
 have f0:=sS env c (by omega) x (by have:=f.act;omega) d;have g:=uv h b;unfold fh;by_cases a:t.guard=[]
 ·rw[Mw a];show b7 _ _ _ _ (.tuple [B true,I 0]);unfold hP at f0 |-;refine qf func165 call165 ntmps165 results165 ?_;have F:=g9 Uv Uy b k a;exact hH f0
 rw[Mt a];have f1:=wZ env (L' c x.1 x.2.1 d) f.ok j t.guard (by rw[pH];show br t.guard (x.2.1.length:Int) _=true;rw[f.len];exact g.resolve_left a)
 have o:((t.guard.length:Int)==0)=false:=by
  have:t.guard.length≠0:=fun e=>a (OZ.1 e);simp;omega
 unfold aA hP at f0;unfold hP;generalize L' c x.1 x.2.1 d=W at*;unfold dw at f0 f1;cases m:k8 W t.guard with
 | none=>
   rw[m]at f1;unfold Dx at f1;show b7 _ _ _ _ (.tuple [B false,I 2]);refine qf func165 call165 ntmps165 results165 ?_;have F:=g9 Uv Uy b k o;exact mw f0 f1
 | some v=>
   rw[m]at f1;unfold Dx at f1;show b7 _ _ _ _ (.tuple [B (v != 0),I 0]);refine qf func165 call165 ntmps165 results165 ?_;have F:=g9 Uv Uy b k o;exact mw f0 f1
def T0:Fd->AV
 | .no=> .tuple [I (-1),I 0,I (-1)]
 | .one n=> .tuple [I (n:Nat),I 0,I (-1)]
 | .bad n=> .tuple [I (-1),I 2,I (1000+(n:Nat))]
def A5(env:b8)(c:aq)(h:ch c)(S:g7 c)(x:nw)(d:Int)(V:H' c x d)(i:Int)(ev:List UInt8):b7 prog env 114 [.agg (aA c), .agg (hP x),I i,Sg ev,I d] (T0 (dU c (L' c x.1 x.2.1 d) ev (i::j0 c i))):=by
 have J:=h.ZP;have f1:=pg env c h.toRight i;have f2:=fun k=>Km env c (by omega) k ev;have f3:=fun(n:Nat)(t:tR)(y:c.trans[n]? =some t)=>DT env c h S x d V n t y;have T:(j0 c i).length<=40:=kV ..;have Q:cU (1+(j0 c i).length) 8:=aC (by omega) (by omega);have N:[[I i]]++(j0 c i).map aa=(i::j0 c i).map aa:=rfl;have U:(i::j0 c i).length<=4000:=by simp only[NN];omega
 generalize L' c x.1 x.2.1 d=W at*;generalize Y:(i::j0 c i)=R at*;unfold aA at f1 f2 f3;unfold hP at f3 |-;refine qf func114 call114 ntmps114 results114 ?_;have F:=gb Uv Q N;repeat refine fc f1 ?_
 have F:=aA.eq_1;refine lq R.length (by omega) (fun j e=>[(3,Sg ev),(4,I d),(5, .loc 5 (e 5) 0 0),(6, .loc 6 (e 6) 0 0),(13, .row 20 (e 20)),(14,I j)]) (fun _ _=>[(5,⟨5,[aA c],26,false⟩),(6,⟨5,[[cf x.1,cf x.2.1, .seq 2 (x.2.2.1.map fe), .seq 2 (x.2.2.2.1.map c0),B x.2.2.2.2]],37,false⟩),(20,⟨1,R.map aa,3,true⟩)]) (fun j _ _=>dU c W ev R=dU c W ev (R.drop j)) rfl ?_ ?_
 ·rintro j e z r H M p;obtain⟨k,K⟩:=gE r;have f4:=f2 k;rw[au K]at p;have P:(ii c k ev c.trans.length).length<=c.trans.length:=gH (jf c k ev) c.trans.length;have A: ∀n∈ii c k ev c.trans.length,n<c.trans.length:=fun n o=>BU o;have D:=F4 (c:=c) (w:=W) (ev:=ev) (k:=k) (l:=R.drop (j+1));have s: ∀n,_:=fun n=>CG (c:=c) (w:=W) (ev:=ev) (k:=k) (l:=R.drop (j+1)) (n:=n);have q: ∀n,_:=fun n=>CH (c:=c) (w:=W) (ev:=ev) (k:=k) (l:=R.drop (j+1)) (n:=n);generalize ii c k ev c.trans.length=L at*;have F:=g9 Uv UE K H M;repeat refine fc f4 ?_
  have F:=aA.eq_1;refine lq L.length (by omega) (fun m e=>[(3,Sg ev),(4,I d),(5, .loc 5 (e 5) 0 0),(6, .loc 6 (e 6) 0 0),(13, .row 20 (e 20)),(14,I j),(15, .row 37 (e 37)),(16,I m)]) (fun _ _=>[(5,⟨5,[aA c],26,false⟩),(6,⟨5,[[cf x.1,cf x.2.1, .seq 2 (x.2.2.1.map fe), .seq 2 (x.2.2.2.1.map c0),B x.2.2.2.2]],37,false⟩),(20,⟨1,R.map aa,3,true⟩),(37,⟨1,L.map aB,3,true⟩)]) (fun m _ _=>cQ c W L=cQ c W (L.drop m)) rfl ?_ ?_
  ·rintro m X O f v G a;obtain⟨n,o⟩:=gE f;have C:=A n (Mv o);obtain⟨t,y⟩:=gE C;have p4:IntKind.i64.wrap (1000+(n:Int))=1000+(n:Int):=aW (by omega) (by omega);have g:jU c n=t.guard:=by unfold jU;rw[y]
   have f5:=f3 n t y;rw[au o]at a;cases u:fh W t.guard with
   | none=>
     rw[u]at f5;unfold Ug at f5;rw[t7 (by rw[g];exact u)]at a;rw[p,q n a];show fp _ _ _ _ _ _;unfold T0;have F:=i' Uv Ux o v G p4;exact hH f5
   | some b=>
     rw[u]at f5;unfold Ug at f5;cases b with
     | true=>
       rw[xW (by rw[g];exact u)]at a;rw[p,s n a];show fp _ _ _ _ _ _;unfold T0;have F:=g9 Uv Ux o v G;exact hH f5
     | false=>
       rw[CE (by rw[g];exact u)]at a;have F:=g9 Uv Ux o v G;repeat refine fc f5 ?_
       refine⟨m+1,⟨f,a⟩,?_,?_,by omega⟩
       ·exact qe
       have F:=aA.eq_1;exact qe
  rintro X O v a;rw[ON]at a;have E:=D a;have F:=gb Uv v M;repeat refine st ?_
  refine⟨j+1,⟨r,p.trans E⟩,?_,?_,by omega⟩
  ·exact qe
  have F:=aA.eq_1;exact qe
 rintro e z H p;rw[ON]at p;rw[p];show fp _ _ _ _ _ _;unfold dU T0;have F:=H;exact ek
def Ky{c:aq}(h:ch c){act:List Int}(b: ∀x∈act,fb c x=true)(t:tR): ∀x∈fj c act t,0<=x:=fun x a=>by
 unfold fj at a;split at a
 ·simp at a
 rw[QL]at a;unfold L7 at a;have:=(ND.1 a).1;rw[iB h.toRight b]at this;exact(aI.1 (b x this)).1
def JK{A:List Int}{ks:List Nat} :(0<b6 A ks)↔A.any (fun i=>(zL ks).contains i)=true:=by
 unfold b6;rw[List.length_pos_iff_exists_mem,OE];constructor
 ·rintro⟨k,a⟩;obtain⟨b,c⟩:=ND.1 a;exact⟨k,Mx.1 c,Mx.2 (NE.2 ⟨k,b,rfl⟩)⟩
 rintro⟨x,e,d⟩;obtain⟨k,a,rfl⟩:=NE.1 (Mx.1 d);exact⟨k,ND.2 ⟨a,Mx.2 e⟩⟩
def vf(env:b8)(c:aq)(h:ch c)(act:List Int)(n:act.length<=1000000)(p: ∀x∈act,fb c x=true)(a b:Nat)(l:a<c.trans.length)(m:b<c.trans.length):b7 prog env 166 [.agg (aA c),cf act,I a,I b] (B (bg c act a b)):=by
 obtain⟨g,d⟩:=gE l;obtain⟨f,e⟩:=gE m;have j: ∀x∈act,0<=x:=fun x r=>(aI.1 (p x r)).1;have f0:=jr env c h act n j a g d;have f1:=jr env c h act n j b f e;have u:=gG h act g;have v:=gG h act f;have k:=IR (Ky h p f);have f2:=gF env (fj c act g) ((fj c act f).map Int.toNat) (by omega) (by rw[NQ];omega);rw[E2, <-k]at f2;have o:=JK (A:=fj c act g) (ks:=(fj c act f).map Int.toNat);rw[<-k]at o;unfold bg;rw[dC d,dC e];have s:=it l;have t:=it m;generalize b6 (fj c act g) ((fj c act f).map Int.toNat)=M at*;generalize fj c act g=A at*;generalize fj c act f=C at*
 have q:decide ((0:Int)< (M:Int))=A.any fun i=>C.contains i:=by
  rw[N4,NF, <-o];omega
 rw[<-q];unfold aA ax at f0 f1;refine qf func166 call166 ntmps166 results166 ?_;have F:=i' Uv Uy d e s t;exact An f0 f1 f2
def Gc(env:b8)(c:aq)(h:ch c)(act:List Int)(z:act.length<=1000000)(T: ∀x∈act,fb c x=true)(l:List Nat)(V:l.length<=1000)(y: ∀n∈l,n<c.trans.length)(n:Nat)(A:n<c.trans.length):
 b7 prog env 115 [.agg (aA c),cf act, .seq 1 (l.map aB),I n] (.seq 1 ((la c act l n).map aB)):=by
 have J:=h.Z6;have f0:=fun k y=>vf env c h act z T k n y A;have f2:=fun i k=>eT env c h.toRight i k;obtain⟨G,p⟩:=gE A;have M:=it A;unfold aA at f0 f2;refine qf func115 call115 ntmps115 results115 ?_;have F:=aA.eq_1;repeat refine st ?_
 refine aH (D:=Nat) (fun j N=>[(1,cf act),(2, .seq 1 (l.map aB)),(3,I n),(4, .loc 4 (N 4) 0 0),(9, .row 11 (N 11)),(10,I j)]) (fun j _=>[(4,⟨5,[aA c],26,false⟩),(11,⟨1,((l.take j).filter fun k=> !bg c act k n).map aB,3,true⟩)]) (fun j _ r=>(j<=l.length/\(l.take j).all (lk c act n)=true)/\r 11=false) (fun j=>l.length-j) 0 ?_ ?_ ?_ ?_
 ·exact⟨⟨NG _,rfl⟩,rfl⟩
 ·exact qe
 ·have F:=aA.eq_1
  (simp only[go_sem,F])
  try rfl
 rintro j W r ⟨⟨U,e⟩,q⟩;have P:((l.take j).filter fun k=> !bg c act k n).length<=l.length:=NK (NS ..) (by rw[NJ];omega);have w:cU (((l.take j).filter fun k=> !bg c act k n).length+1) 8:=aC (by omega) (by omega);by_cases g:j<l.length
 ·obtain⟨k,f⟩:=gE g;have u:=Mv f;have m:=y k u;obtain⟨E,o⟩:=gE m;have v:=it g;have B:=aD g (by omega);have C:=it m;have f3:=f0 k m;have f4:=f2 E.src G.src;have L:=bV f
  have d:((l.take (j+1)).filter fun k=> !bg c act k n)=((l.take j).filter fun k=> !bg c act k n)++if bg c act k n=true then [] else [k]:=by
   rw[L,N5]
   congr 1
   cases R:bg c act k n<;>simp[R]
  have a:lk c act n k=(!bg c act k n||a7 c E.src G.src):=by unfold lk;rw[dC o,dC p]
  have t: ∀b,lk c act n k=b->(l.take (j+1)).all (lk c act n)=b:=fun b O=>by rw[L,QT,e];simp[O]
  cases H:bg c act k n with
  | false=>
    rw[H]at f3 d a;simp only[NU,OA]at d;have F:=n4 Uv Ux f v B C w q;repeat refine fc f3 ?_
    refine⟨j+1,⟨⟨g,t _ (by rw[a];rfl)⟩,by simp only[go_sem,q]⟩,?_,?_,by omega⟩
    ·exact qe
    have F:=hU Uv Ux d @NA.{0,0};exact qe
  | true=>
    rw[H]at f3 d a;simp only[Nt,OP]at d;simp only[Oi,Oj]at a;cases s:a7 c E.src G.src with
    | true=>
      rw[s]at f4 a;have F:=ql Uv Uy Ux f o p v B C M q;repeat refine wc f3 f4 ?_
      refine⟨j+1,⟨⟨g,t _ a⟩,by simp only[go_sem,q]⟩,?_,?_,by omega⟩
      ·exact qe
      have F:=gb Uv Ux d;exact qe
    | false=>
      rw[s]at f4 a;rw[Bp u a];have F:=ql Uv Uy Ux f o p v B C M q;exact mw f3 f4
 obtain rfl:j=l.length:=by omega
 have v:=nl l.length;rw[NR]at e w;have S:la c act l n=(l.filter fun k=> !bg c act k n)++[n]:=by unfold la;rw[Mw e]
 have Q:(la c act l n).map aB=((l.filter fun k=> !bg c act k n).map aB)++[[I (n:Int)]]:=by rw[S,NA];rfl
 rw[Q,NR];generalize (l.filter fun k=> !bg c act k n)=K at*;have F:=g9 Uv Ux v w q;repeat refine st ?_
 refine fG (dd.frozen 11 8 ⟨1,K.map aB++[[I (n:Int)]],3,true⟩ rfl (Nf 0) (by simp only[go_sem]) (by simp only[go_sem])) ?_;exact aR
def Tt:Except Nat (List Nat)->AV
 | .ok l=> .tuple [.seq 1 (l.map aB),I 0,I (-1)]
 | .error n=> .tuple [cy,I 2,I (1000+(n:Nat))]
def yP(env:b8)(c:aq)(h:ch c)(hs:g7 c)(x:nw)(d:Int)(T:H' c x d)(ev:List UInt8)(l:List Nat)(H:x.1=zL l)(r: ∀k∈l,k<c.Z9.length):b7 prog env 61 [.agg (aA c), .agg (hP x),Sg ev,I d] (Tt (rU c x.1 (L' c x.1 x.2.1 d) ev (y6 c l))):=by
 have M:=T.act
 have z: ∀y∈x.1,fb c y=true:=fun y U=>by
  rw[H]at U;obtain⟨k,a,rfl⟩:=NE.1 U;exact aV.2 (r k a)
 have f2:b7 prog env 113 [.agg (aA c),cf x.1] (.own 3 1 ((y6 c l).map aB)):=by
  have:=yO env c h l (by rw[H,am]at M;omega) r;rwa [E2 l, <-H]at this
 have f3:=fun k:Nat=>A5 env c h hs x d T k ev;have f4:=fun(o:List Nat)(n:Nat)(S:o.length<=1000)=>(cK env (zL o) n (by rw[am];omega)).lend rfl;have f5:=fun(o:List Nat)(S:o.length<=1000)(r: ∀n∈o,n<c.trans.length)(n:Nat)(p:n<c.trans.length)=>Gc env c h x.1 (by omega) z o S r n p
 have Z:(y6 c l).length<=1000:=by
  have:=(ml h.toRight (zL (ur c l l.length))).length_le_of_subset (l₂:=List.range c.Z9.length) fun m hm=>by
   have hm:m∈y6 c l:=hm;unfold y6 bt at hm;split at hm
   ·exact NX.2 ((gU h.toRight m).1 (ND.1 hm).1)
   simp at hm
  simp at this;have Q:=h.Z6;show (bt c (zL (ur c l l.length))).length<=1000;omega
 unfold rU;generalize hW:L' c x.1 x.2.1 d=W at*;generalize y6 c l=R at*;unfold hP at f3 |-;unfold aA at f2 f3 f5;refine qf func61 call61 ntmps61 results61 ?_;have F:=aA.eq_1;repeat refine fc f2 ?_
 refine aH (D:=Nat×List Nat) (fun e s=>[(2,Sg ev),(3,I d),(4, .loc 4 (s 4) 0 0),(5, .loc 5 (s 5) 0 0),(11, .row 22 (s 22)),(12, .row 23 (s 23)),(13,I e.1)])
  (fun e _=>[(4,⟨5,[aA c],26,false⟩),(5,⟨5,[[cf x.1,cf x.2.1, .seq 2 (x.2.2.1.map fe), .seq 2 (x.2.2.2.1.map c0),B x.2.2.2.2]],37,false⟩),(22,⟨1,R.map aB,3,true⟩),(23,⟨1,e.2.map aB,3,true⟩)])
  (fun e _ w=>(e.1<=R.length/\dA c W ev R []=dA c W ev (R.drop e.1) e.2/\e.2.length<=e.1/\ ∀n∈e.2,n<c.trans.length)/\w 23=false) (fun e=>R.length-e.1) (0,[]) ?_ ?_ ?_ ?_
 ·exact⟨⟨NG _,rfl,NC _,fun n p=>by simp at p⟩,by simp only[go_sem]⟩
 ·exact qe
 ·have F:=aA.eq_1
  (simp only[go_sem,F])
  try rfl
 rintro⟨j,o⟩ ws w ⟨⟨hj,b,t,i⟩,q⟩;simp only at hj b t i;by_cases g:j<R.length
 ·obtain⟨k,a⟩:=gE g;have v:=it g;have P:=aD g (by omega);have f6:=f3 k;rw[au a]at b;have q4: ¬(0:Int)<= -1:=by omega
  cases u:dU c W ev ((k:Int)::j0 c k) with
  | no=>
    rw[u]at f6;unfold T0 at f6;rw[Bv u]at b;have F:=mc Uv Ux a v P q4 q;repeat refine fc f6 ?_
    refine⟨(j+1,o),⟨⟨g,b,RB t,i⟩,by simp only[go_sem,q]⟩,?_,?_,by simp only;omega⟩
    ·exact qe
    have F:=aA.eq_1;exact qe
  | bad n=>
    rw[u]at f6;unfold T0 at f6;rw[xS u]at b;rw[b];show fp _ _ _ _ _ _;unfold Tt;have F:=g9 Uv Ux a v q;exact hH f6
  | one n=>
    have J:=F5 u;rw[u]at f6;unfold T0 at f6;rw[xR u]at b;have V:(0:Int)<=(n:Int):=by omega
    have f7:=f4 o n (by omega);rw[bd]at f7;have X:cU (o.length+1) 8:=aC (by omega) (by omega);cases C:o.contains n with
    | true=>
      have z:(zL o).contains (n:Int)=true:=oR.2 (Mx.1 C);rw[z]at f7;rw[C]at b;simp only[Nt]at b;have F:=mc Uv Ux a v P V q;repeat refine fc f6 ?_
      refine lL f7 ?_;repeat refine st ?_
      refine⟨(j+1,o),⟨⟨g,b,RB t,i⟩,by simp only[go_sem,q]⟩,?_,?_,by simp only;omega⟩
      ·exact qe
      have F:=aA.eq_1;exact qe
    | false=>
      have z:(zL o).contains (n:Int)=false:=by
       cases Y:(zL o).contains (n:Int) with
       |false=>rfl
       | true=>
         have:=Mx.2 (oR.1 Y);rw[C]at this;cases this
      rw[z]at f7;rw[C]at b;simp only[NU,OA]at b;have F:=n4 Uv Ux a v P V X q;repeat refine fc f6 ?_
      refine lL f7 ?_;repeat refine st ?_
      refine⟨(j+1,o++[n]),⟨⟨g,b,by simp only[My,Na];omega,fun m hm=> ?_⟩,by simp only[go_sem,q]⟩,?_,?_,by simp only;omega⟩
      ·rcases NY.1 hm with hm|hm
       ·exact i m hm
       rw[NO.1 hm];exact J
      ·exact qe
      have F:=gb Uv Ux @NA.{0,0};exact qe
 obtain rfl:j=R.length:=by omega
 have v:=nl R.length;rw[ON]at b;have L:dA c W ev R []= .ok o:=b;rw[L];show fp _ _ _ _ _ _;unfold E6 Tt
 have G: ∀m,m<=o.length->((o.take m).foldl (la c x.1) []).length<=m/\ ∀n∈(o.take m).foldl (la c x.1) [],n<c.trans.length:=fun m=>by
  induction m with
  |zero=>exact fun _=>⟨by simp,fun n p=>by simp at p⟩
  | succ m ih=>
    intro hm;obtain⟨i1,N⟩:=ih (by omega);obtain⟨n,p⟩: ∃n,o[m]? =some n:=⟨o[m],Mq (by omega)⟩;rw[bZ _ _ p];refine⟨NK (take_len ..) (by omega),fun k r=> ?_⟩;rcases uY r with r|rfl
    ·exact N k r
    exact i _ (Mv p)
 have F:=gb Uv v q;repeat refine st ?_
 refine fG (dd.frozen 59 17 ⟨1,[],3,true⟩ rfl (Nf 0) (by simp only[go_sem]) (by simp only[go_sem])) ?_;try clear f4 f6
 refine aH (D:=Nat) (fun m s=>[(4, .loc 4 (s 4) 0 0),(5, .loc 5 (s 5) 0 0),(12, .row 23 (s 23)),(17, .seq 1 (((o.take m).foldl (la c x.1) []).map aB)),(18,I m)])
  (fun m _=>[(4,⟨5,[aA c],26,false⟩),(5,⟨5,[[cf x.1,cf x.2.1, .seq 2 (x.2.2.1.map fe), .seq 2 (x.2.2.2.1.map c0),B x.2.2.2.2]],37,false⟩),(23,⟨1,o.map aB,3,true⟩)])
  (fun m _ _=>m<=o.length) (fun m=>o.length-m) 0 ?_ ?_ ?_ ?_
 ·exact NG _
 ·(simp only[go_sem,F])
  try rfl
 ·have F:=aA.eq_1;exact qe
 rintro m us es hm;obtain⟨i1,N⟩:=G m hm;by_cases f:m<o.length
 ·obtain⟨n,p⟩:=gE f;have O:=it f;have p2:=aD f (by omega);have f6:=f5 _ (by omega) N n (i n (Mv p));have K:=bZ (la c x.1) [] p;rw[<-K]at f6;generalize (o.take m).foldl (la c x.1) []=A at*;generalize E:(o.take (m+1)).foldl (la c x.1) []=A2 at*;have F:=g9 Uv Ux p O p2;repeat refine fc f6 ?_
  refine⟨m+1,f,?_,?_,by omega⟩
  ·have F:=ai Ux E;exact qe
  have F:=aA.eq_1;exact qe
 obtain rfl:m=o.length:=by omega
 have O:=nl o.length;rw[NR];have F:=O;exact ek
end
section
open Go.RowKit Go.ChangeShapes Go.WideShapes Go.ChangeAt Go.Deep
def WB{H:Type}(P:Program)(t:TypeId)(d:DataW H):Prop:= ∀z∈DataW.weights P t d,z<=reachBytes
section
variable {H:Type} {enc:TypeId×Value->H} {P:Program} {w:World} {base:Nat} {spare:Nat->Bool} {held:Bool}
theorem BE{e:TypeId}{d:DataW H} : ∀ {l:List (DataW H)},d∈l-> ∀z∈DataW.weights P e d,z∈DataW.weightsAll P e l
 | a::r,h,z,b=>by
   unfold DataW.weightsAll;rcases NV.1 h with rfl|h
   ·exact Ns _ b
   exact PH _ (BE h z b)
theorem WB.elem{t e:TypeId}{es rs:List (DataW H)}(b:P.underlying t=some (.slice e))(h:WB P t (.slice es rs)){d:DataW H}(a:d∈es):WB P e d:=fun z c=>by
 refine h z ?_;unfold DataW.weights;rw[b];exact O3 _ (Ns _ (BE a z c))
theorem WB.size{t e:TypeId}{es rs:List (DataW H)}(a:P.underlying t=some (.slice e))(h:WB P t (.slice es rs)):es.length*P.bytesOf e<=reachBytes:=by
 refine NK ?_ (h ((es.length+rs.length)*P.bytesOf e) ?_)
 ·exact Nk _ (Rt ..)
 unfold DataW.weights;rw[a];exact QR ..
theorem lX: ∀ {ts:List TypeId}{l:List (DataW H)}{i:Nat}{t:TypeId}{d:DataW H},ts[i]? =some t->l[i]? =some d-> ∀z∈DataW.weights P t d,z∈DataW.weightsEach P ts l
 |t::ts,d::l,0,_,_,rfl,rfl,z,a=>by unfold DataW.weightsEach;exact Ns _ a
 | t::ts,d::l,i+1,_,_,b,c,z,a=>by
   unfold DataW.weightsEach;exact PH _ (lX (i:=i) (by simpa using b) (by simpa using c) z a)
 |[],_,i,_,_,b,_,z,a=>by simp at b
 |_::_,[],i,_,_,_,c,z,a=>by simp at c
theorem WB.part{t:TypeId}{a:Array Field}{ps:List (DataW H)}(e:P.underlying t=some (.struct a))(h:WB P t (.agg ps)){i:Nat}{f:Field}{d:DataW H}(c:a[i]? =some f)(b:ps[i]? =some d):WB P f.type d:=fun z g=>by
 refine h z ?_;unfold DataW.weights;rw[e];refine lX (i:=i) ?_ b z g;rw[NB,Ph,c];rfl
theorem D3{α:Type}{t e:TypeId}{size fuel:Nat}{R:List Value->α->Prop}{cs:List Value}{x:DataW H×List MemPlace}(U:P.underlying t=some (.slice e))(Z:P.cellsOf e=size)(k:0<size)
 (hR: ∀(m:Nat)(cs:List Value)(y:DataW H×List MemPlace),DataW.trod enc P w base spare held m e cs=some y->WB P e y.1-> ∃a,R cs a)(hw:WB P t x.1)
 (h:DataW.trod enc P w base spare held fuel t cs=some x): ∃v l,cs=[v]/\eh w w.heap.size size R v l:=by
 rcases open_slice U h with⟨rfl,_⟩|⟨a,c,K,m,n,D,Q,rfl,hb,hl,hm,M,rfl,V⟩
 ·exact⟨_,[],rfl,none,0,[],rfl,NC _,NG _,jn.empty _ _ _ _,by simp,fun i o=>by simp at o⟩
 have hlm:c<=m:=by rw[M];split<;>omega
 rw[Z]at V
 have C: ∀i,∃r:List Value,i<c->w.cells? base (a.add (i*size)) size=some r/\DataW.trod enc P w base spare held n e r=some (D i,Q i):=fun i=>by
  by_cases o:i<c
  ·obtain⟨r,X,Y⟩:=V i (by omega);exact⟨r,fun _=>⟨X,Y⟩⟩
  exact⟨[],fun h=>absurd h o⟩
 let f:Nat->List Value:=fun i=>(C i).choose
 have I: ∀i,i<c->w.cells? base (a.add (i*size)) size=some (f i)/\DataW.trod enc P w base spare held n e (f i)=some (D i,Q i):=fun i o=>(C i).choose_spec o;have g: ∀i,i<c->(f i).length=size:=fun i o=>(QB (I i o).1).2.1;obtain⟨l,z,L⟩:=FO (n:=c) (p:=fun i a=>R (f i) a) fun i o=>hR _ _ _ (I i o).2 (WB.elem U hw (NE.2 ⟨i,NX.2 o,rfl⟩));refine⟨_,l,rfl,some a,K,(List.range c).flatMap f,by rw[z],by omega,by omega,⟨by rw[z,pi f size c g],fun J=> ?_⟩,by rw[z,pi f size c g],fun i o=> ?_⟩
 ·rw[z]at J;have W:=QB (I 0 J).1;have d:=W.2.2 0 k
  have G:a.spot=none:=by
   rw[Pi]at d;have:(f 0)[0]? =some ((f 0)[0]'(by rw[g 0 J];exact k)):=Mq _;rw[this]at d;have e:(a.add 0).add 0=a:=rfl;rw[e]at d;unfold World.cell? at d;cases hs:a.spot with
   |none=>rfl
   | some s=>
     rw[hs]at d;split at d<;>simp at d
  obtain⟨b,B,sp⟩:=a;simp only at G;subst G
  have q: ∀j u,((List.range c).flatMap f)[j]? =some u->w.cell? ⟨b,B+j,none⟩=some u:=by
   intro j u N
   have hj:j<c*size:=by
    rcases Pa j (c*size) with h|h
    ·exact h
    rw[NI (by rw[pi f size c g];exact h)]at N;cases N
   have S:j/size<c:=Pz (by rw[P3];exact hj);have T:j%size<size:=Q4 _ k;have A:=j6 f size c g (j/size) S;have e:j=j/size*size+j%size:=by rw[P3];exact(Nat.div_add_mod j size).symm
   have E:(f (j/size))[j%size]? =some u:=by
    rw[<-A,N8,Mw T,OL, <-e];exact N
   have:=(QB (I _ S).1).2.2 (j%size) T;rw[E,add_plain,add_plain,QV, <-e]at this;exact this
  refine⟨b,B,rfl,?_,q⟩;have O:((List.range c).flatMap f)[0]? =some (((List.range c).flatMap f)[0]'(by rw[pi f size c g];exact Nat.mul_pos J k)):=Mq _;exact Qq w ⟨b,B+0,none⟩ (q 0 _ O)
 rw[j6 f size c g i (by omega)];exact L i o
end
section
variable {H:Type} {enc:TypeId×Value->H} {P:Program} {w:World} {base:Nat} {spare:Nat->Bool} {held:Bool}
theorem nF{I:Type}{t e:TypeId}{size fuel:Nat}{cs:List Value}{x:DataW H×List MemPlace}(g:I->List AV)(d:I->Prop)(z: ∀a,(g a).length=size)(C:P.underlying t=some (.slice e))(O:P.cellsOf e=size)(o:0<size)
 (Q: ∀(m:Nat)(cs:List Value)(y:DataW H×List MemPlace),DataW.trod enc P w base spare held m e cs=some y->WB P e y.1-> ∃a,RE w g d cs a)(D:WB P t x.1)
 (h:DataW.trod enc P w base spare held fuel t cs=some x): ∃(v:Value) (l:List I),cs=[v]/\(v.oneCell'=true/\RV (fun b _=>b<w.heap.size) w v (.seq size (l.map g)))/\(l.length<=maxLen/\l.length*P.bytesOf e<=reachBytes)/\ ∀a∈l,d a:=by
 obtain⟨v,l,q,J⟩:=D3 (R:=RE w g d) C O o Q D h;have B:=FN g z J fun cs a _ V j u c W T=>V.1.at_.2 j u c W T;obtain⟨A,c,X,rfl,_,N,_,p⟩:=J;refine⟨_,l,q,⟨rfl,B⟩,⟨N,?_⟩,fun a S=> ?_⟩
 ·rcases DataW.trod_slice C h with⟨f,_⟩|⟨a,E,L,s,K,n,_,f,M,_,_,_,k,_⟩
  ·rw[q]at f;have r:l.length=0:=by injection f with G _;injection G
   rw[r,Pi];exact NG _
  rw[q]at f;have r:l.length=E:=by injection f with G _;injection G
  rw[M]at D;have:=D.size C;rw[NQ,k]at this;rw[r];exact this
 obtain⟨i,U,rfl⟩:=OX S;exact(p.2 i U).2
end
def MN:prog.bytesOf 3=8:=by kernel_rfl
def F6(m:ds):Prop:=m.2.length<=maxLen/\m.2.length*8<=reachBytes
section
variable {H:Type} {enc:TypeId×Value->H} {w:World} {base:Nat} {spare:Nat->Bool} {held:Bool}
theorem HJ(m:Nat)(cs:List Value)(y:DataW H×List MemPlace)(h:DataW.trod enc prog w base spare held m 146 cs=some y)(o:WB prog 146 y.1): ∃a:ds,RE w fe F6 cs a:=by
 obtain⟨d,n,_,v,l,b,f⟩:=PE Tryz.underlying146 h;rw[Li]at l;obtain⟨q,j,rfl⟩:=Dh l;obtain⟨D,t⟩:=ba b f 0 _ rfl 3 0 1 rfl rfl ra;obtain⟨C,r, -, -⟩:=O4 Tryz.underlying3 (show DataW.trod enc prog w base spare held n 3 [q]=some D from t);cases r;have x:d.length=2:=b;obtain⟨e,c⟩: ∃e,d[1]? =some e:=⟨d[1]'(by omega),Mq _⟩;obtain⟨G,k⟩:=ba b f 1 _ rfl 33 1 1 rfl rfl Ei
 have u:DataW.trod enc prog w base spare held n 33 [j]=d[1]? :=by
  have:=f 1 _ rfl;exact this
 have k:DataW.trod enc prog w base spare held n 33 [j]=some e:=u.trans c;rw[v]at o;have g:WB prog 33 e.1:=WB.part (i:=1) Tryz.underlying146 o rfl (by rw[NB,c];rfl);obtain⟨E,z,s,B,⟨A,p⟩, -⟩:=nF (size:=1) aa (fun _=>True) (fun _=>rfl) Tryz.underlying33 ra (by decide) (fun m cs y h _=>PL m cs y h) g k;cases s;rw[MN]at p;exact⟨(C,z),⟨⟨rfl, .lit _⟩,B,trivial⟩,A,p⟩
end
end
section
open Go.RowKit Go.ChangeShapes Go.WideShapes Go.ChangeAt Go.Deep
def Me:prog.bytesOf 98=24:=by kernel_rfl
def pT(x:nw):Prop:=vo x/\(∀m∈x.2.2.1,m.2.length*8<=reachBytes)/\x.2.2.2.1.length*24<=reachBytes
section
variable {H:Type} {enc:TypeId×Value->H} {w:World} {base:Nat} {spare:Nat->Bool} {held:Bool}
theorem D4(m:Nat)(cs:List Value)(y:DataW H×List MemPlace)(h:DataW.trod enc prog w base spare held m 37 cs=some y)(j:WB prog 37 y.1): ∃a:nw,RE w hP pT cs a:=by
 obtain⟨c,n,_,N,q,b,d⟩:=PE Tryz.underlying37 h;rw[N]at j;have O:c.length=5:=b;rw[ML]at q;obtain⟨v,x,o,p,A,rfl⟩:=K3 q;obtain⟨y0,I⟩:=ba b d 0 _ rfl 33 0 1 rfl rfl Ei;obtain⟨x0,P,B,X,T, -⟩:=dJ (size:=1) aa (fun _=>True) (fun _=>rfl) Tryz.underlying33 ra (by decide) PL (show DataW.trod enc prog w base spare held n 33 [v]=some y0 from I);cases B;obtain⟨y1,J⟩:=ba b d 1 _ rfl 33 1 1 rfl rfl Ei;obtain⟨x1,Q,C,Y,U, -⟩:=dJ (size:=1) aa (fun _=>True) (fun _=>rfl) Tryz.underlying33 ra (by decide) PL (show DataW.trod enc prog w base spare held n 33 [x]=some y1 from J);cases C;obtain⟨t,e⟩: ∃z,c[2]? =some z:=⟨c[2]'(by omega),Mq _⟩
 have K:DataW.trod enc prog w base spare held n 34 [o]=some t:=by
  have:=d 2 _ rfl;exact Eq.trans (show DataW.trod enc prog w base spare held n 34 [o]=c[2]? from this) e
 have k:WB prog 34 t.1:=WB.part (i:=2) Tryz.underlying37 j rfl (by rw[NB,e];rfl);obtain⟨x2,R,D,Z,⟨V, -⟩,s⟩:=nF (size:=2) fe F6 (fun _=>rfl) Tryz.underlying34 Li (by decide) HJ k K;cases D;obtain⟨u,f⟩: ∃z,c[3]? =some z:=⟨c[3]'(by omega),Mq _⟩
 have L:DataW.trod enc prog w base spare held n 35 [p]=some u:=by
  have:=d 3 _ rfl;exact Eq.trans (show DataW.trod enc prog w base spare held n 35 [p]=c[3]? from this) f
 have l:WB prog 35 u.1:=WB.part (i:=3) Tryz.underlying37 j rfl (by rw[NB,f];rfl);obtain⟨x3,S,E,r3,⟨W,r⟩,p3⟩:=nF (size:=2) c0 o4 (fun _=>rfl) Tryz.underlying35 T9 (by decide) (fun m cs y h _=>Kp m cs y h) l L;cases E;rw[Me]at r;obtain⟨y4,M⟩:=ba b d 4 _ rfl 4 4 1 rfl rfl MM;obtain⟨x4,G, -⟩:=DataW.trod_bool Tryz.underlying4 (show DataW.trod enc prog w base spare held n 4 [A]=some y4 from M);cases G;exact⟨(P,Q,R,S,x4),⟨X,Y,Z,r3,⟨rfl, .lit _⟩,trivial⟩,⟨⟨T,U⟩,⟨V,fun m g=>(s m g).1⟩,W,p3⟩,fun m g=>(s m g).2,r⟩
end
end
section
open Go.RowKit
def Bz{x:nw}(h:pT x):(∀m∈x.2.2.1,cU m.2.length 8)/\cU x.2.2.2.1.length 24:=⟨fun m a=>⟨NK (h.2.1 m a) (by decide),nI (h.1.2.1.2 m a)⟩,NK h.2.2 (by decide),nI h.1.2.2.1⟩
def Cw(env:b8)(l:List ds)(t:l.length<=9223372036854775807)(h: ∀m∈l,m.2.length<=9223372036854775807):b7 prog env 35 [.seq 2 (l.map fe), .seq 2 (l.map fe)] (B true):=by
 refine qf func35 call35 ntmps35 results35 ?_;repeat refine m9 ?_
 refine RK l.length (by omega) (fun j r=>[(0, .seq 2 (l.map fe)),(1, .seq 2 (l.map fe)),(5,I j)]) (fun _ _=>[]) (fun _ _ _=>True) trivial ?_ ?_
 ·rintro j s e b c p _;obtain⟨x,d⟩:=gE b;have i:=h x (Mv d);have F:=gb UH d c;repeat refine st ?_
  refine lq x.2.length (by omega) (fun k r=>[(0, .seq 2 (l.map fe)),(1, .seq 2 (l.map fe)),(5,I j),(6,I k)]) (fun _ _=>[]) (fun _ _ _=>True) trivial ?_ ?_
  ·rintro k q g a f o _;obtain⟨y,n⟩:=gE a;have F:=mc UH UE d n c f o;repeat refine st ?_
   exact qn (k+1) ⟨a,trivial⟩
  rintro q g f _;have F:=g9 UH d c p f;repeat refine st ?_
  exact qn (j+1) ⟨b,trivial⟩
 rintro s e c _;have F:=c;exact ek
def qj(env:b8)(A V:List Int)(x:nw)(h:vo x)(q:A.length=x.1.length)(s:V.length=x.2.1.length):b7 prog env 17 [.agg (hP (A,V,x.2.2)), .agg (hP x)] (B ((A==x.1)&&(V==x.2.1))):=by
 have n:maxLen=9223372036854775807:=rfl;have f0:=Cw env x.2.2.1 (n ▸ h.2.1.1) fun m y=>n ▸ h.2.1.2 m y;have E:x.2.2.2.1.length<=9223372036854775807:=n ▸ h.2.2.1;have r:x.1.length<=9223372036854775807:=n ▸ h.1.1;have w:x.2.1.length<=9223372036854775807:=n ▸ h.1.2;have z:((A.length:Int) != (x.1.length:Int))=false:=by simp[q]
 have C:((V.length:Int) != (x.2.1.length:Int))=false:=by simp[s]
 refine qf func17 call17 ntmps17 results17 ?_;have F:=gb UQ z C;repeat refine fc f0 ?_
 refine aH (D:=Nat) (fun i j=>[(2, .loc 2 (j 2) 0 0),(3, .loc 3 (j 3) 0 0),(5,I i)]) (fun _ _=>[(2,⟨5,[hP (A,V,x.2.2)],37,false⟩),(3,⟨5,[hP x],37,false⟩)]) (fun i _ _=>i<=x.2.2.2.1.length) (fun i=>x.2.2.2.1.length-i) 0 ?_ ?_ ?_ ?_
 ·exact NG _
 ·exact qe
 ·have F:=hP.eq_1;exact qe
 rintro i l c p;by_cases a:i<x.2.2.2.1.length
 ·obtain⟨t,d⟩:=gE a;have b:=it a;have k:=aD a (by omega);have F:=g9 UQ UG b k d;repeat refine st ?_
  refine⟨i+1,a,?_,?_,by omega⟩
  ·exact qe
  have F:=hP.eq_1;exact qe
 have b: ¬(i:Int)< (x.2.2.2.1.length:Int):=by omega
 have F:=ai UQ b;repeat refine st ?_
 try clear p a b
 refine aH (D:=Nat) (fun i j=>[(2, .loc 2 (j 2) 0 0),(3, .loc 3 (j 3) 0 0),(6,I i)]) (fun _ _=>[(2,⟨5,[hP (A,V,x.2.2)],37,false⟩),(3,⟨5,[hP x],37,false⟩)]) (fun i _ _=>i<=A.length/\A.take i=x.1.take i) (fun i=>A.length-i) 0 ?_ ?_ ?_ ?_
 ·exact⟨NG _,rfl⟩
 ·exact qe
 ·have F:=hP.eq_1;exact qe
 try clear l c
 rintro i l c ⟨p,d⟩;by_cases a:i<A.length
 ·obtain⟨u,f,_⟩:=aS a;obtain⟨v,g,_⟩:=aS (show i<x.1.length by omega);have b:=it a;have o:=it (show i<x.1.length by omega);have k:=aD a (by omega);cases e:(u==v)
  ·rw[wM f g (by simpa using e)];have F:=qr UQ UE b k o f g e jO;exact ek
  have F:=qr UQ UE b k o f g e jO;repeat refine st ?_
  refine⟨i+1,⟨a,Sp d f g (by simpa using e)⟩,?_,?_,by omega⟩
  ·exact qe
  have F:=hP.eq_1;exact qe
 have b: ¬(i:Int)< (A.length:Int):=by omega
 rw[BN d (by omega) (by omega),Nj];have F:=ai UQ b;repeat refine st ?_
 try clear p a b d
 have F:=hP.eq_1;refine lq V.length (by omega) (fun i j=>[(2, .loc 2 (j 2) 0 0),(3, .loc 3 (j 3) 0 0),(7,I i)]) (fun _ _=>[(2,⟨5,[hP (A,V,x.2.2)],37,false⟩),(3,⟨5,[hP x],37,false⟩)]) (fun i _ _=>V.take i=x.2.1.take i) rfl ?_ ?_
 ·try clear l c
  rintro i l c a b k d;obtain⟨u,f,_⟩:=aS a;obtain⟨v,g,_⟩:=aS (show i<x.2.1.length by omega);have o:=it (show i<x.2.1.length by omega);cases e:(u==v)
  ·rw[wM f g (by simpa using e)];have F:=qr UQ UE b k o f g e jO;exact ek
  have F:=qr UQ UE b k o f g e jO;repeat refine st ?_
  refine⟨i+1,⟨a,Sp d f g (by simpa using e)⟩,?_,?_,by omega⟩
  ·exact qe
  have F:=hP.eq_1;exact qe
 try clear l c
 rintro l c b d;rw[BN d (by omega) (by omega)];have F:=ai UQ b;exact ek
def lO{c:aq}(h:ch c){mem:List ds}(b:bc c mem=true):mem.length<=32/\ ∀m∈mem,cU m.2.length 8:=
 ⟨NK (yp (KF b)) h.Z6,fun m a=>aC (NK (so h b m a).2 (by decide)) (by omega)⟩
def F3{c:aq}(h:ch c){act:List Int}{f:List Nat}(b:Fit c act f):f.length<=64:=by
 have a:f.Nodup:=b.two.imp fun h=>h.1
 have:=a.length_le_of_subset (l₂:=List.range c.trans.length) fun n e=>by
  obtain⟨t,g,_⟩:=b.real n e;exact NX.2 (Mr.1 g).1
 have d:=h.ZP;simp at this;omega
def KM{c:aq}{act:List Int}{f:List Nat}(a:Fit c act f): ∀n∈f,∃t,c.trans[n]? =some t:=fun n b=>by
 obtain⟨t,d,_⟩:=a.real n b;exact⟨t,d⟩
def IQ(env:b8)(g h f:Addr)(c:aq)(d now:Int)(E:AT env g h f c d now)(x:nw)(b:DQ c x)(j:x.1.length<=100)(n:x.2.1.length<=4096)(m:cU x.2.2.2.1.length 24)(ts:List Nat)(e:Fit c x.1 ts)(l:b7 prog env 133 [Sg [109,105,99,114,111,46,83,116,101,112],aG c, .agg (hP x),I d] h9):
 b7 prog env 138 [aG c, .agg (hP x), .seq 1 (ts.map aB),I d,I now] (wE h f (lP c d now (bn x) ts)):=by
 obtain⟨s,k⟩:=lO E.h b.mem;obtain⟨_,a⟩:=jL E.h b.lg b.mem (vj E.h b.lg e);obtain⟨t,r⟩:=lO E.h a;have i:=F3 E.h e
 exact IP env g h f c d now E x j n (by omega) k m ts l (LH env g f E.he c E.h E.hs d now (bn x) (show x.1.length<=1000 by omega) b.lg ts e (by omega))
  (Ih env g h f c d now E (bn x) b.beg j b.lg b.mem (show x.2.2.1.length<=1000000 by omega) k ts (KM e) i (vj E.h b.lg e) a ⟨show (na c x.1 (zL (bt c (dg c x.1 ts))) x.2.2.1).length<=1000000 by omega,r⟩ fun u o p q=>(u4 E.h b.lg e E.hd E.hn a o p q).1)
def DL(env:b8)(c:aq)(h:ch c)(m:c.vars.length<=8)(d now:Int)(i:aL d=true)(j:0<=now/\now<=1099511627776)(x:nw)(b:DQ c x)(l:x.1.length<=100)(ts:List Nat)(f:Fit c x.1 ts):
 b7 prog env 62 [.agg (aA c), .agg (hP x), .seq 1 (ts.map aB),I d,I now] (TU d now (lP c d now (bn x) ts)):=by
 obtain⟨q,r⟩:=lO h b.mem;obtain⟨e,a⟩:=jL h b.lg b.mem (vj h b.lg f);obtain⟨s,t⟩:=lO h a;obtain⟨k,g⟩:=ME h b.lg f;exact Ge env c h (by omega) d now i j x b.beg l b.lg (by omega) ts (KM f) (F3 h f) k g a (by omega) e.symm fun u n o p=>(u4 h b.lg f i j a n o p).1
end
end Go.Proofs.YtfhkmjbjafeckaaGreatDoor
