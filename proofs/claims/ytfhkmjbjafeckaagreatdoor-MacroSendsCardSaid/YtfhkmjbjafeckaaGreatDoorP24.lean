/- Expressions' values where the variables are the caller's own row. -/
import Derived.Test.YtfhkmjbjafeckaaGreatDoorP23
set_option maxRecDepth 100000
set_option maxHeartbeats 16000000
set_option linter.unusedSimpArgs false
set_option linter.defProp false
namespace Go.Proofs.YtfhkmjbjafeckaaGreatDoor
open Go.Proofs.Tryz
open Go.RowKit
section
/-! Timers by their names -/
def Ml(x:List UInt8×Int):Prop:=bp x.1=true/\0<=x.2/\x.2<=1099511627776
structure IN(l:List (List UInt8×Int)):Prop where
 ZZ:l.Pairwise fun a b=>Op.bytesLess a.1 b.1=true
 each: ∀x∈l,Ml x
def IN.without{l:List (List UInt8×Int)}(h:IN l)(s:List UInt8):IN (eg l s):=⟨h.ZZ.sublist OR,fun x a=>h.each x (ND.1 a).1⟩
def sC{l:List (List UInt8×Int)}{s:List UInt8} : ∀x∈eg l s,x.1≠s:=fun x a=>by
 have:=(ND.1 a).2;simpa using this
def qQ(l:List (List UInt8×Int))(s:List UInt8):(eg l s).length<=l.length:=NS ..
def yx{x y:List UInt8×Int} : ∀ {l:List (List UInt8×Int)},y∈tg x l↔y=x\/y∈l
 |[]=>by simp[tg]
 | z::l=>by
   unfold tg;split
   ·simp
   rw[NV,yx,NV];constructor
   ·rintro(h|h|h)
    ·exact .inr (.inl h)
    ·exact .inl h
    exact .inr (.inr h)
   rintro(h|h|h)
   ·exact .inr (.inl h)
   ·exact .inl h
   exact .inr (.inr h)
def FT(x:List UInt8×Int): ∀l,(tg x l).length=l.length+1
 |[]=>rfl
 | z::l=>by
   unfold tg;split
   ·rfl
   rw[NN,FT x l,NN]
def ul{x:List UInt8×Int} : ∀ {l:List (List UInt8×Int)},(l.Pairwise fun a b=>Op.bytesLess a.1 b.1=true)->(∀y∈l,y.1≠x.1)->(tg x l).Pairwise fun a b=>Op.bytesLess a.1 b.1=true
 |[],_,_=>QJ ..
 | z::l,h,f=>by
   obtain⟨e,g⟩:=Od.1 h;unfold tg;split
   ·rename_i d;refine Od.2 ⟨fun y c=> ?_,h⟩;rcases NV.1 c with rfl|c
    ·exact d
    exact fF d (e y c)
   rename_i d;refine Od.2 ⟨fun y c=> ?_,ul g fun y c=>f y (O3 _ c)⟩;rcases yx.1 c with rfl|c
   ·cases i:Op.bytesLess z.1 y.1 with
    |true=>rfl
    |false=>exact absurd (dy i (by simpa using d)) (f z (by simp))
   exact e y c
def IN.ins{l:List (List UInt8×Int)}(h:IN l){x:List UInt8×Int}(c:Ml x)(b: ∀y∈l,y.1≠x.1):IN (tg x l):=⟨ul h.ZZ b,fun y a=>by
 rcases yx.1 a with rfl|a
 ·exact c
 exact h.each y a⟩
/-! Actions -/
structure ff(c:aq)(r:cD):Prop where
 len:r.vars.length=c.vars.length
 vars: ∀x∈r.vars,aL x=true
 Z1:IN r.Z1
 ZM:r.Z1.length<=8
 outs:r.outs.length<=256
 Z7:r.Z7.length<=16
 raf: ∀e∈r.Z7,aL e.2=true
structure qs(r r1:cD):Prop where
 act:r1.act=r.act
 mem:r1.mem=r.mem
 over:r1.over=r.over
def qs.rfl{r:cD} :qs r r:=⟨Eq.refl _,Eq.refl _,Eq.refl _⟩
def qs.trans{r a r2:cD}(h:qs r a)(k:qs a r2):qs r r2:=⟨k.act.trans h.act,k.mem.trans h.mem,k.over.trans h.over⟩
def u7{c:aq}{r:cD}(h:ff c r)(s:List UInt8){v:Int}(b:aL v=true):ff c (gs r s v).1/\qs r (gs r s v).1:=by
 unfold gs;split
 ·exact⟨h, .rfl⟩
 rename_i d;refine⟨{ h with Z7:= ?_,raf:=fun e a=> ?_ },⟨rfl,rfl,rfl⟩⟩
 ·simp only[My,Na];omega
 rcases NY.1 a with q|q
 ·exact h.raf e q
 rw[NO.1 q];exact b
def oz{l:List l5}{vs ss:Int}(h:br l vs ss=true):sm vs ss l 0=some 1/\l.length<=32:=by
 unfold br at h;rw[Nz]at h;unfold iY at h;split at h
 ·omega
 rename_i b;split at h
 ·rename_i a;exact⟨a,by omega⟩
 omega
def E3{c:aq}{r:cD}(h:ff c r){d:Int}(a:aL d=true):(Ti c d r).Ok:=⟨h.vars,a⟩
def K4{c:aq}{d now:Int}(m:aL d=true)(q:0<=now/\now<=1099511627776){r:cD}(h:ff c r){a:j'}(b:gM c.vars.length c.Z9.length a=true):ff c (Sl c d now r a).1/\qs r (Sl c d now r a).1:=by
 unfold Sl;split
 ·exact⟨{ h with Z1:=h.Z1.without _,ZM:=NK (qQ ..) h.ZM },⟨rfl,rfl,rfl⟩⟩
 rename_i l;split
 ·exact⟨h, .rfl⟩
 rename_i v n
 have f:br a.code c.vars.length c.Z9.length=true:=by
  unfold gM at b;repeat' split at b
  all_goals (first|(exact absurd ‹a.kind=5› l)|(simp only[Mu]at b;exact b.2)|cases b)
 have e:=Hp (E3 h m) (oz f).1 n;split
 ·refine⟨{ h with len:=by simp only[PF];exact h.len,vars:=fun x i=> ?_ },⟨rfl,rfl,rfl⟩⟩;rcases List.mem_or_eq_of_mem_set i with i|rfl
  ·exact h.vars x i
  exact e
 split
 ·exact u7 h _ e
 split
 ·rename_i j o k;unfold BY;split
  ·exact⟨h, .rfl⟩
  rename_i s;split
  ·exact⟨{ h with Z1:=h.Z1.without _,ZM:=NK (qQ ..) h.ZM },⟨rfl,rfl,rfl⟩⟩
  rename_i p
  have g:bp a.name=true:=by
   unfold gM at b;rw[Mt j,Mw (.inr k)]at b;simp only[Mu]at b;exact b.1.2
  refine⟨{ h with Z1:=(h.Z1.without _).ins ⟨g,?_⟩ sC,ZM:=by simp only[FT];omega },⟨rfl,rfl,rfl⟩⟩;simp only;omega
 unfold KD;split
 ·exact⟨h, .rfl⟩
 refine⟨{ h with outs:= ?_ },⟨rfl,rfl,rfl⟩⟩;simp only[My,Na];omega
def jm{c:aq}{d now:Int}(j:aL d=true)(k:0<=now/\now<=1099511627776): ∀ {l:List j'}{r:cD},ff c r->(∀a∈l,gM c.vars.length c.Z9.length a=true)->ff c (l' c d now r l).1/\qs r (l' c d now r l).1
 |[],r,h,_=>⟨h, .rfl⟩
 | a::l,r,h,i=>by
   obtain⟨f,g⟩:=K4 j k h (i a (by simp));unfold l';split
   ·rename_i p e;rw[e]at f g;obtain⟨n,o⟩:=jm (l:=l) j k f fun b m=>i b (by simp[m]);exact⟨n,g.trans o⟩
   exact⟨f,g⟩
structure PB(c:aq):Prop where
 out: ∀i,∀a∈wj c i,gM c.vars.length c.Z9.length a=true
 ZW: ∀i,∀a∈Tm c i,gM c.vars.length c.Z9.length a=true
 tr: ∀(n:Nat)(t:tR),c.trans[n]? =some t-> ∀a∈t.Z0,gM c.vars.length c.Z9.length a=true
def lR{c:aq}(n:PB c){d now:Int}(o:aL d=true)(p:0<=now/\now<=1099511627776): ∀ {l:List Int}{r:cD},ff c r->ff c (bT c d now r l).1/\(bT c d now r l).1.mem=r.mem/\(bT c d now r l).1.over=r.over/\((bT c d now r l).2=none->(bT c d now r l).1.act=r.act.filter fun k=> !l.contains k)
 |[],r,h=>⟨h,rfl,rfl,fun _=>(List.filter_eq_self.2 fun _ _=>rfl).symm⟩
 | i::l,r,h=>by
   obtain⟨j,a⟩:=jm o p h (n.out i);unfold bT;split
   ·rename_i b e;rw[e]at j a;obtain⟨t,u,v,w⟩:=lR n (l:=l) o p (r:={ b with act:=b.act.filter fun k=> !(k==i) }) { j with };refine⟨t,u.trans a.mem,v.trans a.over,fun f=> ?_⟩;rw[w f];simp only;have m:b.act=r.act:=a.act;rw[m,List.filter_filter];apply Ob;intro k _;rw[List.contains_cons,Bool.not_or,Bool.and_comm]
   rename_i x s
   exact⟨j,a.mem,a.over,fun f=>absurd f (by
    intro g;rcases q:l' c d now r (wj c i) with⟨b,y⟩;rw[q]at g;simp only at g;subst g
    exact s b q)⟩
def zV{c:aq}(f:PB c){d now:Int}(g:aL d=true)(j:0<=now/\now<=1099511627776): ∀ {l:List Nat}{r:cD},(∀n∈l,∃t,c.trans[n]? =some t)->ff c r->ff c (dX c d now r l).1/\qs r (dX c d now r l).1
 |[],r,_,h=>⟨h, .rfl⟩
 | n::l,r,i,h=>by
   obtain⟨t,k⟩:=i n (by simp);obtain⟨a,b⟩:=jm (l:=(dm c n).Z0) g j h (by rw[dC k];exact f.tr n t k);unfold dX;split
   ·rename_i s e;rw[e]at a b;obtain⟨p,q⟩:=zV f (l:=l) g j (fun m o=>i m (by simp[o])) a;exact⟨p,b.trans q⟩
   exact⟨a,b⟩
end
section
def GP(env:b8)(w:r5)(o:l5)(R:List Int)(e:R.length<=1000)(a:1<=o.kind/\o.kind<=4)(h:nG o w.vars.length w.act.length=true):b7 prog env 291 [cf R, .agg (bX o), .agg (dw w)] (.tuple [cf (R++[md w o]),B true]):=by
 have f0:=Bl env w o a h;have c:o.kind<=4:=a.2;have d:cU (R.length+1) 8:=aC (by omega) (by omega);have b:cf (R++[md w o])= .seq 1 (R.map aa++[[I (md w o)]]):=by rw[show R.map aa++[[I (md w o)]]=(R++[md w o]).map aa by simp]
 rw[b];try clear b
 generalize md w o=v at*;unfold bX dw at f0;refine qf func291 call291 ntmps291 results291 ?_;have F:=hU UD UP c d;exact hH f0
def GN(env:b8)(w:r5)(o:l5)(a:Int)(R:List Int)(p:R.length<=1000)(d:o.kind=5\/o.kind=6)(c:aL a=true):b7 prog env 291 [cf (R++[a]), .agg (bX o), .agg (dw w)] (.tuple [cf (R++[Si o.kind a]),B true]):=by
 have f0:=wN env o.kind a d c;have e: ¬o.kind<=4:=by omega
 have f:o.kind<=6:=by omega
 have g:cU (R.length+1) 8:=aC (by omega) (by omega);have b: ∀x:Int,cf (R++[x])= .seq 1 (R.map aa++[[I x]]):=fun x=>by rw[show R.map aa++[[I x]]=(R++[x]).map aa by simp]
 rw[b,b];have i:(R.map aa++[[I a]]).length=R.length+1:=by simp
 have j:(R.map aa++[[I a]])[R.length]? =some [I a]:=by rw[N3 (by simp)];simp
 have k:(R.map aa++[[I a]]).take R.length=R.map aa:=by rw[Oh (by simp),Nq (by simp)]
 have h:IntKind.i64.wrap (((R.length+1:Nat):Int)-1)=(R.length:Int):=(aW (by omega) (by omega)).trans (by omega);have l:(R.length:Int)< ((R.length+1:Nat):Int):=by omega
 have m: ¬((R.length:Int)=((R.length+1:Nat):Int)):=by omega
 have n:(R.length:Int)<=((R.length+1:Nat):Int):=by omega
 generalize R.map aa++[[I a]]=X at*;generalize Si o.kind a=v at*;refine qf func291 call291 ntmps291 results291 ?_;have F:=ed UD UP e f g h i j k l m n;exact hH f0
def GQ(env:b8)(w:r5)(o:l5)(a b:Int)(R:List Int)(s:R.length<=1000)(g:7<=o.kind/\o.kind<=19)(e:aL a=true)(f:aL b=true):b7 prog env 291 [cf (R++[a,b]), .agg (bX o), .agg (dw w)] (.tuple [cf (R++[(kb o.kind a b).1]),B (kb o.kind a b).2]):=by
 have f0:=uJ env o.kind a b g e f;have h: ¬o.kind<=4:=by omega
 have i: ¬o.kind<=6:=by omega
 have j:cU (R.length+1) 8:=aC (by omega) (by omega);have c: ∀x:Int,cf (R++[x])= .seq 1 (R.map aa++[[I x]]):=fun x=>by rw[show R.map aa++[[I x]]=(R++[x]).map aa by simp]
 have d:cf (R++[a,b])= .seq 1 (R.map aa++[[I a],[I b]]):=by rw[show R.map aa++[[I a],[I b]]=(R++[a,b]).map aa by simp]
 rw[c,d];have l:(R.map aa++[[I a],[I b]]).length=R.length+2:=by simp
 have m:(R.map aa++[[I a],[I b]])[R.length]? =some [I a]:=by rw[N3 (by simp)];simp
 have p5:(R.map aa++[[I a],[I b]])[R.length+1]? =some [I b]:=by rw[N3 (by simp)];simp
 have n:(R.map aa++[[I a],[I b]]).take R.length=R.map aa:=by rw[Oh (by simp),Nq (by simp)]
 have k:IntKind.i64.wrap (((R.length+2:Nat):Int)-2)=(R.length:Int):=(aW (by omega) (by omega)).trans (by omega);have p3:IntKind.i64.wrap (((R.length+2:Nat):Int)-1)=((R.length+1:Nat):Int):=(aW (by omega) (by omega)).trans (by omega);have p:(R.length:Int)< ((R.length+2:Nat):Int):=by omega
 have p7:((R.length+1:Nat):Int)< ((R.length+2:Nat):Int):=by omega
 have q: ¬((R.length:Int)=((R.length+2:Nat):Int)):=by omega
 have r:(R.length:Int)<=((R.length+2:Nat):Int):=by omega
 generalize R.map aa++[[I a],[I b]]=X at*;generalize kb o.kind a b=v at*;refine qf func291 call291 ntmps291 results291 ?_;have F:=ed UD UP h i j k p3 l m p5 n<|hU p p7 q r;exact hH f0
def kB(env:b8)(w:r5)(e:w.Ok)(h:w.vars.length<=1000000):b7 prog env 269 [.agg (dw w)] h9:=by
 have f0:=dH env w.data;rw[e.data]at f0
 have f1: ∀x∈w.vars,b7 prog env 72 [I x] (B true):=fun x b=>by
  have:=dH env x;rwa [e.vars x b]at this
 refine qf func269 call269 ntmps269 results269 ?_;have F:=dw.eq_1;repeat refine fc f0 ?_
 refine lq w.vars.length (by omega) (fun j _=>[(3,B true),(10,cf w.vars),(11,I w.vars.length),(12,I j)]) (fun _ _=>[]) (fun _ _ _=>True) trivial ?_ ?_
 ·rintro j g c a d f _;obtain⟨x,b⟩:=gE a;have f2:=f1 x (Mv b);have F:=hU UE d f b;repeat refine fc f2 ?_
  exact qn (j+1) ⟨a,trivial⟩
 rintro g c d _;have F:=d;exact ek
def ji(a:Addr):Option Int->AV
 |some v=> .tuple [I v,h9]
 |none=> .tuple [I 0,dt (-1) (bx a)]
def mj{vs ss n:Int}{o:l5}(h:cG vs ss n o=true):(1<=o.kind/\o.kind<=4/\aF o.kind=0)\/((o.kind=5\/o.kind=6)/\aF o.kind=1/\1<=n)\/(7<=o.kind/\o.kind<=19/\aF o.kind=2/\2<=n):=by
 have b:=j3 h
 have c:aF o.kind=0/\1<=o.kind/\o.kind<=4\/aF o.kind=1/\(o.kind=5\/o.kind=6)\/aF o.kind=2/\7<=o.kind/\o.kind<=19\/aF o.kind= -1:=by
  unfold aF;split
  ·rename_i a;exact .inl ⟨rfl,a⟩
  split
  ·rename_i a;exact .inr (.inl ⟨rfl,a⟩)
  split
  ·rename_i a;exact .inr (.inr (.inl ⟨rfl,a⟩))
  exact .inr (.inr (.inr rfl))
 omega
def Eb{vs ss n:Int}{o:l5}(h:cG vs ss n o=true):nG o vs ss=true:=by
 simp only[cG,Mu]at h;exact h.2
def BO{w:r5}{a:List l5}{i:Nat}{o:l5}{s:List Int}(h:a[i]? =some o)(b:my w (a.take i) []=some s):my w (a.take (i+1)) []=eB w o s:=by
 rw[N1,h,lH,b];exact o9 w o s
def run_stuck{w:r5}{a:List l5}{i:Nat}(h:my w (a.take i) []=none):my w a []=none:=by
 rw[<-PU i a,lH,h];rfl
def CJ(env:b8)(O K P:Addr)(he:fU env O P)(h2:env 1=some (bx K))(w:r5)(H:w.Ok)(hl:w.vars.length<=1000000)(e:List l5)(N:br e w.vars.length w.act.length=true):b7 prog env 262 [sw e, .agg (dw w)] (ji K (k8 w e)):=by
 have f0:=kB env w H hl;have f1:=gw env O P he e w.vars.length w.act.length;have Y:=iT h2;have f9:=bl env [118,97,108,117,101,46,69,118,97,108] K;obtain⟨E,Q⟩:=oz N;have Z:iY e w.vars.length w.act.length=0:=by unfold br at N;simpa using N
 unfold iJ at f1;rw[Mw Z]at f1;have p:=CI w E;have q0:(w.act.map C').length=w.act.length:=NQ ..;have T: ∀(o:l5)(R:List Int),R.length<=1000->1<=o.kind/\o.kind<=4->nG o w.vars.length w.act.length=true->_:=fun o R=>GP env w o R;have U: ∀(o:l5)(a:Int)(R:List Int),_:=fun o a R=>GN env w o a R;have V: ∀(o:l5)(a b:Int)(R:List Int),_:=fun o a b R=>GQ env w o a b R;unfold dw at f0 T U V |-;refine qf func262 call262 ntmps262 results262 ?_;repeat refine vP f0 f1 ?_
 refine fG (dd.nil 8 1 (by simp only[go_sem])) ?_;refine T1 (D:=Nat×List Int) (fun d W=>[(3, .loc 3 (W 3) 0 0),(8,cf d.2.reverse),(31,sw e),(32,I e.length),(33,I d.1)]) (fun _ _=>[(3,⟨3,[[cf w.vars,I w.data, .seq 1 (w.act.map C')]],300,false⟩)]) (fun d _ _=>d.1<=e.length/\my w (e.take d.1) []=some d.2/\sm w.vars.length w.act.length e 0=sm w.vars.length w.act.length (e.drop d.1) d.2.length/\(∀x∈d.2,aL x=true)/\d.2.length<=d.1) (fun d=>e.length-d.1) (0,[]) ⟨NG _,rfl,rfl,by simp,NC _⟩ ?_;rintro⟨i,s⟩ W X ⟨hi,n,q,m,h⟩;simp only at hi n q m h;by_cases l:i<e.length
 ·obtain⟨o,r,_⟩:=aS l;obtain⟨up,no⟩:=ou r q;have t:=it l;have J:=aD l (by omega);have c:=BO (w:=w) r n
  have g:cG w.vars.length w.act.length s.length o=true:=by
   cases g:cG w.vars.length w.act.length s.length o with
   |true=>rfl
   |false=>rw[no g]at E;cases E
  have j:=up g;have k:=Eb g;rcases mj g with⟨u,C,y⟩|⟨u,y,z⟩|⟨u,C,y,z⟩
  ·have f2:=T o s.reverse (by rw[Ol];omega) ⟨u,C⟩ k;have f:eB w o s=some (md w o::s):=by unfold eB;rw[Mw C]
   rw[f]at c;have A:s.reverse++[md w o]=(md w o::s).reverse:=by simp
   rw[A]at f2;have F:=hU UD r t J;repeat refine fc f2 ?_
   refine⟨(i+1,md w o::s),⟨l,c,?_,iA H k m f,?_⟩,?_,?_,?_⟩
   ·rw[j,y]
    congr 1<;>simp
   ·simp only[NN];omega
   ·exact qe
   ·exact qe
   simp only;omega
  ·match s,n,q,m,h,g,j,c,z with
   | a::s,n,q,m,h,g,j,c,z=>
     have M:=m a (by simp);have f2:=U o a s.reverse (by rw[Ol];simp only[NN]at h;omega) u M;have f:eB w o (a::s)=some (Si o.kind a::s):=by unfold eB;rw[Mt (by omega),Mw (by omega)]
     rw[f]at c;have A:s.reverse++[Si o.kind a]=(Si o.kind a::s).reverse:=by simp
     have L:s.reverse++[a]=(a::s).reverse:=by simp
     rw[A,L]at f2;have F:=hU UD r t J;repeat refine fc f2 ?_
     refine⟨(i+1,Si o.kind a::s),⟨l,c,?_,iA H k m f,?_⟩,?_,?_,?_⟩
     ·rw[j,y]
      congr 1<;>simp
     ·simp only[NN]at h |-;omega
     ·exact qe
     ·exact qe
     simp only;omega
  ·match s,n,q,m,h,g,j,c,z with
   | b::a::s,n,q,m,h,g,j,c,z=>
     have hb:=m b (by simp);have M:=m a (by simp);have f2:=V o a b s.reverse (by rw[Ol];simp only[NN]at h;omega) ⟨u,C⟩ M hb;have f:eB w o (b::a::s)=if (kb o.kind a b).2 then some ((kb o.kind a b).1::s) else none:=by unfold eB;rw[Mt (by omega),Mt (by omega)]
     rw[f]at c;have A:s.reverse++[(kb o.kind a b).1]=((kb o.kind a b).1::s).reverse:=by simp
     have L:s.reverse++[a,b]=(b::a::s).reverse:=by simp
     rw[A,L]at f2;cases G:(kb o.kind a b).2 with
     | true=>
       rw[G]at f2 f c;simp only[Nt]at f c;have F:=hU UD r t J;repeat refine fc f2 ?_
       refine⟨(i+1,(kb o.kind a b).1::s),⟨l,c,?_,iA H k m f,?_⟩,?_,?_,?_⟩
       ·rw[j,y]
        congr 1
        simp only[NN];omega
       ·simp only[NN]at h |-;omega
       ·exact qe
       ·exact qe
       simp only;omega
     | false=>
       rw[G]at f2 c;simp only[NU,OA]at c;have S:=run_stuck c;rw[p,Qy]at S;rw[S];show fp _ _ _ _ _ _;unfold ji;have F:=g9 UD r t J Y;exact mw f2 f9
 obtain rfl:i=e.length:=by omega
 have t:=nl e.length;have B:=tQ (NC _) q;rw[E]at B;rw[NR,p]at n;obtain⟨v,G,rfl⟩:=OI.1 n;rw[G];unfold ji;have F:=hU UE t @Rr.{0} @List.reverse_nil.{0};exact ek
def Ia(env:b8)(g h i:Addr)(n:fU env g i)(l:env 1=some (bx h))(w:r5)(k:w.Ok)(j:w.vars.length<=1000000)(a:List l5)(m:a=[]\/br a w.vars.length w.act.length=true)(b:Bool)(c:fh w a=some b):b7 prog env 231 [sw a, .agg (dw w)] (.tuple [B b,h9]):=by
 have f0:=kB env w k j;have f1:=zu env [118,97,108,117,101,46,84,114,117,101];unfold fh at c;by_cases d:a=[]
 ·subst d;rw[Mw rfl]at c;cases c;unfold dw at f0 |-;refine qf func231 call231 ntmps231 results231 ?_;repeat refine vP f0 f1 ?_
  exact oj
 rw[Mt d]at c;have f2:=CJ env g h i n l w k j a (m.resolve_left d)
 have f:((a.length:Int)==0)=false:=by
  have:a.length≠0:=fun e=>d (OZ.1 e);simp;omega
 obtain⟨v,o,rfl⟩:=OI.1 c;rw[o]at f2;unfold ji at f2;unfold dw at f0 f2 |-;refine qf func231 call231 ntmps231 results231 ?_;have F:=f;exact mw f2 f1
def GI(env:b8)(g c h:Addr)(m:fU env g h)(k:env 1=some (bx c))(w:r5)(j:w.Ok)(i:w.vars.length<=1000000)(a:List l5)(l:a=[]\/br a w.vars.length w.act.length=true)(b:fh w a=none):b7 prog env 231 [sw a, .agg (dw w)] (.tuple [B false,dt (-1) (dt (-1) (bx c))]):=by
 have f0:=kB env w j i;have f1:=i7 env [118,97,108,117,101,46,84,114,117,101] (-1) (bx c);unfold fh at b;by_cases d:a=[]
 ·rw[Mw d]at b;cases b
 rw[Mt d,Qy]at b;have f2:=CJ env g c h m k w j i a (l.resolve_left d)
 have f:((a.length:Int)==0)=false:=by
  have:a.length≠0:=fun e=>d (OZ.1 e);simp;omega
 rw[b]at f2;unfold ji at f2;unfold dw at f0 f2 |-;refine qf func231 call231 ntmps231 results231 ?_;have F:=f;exact mw f2 f1
end
section
def fY(env:b8)(b:Bool):b7 prog env 282 [B b] (I (Q' b)):=by
 cases b
 ·show b7 _ _ _ _ (I 0);refine qf func282 call282 ntmps282 results282 ?_;repeat refine m9 ?_
  exact oj
 show b7 _ _ _ _ (I 1);refine qf func282 call282 ntmps282 results282 ?_;repeat refine m9 ?_
 exact oj
def Ka(a b:Int):a-a.tdiv b*b=a.tmod b:=by
 rw[Int.tmod_def,Int.mul_comm]
def yB{a b:Int}(c:aL a=true)(d:aL b=true):S3 (a.tdiv b*b):=FI (lY c) d
def DW(env:b8)(k a b:Int)(s:7<=k/\k<=19)(m:aL a=true)(o:aL b=true):b7 prog env 284 [I k,I a,I b] (.tuple [I (kb k a b).1,B (kb k a b).2]):=by
 have f:=(uK k m o).1;by_cases n:k=7
 ·subst n;have f0:=db env (a*b);have c:IntKind.i64.wrap (a*b)=a*b:=gS f;show b7 _ _ _ _ (.tuple [I (a*b),B (aL (a*b))]);refine qf func284 call284 ntmps284 results284 ?_;have F:=c;exact hH f0
 by_cases g:k=8\/k=9
 ·by_cases e:b=0
  ·subst e;have c:kb k a 0=(0,false):=by rcases g with rfl|rfl<;>rfl
   rw[c];rcases g with rfl|rfl
   ·refine qf func284 call284 ntmps284 results284 ?_;repeat refine m9 ?_
    exact oj
   refine qf func284 call284 ntmps284 results284 ?_;repeat refine m9 ?_
   exact oj
  have p:(b==0)=false:=by simpa using e
  have d:=lW (lY (b:=b) m);rcases g with rfl|rfl
  ·have c:kb 8 a b=(a.tdiv b,true):=by simp[kb,e]
   rw[c];refine qf func284 call284 ntmps284 results284 ?_;have F:=gb p d e;exact ek
  have c:kb 9 a b=(a.tmod b,true):=by simp[kb,e]
  have q:=gS (yB (b:=b) m o);have r:IntKind.i64.wrap (a-a.tdiv b*b)=a.tmod b:=by rw[Ka];exact lW (wO m)
  rw[c];refine qf func284 call284 ntmps284 results284 ?_;have F:=g9 p d q r e;exact ek
 by_cases h:k=10
 ·subst h;have f0:=db env (a+b);have c:IntKind.i64.wrap (a+b)=a+b:=gS f;show b7 _ _ _ _ (.tuple [I (a+b),B (aL (a+b))]);refine qf func284 call284 ntmps284 results284 ?_;have F:=c;exact hH f0
 by_cases i:k=11
 ·subst i;have f0:=db env (a-b);have c:IntKind.i64.wrap (a-b)=a-b:=gS f;show b7 _ _ _ _ (.tuple [I (a-b),B (aL (a-b))]);refine qf func284 call284 ntmps284 results284 ?_;have F:=c;exact hH f0
 by_cases j:k=18
 ·subst j;show b7 _ _ _ _ (.tuple [I (Q' (a != 0&&b != 0)),B true]);have f0:=fY env (a != 0);have f1:=fY env (b != 0);have c:IntKind.i64.wrap (Q' (a != 0)*Q' (b != 0))=Q' (a != 0&&b != 0):=by cases (a != 0)<;>cases (b != 0)<;>rfl
  generalize (a != 0&&b != 0)=t at*;refine qf func284 call284 ntmps284 results284 ?_;have F:=c;exact mw f0 f1
 by_cases l:k=19
 ·subst l;show b7 _ _ _ _ (.tuple [I (Q' (a != 0||b != 0)),B true]);have f0:=fY env (a != 0||b != 0);cases e:(a != 0)
  ·rw[e]at f0;refine qf func284 call284 ntmps284 results284 ?_;have F:=e;exact hH f0
  rw[e]at f0;refine qf func284 call284 ntmps284 results284 ?_;have F:=e;exact hH f0
 have c:kb k a b=(Q' (I' k a b),true):=by
  unfold kb;rw[Mt n,Mt (by omega),Mt (by omega),Mt h,Mt i,Mt j,Mt l]
 rw[c];have f1:=fY env (I' k a b);obtain rfl|rfl|rfl|rfl|rfl|rfl:k=12\/k=13\/k=14\/k=15\/k=16\/k=17:=by omega
 ·have d:I' 12 a b=decide (a<b):=rfl;rw[d]at f1 |-;refine qf func284 call284 ntmps284 results284 ?_;repeat refine jJ f1 ?_
  exact oj
 ·have d:I' 13 a b=decide (b<a):=rfl;rw[d]at f1 |-;refine qf func284 call284 ntmps284 results284 ?_;repeat refine jJ f1 ?_
  exact oj
 ·have d:I' 14 a b= !decide (b<a):=by show decide (a<=b)=_;rw[N4];simp[SP]
  rw[d]at f1 |-;refine qf func284 call284 ntmps284 results284 ?_;repeat refine jJ f1 ?_
  exact oj
 ·have d:I' 15 a b= !decide (a<b):=by show decide (b<=a)=_;rw[N4];simp[SP]
  rw[d]at f1 |-;refine qf func284 call284 ntmps284 results284 ?_;repeat refine jJ f1 ?_
  exact oj
 ·have d:I' 16 a b=(a==b):=rfl;rw[d]at f1 |-;refine qf func284 call284 ntmps284 results284 ?_;repeat refine jJ f1 ?_
  exact oj
 have d:I' 17 a b=(a != b):=rfl;rw[d]at f1 |-;refine qf func284 call284 ntmps284 results284 ?_;repeat refine jJ f1 ?_
 exact oj
def Gg(env:b8)(a:List l5)(n:Nat)(y:n<=a.length)(w:a.length<=32):b7 prog env 283 [sw a,I ((n:Int)-1)] (I (go a n 1:Nat)):=by
 refine qf func283 call283 ntmps283 results283 ?_;repeat refine m9 ?_
 refine T1 (D:=Nat×Int) (fun d _=>[(0,sw a),(5,I d.2),(6,I ((d.1:Int)-1))]) (fun _ _=>[]) (fun d _ _=>d.1<=n/\go a d.1 d.2=go a n 1/\d.2+(d.1:Int)<=1+(n:Int)/\1-2*(n:Int)<=d.2-2*(d.1:Int)) (fun d=>d.1) (n,1) ⟨NC _,rfl,by simp only;omega,by simp only;omega⟩ ?_;rintro⟨j,b⟩ z v ⟨i,c,e,f⟩;simp only at i c e f
 match j,i,c,e,f with
 | 0,i,c,e,f=>
   have g: ¬(0:Int)<=((0:Nat):Int)-1:=by omega
   rw[<-c];show fp _ _ _ _ _ _;have u:(go a 0 b:Nat)=0:=rfl;rw[u];have F:=g;exact ek
 | j+1,i,c,e,f=>
   obtain⟨o,l,_⟩:=aS (show j<a.length by omega);have x:=jv o.kind;have f0:=dp env o.kind;have p:((j+1:Nat):Int)-1=(j:Int):=by omega
   have g:(0:Int)<=(j:Int):=by omega
   have q:(j:Int)< (a.length:Int):=by omega
   have r:IntKind.i64.wrap (b-1)=b-1:=aW (by omega) (by omega);have s:IntKind.i64.wrap (b-1+aF o.kind)=b-1+aF o.kind:=aW (by omega) (by omega);have t:IntKind.i64.wrap ((j:Int)-1)=(j:Int)-1:=aW (by omega) (by omega)
   have m:go a (j+1) b=if b-1+aF o.kind=0 then j else go a j (b-1+aF o.kind):=by
    conv=>lhs;unfold go
    rw[l]
   rw[m]at c;by_cases h:b-1+aF o.kind=0
   ·rw[Mw h]at c;rw[<-c];have k:(b-1+aF o.kind==0)=true:=by simpa using h
    have F:=qr UD l p g q r s t k;exact hH f0
   rw[Mt h]at c;have k:(b-1+aF o.kind==0)=false:=by simpa using h
   have F:=qr UD l p g q r s t k;repeat refine fc f0 ?_
   exact qn (j,b-1+aF o.kind) ⟨by simp only;omega,c,by simp only;omega,by simp only;omega⟩
def AX(env:b8)(w:r5)(f:w.Ok)(h:w.vars.length<=1000000):b7 prog env 80 [.agg (dw w)] (B true):=by
 have f0:=db env w.data;rw[f.data]at f0
 have f1: ∀x∈w.vars,b7 prog env 15 [I x] (B true):=fun x b=>by
  have:=db env x;rwa [f.vars x b]at this
 unfold dw;generalize List.map C' w.act=X at*;refine qf func80 call80 ntmps80 results80 ?_;repeat refine m9 ?_
 refine RK w.vars.length (by omega) (fun j e=>[(1, .loc 1 (e 1) 0 0),(3,I j)]) (fun _ _=>[(1,⟨3,[[cf w.vars,I w.data, .seq 1 X]],165,false⟩)]) (fun _ _ _=>True) trivial ?_ ?_
 ·rintro j e c a d g _;obtain⟨x,b⟩:=gE a;have f2:=f1 x (Mv b);have F:=hU UE d g b;repeat refine fc f2 ?_
  exact qn (j+1) ⟨a,trivial⟩
 rintro e c d _;have F:=d;exact hH f0
def l9(env:b8)(w:r5)(x:w.Ok): ∀(f:Nat)(a:List l5),a.length<=f->a.length<=32->sm w.vars.length w.act.length a 0=some 1->b7 prog env 251 [sw a, .agg (dw w)] (.tuple [I (g5 w f a).1,B (g5 w f a).2])
 | 0,a,hf,_,h=>by
   obtain rfl:a=[]:=OZ.1 (by omega);simp[sm]at h
 | f+1,a,hf,M,h=>by
   obtain⟨l,o,e,N,v⟩:=uu h;have Y:a.length=l.length+1:=by rw[e];simp
   have d:a[l.length]? =some o:=by rw[e];simp
   have s:a.take l.length=l:=by rw[e];simp
   have b:g5 w (f+1) a=g5 w (f+1) (l++[o]):=by rw[e]
   have c:=Eb N;have g:IntKind.i64.wrap ((a.length:Int)-1)=(l.length:Int):=(aW (by omega) (by omega)).trans (by omega);have i:(l.length:Int)< (a.length:Int):=by omega
   have C:(l.length:Int)<=(a.length:Int):=by omega
   rw[cm]at b;obtain⟨k,n⟩:=o;simp only at N v b;rcases mj N with⟨q,y,r⟩|⟨q,r,_⟩|⟨q,y,r,_⟩
   ·simp only at q y r;rw[Mw y]at b;rw[b];unfold nG at c;simp only at c;obtain rfl|rfl|rfl|rfl:k=1\/k=2\/k=3\/k=4:=by omega
    ·show b7 _ _ _ _ (.tuple [I n,B true]);refine qf func251 call251 ntmps251 results251 ?_;have F:=g9 UD UP d g i;exact ek
    ·have c:0<=n/\n<w.vars.length:=by simpa using c
     obtain⟨m,rfl⟩:=fg c.1;have j:(m:Int)< (w.vars.length:Int):=c.2;have u:w.vars[m]? =some (w.vars.getD m 0):=by rw[NW,Mq (by omega)];rfl
     show b7 _ _ _ _ (.tuple [I (w.vars.getD ((m:Int).toNat) 0),B true]);rw[OS];refine qf func251 call251 ntmps251 results251 ?_;have F:=n4 UD UP UE d g i j u;exact ek
    ·show b7 _ _ _ _ (.tuple [I w.data,B true]);refine qf func251 call251 ntmps251 results251 ?_;have F:=g9 UD UP d g i;exact ek
    have c:0<=n/\n<w.act.length:=by simpa using c
    obtain⟨m,rfl⟩:=fg c.1;have j:(m:Int)< (w.act.length:Int):=c.2;have u:w.act[m]? =some (w.act.getD m false):=by rw[NW,Mq (by omega)];rfl
    show b7 _ _ _ _ (.tuple [I (Q' (w.act.getD ((m:Int).toNat) false)),B true]);rw[OS];have f0:=fY env (w.act.getD m false);generalize w.act.getD m false=t at*;refine qf func251 call251 ntmps251 results251 ?_;have F:=n4 UD UP C'.eq_1 d g i j u;exact hH f0
   ·simp only at q r;rw[r]at v;have A:l.length<=f:=by omega
    have f0:=l9 env w x f l A (by omega) v;have z:=(ia x f l A v).1;generalize g5 w f l=T at*;unfold dw at f0 |-;rcases q with rfl|rfl
    ·rw[Mt (by omega),Mw rfl]at b;rw[b];have j:IntKind.i64.wrap (0-T.1)=0-T.1:=gS (by unfold S3 at z |-;omega);refine qf func251 call251 ntmps251 results251 ?_;have F:=n4 Pb UD d s g i C j;exact hH f0
    rw[Mt (by omega),Mt (by omega),Mw rfl]at b;rw[b];have f1:=fY env (T.1==0);refine qf func251 call251 ntmps251 results251 ?_;have F:=mc Pb UD d s g i C;exact mw f0 f1
   ·simp only at q y r;rw[r]at v;obtain⟨W,X,h3⟩:=uh v;rw[Mt (by omega),Mt (by omega),Mt (by omega)]at b;have D:=Gg env a l.length (by omega) M;have ea:go a l.length 1=go l l.length 1:=by rw[e];exact nO l _ _ _ (NC _)
    rw[ea]at D;generalize go l l.length 1=p at*;have f0:=l9 env w x f (l.take p) (by rw[NJ];omega) (by rw[NJ];omega) W;have f1:=l9 env w x f (l.drop p) (by rw[Oa];omega) (by rw[Oa];omega) X;have U:=ia x f (l.take p) (by rw[NJ];omega) W;have V:=ia x f (l.drop p) (by rw[Oa];omega) X;have j:IntKind.i64.wrap ((l.length:Int)-1)=(l.length:Int)-1:=aW (by omega) (by omega);have u:a.take p=l.take p:=by rw[e,Oh (Rz h3)]
    have O:(a.drop p).take (l.length-p)=l.drop p:=by rw[<-List.drop_take,s]
    have P:(p:Int)<=(a.length:Int):=by omega
    have Q:(p:Int)<=(l.length:Int):=by omega
    generalize g5 w f (l.take p)=Z at*;generalize g5 w f (l.drop p)=Tb at*;unfold dw at f0 f1 |-;have E:(k==1)=false:=by simp;omega
    have G:(k==2)=false:=by simp;omega
    have H:(k==3)=false:=by simp;omega
    have J:(k==4)=false:=by simp;omega
    have K:(k==5)=false:=by simp;omega
    have L:(k==6)=false:=by simp;omega
    rcases Z with⟨S,ab⟩;rcases Tb with⟨bv,bb⟩;simp only at U V f0 f1 b;cases ab with
    | false=>
      rw[b];show b7 _ _ _ _ (.tuple [I 0,B false]);refine qf func251 call251 ntmps251 results251 ?_;have F:=ed Pb UD d j u O P Q g i C<|i' E G H J K L;exact An D f0 f1
    | true=>
      cases bb with
      | false=>
        rw[b];show b7 _ _ _ _ (.tuple [I 0,B false]);refine qf func251 call251 ntmps251 results251 ?_;have F:=ed Pb UD d j u O P Q g i C<|i' E G H J K L;exact An D f0 f1
      | true=>
        have f2:=DW env k S bv ⟨q,y⟩ (U.2 rfl) (V.2 rfl);rw[b];simp only[Bool.and_self,Nt];generalize kb k S bv=R at*;refine qf func251 call251 ntmps251 results251 ?_;have F:=ed Pb UD d j u O P Q g i C<|i' E G H J K L;exact TB D f0 f1 f2
def Dx:Option Int->AV
 |some v=> .tuple [I v,I 0]
 |none=> .tuple [I 0,I 2]
def wZ(env:b8)(w:r5)(e:w.Ok)(i:w.vars.length<=1000000)(a:List l5)(d:br a w.vars.length w.act.length=true):b7 prog env 222 [sw a, .agg (dw w)] (Dx (k8 w a)):=by
 obtain⟨h,c⟩:=oz d;have g:iY a w.vars.length w.act.length=0:=by unfold br at d;simpa using d
 have f0:=AX env w e i;have f1:=kj env a w.vars.length w.act.length;rw[g]at f1;have f2:=l9 env w e a.length a (NC _) c h;have f:(w.act.map C').length=w.act.length:=NQ ..;unfold k8;generalize g5 w a.length a=T at*;obtain⟨v,b⟩:=T;unfold dw at f0 f2 |-;cases b with
 | true=>
   show b7 _ _ _ _ (.tuple [I v,I 0]);refine qf func222 call222 ntmps222 results222 ?_;have F:=f;exact An f0 f1 f2
 | false=>
   show b7 _ _ _ _ (.tuple [I 0,I 2]);refine qf func222 call222 ntmps222 results222 ?_;have F:=f;exact An f0 f1 f2
end
section
def Ty(w:r5)(g:Nat->Nat):AV:= .agg [.row 1002 (g 1002),I w.data, .seq 1 (w.act.map C')]
def vW(w:r5):Nat×Row:=(1002,⟨1,w.vars.map aa,3,true⟩)
def Cj(env:b8)(w:r5)(o:l5)(R:List Int)(l:R.length<=1000)(b:1<=o.kind/\o.kind<=4)(h:nG o w.vars.length w.act.length=true):ip prog env 291 [1002,27] (fun k=>k==27) (fun g=>[cf R, .agg (bX o),Ty w g]) (fun _=>[vW w]) (fun _=>[vW w,(27,⟨1,(R++[md w o]).map aa,3,true⟩)]) (fun g=> .tuple [.row 27 (g 27),B true]):=by
 have f0:=(Bl env w o b h).lend rfl;have i:o.kind<=4:=b.2;have j:cU (R.length+1) 8:=aC (by omega) (by omega);have c:(R++[md w o]).map aa=R.map aa++[[I (md w o)]]:=by simp
 rw[c];try clear c
 generalize md w o=v at*;unfold bX dw at f0;unfold Ty vW;refine qi func291 call291 ntmps291 results291 ?_;intro m f a;obtain⟨d,e⟩:=RC a;have F:=g9 UD i j d e;repeat refine st ?_
 refine lL f0 ?_;repeat refine st ?_
 exact rI
def Ci(env:b8)(w:r5)(o:l5)(a:Int)(R:List Int)(A:R.length<=1000)(j:o.kind=5\/o.kind=6)(i:aL a=true):ip prog env 291 [1002,51] (fun k=>k==51) (fun g=>[cf (R++[a]), .agg (bX o),Ty w g]) (fun _=>[vW w]) (fun _=>[vW w,(51,⟨1,(R++[Si o.kind a]).map aa,3,true⟩)]) (fun g=> .tuple [.row 51 (g 51),B true]):=by
 have f0:=wN env o.kind a j i;have l: ¬o.kind<=4:=by omega
 have m:o.kind<=6:=by omega
 have n:cU (R.length+1) 8:=aC (by omega) (by omega);have d: ∀x:Int,(R++[x]).map aa=R.map aa++[[I x]]:=fun x=>by simp
 have e:cf (R++[a])= .seq 1 (R.map aa++[[I a]]):=by rw[show R.map aa++[[I a]]=(R++[a]).map aa by simp]
 rw[d,e];have q:(R.map aa++[[I a]]).length=R.length+1:=by simp
 have r:(R.map aa++[[I a]])[R.length]? =some [I a]:=by rw[N3 (by simp)];simp
 have s:(R.map aa++[[I a]]).take R.length=R.map aa:=by rw[Oh (by simp),Nq (by simp)]
 have p:IntKind.i64.wrap (((R.length+1:Nat):Int)-1)=(R.length:Int):=(aW (by omega) (by omega)).trans (by omega);have t:(R.length:Int)< ((R.length+1:Nat):Int):=by omega
 have u: ¬((R.length:Int)=((R.length+1:Nat):Int)):=by omega
 have y:(R.length:Int)<=((R.length+1:Nat):Int):=by omega
 generalize z:R.map aa++[[I a]]=X at*;generalize Si o.kind a=v at*;unfold Ty vW;refine qi func291 call291 ntmps291 results291 ?_;intro C h b;obtain⟨c,f⟩:=RC b;have F:=ed UD l m n p q r s t u y<|ai c f;repeat refine fc f0 ?_
 exact rI
def Ck(env:b8)(w:r5)(o:l5)(a b:Int)(R:List Int)(D:R.length<=1000)(m:7<=o.kind/\o.kind<=19)(j:aL a=true)(l:aL b=true):ip prog env 291 [1002,77] (fun k=>k==77) (fun g=>[cf (R++[a,b]), .agg (bX o),Ty w g]) (fun _=>[vW w]) (fun _=>[vW w,(77,⟨1,(R++[(kb o.kind a b).1]).map aa,3,true⟩)]) (fun g=> .tuple [.row 77 (g 77),B (kb o.kind a b).2]):=by
 have f0:=uJ env o.kind a b m j l;have n: ¬o.kind<=4:=by omega
 have p: ¬o.kind<=6:=by omega
 have q:cU (R.length+1) 8:=aC (by omega) (by omega);have e: ∀x:Int,(R++[x]).map aa=R.map aa++[[I x]]:=fun x=>by simp
 have f:cf (R++[a,b])= .seq 1 (R.map aa++[[I a],[I b]]):=by rw[show R.map aa++[[I a],[I b]]=(R++[a,b]).map aa by simp]
 rw[e,f];have s:(R.map aa++[[I a],[I b]]).length=R.length+2:=by simp
 have t:(R.map aa++[[I a],[I b]])[R.length]? =some [I a]:=by rw[N3 (by simp)];simp
 have p5:(R.map aa++[[I a],[I b]])[R.length+1]? =some [I b]:=by rw[N3 (by simp)];simp
 have u:(R.map aa++[[I a],[I b]]).take R.length=R.map aa:=by rw[Oh (by simp),Nq (by simp)]
 have r:IntKind.i64.wrap (((R.length+2:Nat):Int)-2)=(R.length:Int):=(aW (by omega) (by omega)).trans (by omega);have p3:IntKind.i64.wrap (((R.length+2:Nat):Int)-1)=((R.length+1:Nat):Int):=(aW (by omega) (by omega)).trans (by omega);have y:(R.length:Int)< ((R.length+2:Nat):Int):=by omega
 have p7:((R.length+1:Nat):Int)< ((R.length+2:Nat):Int):=by omega
 have z: ¬((R.length:Int)=((R.length+2:Nat):Int)):=by omega
 have A:(R.length:Int)<=((R.length+2:Nat):Int):=by omega
 generalize C:R.map aa++[[I a],[I b]]=X at*;generalize kb o.kind a b=v at*;unfold Ty vW;refine qi func291 call291 ntmps291 results291 ?_;intro E i c;obtain⟨d,h⟩:=RC c;have F:=ed UD n p q r p3 s t p5 u y<|g9 p7 z A d h;repeat refine fc f0 ?_
 exact rI
def Hq(env:b8)(W Q X:Addr)(he:fU env W X)(h2:env 1=some (bx Q))(w:r5)(O:w.Ok)(hl:w.vars.length<=1000000)(e:List l5)(U:br e w.vars.length w.act.length=true):ip prog env 262 [1002] (fun _=>false) (fun g=>[sw e,Ty w g]) (fun _=>[vW w]) (fun _=>[vW w]) (fun _=>ji Q (k8 w e)):=by
 have f0:=(kB env w O hl).lend rfl;have f1:=gw env W X he e w.vars.length w.act.length;have g2:=iT h2;have f9:=bl env [118,97,108,117,101,46,69,118,97,108] Q;obtain⟨M,Y⟩:=oz U;have h0:iY e w.vars.length w.act.length=0:=by unfold br at U;simpa using U
 unfold iJ at f1;rw[Mw h0]at f1;have r:=CI w M;have q0:(w.act.map C').length=w.act.length:=NQ ..;have s1: ∀(o:l5)(R:List Int),R.length<=1000->1<=o.kind/\o.kind<=4->nG o w.vars.length w.act.length=true->_:=fun o R=>Cj env w o R;have s2: ∀(o:l5)(a:Int)(R:List Int),_:=fun o a R=>Ci env w o a R;have s3: ∀(o:l5)(a b:Int)(R:List Int),_:=fun o a b R=>Ck env w o a b R;unfold dw at f0;unfold Ty vW at*;refine qi func262 call262 ntmps262 results262 ?_;intro K t H;have n:=H 1002 (by simp);have F:=n;repeat refine st ?_
 refine lL f0 ?_;repeat refine fc f1 ?_
 refine fG (dd.nil 8 1 (by simp only[go_sem])) ?_;refine lp (D:=Nat×List Int) (fun d K=>[(3, .loc 3 (K 3) 0 0),(8,cf d.2.reverse),(31,sw e),(32,I e.length),(33,I d.1)]) (fun _ K=>[(3,⟨3,[[.row 1002 (K 1002),I w.data, .seq 1 (w.act.map C')]],300,false⟩),(1002,⟨1,w.vars.map aa,3,true⟩)]) (fun d V t=>(d.1<=e.length/\my w (e.take d.1) []=some d.2/\sm w.vars.length w.act.length e 0=sm w.vars.length w.act.length (e.drop d.1) d.2.length/\(∀x∈d.2,aL x=true)/\d.2.length<=d.1)/\V 1002=K 1002/\t 1002=false) (fun d=>e.length-d.1) (0,[]) ⟨⟨NG _,rfl,rfl,by simp,NC _⟩,by simp only[go_sem],by simp only[go_sem,n]⟩ ?_;try clear n
 rintro⟨i,s⟩ ws t ⟨⟨hi,q,u,p,j⟩,J,n⟩;simp only at hi q u p j;by_cases m:i<e.length
 ·obtain⟨o,y,_⟩:=aS m;obtain⟨up,no⟩:=ou y u;have z:=it m;have P:=aD m (by omega);have c:=BO (w:=w) y q
  have h:cG w.vars.length w.act.length s.length o=true:=by
   cases h:cG w.vars.length w.act.length s.length o with
   |true=>rfl
   |false=>rw[no h]at M;cases M
  have k:=up h;have l:=Eb h;refine xu 9001 rfl ?_;rcases mj h with⟨A,L,B⟩|⟨A,B,C⟩|⟨A,L,B,C⟩
  ·have f2:=s1 o s.reverse (by rw[Ol];omega) ⟨A,L⟩ l;have f:eB w o s=some (md w o::s):=by unfold eB;rw[Mw L]
   rw[f]at c;have E:s.reverse++[md w o]=(md w o::s).reverse:=by simp
   rw[E]at f2;refine eA ?_;have F:=g9 UD y z P n;repeat refine st ?_
   refine iL [(1002,1002),(27,9001)] f2 ?_;repeat refine st ?_
   refine⟨_,dd.frozen 9001 8 ⟨1,(md w o::s).reverse.map aa,3,true⟩ rfl (Nf 0) (by simp only[go_sem]) (by simp only[go_sem]),(i+1,md w o::s),⟨⟨m,c,?_,iA O l p f,?_⟩,?_,?_⟩,?_,?_,?_⟩
   ·rw[k,B]
    congr 1<;>simp
   ·simp only[NN];omega
   ·simp only[go_sem,J]
   ·simp only[go_sem,n]
   ·exact qe
   ·exact qe
   simp only;omega
  ·match s,q,u,p,j,h,k,c,C with
   | a::s,q,u,p,j,h,k,c,C=>
     have T:=p a (by simp);have f2:=s2 o a s.reverse (by rw[Ol];simp only[NN]at j;omega) A T;have f:eB w o (a::s)=some (Si o.kind a::s):=by unfold eB;rw[Mt (by omega),Mw (by omega)]
     rw[f]at c;have E:s.reverse++[Si o.kind a]=(Si o.kind a::s).reverse:=by simp
     have S:s.reverse++[a]=(a::s).reverse:=by simp
     rw[E,S]at f2;refine eA ?_;have F:=g9 UD y z P n;repeat refine st ?_
     refine iL [(1002,1002),(51,9001)] f2 ?_;repeat refine st ?_
     refine⟨_,dd.frozen 9001 8 ⟨1,(Si o.kind a::s).reverse.map aa,3,true⟩ rfl (Nf 0) (by simp only[go_sem]) (by simp only[go_sem]),(i+1,Si o.kind a::s),⟨⟨m,c,?_,iA O l p f,?_⟩,?_,?_⟩,?_,?_,?_⟩
     ·rw[k,B]
      congr 1<;>simp
     ·simp only[NN]at j |-;omega
     ·simp only[go_sem,J]
     ·simp only[go_sem,n]
     ·exact qe
     ·exact qe
     simp only;omega
  ·match s,q,u,p,j,h,k,c,C with
   | b::a::s,q,u,p,j,h,k,c,C=>
     have hb:=p b (by simp);have T:=p a (by simp);have f2:=s3 o a b s.reverse (by rw[Ol];simp only[NN]at j;omega) ⟨A,L⟩ T hb;have f:eB w o (b::a::s)=if (kb o.kind a b).2 then some ((kb o.kind a b).1::s) else none:=by unfold eB;rw[Mt (by omega),Mt (by omega)]
     rw[f]at c;have E:s.reverse++[(kb o.kind a b).1]=((kb o.kind a b).1::s).reverse:=by simp
     have S:s.reverse++[a,b]=(b::a::s).reverse:=by simp
     rw[E,S]at f2;cases N:(kb o.kind a b).2 with
     | true=>
       rw[N]at f2 f c;simp only[Nt]at f c;refine eA ?_;have F:=g9 UD y z P n;repeat refine st ?_
       refine iL [(1002,1002),(77,9001)] f2 ?_;repeat refine st ?_
       refine⟨_,dd.frozen 9001 8 ⟨1,((kb o.kind a b).1::s).reverse.map aa,3,true⟩ rfl (Nf 0) (by simp only[go_sem]) (by simp only[go_sem]),(i+1,(kb o.kind a b).1::s),⟨⟨m,c,?_,iA O l p f,?_⟩,?_,?_⟩,?_,?_,?_⟩
       ·rw[k,B]
        congr 1
        simp only[NN];omega
       ·simp only[NN]at j |-;omega
       ·simp only[go_sem,J]
       ·simp only[go_sem,n]
       ·exact qe
       ·exact qe
       simp only;omega
     | false=>
       rw[N]at f2 c;simp only[NU,OA]at c;have Z:=run_stuck c;rw[r,Qy]at Z;rw[Z];show fp _ _ _ _ _ _;unfold ji;have F:=mc UD y z P g2 n J;repeat refine st ?_
       refine iL [(1002,1002),(77,9001)] f2 ?_;repeat refine fc f9 ?_
       exact rI
 obtain rfl:i=e.length:=by omega
 have z:=nl e.length;have G:=tQ (NC _) u;rw[M]at G;rw[NR,r]at q;obtain⟨v,N,rfl⟩:=OI.1 q;rw[N];unfold ji;have F:=i' UE z @Rr.{0} @List.reverse_nil.{0} n J;repeat refine st ?_
 exact rI
end
end Go.Proofs.YtfhkmjbjafeckaaGreatDoor
