/- table.begins, table.Event. -/
import Derived.Test.YtfhkmjbjafeckaaGreatDoorQ14
set_option maxRecDepth 100000
set_option maxHeartbeats 8000000
set_option linter.unusedSimpArgs false
set_option linter.defProp false
namespace Go.Proofs.YtfhkmjbjafeckaaGreatDoor
open Go.Proofs.Tryz
section
open Go.RowKit Go.ChangeShapes Go.WideShapes Go.ChangeAt
def fj(m:eg):List AV:=[I m.1, .seq 1 (m.2.map aa)]
def UF:=@fj.eq_1
def KT(m:eg):Prop:=m.2.length<=maxLen
section
variable {H:Type} {enc:TypeId×Value->H} {w:World} {base:Nat} {spare:Nat->Bool} {held:Bool}
theorem SY.app{S:Nat->Nat->Prop}{w:World} : ∀ {vs c:List Value}{cs a:List AV},SY S w vs cs->SY S w c a->SY S w (vs++c) (cs++a)
 |[],_,[],_,_,h=>h
 |_::_,_,_::_,_,b,d=>⟨b.1,SY.app b.2 d⟩
end
end
section
open Go.RowKit
def Mo(a b:Nat)(h:b<=a)(c:a<9223372036854775808):IntKind.i64.wrap ((a:Int)-(b:Int))=((a-b:Nat):Int):=by rw[aX (by omega) (by omega)];omega
abbrev bs(l:List Int):AV:= .seq 1 (l.map aa)
def cI(t:List UInt8×Int):List AV:=[Sg t.1,I t.2]
def UD:=@cI.eq_1
def Du(r:Rc):List AV:=[bs r.Z0,bs r.vars, .seq 2 (r.mem.map fj), .seq 2 (r.timers.map cI),B r.over]
def UY:=@Du.eq_1
def ma{a:Type}{l:List a}{i:Nat}{x d:a}(h:l[i]? =some x):l.getD i d=x:=by rw[N3,h];rfl
def MI{a:Type}{l:List a}{i:Nat}{x:a}(h:l[i]? =some x):x∈l:=My h
def Fz{i:Nat}{f:Nat->Bool}(a: ∀j,j<i->f j=true)(h:f i=true): ∀j,j<i+1->f j=true:=fun j b=>by
 by_cases e:j=i
 ·rw[e];exact h
 exact a j (by omega)
def xG: ∀a b:List UInt8,Op.bytesLess b a= !(Op.bytesLess a b||a==b)
 |[],[]=>rfl
 |[],_::_=>rfl
 |_::_,[]=>rfl
 | x::a,y::b=>by
   have i:=xG a b;simp only[Op.bytesLess,List.cons_beq_cons,i];by_cases h:x=y
   ·subst h;simp
   have g: ¬y=x:=fun e=>h e.symm;have c:(x==y)=false:=by simpa using h
   have d:(y==x)=false:=by simpa using g
   have f:decide (y<x)= !decide (x<y):=by
    rw[N8];simp[UInt8.lt_iff_toNat_lt];have:x.toNat≠y.toNat:=fun e=>h (UInt8.toNat_inj.1 e);omega
   simp[c,d,f]
def dg(s c:St):Prop:= ∀(x:ph)(a:Act)(w:World)(m:lP),dT x s a w m-> ∃b,dT x c a w b
def dg.refl(s:St):dg s s:=fun _ _ _ m h=>⟨m,h⟩
def dg.trans{s b c:St}(h:dg s b)(k:dg b c):dg s c:=fun x a w m e=>by
 obtain⟨f,d⟩:=h x a w m e;exact k x a w f d
def dg.less{s a:St}(h:Sn s a):dg s a:=fun _ _ _ m b=>⟨m,b.less h⟩
def dg.ren{s:St}(r r2:Nat)(row:Row)(a:r2≠r)(f:s.rows r=some row)(b:s.rows r2=none)(c:row.sz≠0)(e:row.pure=true):dg s (eP s r r2 row):=fun _ _ _ _ d=>⟨_,d.ren r r2 row a f b c e⟩
def dg.sees{s:St}(L:List (Nat×Nat×AV))(a:rj s L):dg s (k6 s L):=fun _ _ _ m b=>by
 obtain⟨c,k⟩:=b.sees L a;exact⟨_,k⟩
def dg.mapSee{s:St}(r:Nat)(row:Row)(d:s.rows r=some row)(a:row.sz=0)(b:row.es.all (·.all AV.bare)=true):dg s (zo s r (.fmap row.es)):=fun _ _ _ m c=>by
 obtain⟨e,k⟩:=c.mapSee r row d a b;exact⟨_,k⟩
def dg.head{s:St}{F:List (Nat×AV)}{R:List (Nat×Row)}(a:cP s F)(b:br s R):dg s (Go.Proofs.YtfhkmjbjafeckaaGreatDoor.head F R s.vs s.esc):= .less (dQ a b)
section
variable {P:Program} {env:cf} {nt:Nat} {Q:Exit->St->Prop} {s:St}
theorem dy{c:Code}(h:fq P env nt c (fun e p=> ∃b,dg p b/\Q e b) s):fq P env nt c Q s:=fun o x k l a w m j=>by
 refine PS (h o x k l a w m j) ?_;rintro e q u ⟨t,r,⟨b,d,f⟩,g⟩;obtain⟨n,i⟩:=d _ _ _ _ g;exact⟨b,n,f,i⟩
theorem fG{c:Code}{b:St}(i:dg s b)(h:fq P env nt c Q b):fq P env nt c Q s:=fun k x f g a w m e=>by
 obtain⟨j,d⟩:=i _ _ _ _ e;exact h k x f g a w j d
end
def k5:Nat->List Row->List (Nat×Row)
 |_,[]=>[]
 |b,r::l=>(b,r)::k5 (b+1) l
def oJ{t:Nat} : ∀ {l:List Row}{b:Nat},au (k5 b l) t=if b<=t then l[t-b]? else none
 |[],b=>by simp[k5,au]
 | r::l,b=>by
   simp only[k5,au,oJ (l:=l)];by_cases h:t=b
   ·subst h;simp
   rw[Mv h];by_cases a:b<=t
   ·rw[Mw a,Mw (by omega),show t-b=(t-(b+1))+1 by omega,Of]
   rw[Mv a,Mv (by omega)]
def rk{s:St} : ∀ {l:List Row}{b:Nat},(∀q r,l[q]? =some r->s.rows (q+b)=some r)->br s (k5 b l)
 |[],b,h=>trivial
 | r::l,b,h=>⟨by have:=h 0 r rfl; rwa [OI] at this,rk fun q c a=>by
    have:=h (q+1) c (by simpa using a)
    rwa [show q+1+b=q+(b+1) by omega]at this⟩
def nJ{p:Nat×Row} : ∀ {l:List Row}{b:Nat},p∈k5 b l-> ∃q,l[q]? =some p.2/\p.1=q+b
 |[],b,h=>by simp[k5]at h
 | r::l,b,h=>by
   simp only[k5,NX]at h;rcases h with rfl|h
   ·exact⟨0,rfl,by simp⟩
   obtain⟨q,a,c⟩:=nJ h;exact⟨q+1,by simpa using a,by omega⟩
end
section
open Go.RowKit
def dV(env:cf)(es:List (List AV))(c:es.length<=4096):b8 prog env 73 [.seq 1 es] (.own 3 1 es):=by
 cases es with
 | nil=>
   refine b8.empty fun A a=> ?_;cases A with
   | none=>
     refine qw func73 call73 ntmps73 results73 ?_;repeat refine nw ?_
     (refine aM ?_;refine⟨_,(by show (ag _ _ _).run _=some _;simp only[go_sem];rfl),?_⟩)
     exact fN.own_nil _ _ (by decide)
   | some A=>
     refine qf func73 call73 ntmps73 results73 ?_;repeat refine nw ?_
     exact px
 | cons d l=>
   have b:dd ((l.length+1)) 8:=aC (by simpa using c) (by omega);refine qf func73 call73 ntmps73 results73 ?_;have F:=b;exact fc
def uK(env:cf)(es:List (List AV))(c:es.length<=4096):b8 prog env 87 [.seq 2 es] (.own 78 2 es):=by
 cases es with
 | nil=>
   refine b8.empty fun A a=> ?_;cases A with
   | none=>
     refine qw func87 call87 ntmps87 results87 ?_;repeat refine nw ?_
     (refine aM ?_;refine⟨_,(by show (ag _ _ _).run _=some _;simp only[go_sem];rfl),?_⟩)
     exact fN.own_nil _ _ (by decide)
   | some A=>
     refine qf func87 call87 ntmps87 results87 ?_;repeat refine nw ?_
     exact px
 | cons d l=>
   have b:dd ((l.length+1)) 16:=aC (by simpa using c) (by omega);refine qf func87 call87 ntmps87 results87 ?_;have F:=b;exact fc
def EN(env:cf)(es:List (List AV))(c:es.length<=4096):b8 prog env 85 [.seq 2 es] (.own 140 2 es):=by
 cases es with
 | nil=>
   refine b8.empty fun A a=> ?_;cases A with
   | none=>
     refine qw func85 call85 ntmps85 results85 ?_;repeat refine nw ?_
     (refine aM ?_;refine⟨_,(by show (ag _ _ _).run _=some _;simp only[go_sem];rfl),?_⟩)
     exact fN.own_nil _ _ (by decide)
   | some A=>
     refine qf func85 call85 ntmps85 results85 ?_;repeat refine nw ?_
     exact px
 | cons d l=>
   have b:dd ((l.length+1)) 24:=aC (by simpa using c) (by omega);refine qf func85 call85 ntmps85 results85 ?_;have F:=b;exact fc
/-! Few of all -/
def Ts(l:List la):Prop:=l.length<=4096/\ ∀a∈l,a.code.length<=4096
structure hP(c:aq):Prop where
 vars:c.vars.length<=4096
 sts:c.Z9.length<=4096
 trs:c.trans.length<=4096
 st: ∀s∈c.Z9,Ts s.ZW/\Ts s.out
 tr: ∀t∈c.trans,t.guard.length<=4096/\Ts t.Z1
def xx{l:List mu}{vs ss:Int}(h:bo l vs ss=true):l.length<=32:=by
 unfold bo iY at h;split at h
 ·simp at h
 omega
def qQ{c b:Int}{l:List la}(h:eR c b l=true):Ts l:=by
 unfold eR at h;rw[Mx,NI,NB]at h;refine⟨by omega,fun a f=> ?_⟩;have d:=h.2 a f;unfold gM at d;by_cases e:a.code=[]
 ·rw[e];simp
 have:bo a.code c b=true:=by
  revert d
  cases bo a.code c b<;>simp[e]
 have:=xx this;omega
def og{c:aq}(h:(n9 c).1=0):hP c:=by
 have j:=B6 h;unfold n9 at h;split at h
 ·simp at h
 rename_i i;split at h
 ·simp at h
 split at h
 ·simp at h
 split at h
 ·simp at h
 rename_i b;split at h
 ·simp at h
 split at h
 ·simp at h
 rename_i d;refine⟨by omega,by omega,by omega,fun s f=> ?_,fun t g=> ?_⟩
 ·obtain⟨k,a⟩:=Ox.1 f;have:=cg b k (Mt.1 a).1;unfold lz at this;rw[a]at this;simp only[cL,Mx]at this;exact⟨qQ this.1.2,qQ this.2⟩
 obtain⟨k,a⟩:=Ox.1 g;have:=cg d k (Mt.1 a).1;unfold r6 at this;rw[a]at this;simp only[d9,Mx,OO]at this;refine⟨?_,qQ this.1.2⟩;rcases this.1.1.2 with e|e
 ·have:t.guard=[]:=by simpa using e
  rw[this];simp
 have:=xx e;omega
def kA(env:cf)(l:List la)(k:Ts l):b8 prog env 86 [j' l] (.own 81 4 (l.map bB)):=by
 have q:=k.1;refine qf func86 call86 ntmps86 results86 ?_;repeat refine nw ?_
 refine ap 3 3 81 4 ?_;refine Q' l.length (by omega) (fun j o=>[(3, .row 3 (o 3)),(6,j' l),(7,I l.length),(8,I j)]) (fun j _=>[(3,⟨4,(l.take j).map bB,81,true⟩)]) (fun j _ b=>b 3=false) rfl ?_ ?_
 ·rintro j p b c e m d;obtain⟨a,f⟩:=gE c;have f0:=uK env (a.code.map bW) (by rw[NT];exact k.2 a (My f));have i:(l.take j).length=j:=by rw[NK];omega
  have n:dd (j+1) 56:=aC (by omega) (by omega);have h:l.take (j+1)=l.take j++[a]:=by rw[N4,f];rfl
  have F:=m7 UC e m f i n d;repeat refine ff f0 ?_
  refine⟨j+1,⟨c,by simp only[go_sem,d]⟩,?_,?_,by omega⟩
  ·exact qe
  have F:=gs UC h @NC.{0,0};exact qe
 rintro p b e d;have g:l.take l.length=l:=NS;have F:=gs e g d;exact fc
def pw(env:cf)(c:aq)(p:hP c):b8 prog env 47 [.agg (aA c)] (.agg (aA c)):=by
 have w:=p.sts;have x:=p.trs;have f0:=EN env (c.vars.map ga) (by rw[NT];exact p.vars);refine qf func47 call47 ntmps47 results47 ?_;have F:=aA.eq_1;repeat refine ff f0 ?_
 refine nC 3 9000 0 3 75 6 ?_;refine nC 3 9001 0 4 83 5 ?_
 refine aH (D:=Nat) (fun j e=>[(1, .loc 1 (e 1) 0 0),(2, .loc 2 (e 2) 0 0),(3, .loc 3 (e 3) 0 0),(17,rv c.Z9),(18,I c.Z9.length),(19,I j)])
  (fun j e=>[(1,⟨5,[aA c],26,false⟩),(2,⟨5,[[Sg [],I 0,b6,b6,b6]],26,false⟩),(3,⟨5,[[Sg c.name,I c.initial, .row 14 (e 14), .row 9000 (e 9000), .row 9001 (e 9001)]],26,false⟩),(14,⟨2,c.vars.map ga,140,true⟩),(9000,⟨6,(c.Z9.take j).map aL,75,true⟩),(9001,⟨5,[],83,true⟩)])
  (fun j _ a=>j<=c.Z9.length/\a 2=false/\a 3=false/\a 14=false/\a 9000=false/\a 9001=false) (fun j=>c.Z9.length-j) 0 ?_ ?_ ?_ ?_
 ·refine⟨NJ _,?_,?_,?_,?_,?_⟩<;>simp only[go_sem]
 ·exact qe
 ·have F:=aA.eq_1;exact qe
 rintro j y a ⟨v,f,g,h,i,k⟩;by_cases b:j<c.Z9.length
 ·obtain⟨s,d⟩:=gE b;have l:=ip b;have r:=aD b (by omega);have f1:=kA env s.ZW (p.st s (My d)).1;have f2:=kA env s.out (p.st s (My d)).2;have o:(c.Z9.take j).length=j:=by rw[NK];omega
  have u:dd (j+1) 88:=aC (by omega) (by omega);have n:c.Z9.take (j+1)=c.Z9.take j++[s]:=by rw[N4,d];rfl
  have F:=ed Us Ut l r d o u f g h i k;repeat refine y3 f1 f2 ?_
  refine⟨j+1,⟨b,?_,?_,?_,?_,?_⟩,?_,?_,by omega⟩;all_goals (first|(show _=false;simp only[go_sem,f,g,h,i,k];done)|skip)
  ·exact qe
  have F:=qs Us Ut n @NC.{0,0} f g h i k;exact qe
 obtain rfl:j=c.Z9.length:=by omega
 have l:=nl c.Z9.length;have m:c.Z9.take c.Z9.length=c.Z9:=NS;have F:=qr Us l m f g h i k;repeat refine st ?_
 refine aH (D:=Nat) (fun j e=>[(1, .loc 1 (e 1) 0 0),(2, .loc 2 (e 2) 0 0),(3, .loc 3 (e 3) 0 0),(39,tg c.trans),(40,I c.trans.length),(41,I j)])
  (fun j e=>[(1,⟨5,[aA c],26,false⟩),(2,⟨5,[[Sg [],I 0,b6,b6,b6]],26,false⟩),(3,⟨5,[[Sg c.name,I c.initial, .row 14 (e 14), .row 9000 (e 9000), .row 9001 (e 9001)]],26,false⟩),(14,⟨2,c.vars.map ga,140,true⟩),(9000,⟨6,c.Z9.map aL,75,true⟩),(9001,⟨5,(c.trans.take j).map ax,83,true⟩)])
  (fun j _ a=>j<=c.trans.length/\a 2=false/\a 3=false/\a 14=false/\a 9000=false/\a 9001=false) (fun j=>c.trans.length-j) 0 ?_ ?_ ?_ ?_
 ·refine⟨NJ _,?_,?_,?_,?_,?_⟩<;>simp only[go_sem,f,g,h,i,k]
 ·exact qe
 ·have F:=aA.eq_1;exact qe
 try clear f g h i k
 rintro j y a ⟨v,f,g,h,i,k⟩;by_cases b:j<c.trans.length
 ·obtain⟨t,d⟩:=gE b;have l:=ip b;have r:=aD b (by omega);have q:=p.tr t (My d);have f1:=uK env (t.guard.map bW) (by rw[NT];exact q.1);have f2:=kA env t.Z1 q.2;have o:(c.trans.take j).length=j:=by rw[NK];omega
  have u:dd (j+1) 80:=aC (by omega) (by omega);have n:c.trans.take (j+1)=c.trans.take j++[t]:=by rw[N4,d];rfl
  have F:=ed Us Uv l r d o u f g h i k;repeat refine y3 f1 f2 ?_
  refine⟨j+1,⟨b,?_,?_,?_,?_,?_⟩,?_,?_,by omega⟩;all_goals (first|(show _=false;simp only[go_sem,f,g,h,i,k];done)|skip)
  ·exact qe
  have F:=qs Us Uv n @NC.{0,0} f g h i k;exact qe
 obtain rfl:j=c.trans.length:=by omega
 have l:=nl c.trans.length;have m:c.trans.take c.trans.length=c.trans:=NS;have F:=qr Us l m f g h i k;exact fc
def gN(s:List UInt8):List AV:=[Sg s]
def UX:=@gN.eq_1
def ll(l:List (List UInt8)):bM (l.map Ez)=l.map gN:=by
 unfold bM;rw[P4];rfl
def bi(c:aq)(j:Nat):List (List UInt8):=((c.trans.take j).map (·.Z7)).filter fun e=> !e.isEmpty
def H'(c:aq):List (List UInt8):=Lib.compact (ge (bi c c.trans.length))
def D8{c:aq}{j:Nat}{t:tS}(h:c.trans[j]? =some t):bi c (j+1)=if t.Z7.isEmpty then bi c j else bi c j++[t.Z7]:=by
 unfold bi;rw[N4,h,NC,N6];cases a:t.Z7.isEmpty<;>simp[a]
def qA(c:aq)(j:Nat):(bi c j).length<=j:=by
 unfold bi;exact NN (NV ..) (by simp;omega)
def Dz(env:cf)(c:aq)(p:c.trans.length<=1000000):b8 prog env 48 [.agg (aA c)] (.own 9 1 ((H' c).map gN)):=by
 refine qf func48 call48 ntmps48 results48 ?_;have F:=aA.eq_1;repeat refine st ?_
 refine ap 3 3 9 1 ?_;refine aH (D:=Nat) (fun j o=>[(3, .row 3 (o 3)),(7,tg c.trans),(8,I c.trans.length),(9,I j)]) (fun j _=>[(3,⟨1,(bi c j).map gN,9,true⟩)]) (fun j _ e=>j<=c.trans.length/\e 3=false) (fun j=>c.trans.length-j) 0 ?_ ?_ ?_ ?_
 ·exact⟨NJ _,rfl⟩
 ·exact qe
 ·(simp only[go_sem,F])
  rfl
 rintro j r e ⟨q,a⟩;by_cases b:j<c.trans.length
 ·obtain⟨t,k⟩:=gE b;have f:=ip b;have l:=aD b (by omega);have h:=D8 k;have n:=qA c j;have m:dd ((bi c j).length+1) 16:=⟨by omega,by omega⟩;cases g:t.Z7.isEmpty with
  | true=>
    rw[g,Mw rfl]at h;have d:(t.Z7 == [])=true:=by simpa using g
    have F:=kv Uv f l k d a;repeat refine st ?_
    refine⟨j+1,⟨b,by simp only[go_sem,a]⟩,?_,?_,by omega⟩
    ·exact qe
    have F:=h;exact qe
  | false=>
    rw[g,Mv Nb]at h;have d:(t.Z7 == [])=false:=by simpa using g
    have F:=m7 Uv f l k d m a;repeat refine st ?_
    refine⟨j+1,⟨b,by simp only[go_sem,a]⟩,?_,?_,by omega⟩
    ·exact qe
    have F:=gs h UX @NC.{0,0};exact qe
 obtain rfl:j=c.trans.length:=by omega
 have f:=nl c.trans.length;have n:=qA c c.trans.length;have F:=ai f a;repeat refine st ?_
 have f1:=A4 (bi c c.trans.length) (by omega);have i:(ge (bi c c.trans.length)).length<=9223372036854775807:=by simp[ge];omega
 have f2:=EI (ge (bi c c.trans.length)) i;refine oc 3 rfl (row:=⟨1,(bi c c.trans.length).map gN,9,true⟩) f1 (Ng 0) rfl (ll _).symm (by simp only[go_sem,a];exact iR) (by simp only[go_sem,a];exact iR) (by simp only[go_sem,a];exact iR) (by simp only[go_sem,a];exact iR) ?_;rw[ll];repeat refine st ?_
 refine vX 3 rfl (row:=⟨1,(ge (bi c c.trans.length)).map gN,9,true⟩) f2 (Ng 0) rfl (ll _).symm (by simp only[go_sem,a];exact iR) (by simp only[go_sem,a];exact iR) (by simp only[go_sem,a];exact iR) (by simp only[go_sem,a];exact iR) iR ?_;rw[ll];repeat refine st ?_
 (refine aM ?_;show (ag _ _ _).run _=some _;simp only[go_sem,F])
 rfl
def eO: ∀a:List UInt8,Op.bytesLess a a=false
 |[]=>rfl
 |x::a=>by simp[Op.bytesLess,eO a]
def fB: ∀ {a b c:List UInt8},Op.bytesLess a b=true->Op.bytesLess b c=true->Op.bytesLess a c=true
 |_,[],_,h,_=>by simp[Op.bytesLess]at h
 |_,_::_,[],_,h=>by simp[Op.bytesLess]at h
 |[],_::_,_::_,_,_=>rfl
 | x::a,y::b,z::c,h,k=>by
   simp only[Op.bytesLess,OO,NI,Mx,OQ]at h k |-;rcases h with h|⟨h,e⟩
   ·rcases k with k|⟨k,d⟩
    ·exact .inl (UInt8.lt_trans h k)
    exact .inl (k ▸ h)
   rcases k with k|⟨k,d⟩
   ·exact .inl (h ▸ k)
   exact .inr ⟨h.trans k,fB e d⟩
def dx: ∀ {a b:List UInt8},Op.bytesLess a b=false->Op.bytesLess b a=false->a=b
 |[],[],_,_=>rfl
 |[],_::_,h,_=>by simp[Op.bytesLess]at h
 |_::_,[],_,h=>by simp[Op.bytesLess]at h
 | x::a,y::b,h,k=>by
   simp only[Op.bytesLess,Bool.or_eq_false_iff,Nw,Bool.and_eq_false_iff]at h k;have e:x=y:=UInt8.le_antisymm (UInt8.not_lt.1 k.1) (UInt8.not_lt.1 h.1);subst e;simp only[Rv,Bool.true_eq_false,false_or]at h k;rw[dx h.2 k.2]
def pM{a b:List UInt8}(h:Op.bytesLess a b=true):Op.bytesLess b a=false:=by
 cases k:Op.bytesLess b a
 ·rfl
 have:=fB h k;rw[eO]at this;cases this
abbrev vb:=List UInt8
abbrev SL(a b:vb):Prop:=Op.bytesLess a b=true
/-! Texts in the order of bytes -/
def Lt: ∀(x y:vb),Op.bytesLess x y=decide (x<y)
 |[],[]=>by simp[Op.bytesLess]
 |_::_,[]=>by simp[Op.bytesLess]
 |[],_::_=>by simp[Op.bytesLess]
 | a::x,b::y=>by
   rw[Op.bytesLess,Lt x y];simp only[List.cons_lt_cons_iff];by_cases c:a<b<;>by_cases d:a=b<;>by_cases e:x<y<;>simp[c,d,e]
def Kf(x y:vb):decide (x<=y)= !Op.bytesLess y x:=by
 rw[Lt, <-decide_not];rfl
def BG{a b c:vb}(f:Op.bytesLess b a=false)(d:Op.bytesLess c b=false):Op.bytesLess c a=false:=by
 cases k:Op.bytesLess c a
 ·rfl
 cases e:Op.bytesLess a b
 ·rw[<-dx e f,k]at d;cases d
 rw[fB k e]at d;cases d
def BW(l:List vb):(ge l).Pairwise fun a b=>Op.bytesLess b a=false:=by
 have:=Qr (le:=fun x y:vb=>decide (x<=y)) (fun a b c d e=>by
  simp only[Kf,OA]at*;exact BG d e) (fun a b=>by
  simp only[Kf];cases k:Op.bytesLess b a
  ·simp
  rw[pM k];simp) l
 exact this.imp fun {a b} h=>by simpa[Kf]using h
def G4{l:List vb}{x:vb} :x∈ge l↔x∈l:=List.mem_mergeSort
def qO(l:List vb)(i:l.Pairwise fun a b=>Op.bytesLess b a=false): ∀m,m<=l.length->(Lib.compactUpTo l.toArray m).Pairwise SL/\ ∀x,x∈Lib.compactUpTo l.toArray m↔x∈l.take m
 |0,_=>by simp[Lib.compactUpTo]
 | m+1,v=>by
   obtain⟨o,f⟩:=qO l i m (by omega);have d:l.toArray[m]! =l[m]'(by omega):=by rw[Pi _ m (by simp;omega)];rfl
   have n:l.take (m+1)=l.take m++[l[m]'(by omega)]:=by rw[N4,Ms (by omega)];rfl
   have c: ∀k (hk:k<m),Op.bytesLess (l[m]'(by omega)) (l[k]'(by omega))=false:=fun k hk=>Nk.1 i k m (by omega) (by omega) hk;rw[Lib.compactUpTo_succ,d];by_cases hk:Lib.keeps l.toArray m=true
   ·rw[Mw hk];refine⟨Pj.2 ⟨o,QJ ..,fun x p y u=> ?_⟩,fun x=>by rw[n,N1,N1,f]⟩;rw[NP.1 u];rw[f,Qb]at p;obtain⟨k,s,rfl⟩:=p;have g:k<m:=by omega
    show Op.bytesLess _ _=true;cases t:Op.bytesLess (l[k]'(by omega)) (l[m]'(by omega)) with
    |true=>rfl
    | false=>
      have e:=dx t (c k g)
      exfalso
      unfold Lib.keeps at hk;rw[NI]at hk;rcases hk with hk|hk
      ·omega
      apply hk;rw[d,Pi _ (m-1) (by simp;omega)];show l[m]'(by omega)=l[m-1]'(by omega);have q:=c (m-1) (by omega);by_cases r:k=m-1
      ·subst r;exact e.symm
      have j:=Nk.1 i k (m-1) (by omega) (by omega) (by omega);rw[e]at j;exact dx q j
   rw[Mv hk,OM];refine⟨o,fun x=> ?_⟩;rw[f,n,N1,NP];refine⟨.inl,fun h=>h.elim id fun h=> ?_⟩;unfold Lib.keeps at hk;rw[NI,Rj,QY,d,Pi _ (m-1) (by simp;omega)]at hk;rw[h,hk.2];exact Qb.2 ⟨m-1,by omega,rfl⟩
def zT(c:aq):(H' c).Pairwise SL:=(qO _ (BW _) _ (ND _)).1
def zx{c:aq}{s:vb} :s∈H' c↔s≠[]/\ ∃t∈c.trans,t.Z7=s:=by
 unfold H' Lib.compact;rw[(qO _ (BW _) _ (ND _)).2,NS,G4];unfold bi;rw[NS,NF,NG];constructor
 ·rintro⟨⟨t,a,b⟩,d⟩;exact⟨by simpa using d,t,a,b⟩
 rintro⟨h,t,a,b⟩;exact⟨⟨t,a,b⟩,by simpa using h⟩
def LR(c:aq):(H' c).length<=c.trans.length:=by
 have a:(Lib.compact (ge (bi c c.trans.length))).length<=(ge (bi c c.trans.length)).length:=by
  unfold Lib.compact Lib.compactUpTo;rw[NT];exact NN (NV ..) (by simp)
 have b:=qA c c.trans.length;unfold H';have d:(ge (bi c c.trans.length)).length=(bi c c.trans.length).length:=by simp[ge]
 omega
/-! Where a text stands, or would stand -/
def sn(l:List vb)(x:vb):Nat:=(l.filter fun y=>Op.bytesLess y x).length
def Ud(l:List vb)(x:vb)(p:Nat):Prop:=p<=l.length/\ ∀k y,l[k]? =some y->(Op.bytesLess y x=true↔k<p)
def yu: ∀ {l:List vb},l.Pairwise SL-> ∀x,Ud l x (sn l x)
 |[],_,x=>⟨NJ _,fun k y h=>by simp at h⟩
 | a::l,h,x=>by
   obtain⟨g,i⟩:=Ob.1 h;obtain⟨n,m⟩:=yu i x;unfold sn at*;rw[PC];by_cases c:Op.bytesLess a x=true
   ·rw[Mw c,NQ];refine⟨by simp only[NQ];omega,fun k y b=> ?_⟩;cases k with
    | zero=>
      obtain rfl:a=y:=by simpa using b
      exact⟨fun _=>by omega,fun _=>c⟩
    | succ k=>
      rw[m k y (by simpa using b)];omega
   ·rw[Mv c];have d: ∀y∈l,¬Op.bytesLess y x=true:=fun y j f=>c (fB (g y j) f);have e:(l.filter fun y=>Op.bytesLess y x)=[]:=Pd.2 d;rw[e];refine⟨NJ _,fun k y b=>⟨fun f=> ?_,fun b=>by simp at b⟩⟩;cases k with
    | zero=>
      obtain rfl:a=y:=by simpa using b
      exact absurd f c
    |succ k=>exact absurd f (d y (My (by simpa using b)))
def KJ{l:List vb}(h:l.Pairwise SL){x:vb}(i:x∈l):l[sn l x]? =some x:=by
 obtain⟨j,d⟩:=yu h x;obtain⟨k,a⟩:=Ox.1 i;have b:=(d k x a);rw[eO]at b;have b: ¬k<sn l x:=fun e=>by simpa using b.2 e
 have c:=(Mt.1 a).1;by_cases e:k=sn l x
 ·rw[<-e];exact a
 have g:sn l x<l.length:=by omega
 have f:=Nk.1 h (sn l x) k g c (by omega);rw[(Mt.1 a).2]at f;have:=(d _ _ (Ms g)).1 f;omega
def Ss(c:aq)(s:vb):Int:=if (H' c)[sn (H' c) s]? =some s then(sn (H' c) s:Nat) else -1
def vu{c:aq}{s:vb}(h:s∈H' c): ∃k:Nat,Ss c s=k/\(H' c)[k]? =some s:=⟨sn (H' c) s,by unfold Ss;rw[Mw (KJ (zT c) h)],KJ (zT c) h⟩
def Fi{c:aq}{s:vb}(h:s∉H' c):Ss c s= -1:=by
 unfold Ss;rw[Mv fun e=>h (My e)]
def MP{c:aq}{s t:vb}(d:s∈H' c)(e:t∈H' c)(h:Ss c s=Ss c t):s=t:=by
 obtain⟨k,f,a⟩:=vu d;obtain⟨j,g,b⟩:=vu e;have:k=j:=by omega
 subst this;exact OV (a.symm.trans b)
def zU(c:aq):Ss c []= -1:=Fi fun h=>(zx.1 h).1 rfl
/-! A state's transitions -/
def dL(c:aq)(k:Nat):Int×Int:=match c.trans[k]? with
 |some t=>(t.src,Ss c t.Z7)
 |none=>(-1, -1)
def ir(c:aq)(j:Nat)(p:Int×Int):List Nat:=(List.range j).filter fun k=>dL c k=p
def cR(c:aq):Nat->List (Int×Int)
 |0=>[]
 |j+1=>if dL c j∈cR c j then cR c j else cR c j++[dL c j]
def Tq(c:aq)(i e:Int):List Nat:=ir c c.trans.length (i,e)
def ol(c:aq)(j:Nat)(p:Int×Int):ir c (j+1) p=if dL c j=p then ir c j p++[j] else ir c j p:=by
 unfold ir;rw[PO,N6];by_cases h:dL c j=p<;>simp[h]
def oz{c:aq}{p:Int×Int} : ∀ {j:Nat},p∈cR c j↔ ∃k,k<j/\dL c k=p
 |0=>by simp[cR]
 | j+1=>by
   unfold cR;split
   ·rename_i h;rw[oz];constructor
    ·rintro⟨k,b,a⟩;exact⟨k,by omega,a⟩
    rintro⟨k,b,a⟩;by_cases e:k=j
    ·subst e;rw[<-a];exact oz.1 h
    exact⟨k,by omega,a⟩
   rw[N1,oz,NP];constructor
   ·rintro(⟨k,b,a⟩|h)
    ·exact⟨k,by omega,a⟩
    exact⟨j,by omega,h.symm⟩
   rintro⟨k,b,a⟩;by_cases e:k=j
   ·subst e;exact .inr a.symm
   exact .inl ⟨k,by omega,a⟩
def nX(c:aq): ∀j,(cR c j).Nodup
 |0=> .nil
 | j+1=>by
   unfold cR;split
   ·exact nX c j
   rename_i h;exact O8.2 ⟨nX c j,by simp,fun a d b f e=>h (by rw[NP.1 f]at e;exact e ▸ d)⟩
def ud{c:aq}{j:Nat}{p:Int×Int}(h:p∉cR c j):ir c j p=[]:=by
 unfold ir;rw[Pd];intro k a;simp only[NI];exact fun e=>h (oz.2 ⟨k,NZ.1 a,e⟩)
def FE(c:aq)(j:Nat)(p:Int×Int):(ir c j p).length<=j:=by
 unfold ir;exact NN (NV ..) (by simp)
def rq(p:Int×Int):List (Int×Int)->Nat->Option Nat
 |[],_=>none
 |q::l,i=>if p=q then some i else rq p l (i+1)
def qJ{p:Int×Int} : ∀ {l:List (Int×Int)}{i n:Nat},rq p l i=some n->i<=n/\l[n-i]? =some p
 |[],i,n,h=>by simp[rq]at h
 | q::l,i,n,h=>by
   unfold rq at h;split at h
   ·rename_i e;obtain rfl:i=n:=by simpa using h
    simp[e]
   obtain⟨b,a⟩:=qJ h;refine⟨by omega,?_⟩;rw[show n-i=(n-(i+1))+1 by omega,Of];exact a
def lu{p:Int×Int} : ∀ {l:List (Int×Int)}{i:Nat},rq p l i=none->p∉l
 |[],i,h=>by simp
 | q::l,i,h=>by
   unfold rq at h;split at h
   ·cases h
   rename_i e;rw[NX];exact fun a=>a.elim e (lu h)
def K4{c:aq}(i:Int)(s:vb)(h:s=[]\/s∈H' c):Tq c i (Ss c s)=(List.range c.trans.length).filter fun k=>match c.trans[k]? with|some t=>decide (t.src=i/\t.Z7=s)|none=>false:=by
 unfold Tq ir;apply O9;intro k d;have d:=NZ.1 d;have f:c.trans[k]? =some c.trans[k]:=Ms d;unfold dL;rw[f];simp only[QG]
 congr 1
 generalize j:c.trans[k]=t at*;have b:t∈c.trans:=My f;apply propext;refine and_congr_right fun _=>⟨fun e=> ?_,fun e=>by rw[e]⟩;rcases h with rfl|h
 ·rw[zU]at e;by_cases a:t.Z7=[]
  ·exact a
  obtain⟨k,g,_⟩:=vu (zx.2 ⟨a,t,b,rfl⟩);omega
 obtain⟨k,g,_⟩:=vu h;by_cases a:t.Z7=[]
 ·rw[a,zU]at e;omega
 exact MP (zx.2 ⟨a,t,b,rfl⟩) h e
def Bi(env:cf)(s:List UInt8):b8 prog env 154 [Sg s] (B false):=by
 refine qf func154 call154 ntmps154 results154 ?_;repeat refine nw ?_
 exact px
def JI(env:cf)(s:List UInt8):b8 prog env 218 [Sg s] (B false):=by
 refine qf func218 call218 ntmps218 results218 ?_;repeat refine nw ?_
 exact px
def HY(env:cf)(s t:List UInt8):b8 prog env 153 [Sg s,Sg t] (B (Op.bytesLess s t)):=by
 have f0:=JI env s;refine qf func153 call153 ntmps153 results153 ?_;repeat refine jG f0 ?_
 exact px
def BF(env:cf)(l:List (List UInt8))(x:List UInt8)(p:Nat)(C:Ud l x p)(H:l.length<=1000000):b8 prog env 90 [.seq 1 (l.map gN),Sg x] (.tuple [I p,B (l[p]? == some x)]):=by
 have f0:=Bi env x;refine qf func90 call90 ntmps90 results90 ?_;repeat refine nw ?_
 refine TW (D:=Nat×Nat) (fun d _=>[(0, .seq 1 (l.map gN)),(1,Sg x),(6,I l.length),(7,I d.1),(8,I d.2)]) (fun _ _=>[]) (fun d _ _=>d.1<=p/\p<=d.2/\d.2<=l.length) (fun d=>d.2-d.1) (0,l.length) ⟨NJ _,C.1,ND _⟩ ?_;rintro⟨i,j⟩ J E ⟨u,v,w⟩;simp only at u v w;by_cases m:i<j
 ·have f:=ip m;have A:(i+j)/2<l.length:=by omega
  obtain⟨y,b⟩: ∃y,l[(i+j)/2]? =some y:=⟨l[(i+j)/2],Ms A⟩;have a:=C.2 _ _ b;have f1:=HY env y x;have c:IntKind.i64.wrap ((i:Int)+(j:Int))=((i+j:Nat):Int):=by rw[aX (by omega) (by omega)];omega
  have q:IntKind.u64.wrap ((i+j:Nat):Int)=((i+j:Nat):Int):=IntWalk.u64_in _ (by omega)
  have r:IntKind.i64.wrap (((i+j:Nat):Int).fdiv (2^min 1 64))=(((i+j)/2:Nat):Int):=by
   rw[show ((i+j:Nat):Int).fdiv (2^min 1 64)=(((i+j)/2:Nat):Int) from(SI (i+j) 2).symm,aX (by omega) (by omega)]
  have s:(((i+j)/2:Nat):Int)< (l.length:Int):=by omega
  have t:=aD (k:=(i+j)/2) (n:=l.length) A (by omega);generalize G:(i+j)/2=o at*;cases e:Op.bytesLess y x with
  | true=>
    rw[e]at f1 a;have:=a.1 rfl;have F:=qr f c q r s t b UX;repeat refine ff f1 ?_
    refine⟨(o+1,j),⟨?_,?_,?_⟩,?_,?_,?_⟩
    ·simp only;omega
    ·exact v
    ·exact w
    ·exact qe
    ·exact qe
    simp only;omega
  | false=>
    rw[e]at f1 a;have: ¬o<p:=fun h=>by cases a.2 h
    have F:=qr f c q r s t b UX;repeat refine ff f1 ?_
    refine⟨(i,o),⟨?_,?_,?_⟩,?_,?_,?_⟩
    ·exact u
    ·simp only;omega
    ·simp only;omega
    ·exact qe
    ·exact qe
    simp only;omega
 obtain rfl:i=j:=by omega
 obtain rfl:i=p:=by omega
 have f:=nl i;by_cases z:i<l.length
 ·have c:=ip z;obtain⟨y,b⟩:=gE z;have f1:=Bi env y;cases e:(y==x) with
  | true=>
    have g:(l[i]? == some x)=true:=by rw[b];simpa using e
    rw[g];have F:=ii f c b e UX;exact ns f0 f1
  | false=>
    have g:(l[i]? == some x)=false:=by rw[b];simpa using e
    rw[g];have F:=ii f c b e UX;exact ns f0 f1
 have c: ¬(i:Int)< (l.length:Int):=by omega
 have g:(l[i]? == some x)=false:=by rw[NL (by omega)];rfl
 rw[g];have F:=gs f c UX;exact kb f0
def ni(env:cf)(c:aq)(h:ct c): ∀(n i:Nat),i<c.Z9.length->c.Z9.length<=i+n->b8 prog env 51 [.agg (aA c),I i] (.own 3 1 ((tI c i).map aB))
 |0,i,A,O=>by omega
 | n+1,i,A,O=>by
   have G:=h.Z6;obtain⟨s,o⟩:=gE A;have a:=Lu h o;have f:=AE h A;have w:((i:Nat):Int)< (c.Z9.length:Int):=by omega
   by_cases g:s.kind=1
   ·by_cases b:0<=s.initial
    ·obtain⟨j,L,E⟩:=zJ h o g b;have R:=bF h.toRight (aY L).1;rw[Mw ⟨g,b⟩,E,OP]at a;have f0:=ni env c h n j (by omega) (by omega);rw[a]at f;have z:dd (1+(tI c j).length) 8:=aC (by simp at f;omega) (by omega);rw[a];refine qf func51 call51 ntmps51 results51 ?_;have F:=qr Us Ut o g E w Uu z;exact kb f0
    rw[Mv fun e=>b e.2,Mv (by omega)]at a;rw[a];refine qf func51 call51 ntmps51 results51 ?_;have F:=m7 Us Ut o g b w Uu;exact fc
   rw[Mv fun e=>g e.1]at a;have p:(s.kind==1)=false:=by simpa using g
   by_cases b:s.kind=2
   ·rw[Mw b]at a;have f1:=iB env c i (by omega);generalize y:av c i true=K at*
    have q: ∀k∈K,i<k/\k<c.Z9.length:=fun k l=>by
     rw[<-y]at l;have:=bF h.toRight (aY l).1;omega
    have J:K.length<=32:=by
     have:=(bV c i true).length_le_of_subset (l₂:=List.range c.Z9.length) fun m N=>NZ.2 (q m (y ▸ N)).2;rw[y]at this;simp at this;omega
    have t: ∀j,(i::(K.take j).flatMap (tI c)).length<=32:=fun j=>by
     have e:(K.take j).flatMap (tI c)++(K.drop j).flatMap (tI c)=K.flatMap (tI c):=by rw[<-Oy,PU]
     have:=N7 List.length e;rw[a]at f;simp only[NQ,NA]at*;omega
    refine qf func51 call51 ntmps51 results51 ?_;have F:=m7 Us Ut o p b w Uu;repeat refine ff f1 ?_
    have F:=gs Us Uu @Rx.{0,0};refine lq K.length (by omega) (fun j D=>[(2, .loc 2 (D 2) 0 0),(5, .row 10 (D 10)),(37, .row 37 (D 37)),(38,I K.length),(39,I j)]) (fun j _=>[(2,⟨5,[aA c],26,false⟩),(10,⟨1,(i::(K.take j).flatMap (tI c)).map aB,3,true⟩),(37,⟨1,K.map aB,3,true⟩)]) (fun j _ d=>d 10=false) rfl ?_ ?_
    ·rintro j Q d r C P v;obtain⟨k,l⟩:=gE r;have M:=q k (My l);have f0:=ni env c h n k (by omega) (by omega);have u:(K.take (j+1)).flatMap (tI c)=(K.take j).flatMap (tI c)++tI c k:=by rw[N4,l,Oy];simp
     have H:=t (j+1);rw[u]at H;have z:dd (((K.take j).flatMap (tI c)).length+1+(tI c k).length) 8:=aC (by simp only[NQ,NA]at H;omega) (by omega);have F:=m7 Us Uu l C P z v;repeat refine ff f0 ?_
     refine⟨j+1,⟨r,by simp only[go_sem,v]⟩,?_,?_,by omega⟩
     ·exact qe
     have F:=i0 Us Uu u @NC.{0,0};exact qe
    rintro Q d C v;have B:K.take K.length=K:=NS;rw[a];have F:=i0 Uu C B v;exact fc
   rw[Mv b]at a;have x:(s.kind==2)=false:=by simpa using b
   rw[a];refine qf func51 call51 ntmps51 results51 ?_;have F:=m7 Us Ut o p x w Uu;exact fc
def xi(env:cf)(c:aq)(b:c.trans.length<=1000000)(x y:AV)(s:List UInt8):b8 prog env 49 [.ref 9 [[Sg c.name,I c.initial,qa c.vars,rv c.Z9,tg c.trans,aQ c, .seq 1 ((H' c).map gN),x,y]] 0 0,Sg s] (I (Ss c s)):=by
 have d:=LR c;have f0:=BF env (H' c) s (sn (H' c) s) (yu (zT c) s) (by omega);unfold Ss;by_cases h:(H' c)[sn (H' c) s]? =some s
 ·have a:((H' c)[sn (H' c) s]? == some s)=true:=by simpa using h
  rw[a]at f0;rw[Mw h];refine qf func49 call49 ntmps49 results49 ?_;repeat refine jG f0 ?_
  exact px
 have a:((H' c)[sn (H' c) s]? == some s)=false:=by simpa using h
 rw[a]at f0;rw[Mv h];refine qf func49 call49 ntmps49 results49 ?_;repeat refine jG f0 ?_
 exact px
end
end Go.Proofs.YtfhkmjbjafeckaaGreatDoor
