/- table.begins, table.Event. -/
import Derived.Test.YtfcdkaolcdglmaaGreatDoorP14
set_option maxRecDepth 100000
set_option maxHeartbeats 8000000
set_option linter.unusedSimpArgs false
set_option linter.defProp false
namespace Go.Proofs.YtfcdkaolcdglmaaGreatDoor
open Go.Proofs.Tryz
open Go.RowKit
section
def qB(env:b7)(n:Int):cy prog env 61 [I n] (B (jP n)):=by
 have c:jP n=(decide (0<=n)&&decide (n<=1099511627776)):=J7 ..;rw[c];by_cases a:0<=n<;>by_cases b:n<=1099511627776
 all_goals (refine ir func61 rfl call61 (by rw [ntmps61]; simp) ?_
            rw[ntmps61,results61])
 all_goals have F:=ai a b
 all_goals (repeat refine st ?_)
 all_goals ((refine aO ?_;show (au _ _ _).run _=some _;simp only[go_sem,F]))
def lA(env:b7)(l:List Int)(D:l.length<=1000000):cy prog env 62 [cI l] (B (aX l)):=by
 refine qf func62 call62 ntmps62 results62 ?_;repeat refine sm ?_
 refine UC l.length (by omega) (fun i _=>[(0,cI l),(5,cI l),(6,I l.length),(7,I i)]) (fun _ _=>[]) (fun i _ _=> ∀j,j<i->i6 l j=true) (fun j A=>by omega) ?_ ?_
 ·rintro i C q b c g p;obtain⟨x,d⟩:=gE b;have m:=nS x l i d;have a:i6 l i=false->aX l=false:=fun h=>by rw[aX,cm b h];rfl
  by_cases f:x<0
  ·rw[a (by unfold i6;rw[m,Oi (by omega)];rfl)];have F:=ld c g d WN f;exact fl
  by_cases k:32<=x
  ·rw[a (by unfold i6;rw[m,Oi (show ¬x<=31 by omega),P0];rfl)];have F:=pf c g d WN f k;exact fl
  by_cases v:i=0
  ·have o: ¬(0:Int)< (i:Int):=by omega
   have F:=vb c g d WN f k o;repeat refine st ?_
   refine⟨i+1,⟨b,iK p ?_⟩,?_,?_,by omega⟩
   ·unfold i6;rw[m,Ou (show 0<=x by omega),Ou (show x<=31 by omega),Ou v];rfl
   ·exact qe
   exact qe
  have o:(0:Int)< (i:Int):=by omega
  have t:IntKind.i64.wrap ((i:Int)-1)=((i-1:Nat):Int):=Mo i 1 (by omega) (by omega);have u:((i-1:Nat):Int)< (l.length:Int):=by omega
  obtain⟨y,r⟩: ∃y,l[i-1]? =some y:=⟨l[i-1],OE (by omega)⟩;have z:=nS y l (i-1) r
  have s:i6 l i=decide (y<x):=by
   unfold i6;rw[m,z,Ou (show 0<=x by omega),Ou (show x<=31 by omega),Oi v];rfl
  by_cases w:x<=y
  ·rw[a (by rw[s,Oi (by omega)])];have F:=u4 c g d WN f k o t u r w;exact fl
  have F:=u4 c g d WN f k o t u r w;repeat refine st ?_
  exact qn (i+1) ⟨b,iK p (by rw[s,Ou (by omega)])⟩
 rintro C q c p
 have e:aX l=decide ((0:Int)< (l.length:Int)):=by
  rw[aX,ba (n:=l.length) fun j A=>p j (by omega),PQ];simp
 rw[e];have F:=c;exact fl
def zq(x:Int):aX [x]=(decide (0<=x)&&decide (x<=31)):=by
 simp[aX,ku,i6]
def GV(env:b7)(l:List ed)(D:l.length<=1000000)(A: ∀m∈l,m.2.length<=1000000):cy prog env 64 [.seq 2 (l.map fi)] (B (qP l)):=by
 refine qf func64 call64 ntmps64 results64 ?_;repeat refine sm ?_
 refine UC l.length (by omega) (fun i _=>[(0, .seq 2 (l.map fi)),(5, .seq 2 (l.map fi)),(6,I l.length),(7,I i)]) (fun _ _=>[]) (fun i _ _=> ∀j,j<i->mo l j=true) (fun j z=>by omega) ?_ ?_
 ·rintro i C q c d g o;obtain⟨x,b⟩:=gE c;have f1:=lA env [x.1] (by simp);have f2:=lA env x.2 (A x (EQ b));have a:mo l i=false->qP l=false:=fun h=>by rw[qP,cm c h]
  have p:=zq x.1;cases e:aX [x.1]
  ·rw[a (by unfold mo;rw[cW b, <-p,e];rfl)];rw[e]at f1;have F:=ld d g b WS WN;exact nb f1
  rw[e]at f1;cases f:aX x.2
  ·rw[a (by unfold mo;rw[cW b,f,P0];rfl)];rw[f]at f2;have F:=ld d g b WS WN;exact po f1 f2
  rw[f]at f2;by_cases v:i=0
  ·have k: ¬(0:Int)< (i:Int):=by omega
   have F:=pf d g b WS WN k;repeat refine PJ f1 f2 ?_
   refine⟨i+1,⟨c,iK o ?_⟩,?_,?_,by omega⟩
   ·unfold mo;rw[cW b, <-p,e,f,Ou v];rfl
   ·exact qe
   exact qe
  have k:(0:Int)< (i:Int):=by omega
  have t:IntKind.i64.wrap ((i:Int)-1)=((i-1:Nat):Int):=Mo i 1 (by omega) (by omega);have u:((i-1:Nat):Int)< (l.length:Int):=by omega
  obtain⟨y,r⟩: ∃y,l[i-1]? =some y:=⟨l[i-1],OE (by omega)⟩
  have s:mo l i=decide (y.1<x.1):=by
   unfold mo;rw[cW b,cW r, <-p,e,f,Oi v];rfl
  by_cases w:x.1<=y.1
  ·rw[a (by rw[s,Oi (by omega)])];have F:=zs d g b WS WN k t u r w;exact po f1 f2
  have F:=zs d g b WS WN k t u r w;repeat refine PJ f1 f2 ?_
  exact qn (i+1) ⟨c,iK o (by rw[s,Ou (by omega)])⟩
 rintro C q d o;rw[show qP l=true from by rw[qP,ba (n:=l.length) fun j z=>o j (by omega)]];have F:=d;exact fl
def GP(env:b7)(l:List Int)(s:l.length<=1000000):cy prog env 63 [cI l] (B (iB l)):=by
 refine qf func63 call63 ntmps63 results63 ?_;repeat refine sm ?_
 refine UC l.length (by omega) (fun i _=>[(0,cI l),(5,cI l),(6,I l.length),(7,I i)]) (fun _ _=>[]) (fun i _ _=> ∀j,j<i->lU l j=true) (fun j q=>by omega) ?_ ?_
 ·rintro i r g b c m o;obtain⟨x,d⟩:=gE b;have k:=nS x l i d;have a:lU l i=false->iB l=false:=fun h=>by rw[iB,cm b h];rfl
  by_cases f:x< -2147483647
  ·rw[a (by unfold lU;rw[k,Oi (by omega)];rfl)];have F:=ld c m d WN f;exact fl
  by_cases p:2147483647<x
  ·rw[a (by unfold lU;rw[k,Oi (show ¬x<=2147483647 by omega),P0])];have F:=pf c m d WN f p;exact fl
  have F:=pf c m d WN f p;repeat refine st ?_
  refine⟨i+1,⟨b,iK o ?_⟩,?_,?_,by omega⟩
  ·unfold lU;rw[k,Ou (show -2147483647<=x by omega),Ou (show x<=2147483647 by omega)];rfl
  ·exact qe
  exact qe
 rintro r g c o
 have e:iB l=decide ((l.length:Int)<=8):=by
  rw[iB,ba (n:=l.length) fun j q=>o j (by omega),PQ];exact TT.2 (by omega)
 rw[e];have F:=c;exact fl
def JC(env:b7)(l:List (List UInt8×Int))(D:l.length<=1000000)(A: ∀t∈l,t.1.length<=9223372036854775807):cy prog env 65 [.seq 2 (l.map ew)] (B (ay l)):=by
 refine qf func65 call65 ntmps65 results65 ?_;repeat refine sm ?_
 refine UC l.length (by omega) (fun i _=>[(0, .seq 2 (l.map ew)),(5, .seq 2 (l.map ew)),(6,I l.length),(7,I i)]) (fun _ _=>[]) (fun i _ _=> ∀j,j<i->jV l j=true) (fun j z=>by omega) ?_ ?_
 ·rintro i C q c d m p;obtain⟨x,b⟩:=gE c;have f1:=dL env x.1 (A x (EQ b));have f2:=qB env x.2;have a:jV l i=false->ay l=false:=fun h=>by rw[ay,cm c h];rfl
  cases g:bT x.1
  ·rw[a (by unfold jV;rw[cW b,g];rfl)];rw[g]at f1;have F:=mX d m b WT;exact nb f1
  rw[g]at f1;cases k:jP x.2
  ·rw[a (by unfold jV;rw[cW b,k,P0];rfl)];rw[k]at f2;have F:=mX d m b WT;exact po f1 f2
  rw[k]at f2;by_cases v:i=0
  ·have o: ¬(0:Int)< (i:Int):=by omega
   have F:=ld d m b WT o;repeat refine PJ f1 f2 ?_
   refine⟨i+1,⟨c,iK p ?_⟩,?_,?_,by omega⟩
   ·unfold jV;rw[cW b,g,k,Ou v];rfl
   ·exact qe
   exact qe
  have o:(0:Int)< (i:Int):=by omega
  have s:IntKind.i64.wrap ((i:Int)-1)=((i-1:Nat):Int):=Mo i 1 (by omega) (by omega);have u:((i-1:Nat):Int)< (l.length:Int):=by omega
  obtain⟨y,r⟩: ∃y,l[i-1]? =some y:=⟨l[i-1],OE (by omega)⟩;have w:jV l i= !(Op.bytesLess x.1 y.1||x.1==y.1):=by unfold jV;rw[cW b,cW r,g,k,Oi v,pg];rfl
  by_cases f:(Op.bytesLess x.1 y.1||x.1==y.1)=true
  ·rw[a (by rw[w,f];rfl)];have F:=y' d m b WT o s u r f;exact po f1 f2
  have f:(Op.bytesLess x.1 y.1||x.1==y.1)=false:=by simpa using f
  have F:=y' d m b WT o s u r f;repeat refine PJ f1 f2 ?_
  exact qn (i+1) ⟨c,iK p (by rw[w,f];rfl)⟩
 rintro C q d p
 have e:ay l=decide ((l.length:Int)<=8):=by
  rw[ay,ba (n:=l.length) fun j z=>p j (by omega),PQ];exact TT.2 (by omega)
 rw[e];have F:=d;exact fl
def Ko(a:Addr)(r:Rc):AV:=if aW r=true then gc else dj (-1) (b6 a)
def x9(env:b7)(i u:Addr)(w:fk env i u)(r:Rc)(k:Vm r)(y: ∀t∈r.timers,t.1.length<=9223372036854775807):cy prog env 23 [.agg (dy r)] (Ko i r):=by
 have f:=gS w.e1;have f1:=bW env [114,101,99,111,114,100,46,67,104,101,99,107] i;have d:=qB env r.born;have e:=qB env r.steps;have g:=lA env r.Z8 k.Z8;have j:=GP env r.vars k.vars;have c5:=GV env r.mem k.mem k.Z9;have s:=JC env r.timers k.timers y;have a:aW r=false->Ko i r=dj (-1) (b6 i):=fun h=>by unfold Ko;rw[h];rfl
 by_cases b:1<=r.Z5
 case neg=>
  rw[a (by unfold aW nK;rw[Oi (by omega)];rfl)];refine qf func23 call23 ntmps23 results23 ?_;have F:=jw Xb b f;exact nb f1
 by_cases c:r.Z5<=2147483647
 case neg=>
  rw[a (by unfold aW nK;rw[Oi (by omega)];rfl)];refine qf func23 call23 ntmps23 results23 ?_;have F:=mX Xb b c f;exact nb f1
 have v:decide (1<=r.Z5/\r.Z5<=2147483647)=true:=Ou ⟨b,c⟩;cases l:jP r.born
 ·rw[a (by unfold aW nK;rw[l,P0];rfl)];rw[l]at d;refine qf func23 call23 ntmps23 results23 ?_;have F:=mX Xb b c f;exact po f1 d
 rw[l]at d;cases m:jP r.steps
 ·rw[a (by unfold aW nK;rw[m,P0];rfl)];rw[m]at e;refine qf func23 call23 ntmps23 results23 ?_;have F:=mX Xb b c f;exact UR f1 d e
 rw[m]at e;have x:nK r=true:=by unfold nK;rw[v,l,m];rfl
 cases n:aX r.Z8
 ·rw[a (by unfold aW;rw[n,P0];rfl)];rw[n]at g;refine qf func23 call23 ntmps23 results23 ?_;have F:=mX Xb b c f;exact Wi f1 d e g
 rw[n]at g;cases o:iB r.vars
 ·rw[a (by unfold aW;rw[o,P0];rfl)];rw[o]at j;refine qf func23 call23 ntmps23 results23 ?_;have F:=mX Xb b c f;exact Wt f1 d e g j
 rw[o]at j;cases p:qP r.mem
 ·rw[a (by unfold aW;rw[p,P0];rfl)];rw[p]at c5;refine qf func23 call23 ntmps23 results23 ?_;have F:=mX Xb b c f;exact Wj f1 d e g j c5
 rw[p]at c5;cases q:ay r.timers
 ·rw[a (by unfold aW;rw[q,P0])];rw[q]at s;refine qf func23 call23 ntmps23 results23 ?_;have F:=mX Xb b c f;exact WC f1 d e g j c5 s
 rw[q]at s;rw[show Ko i r=gc from by unfold Ko;rw[show aW r=true from by unfold aW;rw[x,n,o,p,q];rfl,OL rfl]];refine qf func23 call23 ntmps23 results23 ?_;have F:=jw Xb b c;exact Wj d e g j c5 s
end
section
def dT(s c:St):Prop:= ∀(x:rk)(a:Act)(w:World)(m:k9),dk x s a w m-> ∃b,dk x c a w b
def dT.refl(s:St):dT s s:=fun _ _ _ m h=>⟨m,h⟩
def dT.trans{s b c:St}(h:dT s b)(k:dT b c):dT s c:=fun x a w m e=>by
 obtain⟨f,d⟩:=h x a w m e;exact k x a w f d
def dT.less{s a:St}(h:UZ s a):dT s a:=fun _ _ _ m b=>⟨m,b.less h⟩
def dT.ren{s:St}(r r2:Nat)(row:Row)(a:r2≠r)(f:s.rows r=some row)(b:s.rows r2=none)(c:row.sz≠0)(e:row.pure=true):dT s (eN s r r2 row):=fun _ _ _ _ d=>⟨_,d.ren r r2 row a f b c e⟩
def dT.sees{s:St}(L:List (Nat×Nat×AV))(a:rU s L):dT s (l5 s L):=fun _ _ _ m b=>by
 obtain⟨c,k⟩:=b.sees L a;exact⟨_,k⟩
def dT.mapSee{s:St}(r:Nat)(row:Row)(d:s.rows r=some row)(a:row.sz=0)(b:row.es.all (·.all AV.bare)=true):dT s (zA s r (.fmap row.es)):=fun _ _ _ m c=>by
 obtain⟨e,k⟩:=c.mapSee r row d a b;exact⟨_,k⟩
def dT.head{s:St}{F:List (Nat×AV)}{R:List (Nat×Row)}(a:dK s F)(b:cn s R):dT s (Go.Proofs.YtfcdkaolcdglmaaGreatDoor.head F R s.vs s.esc):= .less (dQ a b)
section
variable {P:Program} {env:b7} {nt:Nat} {Q:Exit->St->Prop} {s:St}
theorem fA{c:Code}(h:gu P env nt c (fun e p=> ∃b,dT p b/\Q e b) s):gu P env nt c Q s:=fun o x k l a w m j=>by
 refine Ql (h o x k l a w m j) ?_;rintro e q u ⟨t,r,⟨b,d,f⟩,g⟩;obtain⟨n,i⟩:=d _ _ _ _ g;exact⟨b,n,f,i⟩
theorem iX{c:Code}{b:St}(i:dT s b)(h:gu P env nt c Q b):gu P env nt c Q s:=fun k x f g a w m e=>by
 obtain⟨j,d⟩:=i _ _ _ _ e;exact h k x f g a w j d
end
def j':Nat->List Row->List (Nat×Row)
 |_,[]=>[]
 |b,r::l=>(b,r)::j' (b+1) l
def nz{t:Nat} : ∀ {l:List Row}{b:Nat},an (j' b l) t=if b<=t then l[t-b]? else none
 |[],b=>by simp[j',an]
 | r::l,b=>by
   simp only[j',an,nz (l:=l)];by_cases h:t=b
   ·subst h;simp
   rw[OK h];by_cases a:b<=t
   ·rw[OL a,OL (by omega),show t-b=(t-(b+1))+1 by omega,Pw]
   rw[OK a,OK (by omega)]
def tb{s:St} : ∀ {l:List Row}{b:Nat},(∀q r,l[q]? =some r->s.rows (q+b)=some r)->cn s (j' b l)
 |[],b,h=>trivial
 | r::l,b,h=>⟨by have:=h 0 r rfl; rwa [PR] at this,tb fun q c a=>by
    have:=h (q+1) c (by simpa using a)
    rwa [show q+1+b=q+(b+1) by omega]at this⟩
def mn{p:Nat×Row} : ∀ {l:List Row}{b:Nat},p∈j' b l-> ∃q,l[q]? =some p.2/\p.1=q+b
 |[],b,h=>by simp[j']at h
 | r::l,b,h=>by
   simp only[j',O7]at h;rcases h with rfl|h
   ·exact⟨0,rfl,by simp⟩
   obtain⟨q,a,c⟩:=mn h;exact⟨q+1,by simpa using a,by omega⟩
end
section
def dU(env:b7)(es:List (List AV))(c:es.length<=4096):cy prog env 114 [.seq 1 es] (.own 3 1 es):=by
 cases es with
 | nil=>
   refine cy.empty fun A a=> ?_;cases A with
   | none=>
     refine qw func114 call114 ntmps114 results114 ?_;repeat refine sm ?_
     (refine aO ?_;refine⟨_,(by show (au _ _ _).run _=some _;simp only[go_sem];rfl),?_⟩)
     exact i8.own_nil _ _ (by decide)
   | some A=>
     refine qf func114 call114 ntmps114 results114 ?_;repeat refine sm ?_
     exact L0
 | cons d l=>
   have b:ek ((l.length+1)) 8:=aG (by simpa using c) (by omega);refine qf func114 call114 ntmps114 results114 ?_;have F:=b;exact fl
def tY(env:b7)(es:List (List AV))(c:es.length<=4096):cy prog env 47 [.seq 2 es] (.own 129 2 es):=by
 cases es with
 | nil=>
   refine cy.empty fun A a=> ?_;cases A with
   | none=>
     refine qw func47 call47 ntmps47 results47 ?_;repeat refine sm ?_
     (refine aO ?_;refine⟨_,(by show (au _ _ _).run _=some _;simp only[go_sem];rfl),?_⟩)
     exact i8.own_nil _ _ (by decide)
   | some A=>
     refine qf func47 call47 ntmps47 results47 ?_;repeat refine sm ?_
     exact L0
 | cons d l=>
   have b:ek ((l.length+1)) 16:=aG (by simpa using c) (by omega);refine qf func47 call47 ntmps47 results47 ?_;have F:=b;exact fl
def Dp(env:b7)(es:List (List AV))(c:es.length<=4096):cy prog env 45 [.seq 2 es] (.own 125 2 es):=by
 cases es with
 | nil=>
   refine cy.empty fun A a=> ?_;cases A with
   | none=>
     refine qw func45 call45 ntmps45 results45 ?_;repeat refine sm ?_
     (refine aO ?_;refine⟨_,(by show (au _ _ _).run _=some _;simp only[go_sem];rfl),?_⟩)
     exact i8.own_nil _ _ (by decide)
   | some A=>
     refine qf func45 call45 ntmps45 results45 ?_;repeat refine sm ?_
     exact L0
 | cons d l=>
   have b:ek ((l.length+1)) 24:=aG (by simpa using c) (by omega);refine qf func45 call45 ntmps45 results45 ?_;have F:=b;exact fl
/-! Few of all -/
def Vz(l:List n9):Prop:=l.length<=4096/\ ∀a∈l,a.code.length<=4096
structure h9(c:aq):Prop where
 vars:c.vars.length<=4096
 sts:c.Z9.length<=4096
 trs:c.trans.length<=4096
 st: ∀s∈c.Z9,Vz s.ZW/\Vz s.out
 tr: ∀t∈c.trans,t.guard.length<=4096/\Vz t.ZZ
def xE{l:List mw}{vs ss:Int}(h:cP l vs ss=true):l.length<=32:=by
 unfold cP iu at h;split at h
 ·simp at h
 omega
def qD{c b:Int}{l:List n9}(h:eR c b l=true):Vz l:=by
 unfold eR at h;rw[OJ,OR,OP]at h;refine⟨by omega,fun a f=> ?_⟩;have d:=h.2 a f;unfold iM at d;by_cases e:a.code=[]
 ·rw[e];simp
 have:cP a.code c b=true:=by
  revert d
  cases cP a.code c b<;>simp[e]
 have:=xE this;omega
def Au{c:aq}(h:(qs c).1=0):h9 c:=by
 have j:=Az h;unfold qs at h;split at h
 ·simp at h
 rename_i i;split at h
 ·simp at h
 split at h
 ·simp at h
 split at h
 ·simp at h
 rename_i b;split at h
 ·simp at h
 split at h
 ·simp at h
 rename_i d;refine⟨by omega,by omega,by omega,fun s f=> ?_,fun t g=> ?_⟩
 ·obtain⟨k,a⟩:=QB.1 f;have:=cX b k (OG.1 a).1;unfold lm at this;rw[a]at this;simp only[cG,OJ]at this;exact⟨qD this.1.2,qD this.2⟩
 obtain⟨k,a⟩:=QB.1 g;have:=cX d k (OG.1 a).1;unfold rJ at this;rw[a]at this;simp only[d9,OJ,PS]at this;refine⟨?_,qD this.1.2⟩;rcases this.1.1.2 with e|e
 ·have:t.guard=[]:=by simpa using e
  rw[this];simp
 have:=xE e;omega
def kB(env:b7)(l:List n9)(k:Vz l):cy prog env 46 [oj l] (.own 181 4 (l.map bg)):=by
 have q:=k.1;refine qf func46 call46 ntmps46 results46 ?_;repeat refine sm ?_
 refine am 3 3 181 4 ?_;refine UC l.length (by omega) (fun j o=>[(3, .row 3 (o 3)),(6,oj l),(7,I l.length),(8,I j)]) (fun j _=>[(3,⟨4,(l.take j).map bg,181,true⟩)]) (fun j _ b=>b 3=false) rfl ?_ ?_
 ·rintro j p b c e m d;obtain⟨a,f⟩:=gE c;have f0:=tY env (a.code.map cE) (by rw[O4];exact k.2 a (OM f));have i:(l.take j).length=j:=by rw[OZ];omega
  have n:ek (j+1) 56:=aG (by omega) (by omega);have h:l.take (j+1)=l.take j++[a]:=by rw[Ot,f];rfl
  have F:=vb WU e m f i n d;repeat refine g8 f0 ?_
  refine⟨j+1,⟨c,by simp only[go_sem,d]⟩,?_,?_,by omega⟩
  ·exact qe
  have F:=jw WU h @Oa.{0,0};exact qe
 rintro p b e d;have g:l.take l.length=l:=Ob;have F:=jw e g d;exact fl
def pZ(env:b7)(c:aq)(p:h9 c):cy prog env 16 [.agg (aA c)] (.agg (aA c)):=by
 have w:=p.sts;have x:=p.trs;have f0:=Dp env (c.vars.map iC) (by rw[O4];exact p.vars);refine qf func16 call16 ntmps16 results16 ?_;have F:=aA.eq_1;repeat refine g8 f0 ?_
 refine nC 3 9000 0 3 109 6 ?_;refine nC 3 9001 0 4 70 5 ?_
 refine aN (D:=Nat) (fun j e=>[(1, .loc 1 (e 1) 0 0),(2, .loc 2 (e 2) 0 0),(3, .loc 3 (e 3) 0 0),(17,u6 c.Z9),(18,I c.Z9.length),(19,I j)])
  (fun j e=>[(1,⟨5,[aA c],26,false⟩),(2,⟨5,[[Sg [],I 0,gb,gb,gb]],26,false⟩),(3,⟨5,[[Sg c.name,I c.initial, .row 14 (e 14), .row 9000 (e 9000), .row 9001 (e 9001)]],26,false⟩),(14,⟨2,c.vars.map iC,125,true⟩),(9000,⟨6,(c.Z9.take j).map aP,109,true⟩),(9001,⟨5,[],70,true⟩)])
  (fun j _ a=>j<=c.Z9.length/\a 2=false/\a 3=false/\a 14=false/\a 9000=false/\a 9001=false) (fun j=>c.Z9.length-j) 0 ?_ ?_ ?_ ?_
 ·refine⟨O6 _,?_,?_,?_,?_,?_⟩<;>simp only[go_sem]
 ·exact qe
 ·have F:=aA.eq_1;exact qe
 rintro j y a ⟨v,f,g,h,i,k⟩;by_cases b:j<c.Z9.length
 ·obtain⟨s,d⟩:=gE b;have l:=mc b;have r:=aD b (by omega);have f1:=kB env s.ZW (p.st s (OM d)).1;have f2:=kB env s.out (p.st s (OM d)).2;have o:(c.Z9.take j).length=j:=by rw[OZ];omega
  have u:ek (j+1) 88:=aG (by omega) (by omega);have n:c.Z9.take (j+1)=c.Z9.take j++[s]:=by rw[Ot,d];rfl
  have F:=fb WH WI l r d o u f g h i k;repeat refine PJ f1 f2 ?_
  refine⟨j+1,⟨b,?_,?_,?_,?_,?_⟩,?_,?_,by omega⟩;all_goals (first|(show _=false;simp only[go_sem,f,g,h,i,k];done)|skip)
  ·exact qe
  have F:=y' WH WI n @Oa.{0,0} f g h i k;exact qe
 obtain rfl:j=c.Z9.length:=by omega
 have l:=nl c.Z9.length;have m:c.Z9.take c.Z9.length=c.Z9:=Ob;have F:=L7 WH l m f g h i k;repeat refine st ?_
 refine aN (D:=Nat) (fun j e=>[(1, .loc 1 (e 1) 0 0),(2, .loc 2 (e 2) 0 0),(3, .loc 3 (e 3) 0 0),(39,CD c.trans),(40,I c.trans.length),(41,I j)])
  (fun j e=>[(1,⟨5,[aA c],26,false⟩),(2,⟨5,[[Sg [],I 0,gb,gb,gb]],26,false⟩),(3,⟨5,[[Sg c.name,I c.initial, .row 14 (e 14), .row 9000 (e 9000), .row 9001 (e 9001)]],26,false⟩),(14,⟨2,c.vars.map iC,125,true⟩),(9000,⟨6,c.Z9.map aP,109,true⟩),(9001,⟨5,(c.trans.take j).map cN,70,true⟩)])
  (fun j _ a=>j<=c.trans.length/\a 2=false/\a 3=false/\a 14=false/\a 9000=false/\a 9001=false) (fun j=>c.trans.length-j) 0 ?_ ?_ ?_ ?_
 ·refine⟨O6 _,?_,?_,?_,?_,?_⟩<;>simp only[go_sem,f,g,h,i,k]
 ·exact qe
 ·have F:=aA.eq_1;exact qe
 try clear f g h i k
 rintro j y a ⟨v,f,g,h,i,k⟩;by_cases b:j<c.trans.length
 ·obtain⟨t,d⟩:=gE b;have l:=mc b;have r:=aD b (by omega);have q:=p.tr t (OM d);have f1:=tY env (t.guard.map cE) (by rw[O4];exact q.1);have f2:=kB env t.ZZ q.2;have o:(c.trans.take j).length=j:=by rw[OZ];omega
  have u:ek (j+1) 80:=aG (by omega) (by omega);have n:c.trans.take (j+1)=c.trans.take j++[t]:=by rw[Ot,d];rfl
  have F:=fb WH WP l r d o u f g h i k;repeat refine PJ f1 f2 ?_
  refine⟨j+1,⟨b,?_,?_,?_,?_,?_⟩,?_,?_,by omega⟩;all_goals (first|(show _=false;simp only[go_sem,f,g,h,i,k];done)|skip)
  ·exact qe
  have F:=y' WH WP n @Oa.{0,0} f g h i k;exact qe
 obtain rfl:j=c.trans.length:=by omega
 have l:=nl c.trans.length;have m:c.trans.take c.trans.length=c.trans:=Ob;have F:=L7 WH l m f g h i k;exact fl
end
section
def gB(s:List UInt8):List AV:=[Sg s]
def Xl:=@gB.eq_1
def l7(l:List (List UInt8)):bI (l.map Eb)=l.map gB:=by
 unfold bI;rw[Q1];rfl
def bb(c:aq)(j:Nat):List (List UInt8):=((c.trans.take j).map (·.Z7)).filter fun e=> !e.isEmpty
def Th(c:aq):List (List UInt8):=Lib.compact (gQ (bb c c.trans.length))
def Cu{c:aq}{j:Nat}{t:Fr}(h:c.trans[j]? =some t):bb c (j+1)=if t.Z7.isEmpty then bb c j else bb c j++[t.Z7]:=by
 unfold bb;rw[Ot,h,Oa,PH];cases a:t.Z7.isEmpty<;>simp[a]
def pd(c:aq)(j:Nat):(bb c j).length<=j:=by
 unfold bb;exact O3 (Ol ..) (by simp;omega)
def Da(env:b7)(c:aq)(p:c.trans.length<=1000000):cy prog env 17 [.agg (aA c)] (.own 9 1 ((Th c).map gB)):=by
 refine qf func17 call17 ntmps17 results17 ?_;have F:=aA.eq_1;repeat refine st ?_
 refine am 3 3 9 1 ?_;refine aN (D:=Nat) (fun j o=>[(3, .row 3 (o 3)),(7,CD c.trans),(8,I c.trans.length),(9,I j)]) (fun j _=>[(3,⟨1,(bb c j).map gB,9,true⟩)]) (fun j _ e=>j<=c.trans.length/\e 3=false) (fun j=>c.trans.length-j) 0 ?_ ?_ ?_ ?_
 ·exact⟨O6 _,rfl⟩
 ·exact qe
 ·(simp only[go_sem,F])
  rfl
 rintro j r e ⟨q,a⟩;by_cases b:j<c.trans.length
 ·obtain⟨t,k⟩:=gE b;have f:=mc b;have l:=aD b (by omega);have h:=Cu k;have n:=pd c j;have m:ek ((bb c j).length+1) 16:=⟨by omega,by omega⟩;cases g:t.Z7.isEmpty with
  | true=>
    rw[g,OL rfl]at h;have d:(t.Z7 == [])=true:=by simpa using g
    have F:=pf WP f l k d a;repeat refine st ?_
    refine⟨j+1,⟨b,by simp only[go_sem,a]⟩,?_,?_,by omega⟩
    ·exact qe
    have F:=h;exact qe
  | false=>
    rw[g,OK P3]at h;have d:(t.Z7 == [])=false:=by simpa using g
    have F:=vb WP f l k d m a;repeat refine st ?_
    refine⟨j+1,⟨b,by simp only[go_sem,a]⟩,?_,?_,by omega⟩
    ·exact qe
    have F:=jw h Xl @Oa.{0,0};exact qe
 obtain rfl:j=c.trans.length:=by omega
 have f:=nl c.trans.length;have n:=pd c c.trans.length;have F:=ai f a;repeat refine st ?_
 have f1:=zn (bb c c.trans.length) (by omega);have i:(gQ (bb c c.trans.length)).length<=9223372036854775807:=by simp[gQ];omega
 have f2:=Dl (gQ (bb c c.trans.length)) i;refine oU 3 rfl (row:=⟨1,(bb c c.trans.length).map gB,9,true⟩) f1 (PD 0) rfl (l7 _).symm (by simp only[go_sem,a];exact iR) (by simp only[go_sem,a];exact iR) (by simp only[go_sem,a];exact iR) (by simp only[go_sem,a];exact iR) ?_;rw[l7];repeat refine st ?_
 refine uj 3 rfl (row:=⟨1,(gQ (bb c c.trans.length)).map gB,9,true⟩) f2 (PD 0) rfl (l7 _).symm (by simp only[go_sem,a];exact iR) (by simp only[go_sem,a];exact iR) (by simp only[go_sem,a];exact iR) (by simp only[go_sem,a];exact iR) iR ?_;rw[l7];repeat refine st ?_
 (refine aO ?_;show (au _ _ _).run _=some _;simp only[go_sem,F])
 rfl
end
section
def fh: ∀a:List UInt8,Op.bytesLess a a=false
 |[]=>rfl
 |x::a=>by simp[Op.bytesLess,fh a]
def ej: ∀ {a b c:List UInt8},Op.bytesLess a b=true->Op.bytesLess b c=true->Op.bytesLess a c=true
 |_,[],_,h,_=>by simp[Op.bytesLess]at h
 |_,_::_,[],_,h=>by simp[Op.bytesLess]at h
 |[],_::_,_::_,_,_=>rfl
 | x::a,y::b,z::c,h,k=>by
   simp only[Op.bytesLess,PS,OR,OJ,P4]at h k |-;rcases h with h|⟨h,e⟩
   ·rcases k with k|⟨k,d⟩
    ·exact .inl (UInt8.lt_trans h k)
    exact .inl (k ▸ h)
   rcases k with k|⟨k,d⟩
   ·exact .inl (h ▸ k)
   exact .inr ⟨h.trans k,ej e d⟩
def eu: ∀ {a b:List UInt8},Op.bytesLess a b=false->Op.bytesLess b a=false->a=b
 |[],[],_,_=>rfl
 |[],_::_,h,_=>by simp[Op.bytesLess]at h
 |_::_,[],_,h=>by simp[Op.bytesLess]at h
 | x::a,y::b,h,k=>by
   simp only[Op.bytesLess,Bool.or_eq_false_iff,Ov,Bool.and_eq_false_iff]at h k;have e:x=y:=UInt8.le_antisymm (UInt8.not_lt.1 k.1) (UInt8.not_lt.1 h.1);subst e;simp only[TO,Bool.true_eq_false,false_or]at h k;rw[eu h.2 k.2]
def ue{a b:List UInt8}(h:Op.bytesLess a b=true):Op.bytesLess b a=false:=by
 cases k:Op.bytesLess b a
 ·rfl
 have:=ej h k;rw[fh]at this;cases this
end
section
abbrev C':=List UInt8
abbrev SL(a b:C'):Prop:=Op.bytesLess a b=true
/-! Texts in the order of bytes -/
def Mt: ∀(x y:C'),Op.bytesLess x y=decide (x<y)
 |[],[]=>by simp[Op.bytesLess]
 |_::_,[]=>by simp[Op.bytesLess]
 |[],_::_=>by simp[Op.bytesLess]
 | a::x,b::y=>by
   rw[Op.bytesLess,Mt x y];simp only[List.cons_lt_cons_iff];by_cases c:a<b<;>by_cases d:a=b<;>by_cases e:x<y<;>simp[c,d,e]
def LX(x y:C'):decide (x<=y)= !Op.bytesLess y x:=by
 rw[Mt, <-decide_not];rfl
def AY{a b c:C'}(f:Op.bytesLess b a=false)(d:Op.bytesLess c b=false):Op.bytesLess c a=false:=by
 cases k:Op.bytesLess c a
 ·rfl
 cases e:Op.bytesLess a b
 ·rw[<-eu e f,k]at d;cases d
 rw[ej k e]at d;cases d
def Ar(l:List C'):(gQ l).Pairwise fun a b=>Op.bytesLess b a=false:=by
 have:=SP (le:=fun x y:C'=>decide (x<=y)) (fun a b c d e=>by
  simp only[LX,PT]at*;exact AY d e) (fun a b=>by
  simp only[LX];cases k:Op.bytesLess b a
  ·simp
  rw[ue k];simp) l
 exact this.imp fun {a b} h=>by simpa[LX]using h
def GK{l:List C'}{x:C'} :x∈gQ l↔x∈l:=List.mem_mergeSort
def qA(l:List C')(i:l.Pairwise fun a b=>Op.bytesLess b a=false): ∀m,m<=l.length->(Lib.compactUpTo l.toArray m).Pairwise SL/\ ∀x,x∈Lib.compactUpTo l.toArray m↔x∈l.take m
 |0,_=>by simp[Lib.compactUpTo]
 | m+1,v=>by
   obtain⟨o,f⟩:=qA l i m (by omega);have d:l.toArray[m]! =l[m]'(by omega):=by rw[Qr _ m (by simp;omega)];rfl
   have n:l.take (m+1)=l.take m++[l[m]'(by omega)]:=by rw[Ot,OE (by omega)];rfl
   have c: ∀k (hk:k<m),Op.bytesLess (l[m]'(by omega)) (l[k]'(by omega))=false:=fun k hk=>Ow.1 i k m (by omega) (by omega) hk;rw[Lib.compactUpTo_succ,d];by_cases hk:Lib.keeps l.toArray m=true
   ·rw[OL hk];refine⟨Qs.2 ⟨o,Rb ..,fun x p y u=> ?_⟩,fun x=>by rw[n,Of,Of,f]⟩;rw[O2.1 u];rw[f,Ry]at p;obtain⟨k,s,rfl⟩:=p;have g:k<m:=by omega
    show Op.bytesLess _ _=true;cases t:Op.bytesLess (l[k]'(by omega)) (l[m]'(by omega)) with
    |true=>rfl
    | false=>
      have e:=eu t (c k g)
      exfalso
      unfold Lib.keeps at hk;rw[OR]at hk;rcases hk with hk|hk
      ·omega
      apply hk;rw[d,Qr _ (m-1) (by simp;omega)];show l[m]'(by omega)=l[m-1]'(by omega);have q:=c (m-1) (by omega);by_cases r:k=m-1
      ·subst r;exact e.symm
      have j:=Ow.1 i k (m-1) (by omega) (by omega) (by omega);rw[e]at j;exact eu q j
   rw[OK hk,P9];refine⟨o,fun x=> ?_⟩;rw[f,n,Of,O2];refine⟨.inl,fun h=>h.elim id fun h=> ?_⟩;unfold Lib.keeps at hk;rw[OR,TA,SR,d,Qr _ (m-1) (by simp;omega)]at hk;rw[h,hk.2];exact Ry.2 ⟨m-1,by omega,rfl⟩
def yc(c:aq):(Th c).Pairwise SL:=(qA _ (Ar _) _ (OO _)).1
def zK{c:aq}{s:C'} :s∈Th c↔s≠[]/\ ∃t∈c.trans,t.Z7=s:=by
 unfold Th Lib.compact;rw[(qA _ (Ar _) _ (OO _)).2,Ob,GK];unfold bb;rw[Ob,OY,OW];constructor
 ·rintro⟨⟨t,a,b⟩,d⟩;exact⟨by simpa using d,t,a,b⟩
 rintro⟨h,t,a,b⟩;exact⟨⟨t,a,b⟩,by simpa using h⟩
def MN(c:aq):(Th c).length<=c.trans.length:=by
 have a:(Lib.compact (gQ (bb c c.trans.length))).length<=(gQ (bb c c.trans.length)).length:=by
  unfold Lib.compact Lib.compactUpTo;rw[O4];exact O3 (Ol ..) (by simp)
 have b:=pd c c.trans.length;unfold Th;have d:(gQ (bb c c.trans.length)).length=(bb c c.trans.length).length:=by simp[gQ]
 omega
/-! Where a text stands, or would stand -/
def sS(l:List C')(x:C'):Nat:=(l.filter fun y=>Op.bytesLess y x).length
def Wu(l:List C')(x:C')(p:Nat):Prop:=p<=l.length/\ ∀k y,l[k]? =some y->(Op.bytesLess y x=true↔k<p)
def yC: ∀ {l:List C'},l.Pairwise SL-> ∀x,Wu l x (sS l x)
 |[],_,x=>⟨O6 _,fun k y h=>by simp at h⟩
 | a::l,h,x=>by
   obtain⟨g,i⟩:=Ps.1 h;obtain⟨n,m⟩:=yC i x;unfold sS at*;rw[QH];by_cases c:Op.bytesLess a x=true
   ·rw[OL c,OU];refine⟨by simp only[OU];omega,fun k y b=> ?_⟩;cases k with
    | zero=>
      obtain rfl:a=y:=by simpa using b
      exact⟨fun _=>by omega,fun _=>c⟩
    | succ k=>
      rw[m k y (by simpa using b)];omega
   ·rw[OK c];have d: ∀y∈l,¬Op.bytesLess y x=true:=fun y j f=>c (ej (g y j) f);have e:(l.filter fun y=>Op.bytesLess y x)=[]:=Q5.2 d;rw[e];refine⟨O6 _,fun k y b=>⟨fun f=> ?_,fun b=>by simp at b⟩⟩;cases k with
    | zero=>
      obtain rfl:a=y:=by simpa using b
      exact absurd f c
    |succ k=>exact absurd f (d y (OM (by simpa using b)))
def Kq{l:List C'}(h:l.Pairwise SL){x:C'}(i:x∈l):l[sS l x]? =some x:=by
 obtain⟨j,d⟩:=yC h x;obtain⟨k,a⟩:=QB.1 i;have b:=(d k x a);rw[fh]at b;have b: ¬k<sS l x:=fun e=>by simpa using b.2 e
 have c:=(OG.1 a).1;by_cases e:k=sS l x
 ·rw[<-e];exact a
 have g:sS l x<l.length:=by omega
 have f:=Ow.1 h (sS l x) k g c (by omega);rw[(OG.1 a).2]at f;have:=(d _ _ (OE g)).1 f;omega
def U3(c:aq)(s:C'):Int:=if (Th c)[sS (Th c) s]? =some s then(sS (Th c) s:Nat) else -1
def vF{c:aq}{s:C'}(h:s∈Th c): ∃k:Nat,U3 c s=k/\(Th c)[k]? =some s:=⟨sS (Th c) s,by unfold U3;rw[OL (Kq (yc c) h)],Kq (yc c) h⟩
def FX{c:aq}{s:C'}(h:s∉Th c):U3 c s= -1:=by
 unfold U3;rw[OK fun e=>h (OM e)]
def NS{c:aq}{s t:C'}(d:s∈Th c)(e:t∈Th c)(h:U3 c s=U3 c t):s=t:=by
 obtain⟨k,f,a⟩:=vF d;obtain⟨j,g,b⟩:=vF e;have:k=j:=by omega
 subst this;exact Pq (a.symm.trans b)
def yd(c:aq):U3 c []= -1:=FX fun h=>(zK.1 h).1 rfl
/-! A state's transitions -/
def dI(c:aq)(k:Nat):Int×Int:=match c.trans[k]? with
 |some t=>(t.src,U3 c t.Z7)
 |none=>(-1, -1)
def ib(c:aq)(j:Nat)(p:Int×Int):List Nat:=(List.range j).filter fun k=>dI c k=p
def cf(c:aq):Nat->List (Int×Int)
 |0=>[]
 |j+1=>if dI c j∈cf c j then cf c j else cf c j++[dI c j]
def Vx(c:aq)(i e:Int):List Nat:=ib c c.trans.length (i,e)
def o9(c:aq)(j:Nat)(p:Int×Int):ib c (j+1) p=if dI c j=p then ib c j p++[j] else ib c j p:=by
 unfold ib;rw[Qe,PH];by_cases h:dI c j=p<;>simp[h]
def oo{c:aq}{p:Int×Int} : ∀ {j:Nat},p∈cf c j↔ ∃k,k<j/\dI c k=p
 |0=>by simp[cf]
 | j+1=>by
   unfold cf;split
   ·rename_i h;rw[oo];constructor
    ·rintro⟨k,b,a⟩;exact⟨k,by omega,a⟩
    rintro⟨k,b,a⟩;by_cases e:k=j
    ·subst e;rw[<-a];exact oo.1 h
    exact⟨k,by omega,a⟩
   rw[Of,oo,O2];constructor
   ·rintro(⟨k,b,a⟩|h)
    ·exact⟨k,by omega,a⟩
    exact⟨j,by omega,h.symm⟩
   rintro⟨k,b,a⟩;by_cases e:k=j
   ·subst e;exact .inr a.symm
   exact .inl ⟨k,by omega,a⟩
def nH(c:aq): ∀j,(cf c j).Nodup
 |0=> .nil
 | j+1=>by
   unfold cf;split
   ·exact nH c j
   rename_i h;exact QJ.2 ⟨nH c j,by simp,fun a d b f e=>h (by rw[O2.1 f]at e;exact e ▸ d)⟩
def uA{c:aq}{j:Nat}{p:Int×Int}(h:p∉cf c j):ib c j p=[]:=by
 unfold ib;rw[Q5];intro k a;simp only[OR];exact fun e=>h (oo.2 ⟨k,Oh.1 a,e⟩)
def Ef(c:aq)(j:Nat)(p:Int×Int):(ib c j p).length<=j:=by
 unfold ib;exact O3 (Ol ..) (by simp)
def rW(p:Int×Int):List (Int×Int)->Nat->Option Nat
 |[],_=>none
 |q::l,i=>if p=q then some i else rW p l (i+1)
def pw{p:Int×Int} : ∀ {l:List (Int×Int)}{i n:Nat},rW p l i=some n->i<=n/\l[n-i]? =some p
 |[],i,n,h=>by simp[rW]at h
 | q::l,i,n,h=>by
   unfold rW at h;split at h
   ·rename_i e;obtain rfl:i=n:=by simpa using h
    simp[e]
   obtain⟨b,a⟩:=pw h;refine⟨by omega,?_⟩;rw[show n-i=(n-(i+1))+1 by omega,Pw];exact a
def lh{p:Int×Int} : ∀ {l:List (Int×Int)}{i:Nat},rW p l i=none->p∉l
 |[],i,h=>by simp
 | q::l,i,h=>by
   unfold rW at h;split at h
   ·cases h
   rename_i e;rw[O7];exact fun a=>a.elim e (lh h)
def LO{c:aq}(i:Int)(s:C')(h:s=[]\/s∈Th c):Vx c i (U3 c s)=(List.range c.trans.length).filter fun k=>match c.trans[k]? with|some t=>decide (t.src=i/\t.Z7=s)|none=>false:=by
 unfold Vx ib;apply QK;intro k d;have d:=Oh.1 d;have f:c.trans[k]? =some c.trans[k]:=OE d;unfold dI;rw[f];simp only[RU]
 congr 1
 generalize j:c.trans[k]=t at*;have b:t∈c.trans:=OM f;apply propext;refine and_congr_right fun _=>⟨fun e=> ?_,fun e=>by rw[e]⟩;rcases h with rfl|h
 ·rw[yd]at e;by_cases a:t.Z7=[]
  ·exact a
  obtain⟨k,g,_⟩:=vF (zK.2 ⟨a,t,b,rfl⟩);omega
 obtain⟨k,g,_⟩:=vF h;by_cases a:t.Z7=[]
 ·rw[a,yd]at e;omega
 exact NS (zK.2 ⟨a,t,b,rfl⟩) h e
end
section
def BL(env:b7)(s:List UInt8):cy prog env 107 [Sg s] (B false):=by
 refine qf func107 call107 ntmps107 results107 ?_;repeat refine sm ?_
 exact L0
def JV(env:b7)(s:List UInt8):cy prog env 149 [Sg s] (B false):=by
 refine qf func149 call149 ntmps149 results149 ?_;repeat refine sm ?_
 exact L0
def HZ(env:b7)(s t:List UInt8):cy prog env 106 [Sg s,Sg t] (B (Op.bytesLess s t)):=by
 have f0:=JV env s;refine qf func106 call106 ntmps106 results106 ?_;repeat refine nf f0 ?_
 exact L0
def AX(env:b7)(l:List (List UInt8))(x:List UInt8)(p:Nat)(C:Wu l x p)(H:l.length<=1000000):cy prog env 50 [.seq 1 (l.map gB),Sg x] (.tuple [I p,B (l[p]? == some x)]):=by
 have f0:=BL env x;refine qf func50 call50 ntmps50 results50 ?_;repeat refine sm ?_
 refine Wp (D:=Nat×Nat) (fun d _=>[(0, .seq 1 (l.map gB)),(1,Sg x),(6,I l.length),(7,I d.1),(8,I d.2)]) (fun _ _=>[]) (fun d _ _=>d.1<=p/\p<=d.2/\d.2<=l.length) (fun d=>d.2-d.1) (0,l.length) ⟨O6 _,C.1,OO _⟩ ?_;rintro⟨i,j⟩ J E ⟨u,v,w⟩;simp only at u v w;by_cases m:i<j
 ·have f:=mc m;have A:(i+j)/2<l.length:=by omega
  obtain⟨y,b⟩: ∃y,l[(i+j)/2]? =some y:=⟨l[(i+j)/2],OE A⟩;have a:=C.2 _ _ b;have f1:=HZ env y x;have c:IntKind.i64.wrap ((i:Int)+(j:Int))=((i+j:Nat):Int):=by rw[bB (by omega) (by omega)];omega
  have q:IntKind.u64.wrap ((i+j:Nat):Int)=((i+j:Nat):Int):=Tj _ (by omega)
  have r:IntKind.i64.wrap (((i+j:Nat):Int).fdiv (2^min 1 64))=(((i+j)/2:Nat):Int):=by
   rw[show ((i+j:Nat):Int).fdiv (2^min 1 64)=(((i+j)/2:Nat):Int) from(Te (i+j) 2).symm,bB (by omega) (by omega)]
  have s:(((i+j)/2:Nat):Int)< (l.length:Int):=by omega
  have t:=aD (k:=(i+j)/2) (n:=l.length) A (by omega);generalize G:(i+j)/2=o at*;cases e:Op.bytesLess y x with
  | true=>
    rw[e]at f1 a;have:=a.1 rfl;have F:=L7 f c q r s t b Xl;repeat refine g8 f1 ?_
    refine⟨(o+1,j),⟨?_,?_,?_⟩,?_,?_,?_⟩
    ·simp only;omega
    ·exact v
    ·exact w
    ·exact qe
    ·exact qe
    simp only;omega
  | false=>
    rw[e]at f1 a;have: ¬o<p:=fun h=>by cases a.2 h
    have F:=L7 f c q r s t b Xl;repeat refine g8 f1 ?_
    refine⟨(i,o),⟨?_,?_,?_⟩,?_,?_,?_⟩
    ·exact u
    ·simp only;omega
    ·simp only;omega
    ·exact qe
    ·exact qe
    simp only;omega
 obtain rfl:i=j:=by omega
 obtain rfl:i=p:=by omega
 have f:=nl i;by_cases z:i<l.length
 ·have c:=mc z;obtain⟨y,b⟩:=gE z;have f1:=BL env y;cases e:(y==x) with
  | true=>
    have g:(l[i]? == some x)=true:=by rw[b];simpa using e
    rw[g];have F:=ld f c b e Xl;exact po f0 f1
  | false=>
    have g:(l[i]? == some x)=false:=by rw[b];simpa using e
    rw[g];have F:=ld f c b e Xl;exact po f0 f1
 have c: ¬(i:Int)< (l.length:Int):=by omega
 have g:(l[i]? == some x)=false:=by rw[OT (by omega)];rfl
 rw[g];have F:=jw f c Xl;exact nb f0
end
section
def nT(env:b7)(c:aq)(h:cD c): ∀(n i:Nat),i<c.Z9.length->c.Z9.length<=i+n->cy prog env 20 [.agg (aA c),I i] (.own 3 1 ((Fk c i).map aB))
 |0,i,A,O=>by omega
 | n+1,i,A,O=>by
   have G:=h.Z6;obtain⟨s,o⟩:=gE A;have a:=Mu h o;have f:=LM h A;have w:((i:Nat):Int)< (c.Z9.length:Int):=by omega
   by_cases g:s.kind=1
   ·by_cases b:0<=s.initial
    ·obtain⟨j,L,E⟩:=yS h o g b;have R:=bK h.toRight (ae L).1;rw[OL ⟨g,b⟩,E,Pd]at a;have f0:=nT env c h n j (by omega) (by omega);rw[a]at f;have z:ek (1+(Fk c j).length) 8:=aG (by simp at f;omega) (by omega);rw[a];refine qf func20 call20 ntmps20 results20 ?_;have F:=L7 WH WI o g E w WJ z;exact nb f0
    rw[OK fun e=>b e.2,OK (by omega)]at a;rw[a];refine qf func20 call20 ntmps20 results20 ?_;have F:=vb WH WI o g b w WJ;exact fl
   rw[OK fun e=>g e.1]at a;have p:(s.kind==1)=false:=by simpa using g
   by_cases b:s.kind=2
   ·rw[OL b]at a;have f1:=gf env c i (by omega);generalize y:aw c i true=K at*
    have q: ∀k∈K,i<k/\k<c.Z9.length:=fun k l=>by
     rw[<-y]at l;have:=bK h.toRight (ae l).1;omega
    have J:K.length<=32:=by
     have:=(bQ c i true).length_le_of_subset (l₂:=List.range c.Z9.length) fun m N=>Oh.2 (q m (y ▸ N)).2;rw[y]at this;simp at this;omega
    have t: ∀j,(i::(K.take j).flatMap (Fk c)).length<=32:=fun j=>by
     have e:(K.take j).flatMap (Fk c)++(K.drop j).flatMap (Fk c)=K.flatMap (Fk c):=by rw[<-QC,Qn]
     have:=Oj List.length e;rw[a]at f;simp only[OU,ON]at*;omega
    refine qf func20 call20 ntmps20 results20 ?_;have F:=vb WH WI o p b w WJ;repeat refine g8 f1 ?_
    have F:=jw WH WJ @List.flatMap_nil.{0,0};refine lq K.length (by omega) (fun j D=>[(2, .loc 2 (D 2) 0 0),(5, .row 10 (D 10)),(37, .row 37 (D 37)),(38,I K.length),(39,I j)]) (fun j _=>[(2,⟨5,[aA c],26,false⟩),(10,⟨1,(i::(K.take j).flatMap (Fk c)).map aB,3,true⟩),(37,⟨1,K.map aB,3,true⟩)]) (fun j _ d=>d 10=false) rfl ?_ ?_
    ·rintro j Q d r C P v;obtain⟨k,l⟩:=gE r;have M:=q k (OM l);have f0:=nT env c h n k (by omega) (by omega);have u:(K.take (j+1)).flatMap (Fk c)=(K.take j).flatMap (Fk c)++Fk c k:=by rw[Ot,l,QC];simp
     have H:=t (j+1);rw[u]at H;have z:ek (((K.take j).flatMap (Fk c)).length+1+(Fk c k).length) 8:=aG (by simp only[OU,ON]at H;omega) (by omega);have F:=vb WH WJ l C P z v;repeat refine g8 f0 ?_
     refine⟨j+1,⟨r,by simp only[go_sem,v]⟩,?_,?_,by omega⟩
     ·exact qe
     have F:=mX WH WJ u @Oa.{0,0};exact qe
    rintro Q d C v;have B:K.take K.length=K:=Ob;rw[a];have F:=mX WJ C B v;exact fl
   rw[OK b]at a;have x:(s.kind==2)=false:=by simpa using b
   rw[a];refine qf func20 call20 ntmps20 results20 ?_;have F:=vb WH WI o p x w WJ;exact fl
def wq(env:b7)(c:aq)(b:c.trans.length<=1000000)(x y:AV)(s:List UInt8):cy prog env 18 [.ref 9 [[Sg c.name,I c.initial,ur c.vars,u6 c.Z9,CD c.trans,aS c, .seq 1 ((Th c).map gB),x,y]] 0 0,Sg s] (I (U3 c s)):=by
 have d:=MN c;have f0:=AX env (Th c) s (sS (Th c) s) (yC (yc c) s) (by omega);unfold U3;by_cases h:(Th c)[sS (Th c) s]? =some s
 ·have a:((Th c)[sS (Th c) s]? == some s)=true:=by simpa using h
  rw[a]at f0;rw[OL h];refine qf func18 call18 ntmps18 results18 ?_;repeat refine nf f0 ?_
  exact L0
 have a:((Th c)[sS (Th c) s]? == some s)=false:=by simpa using h
 rw[a]at f0;rw[OK h];refine qf func18 call18 ntmps18 results18 ?_;repeat refine nf f0 ?_
 exact L0
end
end Go.Proofs.YtfcdkaolcdglmaaGreatDoor
