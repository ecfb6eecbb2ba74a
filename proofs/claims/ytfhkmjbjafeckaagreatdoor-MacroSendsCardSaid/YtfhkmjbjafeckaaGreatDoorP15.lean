/- table.begins, table.Event. -/
import Derived.Test.YtfhkmjbjafeckaaGreatDoorP14
set_option maxRecDepth 100000
set_option maxHeartbeats 8000000
set_option linter.unusedSimpArgs false
set_option linter.defProp false
namespace Go.Proofs.YtfhkmjbjafeckaaGreatDoor
open Go.Proofs.Tryz
section
open Go.RowKit Go.ChangeShapes Go.WideShapes Go.ChangeAt
def fe(m:ds):List AV:=[I m.1, .seq 1 (m.2.map aa)]
def UH:=@fe.eq_1
def KN(m:ds):Prop:=m.2.length<=maxLen
def Ei:prog.cellsOf 33=1:=by kernel_rfl
def Li:prog.cellsOf 146=2:=by kernel_rfl
section
variable {H:Type} {enc:TypeId×Value->H} {w:World} {base:Nat} {spare:Nat->Bool} {held:Bool}
theorem PL(m:Nat)(cs:List Value)(y:DataW H×List MemPlace)(h:DataW.trod enc prog w base spare held m 3 cs=some y): ∃a:Int,RE w aa (fun _=>True) cs a:=by
 obtain⟨n,rfl, -, -⟩:=O4 Tryz.underlying3 h;exact⟨n,⟨⟨rfl, .lit _⟩,trivial⟩,trivial⟩
theorem SU.app{S:Nat->Nat->Prop}{w:World} : ∀ {vs c:List Value}{cs a:List AV},SU S w vs cs->SU S w c a->SU S w (vs++c) (cs++a)
 |[],_,[],_,_,h=>h
 |_::_,_,_::_,_,b,d=>⟨b.1,SU.app b.2 d⟩
end
end
section
open Go.RowKit
def Mi(a b:Nat)(h:b<=a)(c:a<9223372036854775808):IntKind.i64.wrap ((a:Int)-(b:Int))=((a-b:Nat):Int):=by rw[aW (by omega) (by omega)];omega
abbrev cf(l:List Int):AV:= .seq 1 (l.map aa)
def c0(t:List UInt8×Int):List AV:=[Sg t.1,I t.2]
def UG:=@c0.eq_1
def iu(r:Rc):List AV:=[cf r.Z4,cf r.vars, .seq 2 (r.mem.map fe), .seq 2 (r.timers.map c0),B r.over]
def UJ:=@iu.eq_1
def eK{a:Type}{l:List a}{i:Nat}{x d:a}(h:l[i]? =some x):l.getD i d=x:=by rw[NW,h];rfl
def Lx{a:Type}{l:List a}{i:Nat}{x:a}(h:l[i]? =some x):x∈l:=Mv h
def uP{i:Nat}{f:Nat->Bool}(a: ∀j,j<i->f j=true)(h:f i=true): ∀j,j<i+1->f j=true:=fun j b=>by
 by_cases e:j=i
 ·rw[e];exact h
 exact a j (by omega)
def pu: ∀a b:List UInt8,Op.bytesLess b a= !(Op.bytesLess a b||a==b)
 |[],[]=>rfl
 |[],_::_=>rfl
 |_::_,[]=>rfl
 | x::a,y::b=>by
   have i:=pu a b;simp only[Op.bytesLess,List.cons_beq_cons,i];by_cases h:x=y
   ·subst h;simp
   have g: ¬y=x:=fun e=>h e.symm;have c:(x==y)=false:=by simpa using h
   have d:(y==x)=false:=by simpa using g
   have f:decide (y<x)= !decide (x<y):=by
    rw[N4];simp[UInt8.lt_iff_toNat_lt];have:x.toNat≠y.toNat:=fun e=>h (UInt8.toNat_inj.1 e);omega
   simp[c,d,f]
def dd(s c:St):Prop:= ∀(x:py)(a:Act)(w:World)(m:ld),dT x s a w m-> ∃b,dT x c a w b
def dd.refl(s:St):dd s s:=fun _ _ _ m h=>⟨m,h⟩
def dd.trans{s b c:St}(h:dd s b)(k:dd b c):dd s c:=fun x a w m e=>by
 obtain⟨f,d⟩:=h x a w m e;exact k x a w f d
def dd.less{s a:St}(h:SM s a):dd s a:=fun _ _ _ m b=>⟨m,b.less h⟩
def dd.ren{s:St}(r r2:Nat)(row:Row)(a:r2≠r)(f:s.rows r=some row)(b:s.rows r2=none)(c:row.sz≠0)(e:row.pure=true):dd s (eQ s r r2 row):=fun _ _ _ _ d=>⟨_,d.ren r r2 row a f b c e⟩
def dd.sees{s:St}(L:List (Nat×Nat×AV))(a:rf s L):dd s (kk s L):=fun _ _ _ m b=>by
 obtain⟨c,k⟩:=b.sees L a;exact⟨_,k⟩
def dd.mapSee{s:St}(r:Nat)(row:Row)(d:s.rows r=some row)(a:row.sz=0)(b:row.es.all (·.all AV.bare)=true):dd s (zc s r (.fmap row.es)):=fun _ _ _ m c=>by
 obtain⟨e,k⟩:=c.mapSee r row d a b;exact⟨_,k⟩
def dd.head{s:St}{F:List (Nat×AV)}{R:List (Nat×Row)}(a:cV s F)(b:bw s R):dd s (Go.Proofs.YtfhkmjbjafeckaaGreatDoor.head F R s.vs s.esc):= .less (dR a b)
section
variable {P:Program} {env:b8} {nt:Nat} {Q:Exit->St->Prop} {s:St}
theorem eA{c:Code}(h:fp P env nt c (fun e p=> ∃b,dd p b/\Q e b) s):fp P env nt c Q s:=fun o x k l a w m j=>by
 refine PS (h o x k l a w m j) ?_;rintro e q u ⟨t,r,⟨b,d,f⟩,g⟩;obtain⟨n,i⟩:=d _ _ _ _ g;exact⟨b,n,f,i⟩
theorem fG{c:Code}{b:St}(i:dd s b)(h:fp P env nt c Q b):fp P env nt c Q s:=fun k x f g a w m e=>by
 obtain⟨j,d⟩:=i _ _ _ _ e;exact h k x f g a w j d
end
def kf:Nat->List Row->List (Nat×Row)
 |_,[]=>[]
 |b,r::l=>(b,r)::kf (b+1) l
def nz{t:Nat} : ∀ {l:List Row}{b:Nat},ap (kf b l) t=if b<=t then l[t-b]? else none
 |[],b=>by simp[kf,ap]
 | r::l,b=>by
   simp only[kf,ap,nz (l:=l)];by_cases h:t=b
   ·subst h;simp
   rw[Mt h];by_cases a:b<=t
   ·rw[Mw a,Mw (by omega),show t-b=(t-(b+1))+1 by omega,Og]
   rw[Mt a,Mt (by omega)]
def rk{s:St} : ∀ {l:List Row}{b:Nat},(∀q r,l[q]? =some r->s.rows (q+b)=some r)->bw s (kf b l)
 |[],b,h=>trivial
 | r::l,b,h=>⟨by have:=h 0 r rfl; rwa [OM] at this,rk fun q c a=>by
    have:=h (q+1) c (by simpa using a)
    rwa [show q+1+b=q+(b+1) by omega]at this⟩
def mz{p:Nat×Row} : ∀ {l:List Row}{b:Nat},p∈kf b l-> ∃q,l[q]? =some p.2/\p.1=q+b
 |[],b,h=>by simp[kf]at h
 | r::l,b,h=>by
   simp only[kf,NV]at h;rcases h with rfl|h
   ·exact⟨0,rfl,by simp⟩
   obtain⟨q,a,c⟩:=mz h;exact⟨q+1,by simpa using a,by omega⟩
end
section
open Go.RowKit
def dW(env:b8)(es:List (List AV))(c:es.length<=4096):b7 prog env 73 [.seq 1 es] (.own 3 1 es):=by
 cases es with
 | nil=>
   refine b7.empty fun A a=> ?_;cases A with
   | none=>
     refine qw func73 call73 ntmps73 results73 ?_;repeat refine m9 ?_
     (refine aM ?_;refine⟨_,(by show (aj _ _ _).run _=some _;simp only[go_sem];rfl),?_⟩)
     exact gA.own_nil _ _ (by decide)
   | some A=>
     refine qf func73 call73 ntmps73 results73 ?_;repeat refine m9 ?_
     exact oj
 | cons d l=>
   have b:cU ((l.length+1)) 8:=aC (by simpa using c) (by omega);refine qf func73 call73 ntmps73 results73 ?_;have F:=b;exact ek
def uB(env:b8)(es:List (List AV))(c:es.length<=4096):b7 prog env 87 [.seq 2 es] (.own 78 2 es):=by
 cases es with
 | nil=>
   refine b7.empty fun A a=> ?_;cases A with
   | none=>
     refine qw func87 call87 ntmps87 results87 ?_;repeat refine m9 ?_
     (refine aM ?_;refine⟨_,(by show (aj _ _ _).run _=some _;simp only[go_sem];rfl),?_⟩)
     exact gA.own_nil _ _ (by decide)
   | some A=>
     refine qf func87 call87 ntmps87 results87 ?_;repeat refine m9 ?_
     exact oj
 | cons d l=>
   have b:cU ((l.length+1)) 16:=aC (by simpa using c) (by omega);refine qf func87 call87 ntmps87 results87 ?_;have F:=b;exact ek
def EK(env:b8)(es:List (List AV))(c:es.length<=4096):b7 prog env 85 [.seq 2 es] (.own 140 2 es):=by
 cases es with
 | nil=>
   refine b7.empty fun A a=> ?_;cases A with
   | none=>
     refine qw func85 call85 ntmps85 results85 ?_;repeat refine m9 ?_
     (refine aM ?_;refine⟨_,(by show (aj _ _ _).run _=some _;simp only[go_sem];rfl),?_⟩)
     exact gA.own_nil _ _ (by decide)
   | some A=>
     refine qf func85 call85 ntmps85 results85 ?_;repeat refine m9 ?_
     exact oj
 | cons d l=>
   have b:cU ((l.length+1)) 24:=aC (by simpa using c) (by omega);refine qf func85 call85 ntmps85 results85 ?_;have F:=b;exact ek
/-! Few of all -/
def Tu(l:List j'):Prop:=l.length<=4096/\ ∀a∈l,a.code.length<=4096
structure g7(c:aq):Prop where
 vars:c.vars.length<=4096
 sts:c.Z9.length<=4096
 trs:c.trans.length<=4096
 st: ∀s∈c.Z9,Tu s.ZW/\Tu s.out
 tr: ∀t∈c.trans,t.guard.length<=4096/\Tu t.Z0
def xm{l:List l5}{vs ss:Int}(h:br l vs ss=true):l.length<=32:=by
 unfold br iY at h;split at h
 ·simp at h
 omega
def qN{c b:Int}{l:List j'}(h:eS c b l=true):Tu l:=by
 unfold eS at h;rw[Mu,NF,Mz]at h;refine⟨by omega,fun a f=> ?_⟩;have d:=h.2 a f;unfold gM at d;by_cases e:a.code=[]
 ·rw[e];simp
 have:br a.code c b=true:=by
  revert d
  cases br a.code c b<;>simp[e]
 have:=xm this;omega
def o8{c:aq}(h:(n5 c).1=0):g7 c:=by
 have j:=BP h;unfold n5 at h;split at h
 ·simp at h
 rename_i i;split at h
 ·simp at h
 split at h
 ·simp at h
 split at h
 ·simp at h
 rename_i b;split at h
 ·simp at h
 split at h
 ·simp at h
 rename_i d;refine⟨by omega,by omega,by omega,fun s f=> ?_,fun t g=> ?_⟩
 ·obtain⟨k,a⟩:=O6.1 f;have:=cj b k (Mr.1 a).1;unfold lw at this;rw[a]at this;simp only[cN,Mu]at this;exact⟨qN this.1.2,qN this.2⟩
 obtain⟨k,a⟩:=O6.1 g;have:=cj d k (Mr.1 a).1;unfold rW at this;rw[a]at this;simp only[da,Mu,OQ]at this;refine⟨?_,qN this.1.2⟩;rcases this.1.1.2 with e|e
 ·have:t.guard=[]:=by simpa using e
  rw[this];simp
 have:=xm e;omega
def jy(env:b8)(l:List j')(k:Tu l):b7 prog env 86 [jt l] (.own 81 4 (l.map bB)):=by
 have q:=k.1;refine qf func86 call86 ntmps86 results86 ?_;repeat refine m9 ?_
 refine ao 3 3 81 4 ?_;refine RK l.length (by omega) (fun j o=>[(3, .row 3 (o 3)),(6,jt l),(7,I l.length),(8,I j)]) (fun j _=>[(3,⟨4,(l.take j).map bB,81,true⟩)]) (fun j _ b=>b 3=false) rfl ?_ ?_
 ·rintro j p b c e m d;obtain⟨a,f⟩:=gE c;have f0:=uB env (a.code.map bX) (by rw[NQ];exact k.2 a (Mv f));have i:(l.take j).length=j:=by rw[NJ];omega
  have n:cU (j+1) 56:=aC (by omega) (by omega);have h:l.take (j+1)=l.take j++[a]:=by rw[N1,f];rfl
  have F:=mc UF e m f i n d;repeat refine fc f0 ?_
  refine⟨j+1,⟨c,by simp only[go_sem,d]⟩,?_,?_,by omega⟩
  ·exact qe
  have F:=gb UF h @NA.{0,0};exact qe
 rintro p b e d;have g:l.take l.length=l:=NR;have F:=gb e g d;exact ek
def pm(env:b8)(c:aq)(p:g7 c):b7 prog env 47 [.agg (aA c)] (.agg (aA c)):=by
 have w:=p.sts;have x:=p.trs;have f0:=EK env (c.vars.map iK) (by rw[NQ];exact p.vars);refine qf func47 call47 ntmps47 results47 ?_;have F:=aA.eq_1;repeat refine fc f0 ?_
 refine nC 3 9000 0 3 75 6 ?_;refine nC 3 9001 0 4 83 5 ?_
 refine aH (D:=Nat) (fun j e=>[(1, .loc 1 (e 1) 0 0),(2, .loc 2 (e 2) 0 0),(3, .loc 3 (e 3) 0 0),(17,qa c.Z9),(18,I c.Z9.length),(19,I j)])
  (fun j e=>[(1,⟨5,[aA c],26,false⟩),(2,⟨5,[[Sg [],I 0,cy,cy,cy]],26,false⟩),(3,⟨5,[[Sg c.name,I c.initial, .row 14 (e 14), .row 9000 (e 9000), .row 9001 (e 9001)]],26,false⟩),(14,⟨2,c.vars.map iK,140,true⟩),(9000,⟨6,(c.Z9.take j).map aK,75,true⟩),(9001,⟨5,[],83,true⟩)])
  (fun j _ a=>j<=c.Z9.length/\a 2=false/\a 3=false/\a 14=false/\a 9000=false/\a 9001=false) (fun j=>c.Z9.length-j) 0 ?_ ?_ ?_ ?_
 ·refine⟨NG _,?_,?_,?_,?_,?_⟩<;>simp only[go_sem]
 ·exact qe
 ·have F:=aA.eq_1;exact qe
 rintro j y a ⟨v,f,g,h,i,k⟩;by_cases b:j<c.Z9.length
 ·obtain⟨s,d⟩:=gE b;have l:=it b;have r:=aD b (by omega);have f1:=jy env s.ZW (p.st s (Mv d)).1;have f2:=jy env s.out (p.st s (Mv d)).2;have o:(c.Z9.take j).length=j:=by rw[NJ];omega
  have u:cU (j+1) 88:=aC (by omega) (by omega);have n:c.Z9.take (j+1)=c.Z9.take j++[s]:=by rw[N1,d];rfl
  have F:=ed Uv Uw l r d o u f g h i k;repeat refine wc f1 f2 ?_
  refine⟨j+1,⟨b,?_,?_,?_,?_,?_⟩,?_,?_,by omega⟩;all_goals (first|(show _=false;simp only[go_sem,f,g,h,i,k];done)|skip)
  ·exact qe
  have F:=qr Uv Uw n @NA.{0,0} f g h i k;exact qe
 obtain rfl:j=c.Z9.length:=by omega
 have l:=nl c.Z9.length;have m:c.Z9.take c.Z9.length=c.Z9:=NR;have F:=n4 Uv l m f g h i k;repeat refine st ?_
 refine aH (D:=Nat) (fun j e=>[(1, .loc 1 (e 1) 0 0),(2, .loc 2 (e 2) 0 0),(3, .loc 3 (e 3) 0 0),(39,sT c.trans),(40,I c.trans.length),(41,I j)])
  (fun j e=>[(1,⟨5,[aA c],26,false⟩),(2,⟨5,[[Sg [],I 0,cy,cy,cy]],26,false⟩),(3,⟨5,[[Sg c.name,I c.initial, .row 14 (e 14), .row 9000 (e 9000), .row 9001 (e 9001)]],26,false⟩),(14,⟨2,c.vars.map iK,140,true⟩),(9000,⟨6,c.Z9.map aK,75,true⟩),(9001,⟨5,(c.trans.take j).map ax,83,true⟩)])
  (fun j _ a=>j<=c.trans.length/\a 2=false/\a 3=false/\a 14=false/\a 9000=false/\a 9001=false) (fun j=>c.trans.length-j) 0 ?_ ?_ ?_ ?_
 ·refine⟨NG _,?_,?_,?_,?_,?_⟩<;>simp only[go_sem,f,g,h,i,k]
 ·exact qe
 ·have F:=aA.eq_1;exact qe
 try clear f g h i k
 rintro j y a ⟨v,f,g,h,i,k⟩;by_cases b:j<c.trans.length
 ·obtain⟨t,d⟩:=gE b;have l:=it b;have r:=aD b (by omega);have q:=p.tr t (Mv d);have f1:=uB env (t.guard.map bX) (by rw[NQ];exact q.1);have f2:=jy env t.Z0 q.2;have o:(c.trans.take j).length=j:=by rw[NJ];omega
  have u:cU (j+1) 80:=aC (by omega) (by omega);have n:c.trans.take (j+1)=c.trans.take j++[t]:=by rw[N1,d];rfl
  have F:=ed Uv Uy l r d o u f g h i k;repeat refine wc f1 f2 ?_
  refine⟨j+1,⟨b,?_,?_,?_,?_,?_⟩,?_,?_,by omega⟩;all_goals (first|(show _=false;simp only[go_sem,f,g,h,i,k];done)|skip)
  ·exact qe
  have F:=qr Uv Uy n @NA.{0,0} f g h i k;exact qe
 obtain rfl:j=c.trans.length:=by omega
 have l:=nl c.trans.length;have m:c.trans.take c.trans.length=c.trans:=NR;have F:=n4 Uv l m f g h i k;exact ek
def gN(s:List UInt8):List AV:=[Sg s]
def U1:=@gN.eq_1
def li(l:List (List UInt8)):bO (l.map Ev)=l.map gN:=by
 unfold bO;rw[P5];rfl
def bm(c:aq)(j:Nat):List (List UInt8):=((c.trans.take j).map (·.Z8)).filter fun e=> !e.isEmpty
def J'(c:aq):List (List UInt8):=Lib.compact (gg (bm c c.trans.length))
def D5{c:aq}{j:Nat}{t:tR}(h:c.trans[j]? =some t):bm c (j+1)=if t.Z8.isEmpty then bm c j else bm c j++[t.Z8]:=by
 unfold bm;rw[N1,h,NA,N5];cases a:t.Z8.isEmpty<;>simp[a]
def pq(c:aq)(j:Nat):(bm c j).length<=j:=by
 unfold bm;exact NK (NS ..) (by simp;omega)
def Dw(env:b8)(c:aq)(p:c.trans.length<=1000000):b7 prog env 48 [.agg (aA c)] (.own 9 1 ((J' c).map gN)):=by
 refine qf func48 call48 ntmps48 results48 ?_;have F:=aA.eq_1;repeat refine st ?_
 refine ao 3 3 9 1 ?_;refine aH (D:=Nat) (fun j o=>[(3, .row 3 (o 3)),(7,sT c.trans),(8,I c.trans.length),(9,I j)]) (fun j _=>[(3,⟨1,(bm c j).map gN,9,true⟩)]) (fun j _ e=>j<=c.trans.length/\e 3=false) (fun j=>c.trans.length-j) 0 ?_ ?_ ?_ ?_
 ·exact⟨NG _,rfl⟩
 ·exact qe
 ·(simp only[go_sem,F])
  rfl
 rintro j r e ⟨q,a⟩;by_cases b:j<c.trans.length
 ·obtain⟨t,k⟩:=gE b;have f:=it b;have l:=aD b (by omega);have h:=D5 k;have n:=pq c j;have m:cU ((bm c j).length+1) 16:=⟨by omega,by omega⟩;cases g:t.Z8.isEmpty with
  | true=>
    rw[g,Mw rfl]at h;have d:(t.Z8 == [])=true:=by simpa using g
    have F:=i' Uy f l k d a;repeat refine st ?_
    refine⟨j+1,⟨b,by simp only[go_sem,a]⟩,?_,?_,by omega⟩
    ·exact qe
    have F:=h;exact qe
  | false=>
    rw[g,Mt Nc]at h;have d:(t.Z8 == [])=false:=by simpa using g
    have F:=mc Uy f l k d m a;repeat refine st ?_
    refine⟨j+1,⟨b,by simp only[go_sem,a]⟩,?_,?_,by omega⟩
    ·exact qe
    have F:=gb h U1 @NA.{0,0};exact qe
 obtain rfl:j=c.trans.length:=by omega
 have f:=nl c.trans.length;have n:=pq c c.trans.length;have F:=ai f a;repeat refine st ?_
 have f1:=AL (bm c c.trans.length) (by omega);have i:(gg (bm c c.trans.length)).length<=9223372036854775807:=by simp[gg];omega
 have f2:=EG (gg (bm c c.trans.length)) i;refine oW 3 rfl (row:=⟨1,(bm c c.trans.length).map gN,9,true⟩) f1 (Nf 0) rfl (li _).symm (by simp only[go_sem,a];exact iR) (by simp only[go_sem,a];exact iR) (by simp only[go_sem,a];exact iR) (by simp only[go_sem,a];exact iR) ?_;rw[li];repeat refine st ?_
 refine vN 3 rfl (row:=⟨1,(gg (bm c c.trans.length)).map gN,9,true⟩) f2 (Nf 0) rfl (li _).symm (by simp only[go_sem,a];exact iR) (by simp only[go_sem,a];exact iR) (by simp only[go_sem,a];exact iR) (by simp only[go_sem,a];exact iR) iR ?_;rw[li];repeat refine st ?_
 (refine aM ?_;show (aj _ _ _).run _=some _;simp only[go_sem,F])
 rfl
def eP: ∀a:List UInt8,Op.bytesLess a a=false
 |[]=>rfl
 |x::a=>by simp[Op.bytesLess,eP a]
def fF: ∀ {a b c:List UInt8},Op.bytesLess a b=true->Op.bytesLess b c=true->Op.bytesLess a c=true
 |_,[],_,h,_=>by simp[Op.bytesLess]at h
 |_,_::_,[],_,h=>by simp[Op.bytesLess]at h
 |[],_::_,_::_,_,_=>rfl
 | x::a,y::b,z::c,h,k=>by
   simp only[Op.bytesLess,OQ,NF,Mu,Nz]at h k |-;rcases h with h|⟨h,e⟩
   ·rcases k with k|⟨k,d⟩
    ·exact .inl (UInt8.lt_trans h k)
    exact .inl (k ▸ h)
   rcases k with k|⟨k,d⟩
   ·exact .inl (h ▸ k)
   exact .inr ⟨h.trans k,fF e d⟩
def dy: ∀ {a b:List UInt8},Op.bytesLess a b=false->Op.bytesLess b a=false->a=b
 |[],[],_,_=>rfl
 |[],_::_,h,_=>by simp[Op.bytesLess]at h
 |_::_,[],_,h=>by simp[Op.bytesLess]at h
 | x::a,y::b,h,k=>by
   simp only[Op.bytesLess,Q8,Nm,Bool.and_eq_false_iff]at h k;have e:x=y:=UInt8.le_antisymm (UInt8.not_lt.1 k.1) (UInt8.not_lt.1 h.1);subst e;simp only[Ru,Bool.true_eq_false,false_or]at h k;rw[dy h.2 k.2]
def pF{a b:List UInt8}(h:Op.bytesLess a b=true):Op.bytesLess b a=false:=by
 cases k:Op.bytesLess b a
 ·rfl
 have:=fF h k;rw[eP]at this;cases this
abbrev u':=List UInt8
abbrev SL(a b:u'):Prop:=Op.bytesLess a b=true
/-! Texts in the order of bytes -/
def Lk: ∀(x y:u'),Op.bytesLess x y=decide (x<y)
 |[],[]=>by simp[Op.bytesLess]
 |_::_,[]=>by simp[Op.bytesLess]
 |[],_::_=>by simp[Op.bytesLess]
 | a::x,b::y=>by
   rw[Op.bytesLess,Lk x y];simp only[List.cons_lt_cons_iff];by_cases c:a<b<;>by_cases d:a=b<;>by_cases e:x<y<;>simp[c,d,e]
def K5(x y:u'):decide (x<=y)= !Op.bytesLess y x:=by
 rw[Lk, <-decide_not];rfl
def Aw{a b c:u'}(f:Op.bytesLess b a=false)(d:Op.bytesLess c b=false):Op.bytesLess c a=false:=by
 cases k:Op.bytesLess c a
 ·rfl
 cases e:Op.bytesLess a b
 ·rw[<-dy e f,k]at d;cases d
 rw[fF k e]at d;cases d
def BM(l:List u'):(gg l).Pairwise fun a b=>Op.bytesLess b a=false:=by
 have:=Qt (le:=fun x y:u'=>decide (x<=y)) (fun a b c d e=>by
  simp only[K5,Nx]at*;exact Aw d e) (fun a b=>by
  simp only[K5];cases k:Op.bytesLess b a
  ·simp
  rw[pF k];simp) l
 exact this.imp fun {a b} h=>by simpa[K5]using h
def GW{l:List u'}{x:u'} :x∈gg l↔x∈l:=List.mem_mergeSort
def qK(l:List u')(i:l.Pairwise fun a b=>Op.bytesLess b a=false): ∀m,m<=l.length->(Lib.compactUpTo l.toArray m).Pairwise SL/\ ∀x,x∈Lib.compactUpTo l.toArray m↔x∈l.take m
 |0,_=>by simp[Lib.compactUpTo]
 | m+1,v=>by
   obtain⟨o,f⟩:=qK l i m (by omega);have d:l.toArray[m]! =l[m]'(by omega):=by rw[Pj _ m (by simp;omega)];rfl
   have n:l.take (m+1)=l.take m++[l[m]'(by omega)]:=by rw[N1,Mq (by omega)];rfl
   have c: ∀k (hk:k<m),Op.bytesLess (l[m]'(by omega)) (l[k]'(by omega))=false:=fun k hk=>Nn.1 i k m (by omega) (by omega) hk;rw[Lib.compactUpTo_succ,d];by_cases hk:Lib.keeps l.toArray m=true
   ·rw[Mw hk];refine⟨Pk.2 ⟨o,QJ ..,fun x p y u=> ?_⟩,fun x=>by rw[n,NY,NY,f]⟩;rw[NO.1 u];rw[f,Qc]at p;obtain⟨k,s,rfl⟩:=p;have g:k<m:=by omega
    show Op.bytesLess _ _=true;cases t:Op.bytesLess (l[k]'(by omega)) (l[m]'(by omega)) with
    |true=>rfl
    | false=>
      have e:=dy t (c k g)
      exfalso
      unfold Lib.keeps at hk;rw[NF]at hk;rcases hk with hk|hk
      ·omega
      apply hk;rw[d,Pj _ (m-1) (by simp;omega)];show l[m]'(by omega)=l[m-1]'(by omega);have q:=c (m-1) (by omega);by_cases r:k=m-1
      ·subst r;exact e.symm
      have j:=Nn.1 i k (m-1) (by omega) (by omega) (by omega);rw[e]at j;exact dy q j
   rw[Mt hk,OP];refine⟨o,fun x=> ?_⟩;rw[f,n,NY,NO];refine⟨.inl,fun h=>h.elim id fun h=> ?_⟩;unfold Lib.keeps at hk;rw[NF,Rj,QZ,d,Pj _ (m-1) (by simp;omega)]at hk;rw[h,hk.2];exact Qc.2 ⟨m-1,by omega,rfl⟩
def zI(c:aq):(J' c).Pairwise SL:=(qK _ (BM _) _ (NC _)).1
def zk{c:aq}{s:u'} :s∈J' c↔s≠[]/\ ∃t∈c.trans,t.Z8=s:=by
 unfold J' Lib.compact;rw[(qK _ (BM _) _ (NC _)).2,NR,GW];unfold bm;rw[NR,ND,NE];constructor
 ·rintro⟨⟨t,a,b⟩,d⟩;exact⟨by simpa using d,t,a,b⟩
 rintro⟨h,t,a,b⟩;exact⟨⟨t,a,b⟩,by simpa using h⟩
def LJ(c:aq):(J' c).length<=c.trans.length:=by
 have a:(Lib.compact (gg (bm c c.trans.length))).length<=(gg (bm c c.trans.length)).length:=by
  unfold Lib.compact Lib.compactUpTo;rw[NQ];exact NK (NS ..) (by simp)
 have b:=pq c c.trans.length;unfold J';have d:(gg (bm c c.trans.length)).length=(bm c c.trans.length).length:=by simp[gg]
 omega
/-! Where a text stands, or would stand -/
def sa(l:List u')(x:u'):Nat:=(l.filter fun y=>Op.bytesLess y x).length
def Ui(l:List u')(x:u')(p:Nat):Prop:=p<=l.length/\ ∀k y,l[k]? =some y->(Op.bytesLess y x=true↔k<p)
def yl: ∀ {l:List u'},l.Pairwise SL-> ∀x,Ui l x (sa l x)
 |[],_,x=>⟨NG _,fun k y h=>by simp at h⟩
 | a::l,h,x=>by
   obtain⟨g,i⟩:=Od.1 h;obtain⟨n,m⟩:=yl i x;unfold sa at*;rw[Oz];by_cases c:Op.bytesLess a x=true
   ·rw[Mw c,NN];refine⟨by simp only[NN];omega,fun k y b=> ?_⟩;cases k with
    | zero=>
      obtain rfl:a=y:=by simpa using b
      exact⟨fun _=>by omega,fun _=>c⟩
    | succ k=>
      rw[m k y (by simpa using b)];omega
   ·rw[Mt c];have d: ∀y∈l,¬Op.bytesLess y x=true:=fun y j f=>c (fF (g y j) f);have e:(l.filter fun y=>Op.bytesLess y x)=[]:=Pf.2 d;rw[e];refine⟨NG _,fun k y b=>⟨fun f=> ?_,fun b=>by simp at b⟩⟩;cases k with
    | zero=>
      obtain rfl:a=y:=by simpa using b
      exact absurd f c
    |succ k=>exact absurd f (d y (Mv (by simpa using b)))
def KC{l:List u'}(h:l.Pairwise SL){x:u'}(i:x∈l):l[sa l x]? =some x:=by
 obtain⟨j,d⟩:=yl h x;obtain⟨k,a⟩:=O6.1 i;have b:=(d k x a);rw[eP]at b;have b: ¬k<sa l x:=fun e=>by simpa using b.2 e
 have c:=(Mr.1 a).1;by_cases e:k=sa l x
 ·rw[<-e];exact a
 have g:sa l x<l.length:=by omega
 have f:=Nn.1 h (sa l x) k g c (by omega);rw[(Mr.1 a).2]at f;have:=(d _ _ (Mq g)).1 f;omega
def SX(c:aq)(s:u'):Int:=if (J' c)[sa (J' c) s]? =some s then(sa (J' c) s:Nat) else -1
def vq{c:aq}{s:u'}(h:s∈J' c): ∃k:Nat,SX c s=k/\(J' c)[k]? =some s:=⟨sa (J' c) s,by unfold SX;rw[Mw (KC (zI c) h)],KC (zI c) h⟩
def Ff{c:aq}{s:u'}(h:s∉J' c):SX c s= -1:=by
 unfold SX;rw[Mt fun e=>h (Mv e)]
def MF{c:aq}{s t:u'}(d:s∈J' c)(e:t∈J' c)(h:SX c s=SX c t):s=t:=by
 obtain⟨k,f,a⟩:=vq d;obtain⟨j,g,b⟩:=vq e;have:k=j:=by omega
 subst this;exact OV (a.symm.trans b)
def zJ(c:aq):SX c []= -1:=Ff fun h=>(zk.1 h).1 rfl
/-! A state's transitions -/
def dL(c:aq)(k:Nat):Int×Int:=match c.trans[k]? with
 |some t=>(t.src,SX c t.Z8)
 |none=>(-1, -1)
def ix(c:aq)(j:Nat)(p:Int×Int):List Nat:=(List.range j).filter fun k=>dL c k=p
def cI(c:aq):Nat->List (Int×Int)
 |0=>[]
 |j+1=>if dL c j∈cI c j then cI c j else cI c j++[dL c j]
def Ts(c:aq)(i e:Int):List Nat:=ix c c.trans.length (i,e)
def oa(c:aq)(j:Nat)(p:Int×Int):ix c (j+1) p=if dL c j=p then ix c j p++[j] else ix c j p:=by
 unfold ix;rw[PN,N5];by_cases h:dL c j=p<;>simp[h]
def oq{c:aq}{p:Int×Int} : ∀ {j:Nat},p∈cI c j↔ ∃k,k<j/\dL c k=p
 |0=>by simp[cI]
 | j+1=>by
   unfold cI;split
   ·rename_i h;rw[oq];constructor
    ·rintro⟨k,b,a⟩;exact⟨k,by omega,a⟩
    rintro⟨k,b,a⟩;by_cases e:k=j
    ·subst e;rw[<-a];exact oq.1 h
    exact⟨k,by omega,a⟩
   rw[NY,oq,NO];constructor
   ·rintro(⟨k,b,a⟩|h)
    ·exact⟨k,by omega,a⟩
    exact⟨j,by omega,h.symm⟩
   rintro⟨k,b,a⟩;by_cases e:k=j
   ·subst e;exact .inr a.symm
   exact .inl ⟨k,by omega,a⟩
def nP(c:aq): ∀j,(cI c j).Nodup
 |0=> .nil
 | j+1=>by
   unfold cI;split
   ·exact nP c j
   rename_i h;exact Ov.2 ⟨nP c j,by simp,fun a d b f e=>h (by rw[NO.1 f]at e;exact e ▸ d)⟩
def u5{c:aq}{j:Nat}{p:Int×Int}(h:p∉cI c j):ix c j p=[]:=by
 unfold ix;rw[Pf];intro k a;simp only[NF];exact fun e=>h (oq.2 ⟨k,NX.1 a,e⟩)
def Ez(c:aq)(j:Nat)(p:Int×Int):(ix c j p).length<=j:=by
 unfold ix;exact NK (NS ..) (by simp)
def ri(p:Int×Int):List (Int×Int)->Nat->Option Nat
 |[],_=>none
 |q::l,i=>if p=q then some i else ri p l (i+1)
def qF{p:Int×Int} : ∀ {l:List (Int×Int)}{i n:Nat},ri p l i=some n->i<=n/\l[n-i]? =some p
 |[],i,n,h=>by simp[ri]at h
 | q::l,i,n,h=>by
   unfold ri at h;split at h
   ·rename_i e;obtain rfl:i=n:=by simpa using h
    simp[e]
   obtain⟨b,a⟩:=qF h;refine⟨by omega,?_⟩;rw[show n-i=(n-(i+1))+1 by omega,Og];exact a
def lm{p:Int×Int} : ∀ {l:List (Int×Int)}{i:Nat},ri p l i=none->p∉l
 |[],i,h=>by simp
 | q::l,i,h=>by
   unfold ri at h;split at h
   ·cases h
   rename_i e;rw[NV];exact fun a=>a.elim e (lm h)
def KY{c:aq}(i:Int)(s:u')(h:s=[]\/s∈J' c):Ts c i (SX c s)=(List.range c.trans.length).filter fun k=>match c.trans[k]? with|some t=>decide (t.src=i/\t.Z8=s)|none=>false:=by
 unfold Ts ix;apply Ob;intro k d;have d:=NX.1 d;have f:c.trans[k]? =some c.trans[k]:=Mq d;unfold dL;rw[f];simp only[QG]
 congr 1
 generalize j:c.trans[k]=t at*;have b:t∈c.trans:=Mv f;apply propext;refine and_congr_right fun _=>⟨fun e=> ?_,fun e=>by rw[e]⟩;rcases h with rfl|h
 ·rw[zJ]at e;by_cases a:t.Z8=[]
  ·exact a
  obtain⟨k,g,_⟩:=vq (zk.2 ⟨a,t,b,rfl⟩);omega
 obtain⟨k,g,_⟩:=vq h;by_cases a:t.Z8=[]
 ·rw[a,zJ]at e;omega
 exact MF (zk.2 ⟨a,t,b,rfl⟩) h e
def Bc(env:b8)(s:List UInt8):b7 prog env 154 [Sg s] (B false):=by
 refine qf func154 call154 ntmps154 results154 ?_;repeat refine m9 ?_
 exact oj
def JC(env:b8)(s:List UInt8):b7 prog env 218 [Sg s] (B false):=by
 refine qf func218 call218 ntmps218 results218 ?_;repeat refine m9 ?_
 exact oj
def HU(env:b8)(s t:List UInt8):b7 prog env 153 [Sg s,Sg t] (B (Op.bytesLess s t)):=by
 have f0:=JC env s;refine qf func153 call153 ntmps153 results153 ?_;repeat refine jJ f0 ?_
 exact oj
def Av(env:b8)(l:List (List UInt8))(x:List UInt8)(p:Nat)(C:Ui l x p)(H:l.length<=1000000):b7 prog env 90 [.seq 1 (l.map gN),Sg x] (.tuple [I p,B (l[p]? == some x)]):=by
 have f0:=Bc env x;refine qf func90 call90 ntmps90 results90 ?_;repeat refine m9 ?_
 refine T1 (D:=Nat×Nat) (fun d _=>[(0, .seq 1 (l.map gN)),(1,Sg x),(6,I l.length),(7,I d.1),(8,I d.2)]) (fun _ _=>[]) (fun d _ _=>d.1<=p/\p<=d.2/\d.2<=l.length) (fun d=>d.2-d.1) (0,l.length) ⟨NG _,C.1,NC _⟩ ?_;rintro⟨i,j⟩ J E ⟨u,v,w⟩;simp only at u v w;by_cases m:i<j
 ·have f:=it m;have A:(i+j)/2<l.length:=by omega
  obtain⟨y,b⟩: ∃y,l[(i+j)/2]? =some y:=⟨l[(i+j)/2],Mq A⟩;have a:=C.2 _ _ b;have f1:=HU env y x;have c:IntKind.i64.wrap ((i:Int)+(j:Int))=((i+j:Nat):Int):=by rw[aW (by omega) (by omega)];omega
  have q:IntKind.u64.wrap ((i+j:Nat):Int)=((i+j:Nat):Int):=IntWalk.u64_in _ (by omega)
  have r:IntKind.i64.wrap (((i+j:Nat):Int).fdiv (2^min 1 64))=(((i+j)/2:Nat):Int):=by
   rw[show ((i+j:Nat):Int).fdiv (2^min 1 64)=(((i+j)/2:Nat):Int) from(SI (i+j) 2).symm,aW (by omega) (by omega)]
  have s:(((i+j)/2:Nat):Int)< (l.length:Int):=by omega
  have t:=aD (k:=(i+j)/2) (n:=l.length) A (by omega);generalize G:(i+j)/2=o at*;cases e:Op.bytesLess y x with
  | true=>
    rw[e]at f1 a;have:=a.1 rfl;have F:=n4 f c q r s t b U1;repeat refine fc f1 ?_
    refine⟨(o+1,j),⟨?_,?_,?_⟩,?_,?_,?_⟩
    ·simp only;omega
    ·exact v
    ·exact w
    ·exact qe
    ·exact qe
    simp only;omega
  | false=>
    rw[e]at f1 a;have: ¬o<p:=fun h=>by cases a.2 h
    have F:=n4 f c q r s t b U1;repeat refine fc f1 ?_
    refine⟨(i,o),⟨?_,?_,?_⟩,?_,?_,?_⟩
    ·exact u
    ·simp only;omega
    ·simp only;omega
    ·exact qe
    ·exact qe
    simp only;omega
 obtain rfl:i=j:=by omega
 obtain rfl:i=p:=by omega
 have f:=nl i;by_cases z:i<l.length
 ·have c:=it z;obtain⟨y,b⟩:=gE z;have f1:=Bc env y;cases e:(y==x) with
  | true=>
    have g:(l[i]? == some x)=true:=by rw[b];simpa using e
    rw[g];have F:=g9 f c b e U1;exact mw f0 f1
  | false=>
    have g:(l[i]? == some x)=false:=by rw[b];simpa using e
    rw[g];have F:=g9 f c b e U1;exact mw f0 f1
 have c: ¬(i:Int)< (l.length:Int):=by omega
 have g:(l[i]? == some x)=false:=by rw[NI (by omega)];rfl
 rw[g];have F:=gb f c U1;exact hH f0
def nX(env:b8)(c:aq)(h:ch c): ∀(n i:Nat),i<c.Z9.length->c.Z9.length<=i+n->b7 prog env 51 [.agg (aA c),I i] (.own 3 1 ((zE c i).map aB))
 |0,i,A,O=>by omega
 | n+1,i,A,O=>by
   have G:=h.Z6;obtain⟨s,o⟩:=gE A;have a:=Ll h o;have f:=KW h A;have w:((i:Nat):Int)< (c.Z9.length:Int):=by omega
   by_cases g:s.kind=1
   ·by_cases b:0<=s.initial
    ·obtain⟨j,L,E⟩:=yy h o g b;have R:=bJ h.toRight (aY L).1;rw[Mw ⟨g,b⟩,E,OS]at a;have f0:=nX env c h n j (by omega) (by omega);rw[a]at f;have z:cU (1+(zE c j).length) 8:=aC (by simp at f;omega) (by omega);rw[a];refine qf func51 call51 ntmps51 results51 ?_;have F:=n4 Uv Uw o g E w Ux z;exact hH f0
    rw[Mt fun e=>b e.2,Mt (by omega)]at a;rw[a];refine qf func51 call51 ntmps51 results51 ?_;have F:=mc Uv Uw o g b w Ux;exact ek
   rw[Mt fun e=>g e.1]at a;have p:(s.kind==1)=false:=by simpa using g
   by_cases b:s.kind=2
   ·rw[Mw b]at a;have f1:=iC env c i (by omega);generalize y:av c i true=K at*
    have q: ∀k∈K,i<k/\k<c.Z9.length:=fun k l=>by
     rw[<-y]at l;have:=bJ h.toRight (aY l).1;omega
    have J:K.length<=32:=by
     have:=(bW c i true).length_le_of_subset (l₂:=List.range c.Z9.length) fun m N=>NX.2 (q m (y ▸ N)).2;rw[y]at this;simp at this;omega
    have t: ∀j,(i::(K.take j).flatMap (zE c)).length<=32:=fun j=>by
     have e:(K.take j).flatMap (zE c)++(K.drop j).flatMap (zE c)=K.flatMap (zE c):=by rw[<-Ox,PU]
     have:=N6 List.length e;rw[a]at f;simp only[NN,My]at*;omega
    refine qf func51 call51 ntmps51 results51 ?_;have F:=mc Uv Uw o p b w Ux;repeat refine fc f1 ?_
    have F:=gb Uv Ux @List.flatMap_nil.{0,0};refine lq K.length (by omega) (fun j D=>[(2, .loc 2 (D 2) 0 0),(5, .row 10 (D 10)),(37, .row 37 (D 37)),(38,I K.length),(39,I j)]) (fun j _=>[(2,⟨5,[aA c],26,false⟩),(10,⟨1,(i::(K.take j).flatMap (zE c)).map aB,3,true⟩),(37,⟨1,K.map aB,3,true⟩)]) (fun j _ d=>d 10=false) rfl ?_ ?_
    ·rintro j Q d r C P v;obtain⟨k,l⟩:=gE r;have M:=q k (Mv l);have f0:=nX env c h n k (by omega) (by omega);have u:(K.take (j+1)).flatMap (zE c)=(K.take j).flatMap (zE c)++zE c k:=by rw[N1,l,Ox];simp
     have H:=t (j+1);rw[u]at H;have z:cU (((K.take j).flatMap (zE c)).length+1+(zE c k).length) 8:=aC (by simp only[NN,My]at H;omega) (by omega);have F:=mc Uv Ux l C P z v;repeat refine fc f0 ?_
     refine⟨j+1,⟨r,by simp only[go_sem,v]⟩,?_,?_,by omega⟩
     ·exact qe
     have F:=hU Uv Ux u @NA.{0,0};exact qe
    rintro Q d C v;have B:K.take K.length=K:=NR;rw[a];have F:=hU Ux C B v;exact ek
   rw[Mt b]at a;have x:(s.kind==2)=false:=by simpa using b
   rw[a];refine qf func51 call51 ntmps51 results51 ?_;have F:=mc Uv Uw o p x w Ux;exact ek
def xb(env:b8)(c:aq)(b:c.trans.length<=1000000)(x y:AV)(s:List UInt8):b7 prog env 49 [.ref 9 [[Sg c.name,I c.initial,pf c.vars,qa c.Z9,sT c.trans,aQ c, .seq 1 ((J' c).map gN),x,y]] 0 0,Sg s] (I (SX c s)):=by
 have d:=LJ c;have f0:=Av env (J' c) s (sa (J' c) s) (yl (zI c) s) (by omega);unfold SX;by_cases h:(J' c)[sa (J' c) s]? =some s
 ·have a:((J' c)[sa (J' c) s]? == some s)=true:=by simpa using h
  rw[a]at f0;rw[Mw h];refine qf func49 call49 ntmps49 results49 ?_;repeat refine jJ f0 ?_
  exact oj
 have a:((J' c)[sa (J' c) s]? == some s)=false:=by simpa using h
 rw[a]at f0;rw[Mt h];refine qf func49 call49 ntmps49 results49 ?_;repeat refine jJ f0 ?_
 exact oj
end
end Go.Proofs.YtfhkmjbjafeckaaGreatDoor
