/- Memories, plain: right ones as the program says and as the document says. No program is named here. -/
import Derived.Test.YtfhkmjbjafeckaaGreatDoorP13
import Derived.Shelf.Slices.In.SortNone
set_option maxRecDepth 100000
set_option maxHeartbeats 4000000
set_option linter.unusedSimpArgs false
set_option linter.defProp false
namespace Go.Proofs.YtfhkmjbjafeckaaGreatDoor
open Go.Proofs.Tryz
section
open Go.RowKit
abbrev Ue(m:Nat):AV:= .lit (.int .u32 m)
def BF(env:b8)(c:aq):b7 prog env 155 [aQ c] (I c.Z9.length):=by
 refine qf func155 call155 ntmps155 results155 ?_;have F:=aQ.eq_1;exact ek
def sH(env:b8)(c:aq)(i:Int):b7 prog env 91 [aQ c,I i] (B (fb c i)):=by
 have f0:=BF env c;refine qf func91 call91 ntmps91 results91 ?_;unfold fb;by_cases a:0<=i
 ·by_cases b:i< (c.Z9.length:Int)
  ·have F:=ai a b;exact hH f0
  have F:=ai a b;exact hH f0
 have F:=a;exact hH f0
def yg(env:b8)(c:aq)(g:Right c)(i:Int):b7 prog env 189 [aQ c,I i] (.own 3 1 ((j0 c i).map fun k=>[I k])):=by
 have j:=g.Z6;refine qf func189 call189 ntmps189 results189 ?_;repeat refine m9 ?_
 refine ao 5 5 3 1 ?_;have q:(j0 c i).length<=40:=kV 40 i;refine T1 (D:=Int×List Int) (fun d r=>[(0,aQ c),(1,I d.1),(5, .row 5 (r 5))]) (fun d _=>[(5,⟨1,d.2.map fun k=>[I k],3,true⟩)]) (fun d _ e=>j0 c i=d.2++j0 c d.1/\e 5=false) (fun d=>(d.1+1).toNat) (i,[]) ⟨rfl,rfl⟩ ?_;rintro⟨d,l⟩ v e ⟨b,f⟩;simp only at b;have f0:=sH env c d;cases a:fb c d with
 | false=>
   rw[cc a,OP]at b;rw[a]at f0;have F:=ai b f;exact hH f0
 | true=>
   obtain⟨k,s,rfl,n,t⟩:=cS a;have m:=eH n;have h:=d4 g a;rw[m]at h;rw[sF g a,m]at b;rw[a]at f0
   have u:l.length+1<=40:=by
    have:=N6 List.length b;rw[My,NN]at this;omega
   have o:((k:Nat):Int)< (c.Z9.length:Int):=by have:=(aI.1 a).2;omega
   have p:cU (l.length+1) 8:=⟨by omega,by omega⟩;have F:=g9 UT o n p f;repeat refine fc f0 ?_
   refine⟨(s.parent,l++[s.parent]),⟨?_,?_⟩,?_,?_,?_⟩
   ·show j0 c i=(l++[s.parent])++j0 c s.parent;rw[b,Nl];rfl
   ·show _=false;simp only[go_sem,f]
   ·have F:=aQ.eq_1;exact qe
   ·have F:=ai UT @NA.{0,0};exact qe
   show (s.parent+1).toNat< ((k:Int)+1).toNat;omega
def BG(env:b8)(m:Nat)(d:m<4294967296)(k:Nat)(f:k<32):b7 prog env 156 [Ue m,I k] (B (m.testBit k)):=by
 have e:m/2^k<4294967296:=Nat.lt_of_le_of_lt (Nat.div_le_self ..) d
 have a:((m:Int)).fdiv (2^min k 32)=((m/2^k:Nat):Int):=by
  rw[show min k 32=k by omega,show ((2:Int)^k)=((2^k:Nat):Int) by rw[R7];rfl];exact(SI _ _).symm
 have b:uI .and .u32 ((m/2^k:Nat):Int) 1=((m/2^k%2:Nat):Int):=by
  have:=u32_and (m/2^k) 1 e (by decide);rw[Nat.and_one_is_mod]at this;exact this
 have c:((((m/2^k%2:Nat):Int))==1)=m.testBit k:=by
  rw[<-Fp];rcases Nat.mod_two_eq_zero_or_one (m/2^k) with h|h<;>rw[h]<;>rfl
 refine qf func156 call156 ntmps156 results156 ?_;have F:=gb a b c;exact ek
def od(m:Nat)(l:List Nat)(j:Nat):List Nat:=(l.take j).filter fun k=>m.testBit k
def Gn{m:Nat}{l:List Nat}{j k:Nat}(h:l[j]? =some k):od m l (j+1)=if m.testBit k then od m l j++[k] else od m l j:=by
 unfold od;rw[N1,h,N5];cases a:m.testBit k<;>simp[a]
def Iq(m:Nat)(l:List Nat)(j:Nat):(od m l j).length<=l.length:=by
 unfold od;exact NK (NS ..) (by rw[NJ];omega)
def zx(env:b8)(c:aq)(o:Right c)(m:Nat)(s:m<4294967296):b7 prog env 92 [aQ c,Ue m] (.own 3 1 (((gu c (-1)).filter fun k=>m.testBit k).map aB)):=by
 have r:=o.Z6;have u:=uU o;have g:=gU o;refine qf func92 call92 ntmps92 results92 ?_;have F:=aQ.eq_1;repeat refine st ?_
 generalize gu c (-1)=W at*;refine ao 5 5 3 1 ?_;refine aH (D:=Nat) (fun j v=>[(1,Ue m),(5, .row 5 (v 5)),(13, .seq 1 (W.map aB)),(14,I W.length),(15,I j)]) (fun j _=>[(5,⟨1,(od m W j).map aB,3,true⟩)]) (fun j _ d=>j<=W.length/\d 5=false) (fun j=>W.length-j) 0 ?_ ?_ ?_ ?_
 ·exact⟨NG _,rfl⟩
 ·exact qe
 ·(simp only[go_sem,F])
  rfl
 rintro j x d ⟨w,b⟩;by_cases a:j<W.length
 ·obtain⟨k,l⟩:=gE a;have f:k<32:=by have:=(g k).1 (Mv l);omega
  have f0:=BG env m s k f;have h:=it a;have p:=aD a (by omega);have t:=Iq m W j;have q:cU ((od m W j).length+1) 8:=⟨by omega,by omega⟩;have n:=Gn (m:=m) l;cases i:m.testBit k with
  | true=>
    rw[i]at f0;rw[i,Mw rfl]at n;have F:=i' h p l Ux q b;repeat refine fc f0 ?_
    refine⟨j+1,⟨a,by simp only[go_sem,b]⟩,?_,?_,by omega⟩
    ·exact qe
    have F:=gb n Ux @NA.{0,0};exact qe
  | false=>
    rw[i]at f0;rw[i,Mt Nc]at n;have F:=i' h p l Ux q b;repeat refine fc f0 ?_
    refine⟨j+1,⟨a,by simp only[go_sem,b]⟩,?_,?_,by omega⟩
    ·exact qe
    have F:=gb n Ux @NA.{0,0};exact qe
 obtain rfl:j=W.length:=by omega
 have h:=nl W.length;have e:od m W W.length=W.filter fun k=>m.testBit k:=by unfold od;rw[NR]
 have F:=gb h e b;exact ek
def FG(l:List Int)(j:Nat):Nat:=(l.take j).foldl (fun m k=>m||| 2^k.toNat) 0
def HG{l:List Int}{j:Nat}{k:Int}(h:l[j]? =some k):FG l (j+1)=FG l j||| 2^k.toNat:=by
 unfold FG;rw[N1,h,Ro];rfl
def uz: ∀(l:List Int)(m b:Nat),(l.foldl (fun m k=>m||| 2^k.toNat) m).testBit b=(m.testBit b||l.any fun k=>k.toNat==b)
 |[],m,b=>by simp
 | k::l,m,b=>by
   rw[R6,uz l,Qu,QI,QH,Bool.or_assoc];rfl
def sd{c:aq}(d:Right c){l:List Int} : ∀ {j:Nat},(∀k∈l.take j,fb c k=true)->FG l j<4294967296:=fun {j} h=>by
 have a:=d.Z6;apply Nat.lt_pow_two_of_testBit (n:=32);intro b f;unfold FG;rw[uz,Nat.zero_testBit,Oj,Q1];intro k e;have:=aI.1 (h k e);simp;omega
def HH{c:aq}{l:List Int}(h:l.all (fb c)=true):((gu c (-1)).filter fun k=>(FG l l.length).testBit k)=bt c l:=by
 unfold bt;rw[Mw h];apply Ob;intro k _;unfold FG;rw[uz,Nat.zero_testBit,Oj,NR,N4,OE,Mx];constructor
 ·rintro⟨x,a,b⟩;have:=(aI.1 (Mz.1 h x a)).1;have b:x.toNat=k:=by simpa using b
  rw[show (k:Int)=x by omega];exact a
 exact fun a=>⟨k,a,by simp⟩
def BI{c:aq}{l:List Int}{j:Nat}{k:Int}(h:(l.take j).all (fb c)=true)(a:l[j]? =some k)(b:fb c k=true):(l.take (j+1)).all (fb c)=true:=by
 rw[N1,a,QT,h];simp[b]
def BL{c:aq}{l:List Int}{j:Nat}{k:Int}(a:l[j]? =some k)(b:fb c k=false):bt c l=[]:=by
 unfold bt;rw[Mt];intro h;have:=Mz.1 h k (Mv a);rw[b]at this;cases this
abbrev aa(k:Int):List AV:=[I k]
def UE:=@aa.eq_1
def gB(env:b8)(c:aq)(i:Right c)(l:List Int)(t:l.length<=1000000):b7 prog env 50 [aQ c, .seq 1 (l.map aa)] (.own 3 1 ((bt c l).map aB)):=by
 have q:=i.Z6;refine qw func50 call50 ntmps50 results50 ?_;repeat refine m9 ?_
 refine aH (D:=Nat) (fun j _=>[(0,aQ c),(5,Ue (FG l j)),(8, .seq 1 (l.map aa)),(9,I l.length),(10,I j)]) (fun _ _=>[]) (fun j _ _=>j<=l.length/\(l.take j).all (fb c)=true) (fun j=>l.length-j) 0 ?_ ?_ ?_ ?_
 ·exact⟨NG _,rfl⟩
 ·(simp only[go_sem])
  rfl
 ·exact T7
 rintro j v r ⟨s,a⟩;by_cases d:j<l.length
 ·obtain⟨k,b⟩:=gE d;have f:=it d;have h:=aD d (by omega);have f0:=sH env c k;cases g:fb c k with
  | false=>
    rw[g]at f0;have F:=gb f h b;repeat refine fc f0 ?_
    (refine aM ?_;refine⟨_,(by show (aj _ _ _).run _=some _;simp only[go_sem,F];rfl),?_⟩)
    rw[BL b g];exact gA.own_nil _ _ (by decide)
  | true=>
    rw[g]at f0;have u:=aI.1 g;obtain⟨p,rfl⟩: ∃p:Nat,k=p:=⟨k.toNat,by omega⟩;have m:=sM (p:=p) (by omega);have e:=sd i (j:=j) (fun k b=>Mz.1 a k b);have n:=za e (jQ p (by omega));have o:=HG b;rw[OS]at o;have F:=g9 f h m n b;repeat refine fc f0 ?_
    refine⟨j+1,⟨d,BI a b g⟩,?_,?_,by omega⟩
    ·have F:=i' f h m n b o;exact qe
    ·(simp only[go_sem,f,h,m,n,b,o])
 obtain rfl:j=l.length:=by omega
 have f:=nl l.length;have e:=sd i (j:=l.length) (fun k b=>Mz.1 a k b);rw[NR]at a;have f1:=zx env c i _ e;rw[HH a]at f1;have F:=f;repeat refine fc f1 ?_
 (refine aM ?_;refine⟨_,(by show (aj _ _ _).run _=some _;simp only[go_sem,F];rfl),?_⟩)
 exact gA.refl _
end
section
open Go.RowKit Go.Sort Go.Shelf Go.Lib
def kE(n:Nat)(act:List Int):List (List AV):=(List.range n).map fun k:Nat=>[B (act.contains (k:Int))]
def eo(n:Nat)(act:List Int):(kE n act).length=n:=by unfold kE;simp
def kU{n:Nat}{act:List Int}{k:Nat}(a:k<n):(kE n act)[k]? =some [B (act.contains (k:Int))]:=by
 unfold kE;rw[NB,O8 a];rfl
def Hh(n:Nat):List.replicate n [B false]=kE n []:=by
 unfold kE;apply Nv;intro j;rw[NB];by_cases h:j<n
 ·rw[O8 h,List.getElem?_replicate_of_lt h];rfl
 rw[NI (by simp;omega),NI (by simp;omega)];rfl
def Bw{n:Nat}{act:List Int}{i:Int}(h: ∀k:Nat,k<n->(k:Int)≠i):kE n (act++[i])=kE n act:=by
 unfold kE;apply O9;intro k a;have:=h k (NX.1 a);simp;exact fun e=>absurd e this
def J0{n:Nat}{act:List Int}{k:Nat}(b:k<n):(kE n act).set k [B true]=kE n (act++[(k:Int)]):=by
 apply Nv;intro j;by_cases a:j<n
 ·rw[kU a];by_cases e:k=j
  ·subst e;rw[QP (by rw[eo];exact b)];simp
  rw[Py e,kU a];simp;exact fun c=>absurd (by omega) e
 rw[NI (by rw[PF,eo];omega),NI (by rw[eo];omega)]
def yu{act:List Int}{ks:List Nat}{j k:Nat}(a:ks[j]? =some k):b6 act (ks.take (j+1))=b6 act (ks.take j)+if act.contains (k:Int)=true then 1 else 0:=by
 unfold b6;rw[N1,a,N5,My];simp only[Qo,Oz,SA];split<;>rfl
def bd(l:List Nat):(zL l).map aa=l.map aB:=by simp only[zL,P5];rfl
def am(l:List Nat):(zL l).length=l.length:=NQ ..
def rJ{l:List Nat}{j k:Nat}(h:l[j]? =some k):(zL l)[j]? =some (k:Int):=by unfold zL;rw[NB,h];rfl
/-! slices.Sort of ints -/
def tM(k:Int):List Value:=[.int .i64 k]
def bR(l:List Int):List Int:=l.mergeSort fun x y=>decide (x<=y)
def tP{w:World}{g:Nat}{l:List Int}(h:Holds id w g 0 (l.map (Value.int .i64)).toArray):Holds (Value.int .i64) w g 0 l.toArray:=fun j b=>by
 have a:j<l.length:=by simpa using b
 have:=h j (by simpa using a);rw[Pj _ j (by simpa using a)]at this;rw[Pj _ j b];simpa using this
def Tryz.sortIEnter: ∀(args:Array Value)(w:World),(callFunc 174 args).run prog w= .ok (.enter 174 args) w:=Rb func174 (by kernel_rfl) rfl
def qV(l:List Int)(f:l.length<4611686018427387904):CT prog 174 [] 3 1 (l.map tM) ((bR l).map tM):=by
 by_cases d:l=[]
 ·subst d;rw[show bR []=[] by simp[bR]];exact mh Tryz.sortIEnter fun p a w=>Any.slices_Sort_int_none Tryz.sortI p a w
 refine kD (by rw[NQ];exact O2.2 d) Tryz.sortIEnter (by simp[bR]) (fun x c=> ?_) (fun x c=> ?_) fun w g a b e=> ?_
 ·obtain⟨y,_,rfl⟩:=NE.1 c;rfl
 ·obtain⟨y,_,rfl⟩:=NE.1 c;exact⟨rfl,fun u h=>by rw[NO.1 h];rfl⟩
 have b:Holds id w g 0 (l.map (Value.int .i64)).toArray:=by rw[<-d9];exact b
 have:=Any.slices_Sort_int Tryz.sortI g 0 a l w (tP b) e f;rw[NQ];refine(show Calls prog 174 #[.slice (some ⟨g,0,none⟩) l.length a] w _ from this).mono ?_;rintro j k ⟨rfl,n,i,rfl⟩;refine⟨rfl,n,i,?_⟩;rw[j4,show ((bR l).map tM).flatten=(bR l).map (Value.int .i64) from d9 (Value.int .i64) _];simp[bR]
end
section
open Go.RowKit
def an(c:aq)(i:Int):Bool:=match at_ c i with
 |some s=>s.kind==1
 |none=>false
def kT(c:aq)(i:Int):Int:=match at_ c i with
 |some s=>s.initial
 |none=> -1
def a7(c:aq)(k i:Int):Bool:=(j0 c i).contains k
def rp(c:aq)(a i:Int):Bool:=decide (i<0)||(an c i&&a7 c i a)
def ns(c:aq)(a b:Int):Int:=((j0 c a).find? (rp c b)).getD (-1)
def iH{a:Type}{p:a->Bool}{l:List a}{j:Nat}{x:a}(h:l[j]? =some x):(l.drop j).find? p=if p x=true then some x else(l.drop (j+1)).find? p:=by
 obtain⟨b,rfl⟩:=Mr.1 h;rw[Om b,List.find?_cons];cases p l[j]<;>rfl
abbrev g6(c:aq)(i:Int):List Int:=zL (av c i true)
def bP{c:aq}(h:Right c){i k:Int}(d:k∈g6 c i):fb c k=true/\aP c k=i/\i<k:=by
 obtain⟨j,b,rfl⟩:=NE.1 d;obtain⟨s,a,e,_⟩:=zh b;refine⟨aV.2 (Mr.1 a).1,by rw[eH a,e],?_⟩;have:=h.par j s a;omega
def tJ(c:aq)(i:Int):(g6 c i).Nodup:=by
 unfold g6 zL;exact List.Pairwise.map _ (fun a b d e=>d (by omega)) (bW c i true)
/-! What comes with a state -/
def pN(c:aq)(l:List Int)(i:Int):List Int:=
 if an c i=true then(if (g6 c i).any (fun k=>l.contains k)=true then [] else if 0<=kT c i then [kT c i] else []) else g6 c i
def jW(c:aq)(l:List Int)(i:Int):List Int:=(pN c l i).filter fun k=> !l.contains k
def jE(c:aq):Nat->List Int->List Int->List Int
 |0,l,_=>l
 |_+1,l,[]=>l
 |f+1,l,i::r=>jE c f (l++jW c l i) (r++jW c l i)
def nv(c:aq)(l:List Int):Nat:=((List.range c.Z9.length).filter fun k:Nat=> !l.contains (k:Int)).length
def px(c:aq)(l:List Int):List Int:=jE c (nv c l+l.length) l l
inductive Gr(c:aq)(l:List Int):Int->Prop
 |base {x:Int} (h:x∈l):Gr c l x
 |ini {p:Int} (h:Gr c l p) (hp:an c p=true) (hn: ∀k∈g6 c p,k∉l) (h0:0<=kT c p):Gr c l (kT c p)
 |par {p k:Int} (h:Gr c l p) (hp:an c p=false) (hk:k∈g6 c p):Gr c l k
def il{c:aq}(h:ch c){p:Int}(b:an c p=true)(d:0<=kT c p):kT c p∈g6 c p:=by
 unfold an at b;unfold kT at d |-;cases a:at_ c p with
 |none=>rw[a]at b;cases b
 | some s=>
   rw[a]at b d;simp only at b d |-
   have l:0<=p:=by
    unfold at_ at a;split at a
    ·assumption
    cases a
   obtain⟨k,rfl⟩: ∃k:Nat,p=k:=⟨p.toNat,by omega⟩;rw[bN]at a;have i:s.kind=1:=by simpa using b
   rcases h.cases a with⟨_,g|⟨j,f,e⟩⟩|⟨e,_⟩|⟨e,_⟩|⟨e|e,_⟩
   ·omega
   ·rw[e];exact NE.2 ⟨j,f,rfl⟩
   all_goals omega
def Bb{c:aq}(h:ch c){l:List Int}{i k:Int}(a:k∈pN c l i):k∈g6 c i:=by
 unfold pN at a;split at a
 ·rename_i d;split at a
  ·cases a
  split at a
  ·rename_i b;rw[NO.1 a];exact il h d b
  cases a
 exact a
def fN{c:aq}(h:ch c){l:List Int}{i k:Int}(d:k∈jW c l i):k∉l/\fb c k=true/\aP c k=i:=by
 obtain⟨a,b⟩:=ND.1 d;obtain⟨e,f,_⟩:=bP h.toRight (Bb h a);exact⟨by simpa using b,e,f⟩
def sn(c:aq)(l:List Int)(i:Int):(pN c l i).Nodup:=by
 unfold pN;split
 ·split
  ·exact SJ
  split
  ·simp
  exact SJ
 exact tJ c i
def fv(c:aq)(l:List Int)(i:Int):(jW c l i).Nodup:=(sn c l i).sublist OR
def tf{a:Type}(p q:a->Bool): ∀l:List a,(l.filter fun x=>p x&& !q x).length+(l.filter fun x=>p x&&q x).length=(l.filter p).length
 |[]=>rfl
 | x::l=>by
   have:=tf p q l;simp only[Oz];cases p x<;>cases q x<;>simp<;>omega
def lN{c:aq}{l a:List Int}(i:a.Nodup)(d: ∀k∈a,k∉l/\fb c k=true):nv c (l++a)+a.length<=nv c l:=by
 have e:=tf (fun k:Nat=> !l.contains (k:Int)) (fun k:Nat=>a.contains (k:Int)) (List.range c.Z9.length)
 have h:nv c (l++a)=((List.range c.Z9.length).filter fun k:Nat=> !l.contains (k:Int)&& !a.contains (k:Int)).length:=by
  unfold nv
  congr 1
  apply Ob;intro k _;simp[List.contains_eq_mem]
 have o:a.length<=((List.range c.Z9.length).filter fun k:Nat=> !l.contains (k:Int)&&a.contains (k:Int)).length:=by
  have:(a.map Int.toNat).Nodup:=by
   refine List.Pairwise.map (R:=fun x y=>x≠y/\0<=x/\0<=y) _ (fun x y j=>by omega) ?_;refine Qi ?_ i;intro x y g b f;exact⟨f,(aI.1 (d x g).2).1,(aI.1 (d y b).2).1⟩
  have:=this.length_le_of_subset (l₂:=(List.range c.Z9.length).filter fun k:Nat=> !l.contains (k:Int)&&a.contains (k:Int)) fun x g=>by
   obtain⟨y,b,rfl⟩:=NE.1 g;obtain⟨m,n⟩:=d y b;have p:=aI.1 n;rw[ND,NX];have e:((y.toNat:Nat):Int)=y:=by omega
   refine⟨by omega,?_⟩;rw[e];simp[m,b]
  simpa using this
 unfold nv at h |-;omega
structure Grown(c:aq)(l0 l t:List Int):Prop where
 sub: ∀x∈l0,x∈l
 todo: ∀x∈t,x∈l
 nd:t.Nodup
 gr: ∀x∈l,Gr c l0 x
 par: ∀x∈l,x∉l0->aP c x∈l/\aP c x∉t
 done: ∀p∈l,p∉t->(an c p=true->(∀k∈g6 c p,k∉l0)->0<=kT c p->kT c p∈l)/\(an c p=false-> ∀k∈g6 c p,k∈l)
def Grown.step{c:aq}(h:ch c){A l r:List Int}{i:Int}(g:Grown c A l (i::r)):Grown c A (l++jW c l i) (r++jW c l i):=by
 have z:=g.todo i (by simp);obtain⟨L,M⟩:=PM.1 g.nd
 have H: ∀k∈g6 c i,k∈l->k∈A:=fun k m o=>PQ fun D=>by
  have:=(g.par k o D).2;rw[(bP h.toRight m).2.1]at this;exact this (by simp)
 have C: ∀x∈jW c l i,Gr c A x:=fun x f=>by
  obtain⟨n,O⟩:=ND.1 f;have J:=n;unfold pN at n;split at n
  ·rename_i hp;split at n
   ·cases n
   rename_i s;split at n
   ·rename_i B;rw[NO.1 n];refine .ini (g.gr i z) hp (fun k m o=>s ?_) B;rw[OE];exact⟨k,m,by simpa using g.sub k o⟩
   cases n
  rename_i hp;exact .par (g.gr i z) (by simpa using hp) n
 refine⟨fun x f=>Ns _ (g.sub x f),fun x f=> ?_,?_,fun x f=> ?_,fun x f D=> ?_,fun p hp t=> ?_⟩
 ·rcases NY.1 f with f|f
  ·exact Ns _ (g.todo x (O3 _ f))
  exact PH _ f
 ·rw[Ov];refine⟨M,fv c l i,fun x f y K e=> ?_⟩;subst e;exact(fN h K).1 (g.todo x (O3 _ f))
 ·rcases NY.1 f with f|f
  ·exact g.gr x f
  exact C x f
 ·rcases NY.1 f with f|f
  ·obtain⟨w,I⟩:=g.par x f D;refine⟨Ns _ w,fun j=> ?_⟩;rcases NY.1 j with j|j
   ·exact I (O3 _ j)
   exact(fN h j).1 w
  obtain⟨w,_,N⟩:=fN h f;rw[N];refine⟨Ns _ z,fun j=> ?_⟩;rcases NY.1 j with j|j
  ·exact L j
  exact(fN h j).1 z
 have G:p∈l:=by
  rcases NY.1 hp with hp|hp
  ·exact hp
  exact absurd (PH _ hp) t
 by_cases e:p=i
 ·subst e
  have v: ∀k∈pN c l p,k∈l++jW c l p:=fun k m=>by
   by_cases o:k∈l
   ·exact Ns _ o
   exact PH _ (ND.2 ⟨m,by simpa using o⟩)
  refine⟨fun q E B=>v _ ?_,fun q k m=>v k ?_⟩
  ·unfold pN;rw[Mw q,Mt ?_,Mw B]
   ·simp
   rw[OE];rintro⟨k,m,o⟩;exact E k m (H k m (by simpa using o))
  unfold pN;rw[Mt (by rw[q];simp)];exact m
 have u:p∉i::r:=fun j=>by
  rcases NV.1 j with rfl|j
  ·exact e rfl
  exact t (Ns _ j)
 obtain⟨w,I⟩:=g.done p G u;exact⟨fun a b d=>Ns _ (w a b d),fun a k m=>Ns _ (I a k m)⟩
def Grown.all{c:aq}{d l:List Int}(g:Grown c d l []){x:Int} :x∈l↔Gr c d x:=by
 refine⟨g.gr x,fun h=> ?_⟩
 induction h with
 |base h=>exact g.sub _ h
 |ini _ a i e b=>exact(g.done _ b (by simp)).1 a i e
 |par _ a f b=>exact(g.done _ b (by simp)).2 a _ f
def Grown.grow{c:aq}(h:ch c){d:List Int} : ∀(f:Nat)(l t:List Int),Grown c d l t->nv c l+t.length<=f->Grown c d (jE c f l t) []
 | 0,l,t,g,a=>by
   have:t=[]:=Np (by omega);subst this;exact g
 |f+1,l,[],g,a=>g
 | f+1,l,i::r,g,a=>by
   unfold jE;refine Grown.grow h f _ _ (g.step h) ?_;have:=lN (c:=c) (l:=l) (fv c l i) fun k b=>⟨(fN h b).1,(fN h b).2.1⟩;simp only[My,NN]at a |-;omega
def xK{c:aq}(h:ch c){j:List Int} : ∀ {f g:Nat}{l t:List Int},Grown c j l t->nv c l+t.length<=f->nv c l+t.length<=g->jE c f l t=jE c g l t
 |0,0,_,_,_,_,_=>rfl
 | 0,g+1,l,t,_,a,_=>by
   have:t=[]:=Np (by omega);subst this;rfl
 | f+1,0,l,t,_,_,b=>by
   have:t=[]:=Np (by omega);subst this;rfl
 |f+1,g+1,l,[],_,_,_=>rfl
 | f+1,g+1,l,i::r,e,a,b=>by
   have:=lN (c:=c) (l:=l) (fv c l i) fun k d=>⟨(fN h d).1,(fN h d).2.1⟩;simp only[NN]at a b;unfold jE;exact xK h (e.step h) (by rw[My];omega) (by rw[My];omega)
def qx{c:aq}{l:List Int}(b:l.Nodup):Grown c l l l:=⟨fun _ h=>h,fun _ h=>h,b,fun _ h=> .base h,fun _ h a=>absurd h a,fun _ h a=>absurd h a⟩
def ej{c:aq}(h:ch c){l:List Int}(a:l.Nodup){x:Int} :x∈px c l↔Gr c l x:=((qx a).grow h _ _ _ (NC _)).all
def Gr.real{c:aq}(h:ch c){l:List Int}{x:Int}(g:Gr c l x):x∈l\/(x∈g6 c (aP c x)/\Gr c l (aP c x)/\(an c (aP c x)=true->x=kT c (aP c x)/\ ∀k∈g6 c (aP c x),k∉l)):=by
 cases g with
 |base h=>exact .inl h
 | ini g b i f=>
   rename_i p;have a:=il h b f;have e:=(bP h.toRight a).2.1;rw[e];exact .inr ⟨a,g,fun _=>⟨rfl,i⟩⟩
 | par g b a=>
   have e:=(bP h.toRight a).2.1;rw[e];exact .inr ⟨a,g,fun d=>by rw[b]at d;cases d⟩
def Gr.in{c:aq}(h:ch c){l:List Int}(b: ∀x∈l,fb c x=true){x:Int}(g:Gr c l x):fb c x=true:=by
 rcases g.real h with a|⟨a,_⟩
 ·exact b x a
 exact(bP h.toRight a).1
def Gr.congr{c:aq}{l e:List Int}(h: ∀x,x∈l↔x∈e){x:Int}(g:Gr c l x):Gr c e x:=by
 induction g with
 |base m=>exact .base ((h _).1 m)
 |ini _ b j f d=>exact .ini d b (fun k a i=>j k a ((h k).2 i)) f
 |par _ b a d=>exact .par d b a
def Cs{c:aq}{l d:List Int}(h: ∀x,x∈l↔x∈d):bt c l=bt c d:=by
 have e:l.all (fb c)=d.all (fb c):=by
  rw[N4,Mz,Mz];exact⟨fun a x b=>a x ((h x).2 b),fun a x b=>a x ((h x).1 b)⟩
 unfold bt;rw[e];split
 ·apply Ob;intro k _;rw[N4,Mx,Mx];exact h k
 rfl
/-! As the document says -/
def jh(c:aq)(l:List Int)(i:Nat):Option Int:=match c.Z9[i]? with
 |some s=>if l.contains (i:Int)=true then
  (if s.kind=1/\av c i true≠[]/\b6 l (av c i true)=0 then some s.initial
   else if s.kind=2 then(g6 c i).find? (fun k=> !l.contains k) else none)
   else none
 |none=>none
def eZ(c:aq)(l:List Int)(j:Nat):Option Int:=((List.range c.Z9.length).drop j).findSome? (jh c l)
def RW(c:aq)(l:List Int):Int:=(eZ c l 0).getD (-1)
def mT(c:aq):Nat->List Int->List Int
 |0,l=>l
 |f+1,l=>if RW c l<0 then l else mT c f (l++[RW c l])
def iG{l:List Int}{ks:List Nat} :b6 l ks=0↔ ∀k∈zL ks,k∉l:=by
 unfold b6;rw[OZ,Pf];constructor
 ·intro h k a;obtain⟨j,b,rfl⟩:=NE.1 a;simpa using h j b
 intro h k a;simpa using h k (NE.2 ⟨k,a,rfl⟩)
def H0{c:aq}(h:ch c){p l:List Int}(v: ∀x∈l,Gr c p x)(y: ∀x∈p,x∈l){x:Int}(a:eZ c l 0=some x):Gr c p x/\x∉l/\fb c x=true:=by
 unfold eZ at a;rw[List.drop_zero]at a;obtain⟨i,f,a⟩:=List.exists_of_findSome?_eq_some a;unfold jh at a;have f:=NX.1 f;rw[Mq f]at a;have d:at_ c (i:Int)=some c.Z9[i]:=by rw[bN];exact Mq f
 simp only at a;split at a
 ·rename_i n;have s:=v _ (Mx.1 n);split at a
  ·rename_i t;obtain⟨z,o,A⟩:=t;cases a;have m:an c (i:Int)=true:=by unfold an;rw[d];simp[z]
   have r:kT c (i:Int)=c.Z9[i].initial:=by unfold kT;rw[d]
   have q:0<=kT c (i:Int):=by
    rw[r];rcases h.cases (Mq f) with⟨_,⟨e,_⟩|⟨j,_,e⟩⟩|⟨e,_⟩|⟨e,_⟩|⟨e|e,_⟩
    ·exact absurd e o
    all_goals omega
   have g:=iG.1 A;have b:=il h m q;rw[<-r];exact⟨.ini s m (fun k b u=>g k b (y k u)) q,g _ b,(bP h.toRight b).1⟩
  split at a
  ·rename_i o;have b:=On a;have w:=QU a;have m:an c (i:Int)=false:=by unfold an;rw[d];simp[o]
   exact⟨.par s m b,by simpa using w,(bP h.toRight b).1⟩
  cases a
 cases a
def H1{c:aq}(h:ch c){t l:List Int}(D: ∀x∈l,Gr c t x)(J: ∀x∈t,x∈l)(C: ∀x∈t,fb c x=true)(A:eZ c l 0=none){x:Int} :x∈l↔Gr c t x:=by
 refine⟨D x,fun g=> ?_⟩
 have r: ∀i,i<c.Z9.length->jh c l i=none:=fun i v=>by
  unfold eZ at A;rw[List.drop_zero,List.findSome?_eq_none_iff]at A;exact A i (NX.2 v)
 induction g with
 |base h=>exact J _ h
 | ini g f I v B=>
   rename_i p;obtain⟨k,s,rfl,a,u⟩:=cS (g.in h C);have:=r k (Mr.1 a).1;unfold jh at this;rw[a]at this;simp only at this;rw[Mw (Mx.2 B)]at this;have d:s.kind=1:=by unfold an at f;rw[u]at f;simpa using f
   have m:=il h f v;split at this
   ·cases this
   rename_i G;have z:av c k true≠[]:=fun e=>by rw[g6,e]at m;simp at m
   have E:b6 l (av c k true)≠0:=fun e=>G ⟨d,z,e⟩;rw[Ne,iG]at E;obtain⟨j,H⟩:=Classical.not_forall.1 E;obtain⟨n,b⟩:=Classical.not_imp.1 H;have b:=QZ.1 b;rcases (D j b).real h with q|⟨_,_,q⟩
   ·exact absurd q (I j n)
   rw[(bP h.toRight n).2.1]at q;rw[<-(q f).1];exact b
 | par g f w B=>
   rename_i p x;obtain⟨k,s,rfl,a,u⟩:=cS (g.in h C);have:=r k (Mr.1 a).1;unfold jh at this;rw[a]at this;simp only at this;rw[Mw (Mx.2 B)]at this;have d:s.kind≠1:=by unfold an at f;rw[u]at f;simpa using f
   have o:av c k true≠[]:=fun e=>by rw[g6,e]at w;simp at w
   have y:s.kind=2:=by
    rcases h.cases a with⟨e,_⟩|⟨e,_⟩|⟨_,e,_⟩|⟨_,e,_⟩
    ·exact absurd e d
    ·exact e
    ·exact absurd (mH e) o
    exact absurd (mH e) o
   rw[Mt (fun e=>d e.1),Mw y,Pv]at this;simpa using this x w
def xL{c:aq}(h:ch c){i:List Int}(j: ∀x∈i,fb c x=true): ∀(f:Nat)(l:List Int),(∀x∈l,Gr c i x)->(∀x∈i,x∈l)->nv c l<f-> ∀ {x:Int},x∈mT c f l↔Gr c i x
 |0,l,d,e,n=>by omega
 | f+1,l,d,e,n=>by
   unfold mT RW;cases m:eZ c l 0 with
   | none=>
     simp only[PG];rw[Mw (by omega)];exact H1 h d e j m
   | some y=>
     obtain⟨g,p,b⟩:=H0 h d e m;simp only[OH];rw[Mt (by have:=aI.1 b;omega)];refine xL h j f _ (fun z b=> ?_) (fun z b=>Ns _ (e z b)) ?_
     ·rcases NY.1 b with b|b
      ·exact d z b
      rw[NO.1 b];exact g
     have:=lN (c:=c) (l:=l) (a:=[y]) (by simp) fun k o=>by rw[NO.1 o];exact⟨p,b⟩
     simp only[Na]at this;omega
def FJ(c:aq)(l:List Int):nv c l<=c.Z9.length:=by
 unfold nv;exact NK (NS ..) (by simp)
def A'(c:aq)(l:List Int):List Int:=mT c (c.Z9.length+1) l
def tV{c:aq}(h:ch c){l:List Int}(b: ∀x∈l,fb c x=true){x:Int} :x∈A' c l↔Gr c l x:=xL h b _ l (fun _ a=> .base a) (fun _ a=>a) (by have:=FJ c l;omega)
/-! The ways up of some states -/
def OF(o:List Int)(i:Int):List Int:=if o.contains i=true then o else o++[i]
def AS(c:aq)(d:Int)(o U:List Int)(m:Nat):List Int:=(U.take m).foldl (fun o k=>if 0<=k/\a7 c d k=true then OF o k else o) o
def tn(c:aq)(d:Int)(l:List Int)(j:Nat):List Int:=(l.take j).foldl (fun o i=>AS c d (OF o i) (j0 c i) (j0 c i).length) []
def m7(c:aq)(l:List Int)(d:Int):List Int:=tn c d l l.length
def bZ{a c:Type}(f:c->a->c)(b:c){l:List a}{j:Nat}{x:a}(h:l[j]? =some x):(l.take (j+1)).foldl f b=f ((l.take j).foldl f b) x:=by
 rw[N1,h,Ro];rfl
def vO{o:List Int}{i x:Int} :x∈OF o i↔x∈o\/x=i:=by
 unfold OF;split
 ·rename_i h;have h:=Mx.1 h;exact⟨.inl,fun a=>a.elim id fun e=>e ▸ h⟩
 rw[NY,NO]
def nf{o:List Int}(h:o.Nodup)(i:Int):(OF o i).Nodup:=by
 unfold OF;split
 ·exact h
 rename_i a;rw[Ov];refine⟨h,by simp,fun x b y c e=> ?_⟩;rw[NO.1 c]at e;subst e;exact a (Mx.2 b)
def ye{c:aq}{d:Int}{U:List Int} : ∀(m:Nat){o:List Int},m<=U.length->o.Nodup->(AS c d o U m).Nodup/\ ∀x,x∈AS c d o U m↔x∈o\/(x∈U.take m/\0<=x/\a7 c d x=true)
 |0,o,_,g=>⟨g,fun x=>by simp[AS]⟩
 | m+1,o,n,g=>by
   obtain⟨k,i⟩: ∃k,U[m]? =some k:=⟨U[m],Mq (by omega)⟩;obtain⟨j,l⟩:=ye (c:=c) (d:=d) (U:=U) m (o:=o) (by omega) g;have e:AS c d o U (m+1)=if 0<=k/\a7 c d k=true then OF (AS c d o U m) k else AS c d o U m:=bZ _ _ i
   have h: ∀x,x∈U.take (m+1)↔x∈U.take m\/x=k:=fun x=>by rw[N1,i];simp
   rw[e];split
   ·rename_i f;refine⟨nf j k,fun x=> ?_⟩;rw[vO,l,h];constructor
    ·rintro((a|⟨a,b⟩)|rfl)
     ·exact .inl a
     ·exact .inr ⟨.inl a,b⟩
     exact .inr ⟨.inr rfl,f⟩
    rintro(a|⟨a|rfl,b⟩)
    ·exact .inl (.inl a)
    ·exact .inl (.inr ⟨a,b⟩)
    exact .inr rfl
   rename_i f;refine⟨j,fun x=> ?_⟩;rw[l,h];constructor
   ·rintro(a|⟨a,b⟩)
    ·exact .inl a
    exact .inr ⟨.inl a,b⟩
   rintro(a|⟨a|rfl,b⟩)
   ·exact .inl a
   ·exact .inr ⟨a,b⟩
   exact absurd b f
def uX{c:aq}{d:Int}{l:List Int} : ∀(j:Nat),j<=l.length->(tn c d l j).Nodup/\ ∀x,x∈tn c d l j↔x∈l.take j\/ ∃i∈l.take j,x∈j0 c i/\0<=x/\a7 c d x=true
 |0,_=>⟨SJ,fun x=>by simp[tn]⟩
 | j+1,p=>by
   obtain⟨k,f⟩: ∃k,l[j]? =some k:=⟨l[j],Mq (by omega)⟩;obtain⟨n,o⟩:=uX (c:=c) (d:=d) (l:=l) j (by omega);have e:tn c d l (j+1)=AS c d (OF (tn c d l j) k) (j0 c k) (j0 c k).length:=bZ _ _ f;have g: ∀x,x∈l.take (j+1)↔x∈l.take j\/x=k:=fun x=>by rw[N1,f];simp
   obtain⟨h,m⟩:=ye (c:=c) (d:=d) (U:=j0 c k) _ (NC _) (nf n k);rw[e];refine⟨h,fun x=> ?_⟩;rw[m,vO,o,NR];simp only[g];constructor
   ·rintro(((a|⟨i,a,b⟩)|rfl)|b)
    ·exact .inl (.inl a)
    ·exact .inr ⟨i, .inl a,b⟩
    ·exact .inl (.inr rfl)
    exact .inr ⟨k, .inr rfl,b⟩
   rintro((a|rfl)|⟨i,a|rfl,b⟩)
   ·exact .inl (.inl (.inl a))
   ·exact .inl (.inr rfl)
   ·exact .inl (.inl (.inr ⟨i,a,b⟩))
   exact .inr b
def gz{c:aq}{d:Int}{l:List Int} :(m7 c l d).Nodup/\ ∀x,x∈m7 c l d↔x∈l\/ ∃i∈l,x∈j0 c i/\0<=x/\a7 c d x=true:=by
 have:=uX (c:=c) (d:=d) (l:=l) _ (NC _);rw[NR]at this;exact this
def rT(c:aq)(l:List Int)(d:Int)(i:Nat):Bool:=l.contains (i:Int)||l.any fun k=>a7 c (i:Int) k&&a7 c d (i:Int)
def th(c:aq)(l:List Int)(d:Int):List Nat:=(List.range c.Z9.length).filter (rT c l d)
def gY{c:aq}(h:Right c){k i:Int}(a:k∈j0 c i)(b:0<=k):fb c k=true/\k<i:=by
 have:=kC h 40 i k a
 have e:fb c i=true:=by
  cases d:fb c i with
  |true=>rfl
  |false=>rw[cc d]at a;simp at a
 have:=aI.1 e;exact⟨aI.2 ⟨b,by omega⟩,by omega⟩
def lM{c:aq}(h:Right c){l:List Int}(p: ∀x∈l,fb c x=true){d x:Int} :x∈zL (th c l d)↔x∈m7 c l d:=by
 rw[gz.2];constructor
 ·intro b;obtain⟨i,n,rfl⟩:=NE.1 b;obtain⟨_,a⟩:=ND.1 n;unfold rT at a;rw[OQ,OE]at a;rcases a with a|⟨k,o,a⟩
  ·exact .inl (by simpa using a)
  rw[Mu]at a;exact .inr ⟨k,o,by simpa[a7]using a.1,by omega,a.2⟩
 intro b
 have q:fb c x=true:=by
  rcases b with b|⟨i,_,f,g,_⟩
  ·exact p x b
  exact(gY h f g).1
 have r:=aI.1 q;refine NE.2 ⟨x.toNat,ND.2 ⟨NX.2 (by omega),?_⟩,by omega⟩;have e:((x.toNat:Nat):Int)=x:=by omega
 unfold rT;rw[e,OQ,OE];rcases b with b|⟨i,j,f,g,m⟩
 ·exact .inl (by simpa using b)
 exact .inr ⟨i,j,by rw[Mu];exact⟨by simpa[a7]using f,m⟩⟩
def zy{c:aq}(h:ch c){l:List Int}(a: ∀x∈l,fb c x=true)(d:Int):bt c (px c (m7 c l d))=bt c (A' c (zL (th c l d))):=by
 apply Cs;intro x
 have e: ∀x∈zL (th c l d),fb c x=true:=fun x f=>by
  obtain⟨i,b,rfl⟩:=NE.1 f;exact aV.2 (NX.1 (ND.1 b).1)
 rw[ej h gz.1,tV h e];exact⟨.congr fun x=>(lM h.toRight a).symm, .congr fun x=>lM h.toRight a⟩
/-! Rising lists -/
def Tn(l:List Int)(j:Nat):Bool:=(j==0)||decide (l.getD (j-1) 0<l.getD j 0)
def jT(l:List Int)(j:Nat):Bool:=(j==0)||decide (¬l.getD j 0<l.getD (j-1) 0)
def gP(l:List Int):Bool:= !l.isEmpty&&(List.range l.length).all (Tn l)
def jP(l:List Int):Bool:=(List.range l.length).all (jT l)
def Bo(l:List Int)(j:Nat)(b:j<l.length):Lib.keeps l.toArray j=((j==0)||decide (l.getD j 0≠l.getD (j-1) 0)):=by
 unfold Lib.keeps
 have e: ∀k,k<l.length->l.toArray[k]! =l.getD k 0:=fun k a=>by
  rw[Pj _ k (by simpa using a),NW,Mq a];simp
 rw[e j b,e (j-1) (by omega)];by_cases h:j=0<;>simp[h]
def Ap(l:List Int):(Lib.compact l).length=l.length↔ ∀j,j<l.length->Lib.keeps l.toArray j=true:=by
 unfold Lib.compact Lib.compactUpTo;rw[NQ]
 conv=>lhs;rhs;rw[<-Po (n:=l.length)]
 rw[QD];simp
def Ki(l:List Int):(!l.isEmpty&&jP l&&decide ((Lib.compact l).length=l.length))=gP l:=by
 unfold gP jP;rw[Rl]
 congr 1
 rw[N4,Mu,NF,Ap,Mz,Mz];simp only[NX];constructor
 ·rintro⟨e,f⟩ j d;have a:=e j d;have b:=f j d;rw[Bo l j d]at b;unfold Tn;unfold jT at a;by_cases c:j=0
  ·simp[c]
  simp[c]at a b |-;omega
 intro h;refine⟨fun j d=> ?_,fun j d=> ?_⟩
 ·have a:=h j d;unfold Tn at a;unfold jT;by_cases c:j=0
  ·simp[c]
  simp[c]at a |-;omega
 have a:=h j d;rw[Bo l j d];unfold Tn at a;by_cases c:j=0
 ·simp[c]
 simp[c]at a |-;omega
def kJ{l:List Int}(h:gP l=true):l.Nodup:=by
 unfold gP at h;rw[Mu,Mz]at h
 have a: ∀i d,i+d+1<l.length->l.getD i 0<l.getD (i+d+1) 0:=fun i d=>by
  induction d with
  | zero=>
    intro b;have:=h.2 (i+1) (NX.2 (by omega));unfold Tn at this;simpa using this
  | succ d k=>
    intro b;have m:=k (by omega);have:=h.2 (i+d+1+1) (NX.2 (by omega));unfold Tn at this;have n:l.getD (i+d+1) 0<l.getD (i+d+1+1) 0:=by simpa using this
    rw[show i+(d+1)+1=i+d+1+1 by omega];omega
 rw[Oe,Nn];intro i j c g f e;have:=a i (j-i-1) (by omega);rw[show i+(j-i-1)+1=j by omega]at this;simp[NW,Mq c,Mq g,e]at this
/-! Deep memories -/
def cg(c:aq)(l:List Int)(i:Int):Bool:=match at_ c i with
 |some s=> !(((s.kind==1)&&decide (1<b6 l (av c i true)))||((s.kind==4)||(s.kind==5)))
 |none=>false
def eD(c:aq)(a i:Int):Bool:=a7 c a i&&(av c i true).isEmpty
def iS(c:aq)(a:Int)(l:List Int):List Int:=m7 c l a++[a]
def D'(c:aq)(a:Int)(l:List Int):Bool:=gP l&&l.all (eD c a)&&decide ((px c (iS c a l)).length=(iS c a l).length)&&(px c (iS c a l)).all (cg c (px c (iS c a l)))
def dD(c:aq)(a i:Int):Bool:=a7 c a i&&(match at_ c i with|some s=> !aU s|none=>false)&&(av c i true).isEmpty
def dE(c:aq)(l:List Int)(i:Int):Bool:=match at_ c i with
 |some s=> !(((s.kind==1)&&decide (b6 l (av c i true)≠min (av c i true).length 1))||((s.kind==2)&&decide (b6 l (av c i true)≠(av c i true).length)))
 |none=>false
def mv(c:aq)(a:Int)(l:List Int):List Int:=zL (th c l a)++[a]
def tx(c:aq)(a:Int)(l:List Int):Bool:=gP l&&l.all (dD c a)&&(mv c a l).all (dE c (mv c a l))
def xM(c:aq): ∀(f:Nat)(l t:List Int),∃a,jE c f l t=l++a
 |0,l,t=>⟨[],by simp[jE]⟩
 |f+1,l,[]=>⟨[],by simp[jE]⟩
 | f+1,l,i::r=>by
   obtain⟨a,e⟩:=xM c f (l++jW c l i) (r++jW c l i);exact⟨jW c l i++a,by unfold jE;rw[e,Nl]⟩
def kx(c:aq): ∀(f:Nat)(l t:List Int),l.Nodup->(jE c f l t).Nodup
 |0,l,t,h=>h
 |f+1,l,[],h=>h
 | f+1,l,i::r,h=>by
   unfold jE;refine kx c f _ _ ?_;rw[Ov];refine⟨h,fv c l i,fun x a y b e=> ?_⟩;subst e;have:=(ND.1 b).2;simp[a]at this
def Hf{c:aq}(h:ch c){l:List Int}(d:l.Nodup):(px c l).length=l.length↔ ∀x,Gr c l x->x∈l:=by
 obtain⟨a,e⟩:=xM c (nv c l+l.length) l l;have e:px c l=l++a:=e;constructor
 ·intro i x f;have:a=[]:=Np (by rw[e,My]at i;omega);rw[this,OP]at e;rw[<-e];exact(ej h d).2 f
 intro f;have b:=(kx c (nv c l+l.length) l l d).length_le_of_subset (l₂:=l) fun x g=>f x ((ej h d).1 g);have b:(px c l).length<=l.length:=b;rw[e,My]at b |-;omega
def iP{l a:List Int}(h: ∀x,x∈l↔x∈a)(ks:List Nat):b6 l ks=b6 a ks:=by
 unfold b6
 congr 1
 apply Ob;intro k _;rw[N4,Mx,Mx];exact h _
def sE{c:aq}(h:ch c): ∀(n:Nat)(i k:Int),i<n->k∈j0 c i->0<=k->az c k=true
 | 0,i,k,f,hk,b=>by
   cases a:fb c i with
   |true=>have:=aI.1 a;omega
   |false=>rw[cc a]at hk;simp at hk
 | n+1,i,k,f,hk,b=>by
   cases a:fb c i with
   |false=>rw[cc a]at hk;simp at hk
   | true=>
     rw[cv h.toRight a]at hk;have g:=d4 h.toRight a;rcases hk with rfl|hk
     ·obtain⟨j,s,rfl,d,_⟩:=cS a;have:=h.st j s d;simp only[cN,Mu]at this;have:=this.1.1.1.2;rw[eH d]at b |-;simp only[dF,OQ,Mu,Nz]at this;rcases this with e|⟨_,e⟩
      ·omega
      exact e
     exact sE h n _ k (by omega) hk b
def iE{c:aq}{i:Int}(h:az c i=true): ∃s,at_ c i=some s/\(s.kind=1\/s.kind=2):=by
 unfold az at h;split at h
 ·rename_i s a;refine⟨s,a,?_⟩;unfold eR at h;simpa using h
 cases h
def lV{c:aq}(h:ch c){i:Int}{s:nr}(b:at_ c i=some s):(s.kind=1/\(av c i true=[]\/(0<=kT c i/\kT c i∈g6 c i)))\/(s.kind=2/\av c i true≠[])\/(s.kind=3/\av c i true=[])\/((s.kind=4\/s.kind=5)/\av c i true=[]):=by
 have g:0<=i:=by
  unfold at_ at b;split at b
  ·assumption
  cases b
 obtain⟨k,rfl⟩: ∃k:Nat,i=k:=⟨i.toNat,by omega⟩;have d:kT c (k:Int)=s.initial:=by unfold kT;rw[b]
 rw[bN]at b;rcases h.cases b with⟨e,⟨a,_⟩|⟨j,f,a⟩⟩|⟨e,_,a,_⟩|⟨e,a,_⟩|⟨e,a,_⟩
 ·exact .inl ⟨e, .inl a⟩
 ·exact .inl ⟨e, .inr (by rw[d,a];exact⟨by omega,NE.2 ⟨j,f,rfl⟩⟩)⟩
 ·exact .inr (.inl ⟨e,a⟩)
 ·exact .inr (.inr (.inl ⟨e,mH a⟩))
 exact .inr (.inr (.inr ⟨e,mH a⟩))
def cA{c:aq}{i:Int}{s:nr}(a:at_ c i=some s):an c i=(s.kind==1):=by unfold an;rw[a]
def jx{l:List Int}{ks:List Nat} :b6 l ks=ks.length↔ ∀k∈zL ks,k∈l:=by
 unfold b6;rw[QD];constructor
 ·intro h k a;obtain⟨j,b,rfl⟩:=NE.1 a;simpa using h j b
 intro h k a;simpa using h k (NE.2 ⟨k,a,rfl⟩)
def qJ{c:aq}(h:ch c){a:Int}(W:az c a=true)(l:List Int):D' c a l=tx c a l:=by
 unfold D' tx;cases hr:gP l with
 |false=>rfl
 |true=>
 simp only[Nj];by_cases f:l.all (eD c a)=true
 ·rw[f,Nj]
  have N: ∀x∈l,a7 c a x=true/\av c x true=[]/\fb c x=true:=fun x b=>by
   have:=Mz.1 f x b;unfold eD at this;rw[Mu]at this;refine⟨this.1,by simpa using this.2,?_⟩;cases t:fb c x with
   |true=>rfl
   | false=>
     have:=this.1;unfold a7 at this;rw[cc t]at this;simp at this
  obtain⟨sp,D,V⟩:=iE W
  have hp0:0<=a:=by
   unfold at_ at D;split at D
   ·assumption
   cases D
  obtain⟨un,U⟩:=gz (c:=c) (d:=a) (l:=l)
  have w: ∀x∈m7 c l a,a7 c a x=true:=fun x b=>by
   rcases (U x).1 b with b|⟨_,_,_,_,b⟩
   ·exact(N x b).1
   exact b
  have S:a∉m7 c l a:=fun t=>by
   have:=w _ t;unfold a7 at this;have:=(kC h.toRight 40 a a (Mx.1 this)).2;omega
  have C:(iS c a l).Nodup:=by
   unfold iS;rw[Ov];refine⟨un,by simp,fun x b y hy e=> ?_⟩;rw[NO.1 hy]at e;rw[e]at b;exact S b
  have o: ∀x,x∈mv c a l↔x∈iS c a l:=fun x=>by
   unfold mv iS;rw[NY,NY,lM h.toRight fun x b=>(N x b).2.2]
  have I: ∀x∈iS c a l,x∈l\/az c x=true:=fun x b=>by
   rcases NY.1 b with b|b
   ·rcases (U x).1 b with b|⟨i,_,j,Y,_⟩
    ·exact .inl b
    exact .inr (sE h 40 i x (by
     cases t:fb c i with
     |true=>have:=aI.1 t;have:=h.Z6;omega
     |false=>rw[cc t]at j;simp at j) j Y)
   rw[NO.1 b];exact .inr W
  have J: ∀x∈l,x∈iS c a l:=fun x b=>Ns _ ((U x).2 (.inl b))
  have n: ∀x∈iS c a l,∃s,at_ c x=some s:=fun x b=>by
   rcases I x b with b|b
   ·obtain⟨_,s,_,_,e⟩:=cS (N x b).2.2;exact⟨s,e⟩
   obtain⟨s,e,_⟩:=iE b;exact⟨s,e⟩
  rw[N4,Mu,NF,Hf h C,Mu];constructor
  ·rintro⟨Q,z⟩
   have E: ∀x,x∈px c (iS c a l)↔x∈iS c a l:=fun x=>by
    rw[ej h C];exact⟨Q x, .base⟩
   have z: ∀x∈iS c a l,cg c (iS c a l) x=true:=fun x b=>by
    have:=Mz.1 z x ((E x).2 b);unfold cg at this |-;obtain⟨s,m⟩:=n x b;rw[m]at this |-;rw[iP E]at this;exact this
   refine⟨Mz.2 fun x b=> ?_,Mz.2 fun x b=> ?_⟩
   ·have:=z x (J x b);unfold cg at this;unfold dD;obtain⟨s,m⟩:=n x (J x b);rw[m]at this |-;simp only at this |-;rw[(N x b).1,(N x b).2.1];unfold aU;simp only[Bool.not_or,Mu]at this;simp[this.2.1,this.2.2]at*
   have b:=(o x).1 b;obtain⟨s,m⟩:=n x b;have j:=z x b;unfold cg at j;unfold dE;rw[m]at j |-;simp only at j |-;rw[iP o];rcases lV h m with⟨e,v⟩|⟨e,v⟩|⟨e,v⟩|⟨e,v⟩
   ·have K:b6 (iS c a l) (av c x true)<=1:=by
     rw[e]at j;simp at j;exact j
    have:b6 (iS c a l) (av c x true)=min (av c x true).length 1:=by
     rcases v with v|⟨v,P⟩
     ·rw[v];rfl
     have L:0< (av c x true).length:=by
      cases T:av c x true with
      |nil=>rw[g6,T]at P;simp at P
      |cons=>simp
     have X:b6 (iS c a l) (av c x true)≠0:=fun G=>by
      have M:=iG.1 G;exact M _ P (Q _ (.ini (.base b) (by rw[cA m,e];rfl) M v))
     omega
    simp[e,this]
   ·have:b6 (iS c a l) (av c x true)=(av c x true).length:=jx.2 fun k u=>Q k (.par (.base b) (by rw[cA m,e];rfl) u);simp[e,this]
   ·simp[e]
   rcases e with e|e<;>simp[e]
  rintro⟨R,r⟩
  have r: ∀x∈iS c a l,dE c (iS c a l) x=true:=fun x b=>by
   have:=Mz.1 r x ((o x).2 b);unfold dE at this |-;obtain⟨s,m⟩:=n x b;rw[m]at this |-;rw[iP o]at this;exact this
  have H: ∀x,Gr c (iS c a l) x->x∈iS c a l:=fun x g=>by
   induction g with
   |base h=>exact h
   | ini g q Z G O=>
     rename_i p
     exfalso
     obtain⟨s,m⟩:=n p O;have j:=r p O;unfold dE at j;rw[m]at j;rw[cA m]at q;have u:s.kind=1:=by simpa using q
     have A:=il h (by rw[cA m,u];rfl) G
     have L:0< (av c p true).length:=by
      cases T:av c p true with
      |nil=>rw[g6,T]at A;simp at A
      |cons=>simp
     have G:=iG.2 Z;simp only[u,G]at j;simp at j;omega
   | par g q u O=>
     rename_i p k;obtain⟨s,m⟩:=n p O;have j:=r p O;unfold dE at j;rw[m]at j;rw[cA m]at q;rcases lV h m with⟨e,_⟩|⟨e,_⟩|⟨_,e⟩|⟨_,e⟩
     ·rw[e]at q;cases q
     ·simp[e]at j;exact jx.1 j k u
     ·rw[g6,e]at u;simp at u
     rw[g6,e]at u;simp at u
  have E: ∀x,x∈px c (iS c a l)↔x∈iS c a l:=fun x=>by
   rw[ej h C];exact⟨H x, .base⟩
  refine⟨H,Mz.2 fun x b=> ?_⟩;have b:=(E x).1 b;obtain⟨s,m⟩:=n x b;have j:=r x b;unfold dE at j;unfold cg;rw[m]at j |-;simp only at j |-;rw[iP E]
  have B:s.kind≠4/\s.kind≠5:=by
   rcases I x b with b|b
   ·have:=Mz.1 R x b;unfold dD at this;rw[m]at this;simp only[aU,Mu,Bool.not_or]at this;have:=this.1.2;exact⟨by simpa using this.1,by simpa using this.2⟩
   obtain⟨s',e,v⟩:=iE b;rw[m]at e;cases e;omega
  have K:s.kind=1->b6 (iS c a l) (av c x true)<=1:=fun e=>by
   simp[e]at j;omega
  by_cases e:s.kind=1
  ·have:=K e;simp[e];omega
  simp[e,B.1,B.2]
 have f:l.all (eD c a)=false:=by simpa using f
 rw[f]
 have:l.all (dD c a)=false:=by
  rw[PR]at f |-;obtain⟨x,b,e⟩:=f;refine⟨x,b,fun t=>e ?_⟩;unfold dD at t;unfold eD;simp only[Mu]at t |-;exact⟨t.1.1,t.2⟩
 rw[this];rfl
/-! Memories -/
abbrev ds:=Int×List Int
def lQ(c:aq)(m:ds):Bool:=match at_ c m.1 with
 |some s=>if s.kind=4 then decide (m.2.length=1)&&(g6 c s.parent).contains (m.2.getD 0 0) else(s.kind==5)&&D' c s.parent m.2
 |none=>false
def nH(c:aq)(l:List ds)(j:Nat):Bool:=match l[j]? with
 |some m=>lQ c m&&((j==0)||decide ((l.getD (j-1) (0,[])).1<m.1))
 |none=>true
def bc(c:aq)(l:List ds):Bool:=(List.range l.length).all (nH c l)
end
end Go.Proofs.YtfhkmjbjafeckaaGreatDoor
