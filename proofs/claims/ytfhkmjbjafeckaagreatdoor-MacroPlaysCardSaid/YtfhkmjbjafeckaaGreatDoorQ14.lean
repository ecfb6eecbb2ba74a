/- Memories, plain: right ones as the program says and as the document says. No program is named here. -/
import Derived.Test.YtfhkmjbjafeckaaGreatDoorQ13
import Derived.Shelf.Slices.In.SortNone
set_option maxRecDepth 100000
set_option maxHeartbeats 4000000
set_option linter.unusedSimpArgs false
set_option linter.defProp false
namespace Go.Proofs.YtfhkmjbjafeckaaGreatDoor
open Go.Proofs.Tryz
section
open Go.RowKit
abbrev T'(m:Nat):AV:= .lit (.int .u32 m)
def BP(env:cf)(c:aq):b8 prog env 155 [aQ c] (I c.Z9.length):=by
 refine qf func155 call155 ntmps155 results155 ?_;have F:=aQ.eq_1;exact fc
def sN(env:cf)(c:aq)(i:Int):b8 prog env 91 [aQ c,I i] (B (fi c i)):=by
 have f0:=BP env c;refine qf func91 call91 ntmps91 results91 ?_;unfold fi;by_cases a:0<=i
 ·by_cases b:i< (c.Z9.length:Int)
  ·have F:=ai a b;exact kb f0
  have F:=ai a b;exact kb f0
 have F:=a;exact kb f0
def yn(env:cf)(c:aq)(g:Right c)(i:Int):b8 prog env 189 [aQ c,I i] (.own 3 1 ((kf c i).map fun k=>[I k])):=by
 have j:=g.Z6;refine qf func189 call189 ntmps189 results189 ?_;repeat refine nw ?_
 refine ap 5 5 3 1 ?_;have q:(kf c i).length<=40:=kZ 40 i;refine TW (D:=Int×List Int) (fun d r=>[(0,aQ c),(1,I d.1),(5, .row 5 (r 5))]) (fun d _=>[(5,⟨1,d.2.map fun k=>[I k],3,true⟩)]) (fun d _ e=>kf c i=d.2++kf c d.1/\e 5=false) (fun d=>(d.1+1).toNat) (i,[]) ⟨rfl,rfl⟩ ?_;rintro⟨d,l⟩ v e ⟨b,f⟩;simp only at b;have f0:=sN env c d;cases a:fi c d with
 | false=>
   rw[cX a,OM]at b;rw[a]at f0;have F:=ai b f;exact kb f0
 | true=>
   obtain⟨k,s,rfl,n,t⟩:=dB a;have m:=eH n;have h:=dZ g a;rw[m]at h;rw[sK g a,m]at b;rw[a]at f0
   have u:l.length+1<=40:=by
    have:=N7 List.length b;rw[NA,NQ]at this;omega
   have o:((k:Nat):Int)< (c.Z9.length:Int):=by have:=(aI.1 a).2;omega
   have p:dd (l.length+1) 8:=⟨by omega,by omega⟩;have F:=ii UQ o n p f;repeat refine ff f0 ?_
   refine⟨(s.parent,l++[s.parent]),⟨?_,?_⟩,?_,?_,?_⟩
   ·show kf c i=(l++[s.parent])++kf c s.parent;rw[b,Nj];rfl
   ·show _=false;simp only[go_sem,f]
   ·have F:=aQ.eq_1;exact qe
   ·have F:=ai UQ @NC.{0,0};exact qe
   show (s.parent+1).toNat< ((k:Int)+1).toNat;omega
def BQ(env:cf)(m:Nat)(d:m<4294967296)(k:Nat)(f:k<32):b8 prog env 156 [T' m,I k] (B (m.testBit k)):=by
 have e:m/2^k<4294967296:=Nat.lt_of_le_of_lt (Nat.div_le_self ..) d
 have a:((m:Int)).fdiv (2^min k 32)=((m/2^k:Nat):Int):=by
  rw[show min k 32=k by omega,show ((2:Int)^k)=((2^k:Nat):Int) by rw[R5];rfl];exact(SI _ _).symm
 have b:uQ .and .u32 ((m/2^k:Nat):Int) 1=((m/2^k%2:Nat):Int):=by
  have:=u32_and (m/2^k) 1 e (by decide);rw[Nat.and_one_is_mod]at this;exact this
 have c:((((m/2^k%2:Nat):Int))==1)=m.testBit k:=by
  rw[<-Ft];rcases Nat.mod_two_eq_zero_or_one (m/2^k) with h|h<;>rw[h]<;>rfl
 refine qf func156 call156 ntmps156 results156 ?_;have F:=gs a b c;exact fc
def oq(m:Nat)(l:List Nat)(j:Nat):List Nat:=(l.take j).filter fun k=>m.testBit k
def Gn{m:Nat}{l:List Nat}{j k:Nat}(h:l[j]? =some k):oq m l (j+1)=if m.testBit k then oq m l j++[k] else oq m l j:=by
 unfold oq;rw[N4,h,N6];cases a:m.testBit k<;>simp[a]
def Iu(m:Nat)(l:List Nat)(j:Nat):(oq m l j).length<=l.length:=by
 unfold oq;exact NN (NV ..) (by rw[NK];omega)
def AL(env:cf)(c:aq)(o:Right c)(m:Nat)(s:m<4294967296):b8 prog env 92 [aQ c,T' m] (.own 3 1 (((g7 c (-1)).filter fun k=>m.testBit k).map aB)):=by
 have r:=o.Z6;have u:=u5 o;have g:=gS o;refine qf func92 call92 ntmps92 results92 ?_;have F:=aQ.eq_1;repeat refine st ?_
 generalize g7 c (-1)=W at*;refine ap 5 5 3 1 ?_;refine aH (D:=Nat) (fun j v=>[(1,T' m),(5, .row 5 (v 5)),(13, .seq 1 (W.map aB)),(14,I W.length),(15,I j)]) (fun j _=>[(5,⟨1,(oq m W j).map aB,3,true⟩)]) (fun j _ d=>j<=W.length/\d 5=false) (fun j=>W.length-j) 0 ?_ ?_ ?_ ?_
 ·exact⟨NJ _,rfl⟩
 ·exact qe
 ·(simp only[go_sem,F])
  rfl
 rintro j x d ⟨w,b⟩;by_cases a:j<W.length
 ·obtain⟨k,l⟩:=gE a;have f:k<32:=by have:=(g k).1 (My l);omega
  have f0:=BQ env m s k f;have h:=ip a;have p:=aD a (by omega);have t:=Iu m W j;have q:dd ((oq m W j).length+1) 8:=⟨by omega,by omega⟩;have n:=Gn (m:=m) l;cases i:m.testBit k with
  | true=>
    rw[i]at f0;rw[i,Mw rfl]at n;have F:=kv h p l Uu q b;repeat refine ff f0 ?_
    refine⟨j+1,⟨a,by simp only[go_sem,b]⟩,?_,?_,by omega⟩
    ·exact qe
    have F:=gs n Uu @NC.{0,0};exact qe
  | false=>
    rw[i]at f0;rw[i,Mv Nb]at n;have F:=kv h p l Uu q b;repeat refine ff f0 ?_
    refine⟨j+1,⟨a,by simp only[go_sem,b]⟩,?_,?_,by omega⟩
    ·exact qe
    have F:=gs n Uu @NC.{0,0};exact qe
 obtain rfl:j=W.length:=by omega
 have h:=nl W.length;have e:oq m W W.length=W.filter fun k=>m.testBit k:=by unfold oq;rw[NS]
 have F:=gs h e b;exact fc
def FM(l:List Int)(j:Nat):Nat:=(l.take j).foldl (fun m k=>m||| 2^k.toNat) 0
def HG{l:List Int}{j:Nat}{k:Int}(h:l[j]? =some k):FM l (j+1)=FM l j||| 2^k.toNat:=by
 unfold FM;rw[N4,h,Ro];rfl
def vI: ∀(l:List Int)(m b:Nat),(l.foldl (fun m k=>m||| 2^k.toNat) m).testBit b=(m.testBit b||l.any fun k=>k.toNat==b)
 |[],m,b=>by simp
 | k::l,m,b=>by
   rw[R4,vI l,Qs,QI,QH,Bool.or_assoc];rfl
def sr{c:aq}(d:Right c){l:List Int} : ∀ {j:Nat},(∀k∈l.take j,fi c k=true)->FM l j<4294967296:=fun {j} h=>by
 have a:=d.Z6;apply Nat.lt_pow_two_of_testBit (n:=32);intro b f;unfold FM;rw[vI,Nat.zero_testBit,PF,Q0];intro k e;have:=aI.1 (h k e);simp;omega
def HH{c:aq}{l:List Int}(h:l.all (fi c)=true):((g7 c (-1)).filter fun k=>(FM l l.length).testBit k)=b7 c l:=by
 unfold b7;rw[Mw h];apply O9;intro k _;unfold FM;rw[vI,Nat.zero_testBit,PF,NS,N8,OG,Mz];constructor
 ·rintro⟨x,a,b⟩;have:=(aI.1 (NB.1 h x a)).1;have b:x.toNat=k:=by simpa using b
  rw[show (k:Int)=x by omega];exact a
 exact fun a=>⟨k,a,by simp⟩
def BR{c:aq}{l:List Int}{j:Nat}{k:Int}(h:(l.take j).all (fi c)=true)(a:l[j]? =some k)(b:fi c k=true):(l.take (j+1)).all (fi c)=true:=by
 rw[N4,a,QT,h];simp[b]
def BV{c:aq}{l:List Int}{j:Nat}{k:Int}(a:l[j]? =some k)(b:fi c k=false):b7 c l=[]:=by
 unfold b7;rw[Mv];intro h;have:=NB.1 h k (My a);rw[b]at this;cases this
abbrev aa(k:Int):List AV:=[I k]
def UB:=@aa.eq_1
def gB(env:cf)(c:aq)(i:Right c)(l:List Int)(t:l.length<=1000000):b8 prog env 50 [aQ c, .seq 1 (l.map aa)] (.own 3 1 ((b7 c l).map aB)):=by
 have q:=i.Z6;refine qw func50 call50 ntmps50 results50 ?_;repeat refine nw ?_
 refine aH (D:=Nat) (fun j _=>[(0,aQ c),(5,T' (FM l j)),(8, .seq 1 (l.map aa)),(9,I l.length),(10,I j)]) (fun _ _=>[]) (fun j _ _=>j<=l.length/\(l.take j).all (fi c)=true) (fun j=>l.length-j) 0 ?_ ?_ ?_ ?_
 ·exact⟨NJ _,rfl⟩
 ·(simp only[go_sem])
  rfl
 ·exact TZ
 rintro j v r ⟨s,a⟩;by_cases d:j<l.length
 ·obtain⟨k,b⟩:=gE d;have f:=ip d;have h:=aD d (by omega);have f0:=sN env c k;cases g:fi c k with
  | false=>
    rw[g]at f0;have F:=gs f h b;repeat refine ff f0 ?_
    (refine aM ?_;refine⟨_,(by show (ag _ _ _).run _=some _;simp only[go_sem,F];rfl),?_⟩)
    rw[BV b g];exact fN.own_nil _ _ (by decide)
  | true=>
    rw[g]at f0;have u:=aI.1 g;obtain⟨p,rfl⟩: ∃p:Nat,k=p:=⟨k.toNat,by omega⟩;have m:=sS (p:=p) (by omega);have e:=sr i (j:=j) (fun k b=>NB.1 a k b);have n:=zm e (jO p (by omega));have o:=HG b;rw[OP]at o;have F:=ii f h m n b;repeat refine ff f0 ?_
    refine⟨j+1,⟨d,BR a b g⟩,?_,?_,by omega⟩
    ·have F:=kv f h m n b o;exact qe
    ·(simp only[go_sem,f,h,m,n,b,o])
 obtain rfl:j=l.length:=by omega
 have f:=nl l.length;have e:=sr i (j:=l.length) (fun k b=>NB.1 a k b);rw[NS]at a;have f1:=AL env c i _ e;rw[HH a]at f1;have F:=f;repeat refine ff f1 ?_
 (refine aM ?_;refine⟨_,(by show (ag _ _ _).run _=some _;simp only[go_sem,F];rfl),?_⟩)
 exact fN.refl _
end
section
open Go.RowKit Go.Sort Go.Shelf Go.Lib
def ld(n:Nat)(act:List Int):List (List AV):=(List.range n).map fun k:Nat=>[B (act.contains (k:Int))]
def ei(n:Nat)(act:List Int):(ld n act).length=n:=by unfold ld;simp
def kY{n:Nat}{act:List Int}{k:Nat}(a:k<n):(ld n act)[k]? =some [B (act.contains (k:Int))]:=by
 unfold ld;rw[NE,O5 a];rfl
def Hl(n:Nat):List.replicate n [B false]=ld n []:=by
 unfold ld;apply Nv;intro j;rw[NE];by_cases h:j<n
 ·rw[O5 h,List.getElem?_replicate_of_lt h];rfl
 rw[NL (by simp;omega),NL (by simp;omega)];rfl
def CI{n:Nat}{act:List Int}{i:Int}(h: ∀k:Nat,k<n->(k:Int)≠i):ld n (act++[i])=ld n act:=by
 unfold ld;apply O6;intro k a;have:=h k (NZ.1 a);simp;exact fun e=>absurd e this
def J6{n:Nat}{act:List Int}{k:Nat}(b:k<n):(ld n act).set k [B true]=ld n (act++[(k:Int)]):=by
 apply Nv;intro j;by_cases a:j<n
 ·rw[kY a];by_cases e:k=j
  ·subst e;rw[QP (by rw[ei];exact b)];simp
  rw[Pz e,kY a];simp;exact fun c=>absurd (by omega) e
 rw[NL (by rw[PG,ei];omega),NL (by rw[ei];omega)]
def zC{act:List Int}{ks:List Nat}{j k:Nat}(a:ks[j]? =some k):ch act (ks.take (j+1))=ch act (ks.take j)+if act.contains (k:Int)=true then 1 else 0:=by
 unfold ch;rw[N4,a,N6,NA];simp only[Qo,PC,SA];split<;>rfl
def bl(l:List Nat):(zL l).map aa=l.map aB:=by simp only[zL,P4];rfl
def ar(l:List Nat):(zL l).length=l.length:=NT ..
def rL{l:List Nat}{j k:Nat}(h:l[j]? =some k):(zL l)[j]? =some (k:Int):=by unfold zL;rw[NE,h];rfl
/-! slices.Sort of ints -/
def tY(k:Int):List Value:=[.int .i64 k]
def bQ(l:List Int):List Int:=l.mergeSort fun x y=>decide (x<=y)
def t6{w:World}{g:Nat}{l:List Int}(h:Holds id w g 0 (l.map (Value.int .i64)).toArray):Holds (Value.int .i64) w g 0 l.toArray:=fun j b=>by
 have a:j<l.length:=by simpa using b
 have:=h j (by simpa using a);rw[Pi _ j (by simpa using a)]at this;rw[Pi _ j b];simpa using this
def Tryz.sortIEnter: ∀(args:Array Value)(w:World),(callFunc 174 args).run prog w= .ok (.enter 174 args) w:=Ra func174 (by kernel_rfl) rfl
def qX(l:List Int)(f:l.length<4611686018427387904):A' prog 174 [] 3 1 (l.map tY) ((bQ l).map tY):=by
 by_cases d:l=[]
 ·subst d;rw[show bQ []=[] by simp[bQ]];exact nB Tryz.sortIEnter fun p a w=>Any.slices_Sort_int_none Tryz.sortI p a w
 refine kG (by rw[NT];exact Oi.2 d) Tryz.sortIEnter (by simp[bQ]) (fun x c=> ?_) (fun x c=> ?_) fun w g a b e=> ?_
 ·obtain⟨y,_,rfl⟩:=NG.1 c;rfl
 ·obtain⟨y,_,rfl⟩:=NG.1 c;exact⟨rfl,fun u h=>by rw[NP.1 h];rfl⟩
 have b:Holds id w g 0 (l.map (Value.int .i64)).toArray:=by rw[<-d8];exact b
 have:=Any.slices_Sort_int Tryz.sortI g 0 a l w (t6 b) e f;rw[NT];refine(show Calls prog 174 #[.slice (some ⟨g,0,none⟩) l.length a] w _ from this).mono ?_;rintro j k ⟨rfl,n,i,rfl⟩;refine⟨rfl,n,i,?_⟩;rw[jZ,show ((bQ l).map tY).flatten=(bQ l).map (Value.int .i64) from d8 (Value.int .i64) _];simp[bQ]
end
section
open Go.RowKit
def an(c:aq)(i:Int):Bool:=match at_ c i with
 |some s=>s.kind==1
 |none=>false
def kW(c:aq)(i:Int):Int:=match at_ c i with
 |some s=>s.initial
 |none=> -1
def b4(c:aq)(k i:Int):Bool:=(kf c i).contains k
def rz(c:aq)(a i:Int):Bool:=decide (i<0)||(an c i&&b4 c i a)
def n5(c:aq)(a b:Int):Int:=((kf c a).find? (rz c b)).getD (-1)
def iG{a:Type}{p:a->Bool}{l:List a}{j:Nat}{x:a}(h:l[j]? =some x):(l.drop j).find? p=if p x=true then some x else(l.drop (j+1)).find? p:=by
 obtain⟨b,rfl⟩:=Mt.1 h;rw[Ol b,List.find?_cons];cases p l[j]<;>rfl
abbrev hH(c:aq)(i:Int):List Int:=zL (av c i true)
def bN{c:aq}(h:Right c){i k:Int}(d:k∈hH c i):fi c k=true/\aP c k=i/\i<k:=by
 obtain⟨j,b,rfl⟩:=NG.1 d;obtain⟨s,a,e,_⟩:=zr b;refine⟨aW.2 (Mt.1 a).1,by rw[eH a,e],?_⟩;have:=h.par j s a;omega
def tW(c:aq)(i:Int):(hH c i).Nodup:=by
 unfold hH zL;exact List.Pairwise.map _ (fun a b d e=>d (by omega)) (bV c i true)
/-! What comes with a state -/
def pT(c:aq)(l:List Int)(i:Int):List Int:=
 if an c i=true then(if (hH c i).any (fun k=>l.contains k)=true then [] else if 0<=kW c i then [kW c i] else []) else hH c i
def jT(c:aq)(l:List Int)(i:Int):List Int:=(pT c l i).filter fun k=> !l.contains k
def jC(c:aq):Nat->List Int->List Int->List Int
 |0,l,_=>l
 |_+1,l,[]=>l
 |f+1,l,i::r=>jC c f (l++jT c l i) (r++jT c l i)
def n7(c:aq)(l:List Int):Nat:=((List.range c.Z9.length).filter fun k:Nat=> !l.contains (k:Int)).length
def py(c:aq)(l:List Int):List Int:=jC c (n7 c l+l.length) l l
inductive Gr(c:aq)(l:List Int):Int->Prop
 |base {x:Int} (h:x∈l):Gr c l x
 |ini {p:Int} (h:Gr c l p) (hp:an c p=true) (hn: ∀k∈hH c p,k∉l) (h0:0<=kW c p):Gr c l (kW c p)
 |par {p k:Int} (h:Gr c l p) (hp:an c p=false) (hk:k∈hH c p):Gr c l k
def ij{c:aq}(h:ct c){p:Int}(b:an c p=true)(d:0<=kW c p):kW c p∈hH c p:=by
 unfold an at b;unfold kW at d |-;cases a:at_ c p with
 |none=>rw[a]at b;cases b
 | some s=>
   rw[a]at b d;simp only at b d |-
   have l:0<=p:=by
    unfold at_ at a;split at a
    ·assumption
    cases a
   obtain⟨k,rfl⟩: ∃k:Nat,p=k:=⟨p.toNat,by omega⟩;rw[bK]at a;have i:s.kind=1:=by simpa using b
   rcases h.cases a with⟨_,g|⟨j,f,e⟩⟩|⟨e,_⟩|⟨e,_⟩|⟨e|e,_⟩
   ·omega
   ·rw[e];exact NG.2 ⟨j,f,rfl⟩
   all_goals omega
def Bh{c:aq}(h:ct c){l:List Int}{i k:Int}(a:k∈pT c l i):k∈hH c i:=by
 unfold pT at a;split at a
 ·rename_i d;split at a
  ·cases a
  split at a
  ·rename_i b;rw[NP.1 a];exact ij h d b
  cases a
 exact a
def fM{c:aq}(h:ct c){l:List Int}{i k:Int}(d:k∈jT c l i):k∉l/\fi c k=true/\aP c k=i:=by
 obtain⟨a,b⟩:=NF.1 d;obtain⟨e,f,_⟩:=bN h.toRight (Bh h a);exact⟨by simpa using b,e,f⟩
def tE(c:aq)(l:List Int)(i:Int):(pT c l i).Nodup:=by
 unfold pT;split
 ·split
  ·exact SJ
  split
  ·simp
  exact SJ
 exact tW c i
def fv(c:aq)(l:List Int)(i:Int):(jT c l i).Nodup:=(tE c l i).sublist OT
def tw{a:Type}(p q:a->Bool): ∀l:List a,(l.filter fun x=>p x&& !q x).length+(l.filter fun x=>p x&&q x).length=(l.filter p).length
 |[]=>rfl
 | x::l=>by
   have:=tw p q l;simp only[PC];cases p x<;>cases q x<;>simp<;>omega
def lT{c:aq}{l a:List Int}(i:a.Nodup)(d: ∀k∈a,k∉l/\fi c k=true):n7 c (l++a)+a.length<=n7 c l:=by
 have e:=tw (fun k:Nat=> !l.contains (k:Int)) (fun k:Nat=>a.contains (k:Int)) (List.range c.Z9.length)
 have h:n7 c (l++a)=((List.range c.Z9.length).filter fun k:Nat=> !l.contains (k:Int)&& !a.contains (k:Int)).length:=by
  unfold n7
  congr 1
  apply O9;intro k _;simp[List.contains_eq_mem]
 have o:a.length<=((List.range c.Z9.length).filter fun k:Nat=> !l.contains (k:Int)&&a.contains (k:Int)).length:=by
  have:(a.map Int.toNat).Nodup:=by
   refine List.Pairwise.map (R:=fun x y=>x≠y/\0<=x/\0<=y) _ (fun x y j=>by omega) ?_;refine Qh ?_ i;intro x y g b f;exact⟨f,(aI.1 (d x g).2).1,(aI.1 (d y b).2).1⟩
  have:=this.length_le_of_subset (l₂:=(List.range c.Z9.length).filter fun k:Nat=> !l.contains (k:Int)&&a.contains (k:Int)) fun x g=>by
   obtain⟨y,b,rfl⟩:=NG.1 g;obtain⟨m,n⟩:=d y b;have p:=aI.1 n;rw[NF,NZ];have e:((y.toNat:Nat):Int)=y:=by omega
   refine⟨by omega,?_⟩;rw[e];simp[m,b]
  simpa using this
 unfold n7 at h |-;omega
structure Grown(c:aq)(l0 l t:List Int):Prop where
 sub: ∀x∈l0,x∈l
 todo: ∀x∈t,x∈l
 nd:t.Nodup
 gr: ∀x∈l,Gr c l0 x
 par: ∀x∈l,x∉l0->aP c x∈l/\aP c x∉t
 done: ∀p∈l,p∉t->(an c p=true->(∀k∈hH c p,k∉l0)->0<=kW c p->kW c p∈l)/\(an c p=false-> ∀k∈hH c p,k∈l)
def Grown.step{c:aq}(h:ct c){A l r:List Int}{i:Int}(g:Grown c A l (i::r)):Grown c A (l++jT c l i) (r++jT c l i):=by
 have z:=g.todo i (by simp);obtain⟨L,M⟩:=PN.1 g.nd
 have H: ∀k∈hH c i,k∈l->k∈A:=fun k m o=>Pw fun D=>by
  have:=(g.par k o D).2;rw[(bN h.toRight m).2.1]at this;exact this (by simp)
 have C: ∀x∈jT c l i,Gr c A x:=fun x f=>by
  obtain⟨n,O⟩:=NF.1 f;have J:=n;unfold pT at n;split at n
  ·rename_i hp;split at n
   ·cases n
   rename_i s;split at n
   ·rename_i B;rw[NP.1 n];refine .ini (g.gr i z) hp (fun k m o=>s ?_) B;rw[OG];exact⟨k,m,by simpa using g.sub k o⟩
   cases n
  rename_i hp;exact .par (g.gr i z) (by simpa using hp) n
 refine⟨fun x f=>Ns _ (g.sub x f),fun x f=> ?_,?_,fun x f=> ?_,fun x f D=> ?_,fun p hp t=> ?_⟩
 ·rcases N1.1 f with f|f
  ·exact Ns _ (g.todo x (O2 _ f))
  exact Ov _ f
 ·rw[O8];refine⟨M,fv c l i,fun x f y K e=> ?_⟩;subst e;exact(fM h K).1 (g.todo x (O2 _ f))
 ·rcases N1.1 f with f|f
  ·exact g.gr x f
  exact C x f
 ·rcases N1.1 f with f|f
  ·obtain⟨w,I⟩:=g.par x f D;refine⟨Ns _ w,fun j=> ?_⟩;rcases N1.1 j with j|j
   ·exact I (O2 _ j)
   exact(fM h j).1 w
  obtain⟨w,_,N⟩:=fM h f;rw[N];refine⟨Ns _ z,fun j=> ?_⟩;rcases N1.1 j with j|j
  ·exact L j
  exact(fM h j).1 z
 have G:p∈l:=by
  rcases N1.1 hp with hp|hp
  ·exact hp
  exact absurd (Ov _ hp) t
 by_cases e:p=i
 ·subst e
  have v: ∀k∈pT c l p,k∈l++jT c l p:=fun k m=>by
   by_cases o:k∈l
   ·exact Ns _ o
   exact Ov _ (NF.2 ⟨m,by simpa using o⟩)
  refine⟨fun q E B=>v _ ?_,fun q k m=>v k ?_⟩
  ·unfold pT;rw[Mw q,Mv ?_,Mw B]
   ·simp
   rw[OG];rintro⟨k,m,o⟩;exact E k m (H k m (by simpa using o))
  unfold pT;rw[Mv (by rw[q];simp)];exact m
 have u:p∉i::r:=fun j=>by
  rcases NX.1 j with rfl|j
  ·exact e rfl
  exact t (Ns _ j)
 obtain⟨w,I⟩:=g.done p G u;exact⟨fun a b d=>Ns _ (w a b d),fun a k m=>Ns _ (I a k m)⟩
def Grown.all{c:aq}{d l:List Int}(g:Grown c d l []){x:Int} :x∈l↔Gr c d x:=by
 refine⟨g.gr x,fun h=> ?_⟩
 induction h with
 |base h=>exact g.sub _ h
 |ini _ a i e b=>exact(g.done _ b (by simp)).1 a i e
 |par _ a f b=>exact(g.done _ b (by simp)).2 a _ f
def Grown.grow{c:aq}(h:ct c){d:List Int} : ∀(f:Nat)(l t:List Int),Grown c d l t->n7 c l+t.length<=f->Grown c d (jC c f l t) []
 | 0,l,t,g,a=>by
   have:t=[]:=Nl (by omega);subst this;exact g
 |f+1,l,[],g,a=>g
 | f+1,l,i::r,g,a=>by
   unfold jC;refine Grown.grow h f _ _ (g.step h) ?_;have:=lT (c:=c) (l:=l) (fv c l i) fun k b=>⟨(fM h b).1,(fM h b).2.1⟩;simp only[NA,NQ]at a |-;omega
def xQ{c:aq}(h:ct c){j:List Int} : ∀ {f g:Nat}{l t:List Int},Grown c j l t->n7 c l+t.length<=f->n7 c l+t.length<=g->jC c f l t=jC c g l t
 |0,0,_,_,_,_,_=>rfl
 | 0,g+1,l,t,_,a,_=>by
   have:t=[]:=Nl (by omega);subst this;rfl
 | f+1,0,l,t,_,_,b=>by
   have:t=[]:=Nl (by omega);subst this;rfl
 |f+1,g+1,l,[],_,_,_=>rfl
 | f+1,g+1,l,i::r,e,a,b=>by
   have:=lT (c:=c) (l:=l) (fv c l i) fun k d=>⟨(fM h d).1,(fM h d).2.1⟩;simp only[NQ]at a b;unfold jC;exact xQ h (e.step h) (by rw[NA];omega) (by rw[NA];omega)
def qx{c:aq}{l:List Int}(b:l.Nodup):Grown c l l l:=⟨fun _ h=>h,fun _ h=>h,b,fun _ h=> .base h,fun _ h a=>absurd h a,fun _ h a=>absurd h a⟩
def eh{c:aq}(h:ct c){l:List Int}(a:l.Nodup){x:Int} :x∈py c l↔Gr c l x:=((qx a).grow h _ _ _ (ND _)).all
def Gr.real{c:aq}(h:ct c){l:List Int}{x:Int}(g:Gr c l x):x∈l\/(x∈hH c (aP c x)/\Gr c l (aP c x)/\(an c (aP c x)=true->x=kW c (aP c x)/\ ∀k∈hH c (aP c x),k∉l)):=by
 cases g with
 |base h=>exact .inl h
 | ini g b i f=>
   rename_i p;have a:=ij h b f;have e:=(bN h.toRight a).2.1;rw[e];exact .inr ⟨a,g,fun _=>⟨rfl,i⟩⟩
 | par g b a=>
   have e:=(bN h.toRight a).2.1;rw[e];exact .inr ⟨a,g,fun d=>by rw[b]at d;cases d⟩
def Gr.in{c:aq}(h:ct c){l:List Int}(b: ∀x∈l,fi c x=true){x:Int}(g:Gr c l x):fi c x=true:=by
 rcases g.real h with a|⟨a,_⟩
 ·exact b x a
 exact(bN h.toRight a).1
def Gr.congr{c:aq}{l e:List Int}(h: ∀x,x∈l↔x∈e){x:Int}(g:Gr c l x):Gr c e x:=by
 induction g with
 |base m=>exact .base ((h _).1 m)
 |ini _ b j f d=>exact .ini d b (fun k a i=>j k a ((h k).2 i)) f
 |par _ b a d=>exact .par d b a
def Cx{c:aq}{l d:List Int}(h: ∀x,x∈l↔x∈d):b7 c l=b7 c d:=by
 have e:l.all (fi c)=d.all (fi c):=by
  rw[N8,NB,NB];exact⟨fun a x b=>a x ((h x).2 b),fun a x b=>a x ((h x).1 b)⟩
 unfold b7;rw[e];split
 ·apply O9;intro k _;rw[N8,Mz,Mz];exact h k
 rfl
/-! As the document says -/
def jg(c:aq)(l:List Int)(i:Nat):Option Int:=match c.Z9[i]? with
 |some s=>if l.contains (i:Int)=true then
  (if s.kind=1/\av c i true≠[]/\ch l (av c i true)=0 then some s.initial
   else if s.kind=2 then(hH c i).find? (fun k=> !l.contains k) else none)
   else none
 |none=>none
def eX(c:aq)(l:List Int)(j:Nat):Option Int:=((List.range c.Z9.length).drop j).findSome? (jg c l)
def PT(c:aq)(l:List Int):Int:=(eX c l 0).getD (-1)
def mZ(c:aq):Nat->List Int->List Int
 |0,l=>l
 |f+1,l=>if PT c l<0 then l else mZ c f (l++[PT c l])
def iF{l:List Int}{ks:List Nat} :ch l ks=0↔ ∀k∈zL ks,k∉l:=by
 unfold ch;rw[OZ,Pd];constructor
 ·intro h k a;obtain⟨j,b,rfl⟩:=NG.1 a;simpa using h j b
 intro h k a;simpa using h k (NG.2 ⟨k,a,rfl⟩)
def H6{c:aq}(h:ct c){p l:List Int}(v: ∀x∈l,Gr c p x)(y: ∀x∈p,x∈l){x:Int}(a:eX c l 0=some x):Gr c p x/\x∉l/\fi c x=true:=by
 unfold eX at a;rw[List.drop_zero]at a;obtain⟨i,f,a⟩:=List.exists_of_findSome?_eq_some a;unfold jg at a;have f:=NZ.1 f;rw[Ms f]at a;have d:at_ c (i:Int)=some c.Z9[i]:=by rw[bK];exact Ms f
 simp only at a;split at a
 ·rename_i n;have s:=v _ (Mz.1 n);split at a
  ·rename_i t;obtain⟨z,o,A⟩:=t;cases a;have m:an c (i:Int)=true:=by unfold an;rw[d];simp[z]
   have r:kW c (i:Int)=c.Z9[i].initial:=by unfold kW;rw[d]
   have q:0<=kW c (i:Int):=by
    rw[r];rcases h.cases (Ms f) with⟨_,⟨e,_⟩|⟨j,_,e⟩⟩|⟨e,_⟩|⟨e,_⟩|⟨e|e,_⟩
    ·exact absurd e o
    all_goals omega
   have g:=iF.1 A;have b:=ij h m q;rw[<-r];exact⟨.ini s m (fun k b u=>g k b (y k u)) q,g _ b,(bN h.toRight b).1⟩
  split at a
  ·rename_i o;have b:=Om a;have w:=QU a;have m:an c (i:Int)=false:=by unfold an;rw[d];simp[o]
   exact⟨.par s m b,by simpa using w,(bN h.toRight b).1⟩
  cases a
 cases a
def H7{c:aq}(h:ct c){t l:List Int}(D: ∀x∈l,Gr c t x)(J: ∀x∈t,x∈l)(C: ∀x∈t,fi c x=true)(A:eX c l 0=none){x:Int} :x∈l↔Gr c t x:=by
 refine⟨D x,fun g=> ?_⟩
 have r: ∀i,i<c.Z9.length->jg c l i=none:=fun i v=>by
  unfold eX at A;rw[List.drop_zero,List.findSome?_eq_none_iff]at A;exact A i (NZ.2 v)
 induction g with
 |base h=>exact J _ h
 | ini g f I v B=>
   rename_i p;obtain⟨k,s,rfl,a,u⟩:=dB (g.in h C);have:=r k (Mt.1 a).1;unfold jg at this;rw[a]at this;simp only at this;rw[Mw (Mz.2 B)]at this;have d:s.kind=1:=by unfold an at f;rw[u]at f;simpa using f
   have m:=ij h f v;split at this
   ·cases this
   rename_i G;have z:av c k true≠[]:=fun e=>by rw[hH,e]at m;simp at m
   have E:ch l (av c k true)≠0:=fun e=>G ⟨d,z,e⟩;rw[Ne,iF]at E;obtain⟨j,H⟩:=Classical.not_forall.1 E;obtain⟨n,b⟩:=Classical.not_imp.1 H;have b:=QY.1 b;rcases (D j b).real h with q|⟨_,_,q⟩
   ·exact absurd q (I j n)
   rw[(bN h.toRight n).2.1]at q;rw[<-(q f).1];exact b
 | par g f w B=>
   rename_i p x;obtain⟨k,s,rfl,a,u⟩:=dB (g.in h C);have:=r k (Mt.1 a).1;unfold jg at this;rw[a]at this;simp only at this;rw[Mw (Mz.2 B)]at this;have d:s.kind≠1:=by unfold an at f;rw[u]at f;simpa using f
   have o:av c k true≠[]:=fun e=>by rw[hH,e]at w;simp at w
   have y:s.kind=2:=by
    rcases h.cases a with⟨e,_⟩|⟨e,_⟩|⟨_,e,_⟩|⟨_,e,_⟩
    ·exact absurd e d
    ·exact e
    ·exact absurd (kU e) o
    exact absurd (kU e) o
   rw[Mv (fun e=>d e.1),Mw y,Pt]at this;simpa using this x w
def xR{c:aq}(h:ct c){i:List Int}(j: ∀x∈i,fi c x=true): ∀(f:Nat)(l:List Int),(∀x∈l,Gr c i x)->(∀x∈i,x∈l)->n7 c l<f-> ∀ {x:Int},x∈mZ c f l↔Gr c i x
 |0,l,d,e,n=>by omega
 | f+1,l,d,e,n=>by
   unfold mZ PT;cases m:eX c l 0 with
   | none=>
     simp only[PH];rw[Mw (by omega)];exact H7 h d e j m
   | some y=>
     obtain⟨g,p,b⟩:=H6 h d e m;simp only[OJ];rw[Mv (by have:=aI.1 b;omega)];refine xR h j f _ (fun z b=> ?_) (fun z b=>Ns _ (e z b)) ?_
     ·rcases N1.1 b with b|b
      ·exact d z b
      rw[NP.1 b];exact g
     have:=lT (c:=c) (l:=l) (a:=[y]) (by simp) fun k o=>by rw[NP.1 o];exact⟨p,b⟩
     simp only[Nf]at this;omega
def FQ(c:aq)(l:List Int):n7 c l<=c.Z9.length:=by
 unfold n7;exact NN (NV ..) (by simp)
def z6(c:aq)(l:List Int):List Int:=mZ c (c.Z9.length+1) l
def tc{c:aq}(h:ct c){l:List Int}(b: ∀x∈l,fi c x=true){x:Int} :x∈z6 c l↔Gr c l x:=xR h b _ l (fun _ a=> .base a) (fun _ a=>a) (by have:=FQ c l;omega)
/-! The ways up of some states -/
def KK(o:List Int)(i:Int):List Int:=if o.contains i=true then o else o++[i]
def y'(c:aq)(d:Int)(o U:List Int)(m:Nat):List Int:=(U.take m).foldl (fun o k=>if 0<=k/\b4 c d k=true then KK o k else o) o
def th(c:aq)(d:Int)(l:List Int)(j:Nat):List Int:=(l.take j).foldl (fun o i=>y' c d (KK o i) (kf c i) (kf c i).length) []
def na(c:aq)(l:List Int)(d:Int):List Int:=th c d l l.length
def bY{a c:Type}(f:c->a->c)(b:c){l:List a}{j:Nat}{x:a}(h:l[j]? =some x):(l.take (j+1)).foldl f b=f ((l.take j).foldl f b) x:=by
 rw[N4,h,Ro];rfl
def vY{o:List Int}{i x:Int} :x∈KK o i↔x∈o\/x=i:=by
 unfold KK;split
 ·rename_i h;have h:=Mz.1 h;exact⟨.inl,fun a=>a.elim id fun e=>e ▸ h⟩
 rw[N1,NP]
def nu{o:List Int}(h:o.Nodup)(i:Int):(KK o i).Nodup:=by
 unfold KK;split
 ·exact h
 rename_i a;rw[O8];refine⟨h,by simp,fun x b y c e=> ?_⟩;rw[NP.1 c]at e;subst e;exact a (Mz.2 b)
def ym{c:aq}{d:Int}{U:List Int} : ∀(m:Nat){o:List Int},m<=U.length->o.Nodup->(y' c d o U m).Nodup/\ ∀x,x∈y' c d o U m↔x∈o\/(x∈U.take m/\0<=x/\b4 c d x=true)
 |0,o,_,g=>⟨g,fun x=>by simp[y']⟩
 | m+1,o,n,g=>by
   obtain⟨k,i⟩: ∃k,U[m]? =some k:=⟨U[m],Ms (by omega)⟩;obtain⟨j,l⟩:=ym (c:=c) (d:=d) (U:=U) m (o:=o) (by omega) g;have e:y' c d o U (m+1)=if 0<=k/\b4 c d k=true then KK (y' c d o U m) k else y' c d o U m:=bY _ _ i
   have h: ∀x,x∈U.take (m+1)↔x∈U.take m\/x=k:=fun x=>by rw[N4,i];simp
   rw[e];split
   ·rename_i f;refine⟨nu j k,fun x=> ?_⟩;rw[vY,l,h];constructor
    ·rintro((a|⟨a,b⟩)|rfl)
     ·exact .inl a
     ·exact .inr ⟨.inl a,b⟩
     exact .inr ⟨.inr rfl,f⟩
    rintro(a|⟨a|rfl,b⟩)
    ·exact .inl (.inl a)
    ·exact .inl (.inr ⟨a,b⟩)
    exact .inr rfl
   rename_i f;refine⟨j,fun x=> ?_⟩;rw[l,h];constructor
   ·rintro(a|⟨a,b⟩)
    ·exact .inl a
    exact .inr ⟨.inl a,b⟩
   rintro(a|⟨a|rfl,b⟩)
   ·exact .inl a
   ·exact .inr ⟨a,b⟩
   exact absurd b f
def u7{c:aq}{d:Int}{l:List Int} : ∀(j:Nat),j<=l.length->(th c d l j).Nodup/\ ∀x,x∈th c d l j↔x∈l.take j\/ ∃i∈l.take j,x∈kf c i/\0<=x/\b4 c d x=true
 |0,_=>⟨SJ,fun x=>by simp[th]⟩
 | j+1,p=>by
   obtain⟨k,f⟩: ∃k,l[j]? =some k:=⟨l[j],Ms (by omega)⟩;obtain⟨n,o⟩:=u7 (c:=c) (d:=d) (l:=l) j (by omega);have e:th c d l (j+1)=y' c d (KK (th c d l j) k) (kf c k) (kf c k).length:=bY _ _ f;have g: ∀x,x∈l.take (j+1)↔x∈l.take j\/x=k:=fun x=>by rw[N4,f];simp
   obtain⟨h,m⟩:=ym (c:=c) (d:=d) (U:=kf c k) _ (ND _) (nu n k);rw[e];refine⟨h,fun x=> ?_⟩;rw[m,vY,o,NS];simp only[g];constructor
   ·rintro(((a|⟨i,a,b⟩)|rfl)|b)
    ·exact .inl (.inl a)
    ·exact .inr ⟨i, .inl a,b⟩
    ·exact .inl (.inr rfl)
    exact .inr ⟨k, .inr rfl,b⟩
   rintro((a|rfl)|⟨i,a|rfl,b⟩)
   ·exact .inl (.inl (.inl a))
   ·exact .inl (.inr rfl)
   ·exact .inl (.inl (.inr ⟨i,a,b⟩))
   exact .inr b
def gy{c:aq}{d:Int}{l:List Int} :(na c l d).Nodup/\ ∀x,x∈na c l d↔x∈l\/ ∃i∈l,x∈kf c i/\0<=x/\b4 c d x=true:=by
 have:=u7 (c:=c) (d:=d) (l:=l) _ (ND _);rw[NS]at this;exact this
def rW(c:aq)(l:List Int)(d:Int)(i:Nat):Bool:=l.contains (i:Int)||l.any fun k=>b4 c (i:Int) k&&b4 c d (i:Int)
def wg(c:aq)(l:List Int)(d:Int):List Nat:=(List.range c.Z9.length).filter (rW c l d)
def gX{c:aq}(h:Right c){k i:Int}(a:k∈kf c i)(b:0<=k):fi c k=true/\k<i:=by
 have:=kF h 40 i k a
 have e:fi c i=true:=by
  cases d:fi c i with
  |true=>rfl
  |false=>rw[cX d]at a;simp at a
 have:=aI.1 e;exact⟨aI.2 ⟨b,by omega⟩,by omega⟩
def lS{c:aq}(h:Right c){l:List Int}(p: ∀x∈l,fi c x=true){d x:Int} :x∈zL (wg c l d)↔x∈na c l d:=by
 rw[gy.2];constructor
 ·intro b;obtain⟨i,n,rfl⟩:=NG.1 b;obtain⟨_,a⟩:=NF.1 n;unfold rW at a;rw[OO,OG]at a;rcases a with a|⟨k,o,a⟩
  ·exact .inl (by simpa using a)
  rw[Mx]at a;exact .inr ⟨k,o,by simpa[b4]using a.1,by omega,a.2⟩
 intro b
 have q:fi c x=true:=by
  rcases b with b|⟨i,_,f,g,_⟩
  ·exact p x b
  exact(gX h f g).1
 have r:=aI.1 q;refine NG.2 ⟨x.toNat,NF.2 ⟨NZ.2 (by omega),?_⟩,by omega⟩;have e:((x.toNat:Nat):Int)=x:=by omega
 unfold rW;rw[e,OO,OG];rcases b with b|⟨i,j,f,g,m⟩
 ·exact .inl (by simpa using b)
 exact .inr ⟨i,j,by rw[Mx];exact⟨by simpa[b4]using f,m⟩⟩
def AM{c:aq}(h:ct c){l:List Int}(a: ∀x∈l,fi c x=true)(d:Int):b7 c (py c (na c l d))=b7 c (z6 c (zL (wg c l d))):=by
 apply Cx;intro x
 have e: ∀x∈zL (wg c l d),fi c x=true:=fun x f=>by
  obtain⟨i,b,rfl⟩:=NG.1 f;exact aW.2 (NZ.1 (NF.1 b).1)
 rw[eh h gy.1,tc h e];exact⟨.congr fun x=>(lS h.toRight a).symm, .congr fun x=>lS h.toRight a⟩
/-! Rising lists -/
def T0(l:List Int)(j:Nat):Bool:=(j==0)||decide (l.getD (j-1) 0<l.getD j 0)
def jQ(l:List Int)(j:Nat):Bool:=(j==0)||decide (¬l.getD j 0<l.getD (j-1) 0)
def k7(l:List Int):Bool:= !l.isEmpty&&(List.range l.length).all (T0 l)
def jN(l:List Int):Bool:=(List.range l.length).all (jQ l)
def Bv(l:List Int)(j:Nat)(b:j<l.length):Lib.keeps l.toArray j=((j==0)||decide (l.getD j 0≠l.getD (j-1) 0)):=by
 unfold Lib.keeps
 have e: ∀k,k<l.length->l.toArray[k]! =l.getD k 0:=fun k a=>by
  rw[Pi _ k (by simpa using a),N3,Ms a];simp
 rw[e j b,e (j-1) (by omega)];by_cases h:j=0<;>simp[h]
def BB(l:List Int):(Lib.compact l).length=l.length↔ ∀j,j<l.length->Lib.keeps l.toArray j=true:=by
 unfold Lib.compact Lib.compactUpTo;rw[NT]
 conv=>lhs;rhs;rw[<-Pn (n:=l.length)]
 rw[QD];simp
def Ko(l:List Int):(!l.isEmpty&&jN l&&decide ((Lib.compact l).length=l.length))=k7 l:=by
 unfold k7 jN;rw[Rl]
 congr 1
 rw[N8,Mx,NI,BB,NB,NB];simp only[NZ];constructor
 ·rintro⟨e,f⟩ j d;have a:=e j d;have b:=f j d;rw[Bv l j d]at b;unfold T0;unfold jQ at a;by_cases c:j=0
  ·simp[c]
  simp[c]at a b |-;omega
 intro h;refine⟨fun j d=> ?_,fun j d=> ?_⟩
 ·have a:=h j d;unfold T0 at a;unfold jQ;by_cases c:j=0
  ·simp[c]
  simp[c]at a |-;omega
 have a:=h j d;rw[Bv l j d];unfold T0 at a;by_cases c:j=0
 ·simp[c]
 simp[c]at a |-;omega
def nK{l:List Int}(h:k7 l=true):l.Nodup:=by
 unfold k7 at h;rw[Mx,NB]at h
 have a: ∀i d,i+d+1<l.length->l.getD i 0<l.getD (i+d+1) 0:=fun i d=>by
  induction d with
  | zero=>
    intro b;have:=h.2 (i+1) (NZ.2 (by omega));unfold T0 at this;simpa using this
  | succ d k=>
    intro b;have m:=k (by omega);have:=h.2 (i+d+1+1) (NZ.2 (by omega));unfold T0 at this;have n:l.getD (i+d+1) 0<l.getD (i+d+1+1) 0:=by simpa using this
    rw[show i+(d+1)+1=i+d+1+1 by omega];omega
 rw[Od,Nk];intro i j c g f e;have:=a i (j-i-1) (by omega);rw[show i+(j-i-1)+1=j by omega]at this;simp[N3,Ms c,Ms g,e]at this
/-! Deep memories -/
def cc(c:aq)(l:List Int)(i:Int):Bool:=match at_ c i with
 |some s=> !(((s.kind==1)&&decide (1<ch l (av c i true)))||((s.kind==4)||(s.kind==5)))
 |none=>false
def eC(c:aq)(a i:Int):Bool:=b4 c a i&&(av c i true).isEmpty
def jn(c:aq)(a:Int)(l:List Int):List Int:=na c l a++[a]
def Fm(c:aq)(a:Int)(l:List Int):Bool:=k7 l&&l.all (eC c a)&&decide ((py c (jn c a l)).length=(jn c a l).length)&&(py c (jn c a l)).all (cc c (py c (jn c a l)))
def kT(c:aq)(a i:Int):Bool:=b4 c a i&&(match at_ c i with|some s=> !aU s|none=>false)&&(av c i true).isEmpty
def iN(c:aq)(l:List Int)(i:Int):Bool:=match at_ c i with
 |some s=> !(((s.kind==1)&&decide (ch l (av c i true)≠min (av c i true).length 1))||((s.kind==2)&&decide (ch l (av c i true)≠(av c i true).length)))
 |none=>false
def iI(c:aq)(a:Int)(l:List Int):List Int:=zL (wg c l a)++[a]
def AB(c:aq)(a:Int)(l:List Int):Bool:=k7 l&&l.all (kT c a)&&(iI c a l).all (iN c (iI c a l))
def xS(c:aq): ∀(f:Nat)(l t:List Int),∃a,jC c f l t=l++a
 |0,l,t=>⟨[],by simp[jC]⟩
 |f+1,l,[]=>⟨[],by simp[jC]⟩
 | f+1,l,i::r=>by
   obtain⟨a,e⟩:=xS c f (l++jT c l i) (r++jT c l i);exact⟨jT c l i++a,by unfold jC;rw[e,Nj]⟩
def lD(c:aq): ∀(f:Nat)(l t:List Int),l.Nodup->(jC c f l t).Nodup
 |0,l,t,h=>h
 |f+1,l,[],h=>h
 | f+1,l,i::r,h=>by
   unfold jC;refine lD c f _ _ ?_;rw[O8];refine⟨h,fv c l i,fun x a y b e=> ?_⟩;subst e;have:=(NF.1 b).2;simp[a]at this
def Hk{c:aq}(h:ct c){l:List Int}(d:l.Nodup):(py c l).length=l.length↔ ∀x,Gr c l x->x∈l:=by
 obtain⟨a,e⟩:=xS c (n7 c l+l.length) l l;have e:py c l=l++a:=e;constructor
 ·intro i x f;have:a=[]:=Nl (by rw[e,NA]at i;omega);rw[this,OM]at e;rw[<-e];exact(eh h d).2 f
 intro f;have b:=(lD c (n7 c l+l.length) l l d).length_le_of_subset (l₂:=l) fun x g=>f x ((eh h d).1 g);have b:(py c l).length<=l.length:=b;rw[e,NA]at b |-;omega
def iQ{l a:List Int}(h: ∀x,x∈l↔x∈a)(ks:List Nat):ch l ks=ch a ks:=by
 unfold ch
 congr 1
 apply O9;intro k _;rw[N8,Mz,Mz];exact h _
def sJ{c:aq}(h:ct c): ∀(n:Nat)(i k:Int),i<n->k∈kf c i->0<=k->az c k=true
 | 0,i,k,f,hk,b=>by
   cases a:fi c i with
   |true=>have:=aI.1 a;omega
   |false=>rw[cX a]at hk;simp at hk
 | n+1,i,k,f,hk,b=>by
   cases a:fi c i with
   |false=>rw[cX a]at hk;simp at hk
   | true=>
     rw[cv h.toRight a]at hk;have g:=dZ h.toRight a;rcases hk with rfl|hk
     ·obtain⟨j,s,rfl,d,_⟩:=dB a;have:=h.st j s d;simp only[cL,Mx]at this;have:=this.1.1.1.2;rw[eH d]at b |-;simp only[dE,OO,Mx,OQ]at this;rcases this with e|⟨_,e⟩
      ·omega
      exact e
     exact sJ h n _ k (by omega) hk b
def iD{c:aq}{i:Int}(h:az c i=true): ∃s,at_ c i=some s/\(s.kind=1\/s.kind=2):=by
 unfold az at h;split at h
 ·rename_i s a;refine⟨s,a,?_⟩;unfold eQ at h;simpa using h
 cases h
def lZ{c:aq}(h:ct c){i:Int}{s:n4}(b:at_ c i=some s):(s.kind=1/\(av c i true=[]\/(0<=kW c i/\kW c i∈hH c i)))\/(s.kind=2/\av c i true≠[])\/(s.kind=3/\av c i true=[])\/((s.kind=4\/s.kind=5)/\av c i true=[]):=by
 have g:0<=i:=by
  unfold at_ at b;split at b
  ·assumption
  cases b
 obtain⟨k,rfl⟩: ∃k:Nat,i=k:=⟨i.toNat,by omega⟩;have d:kW c (k:Int)=s.initial:=by unfold kW;rw[b]
 rw[bK]at b;rcases h.cases b with⟨e,⟨a,_⟩|⟨j,f,a⟩⟩|⟨e,_,a,_⟩|⟨e,a,_⟩|⟨e,a,_⟩
 ·exact .inl ⟨e, .inl a⟩
 ·exact .inl ⟨e, .inr (by rw[d,a];exact⟨by omega,NG.2 ⟨j,f,rfl⟩⟩)⟩
 ·exact .inr (.inl ⟨e,a⟩)
 ·exact .inr (.inr (.inl ⟨e,kU a⟩))
 exact .inr (.inr (.inr ⟨e,kU a⟩))
def bw{c:aq}{i:Int}{s:n4}(a:at_ c i=some s):an c i=(s.kind==1):=by unfold an;rw[a]
def jz{l:List Int}{ks:List Nat} :ch l ks=ks.length↔ ∀k∈zL ks,k∈l:=by
 unfold ch;rw[QD];constructor
 ·intro h k a;obtain⟨j,b,rfl⟩:=NG.1 a;simpa using h j b
 intro h k a;simpa using h k (NG.2 ⟨k,a,rfl⟩)
def xu{c:aq}(h:ct c){a:Int}(W:az c a=true)(l:List Int):Fm c a l=AB c a l:=by
 unfold Fm AB;cases hr:k7 l with
 |false=>rfl
 |true=>
 simp only[Np];by_cases f:l.all (eC c a)=true
 ·rw[f,Np]
  have N: ∀x∈l,b4 c a x=true/\av c x true=[]/\fi c x=true:=fun x b=>by
   have:=NB.1 f x b;unfold eC at this;rw[Mx]at this;refine⟨this.1,by simpa using this.2,?_⟩;cases t:fi c x with
   |true=>rfl
   | false=>
     have:=this.1;unfold b4 at this;rw[cX t]at this;simp at this
  obtain⟨sp,D,V⟩:=iD W
  have hp0:0<=a:=by
   unfold at_ at D;split at D
   ·assumption
   cases D
  obtain⟨un,U⟩:=gy (c:=c) (d:=a) (l:=l)
  have w: ∀x∈na c l a,b4 c a x=true:=fun x b=>by
   rcases (U x).1 b with b|⟨_,_,_,_,b⟩
   ·exact(N x b).1
   exact b
  have S:a∉na c l a:=fun t=>by
   have:=w _ t;unfold b4 at this;have:=(kF h.toRight 40 a a (Mz.1 this)).2;omega
  have C:(jn c a l).Nodup:=by
   unfold jn;rw[O8];refine⟨un,by simp,fun x b y hy e=> ?_⟩;rw[NP.1 hy]at e;rw[e]at b;exact S b
  have o: ∀x,x∈iI c a l↔x∈jn c a l:=fun x=>by
   unfold iI jn;rw[N1,N1,lS h.toRight fun x b=>(N x b).2.2]
  have I: ∀x∈jn c a l,x∈l\/az c x=true:=fun x b=>by
   rcases N1.1 b with b|b
   ·rcases (U x).1 b with b|⟨i,_,j,Y,_⟩
    ·exact .inl b
    exact .inr (sJ h 40 i x (by
     cases t:fi c i with
     |true=>have:=aI.1 t;have:=h.Z6;omega
     |false=>rw[cX t]at j;simp at j) j Y)
   rw[NP.1 b];exact .inr W
  have J: ∀x∈l,x∈jn c a l:=fun x b=>Ns _ ((U x).2 (.inl b))
  have n: ∀x∈jn c a l,∃s,at_ c x=some s:=fun x b=>by
   rcases I x b with b|b
   ·obtain⟨_,s,_,_,e⟩:=dB (N x b).2.2;exact⟨s,e⟩
   obtain⟨s,e,_⟩:=iD b;exact⟨s,e⟩
  rw[N8,Mx,NI,Hk h C,Mx];constructor
  ·rintro⟨Q,z⟩
   have E: ∀x,x∈py c (jn c a l)↔x∈jn c a l:=fun x=>by
    rw[eh h C];exact⟨Q x, .base⟩
   have z: ∀x∈jn c a l,cc c (jn c a l) x=true:=fun x b=>by
    have:=NB.1 z x ((E x).2 b);unfold cc at this |-;obtain⟨s,m⟩:=n x b;rw[m]at this |-;rw[iQ E]at this;exact this
   refine⟨NB.2 fun x b=> ?_,NB.2 fun x b=> ?_⟩
   ·have:=z x (J x b);unfold cc at this;unfold kT;obtain⟨s,m⟩:=n x (J x b);rw[m]at this |-;simp only at this |-;rw[(N x b).1,(N x b).2.1];unfold aU;simp only[Bool.not_or,Mx]at this;simp[this.2.1,this.2.2]at*
   have b:=(o x).1 b;obtain⟨s,m⟩:=n x b;have j:=z x b;unfold cc at j;unfold iN;rw[m]at j |-;simp only at j |-;rw[iQ o];rcases lZ h m with⟨e,v⟩|⟨e,v⟩|⟨e,v⟩|⟨e,v⟩
   ·have K:ch (jn c a l) (av c x true)<=1:=by
     rw[e]at j;simp at j;exact j
    have:ch (jn c a l) (av c x true)=min (av c x true).length 1:=by
     rcases v with v|⟨v,P⟩
     ·rw[v];rfl
     have L:0< (av c x true).length:=by
      cases T:av c x true with
      |nil=>rw[hH,T]at P;simp at P
      |cons=>simp
     have X:ch (jn c a l) (av c x true)≠0:=fun G=>by
      have M:=iF.1 G;exact M _ P (Q _ (.ini (.base b) (by rw[bw m,e];rfl) M v))
     omega
    simp[e,this]
   ·have:ch (jn c a l) (av c x true)=(av c x true).length:=jz.2 fun k u=>Q k (.par (.base b) (by rw[bw m,e];rfl) u);simp[e,this]
   ·simp[e]
   rcases e with e|e<;>simp[e]
  rintro⟨R,r⟩
  have r: ∀x∈jn c a l,iN c (jn c a l) x=true:=fun x b=>by
   have:=NB.1 r x ((o x).2 b);unfold iN at this |-;obtain⟨s,m⟩:=n x b;rw[m]at this |-;rw[iQ o]at this;exact this
  have H: ∀x,Gr c (jn c a l) x->x∈jn c a l:=fun x g=>by
   induction g with
   |base h=>exact h
   | ini g q Z G O=>
     rename_i p
     exfalso
     obtain⟨s,m⟩:=n p O;have j:=r p O;unfold iN at j;rw[m]at j;rw[bw m]at q;have u:s.kind=1:=by simpa using q
     have A:=ij h (by rw[bw m,u];rfl) G
     have L:0< (av c p true).length:=by
      cases T:av c p true with
      |nil=>rw[hH,T]at A;simp at A
      |cons=>simp
     have G:=iF.2 Z;simp only[u,G]at j;simp at j;omega
   | par g q u O=>
     rename_i p k;obtain⟨s,m⟩:=n p O;have j:=r p O;unfold iN at j;rw[m]at j;rw[bw m]at q;rcases lZ h m with⟨e,_⟩|⟨e,_⟩|⟨_,e⟩|⟨_,e⟩
     ·rw[e]at q;cases q
     ·simp[e]at j;exact jz.1 j k u
     ·rw[hH,e]at u;simp at u
     rw[hH,e]at u;simp at u
  have E: ∀x,x∈py c (jn c a l)↔x∈jn c a l:=fun x=>by
   rw[eh h C];exact⟨H x, .base⟩
  refine⟨H,NB.2 fun x b=> ?_⟩;have b:=(E x).1 b;obtain⟨s,m⟩:=n x b;have j:=r x b;unfold iN at j;unfold cc;rw[m]at j |-;simp only at j |-;rw[iQ E]
  have B:s.kind≠4/\s.kind≠5:=by
   rcases I x b with b|b
   ·have:=NB.1 R x b;unfold kT at this;rw[m]at this;simp only[aU,Mx,Bool.not_or]at this;have:=this.1.2;exact⟨by simpa using this.1,by simpa using this.2⟩
   obtain⟨s',e,v⟩:=iD b;rw[m]at e;cases e;omega
  have K:s.kind=1->ch (jn c a l) (av c x true)<=1:=fun e=>by
   simp[e]at j;omega
  by_cases e:s.kind=1
  ·have:=K e;simp[e];omega
  simp[e,B.1,B.2]
 have f:l.all (eC c a)=false:=by simpa using f
 rw[f]
 have:l.all (kT c a)=false:=by
  rw[QE]at f |-;obtain⟨x,b,e⟩:=f;refine⟨x,b,fun t=>e ?_⟩;unfold kT at t;unfold eC;simp only[Mx]at t |-;exact⟨t.1.1,t.2⟩
 rw[this];rfl
/-! Memories -/
abbrev eg:=Int×List Int
def pV(c:aq)(m:eg):Bool:=match at_ c m.1 with
 |some s=>if s.kind=4 then decide (m.2.length=1)&&(hH c s.parent).contains (m.2.getD 0 0) else(s.kind==5)&&Fm c s.parent m.2
 |none=>false
def tH(c:aq)(l:List eg)(j:Nat):Bool:=match l[j]? with
 |some m=>pV c m&&((j==0)||decide ((l.getD (j-1) (0,[])).1<m.1))
 |none=>true
def bm(c:aq)(l:List eg):Bool:=(List.range l.length).all (tH c l)
end
end Go.Proofs.YtfhkmjbjafeckaaGreatDoor
