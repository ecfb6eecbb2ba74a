/- The document's answer whether a record is right. -/
import Derived.Test.YtfcdkaolcdglmaaGreatDoorP13
import Derived.Shelf.Slices.In.SortNone
set_option maxRecDepth 100000
set_option maxHeartbeats 8000000
set_option linter.unusedSimpArgs false
set_option linter.defProp false
namespace Go.Proofs.YtfcdkaolcdglmaaGreatDoor
open Go.Proofs.Tryz
section
open Go.RowKit
abbrev Wr(m:Nat):AV:= .lit (.int .u32 m)
def Ai(env:b7)(c:aq):cy prog env 108 [aS c] (I c.Z9.length):=by
 refine qf func108 call108 ntmps108 results108 ?_;have F:=aS.eq_1;exact fl
def rz(env:b7)(c:aq)(i:Int):cy prog env 51 [aS c,I i] (B (fe c i)):=by
 have f0:=Ai env c;refine qf func51 call51 ntmps51 results51 ?_;unfold fe;by_cases a:0<=i
 ·by_cases b:i< (c.Z9.length:Int)
  ·have F:=ai a b;exact nb f0
  have F:=ai a b;exact nb f0
 have F:=a;exact nb f0
def xy(env:b7)(c:aq)(g:Right c)(i:Int):cy prog env 178 [aS c,I i] (.own 3 1 ((mu c i).map fun k=>[I k])):=by
 have j:=g.Z6;refine qf func178 call178 ntmps178 results178 ?_;repeat refine sm ?_
 refine am 5 5 3 1 ?_;have q:(mu c i).length<=40:=uo 40 i;refine Wp (D:=Int×List Int) (fun d r=>[(0,aS c),(1,I d.1),(5, .row 5 (r 5))]) (fun d _=>[(5,⟨1,d.2.map fun k=>[I k],3,true⟩)]) (fun d _ e=>mu c i=d.2++mu c d.1/\e 5=false) (fun d=>(d.1+1).toNat) (i,[]) ⟨rfl,rfl⟩ ?_;rintro⟨d,l⟩ v e ⟨b,f⟩;simp only at b;have f0:=rz env c d;cases a:fe c d with
 | false=>
   rw[cq a,P9]at b;rw[a]at f0;have F:=ai b f;exact nb f0
 | true=>
   obtain⟨k,s,rfl,n,t⟩:=fB a;have m:=fH n;have h:=dn g a;rw[m]at h;rw[xv g a,m]at b;rw[a]at f0
   have u:l.length+1<=40:=by
    have:=Oj List.length b;rw[ON,OU]at this;omega
   have o:((k:Nat):Int)< (c.Z9.length:Int):=by have:=(aJ.1 a).2;omega
   have p:ek (l.length+1) 8:=⟨by omega,by omega⟩;have F:=ld Xa o n p f;repeat refine g8 f0 ?_
   refine⟨(s.parent,l++[s.parent]),⟨?_,?_⟩,?_,?_,?_⟩
   ·show mu c i=(l++[s.parent])++mu c s.parent;rw[b,O1];rfl
   ·show _=false;simp only[go_sem,f]
   ·have F:=aS.eq_1;exact qe
   ·have F:=ai Xa @Oa.{0,0};exact qe
   show (s.parent+1).toNat< ((k:Int)+1).toNat;omega
def Aj(env:b7)(m:Nat)(d:m<4294967296)(k:Nat)(f:k<32):cy prog env 109 [Wr m,I k] (B (m.testBit k)):=by
 have e:m/2^k<4294967296:=Nat.lt_of_le_of_lt (T3 ..) d
 have a:((m:Int)).fdiv (2^min k 32)=((m/2^k:Nat):Int):=by
  rw[show min k 32=k by omega,show ((2:Int)^k)=((2^k:Nat):Int) by rw[Sn];rfl];exact(Te _ _).symm
 have b:tc .and .u32 ((m/2^k:Nat):Int) 1=((m/2^k%2:Nat):Int):=by
  have:=u32_and (m/2^k) 1 e (by decide);rw[Nat.and_one_is_mod]at this;exact this
 have c:((((m/2^k%2:Nat):Int))==1)=m.testBit k:=by
  rw[<-F9];rcases Nat.mod_two_eq_zero_or_one (m/2^k) with h|h<;>rw[h]<;>rfl
 refine qf func109 call109 ntmps109 results109 ?_;have F:=jw a b c;exact fl
def oe(m:Nat)(l:List Nat)(j:Nat):List Nat:=(l.take j).filter fun k=>m.testBit k
def Gb{m:Nat}{l:List Nat}{j k:Nat}(h:l[j]? =some k):oe m l (j+1)=if m.testBit k then oe m l j++[k] else oe m l j:=by
 unfold oe;rw[Ot,h,PH];cases a:m.testBit k<;>simp[a]
def JJ(m:Nat)(l:List Nat)(j:Nat):(oe m l j).length<=l.length:=by
 unfold oe;exact O3 (Ol ..) (by rw[OZ];omega)
def zZ(env:b7)(c:aq)(o:Right c)(m:Nat)(s:m<4294967296):cy prog env 52 [aS c,Wr m] (.own 3 1 (((mv c (-1)).filter fun k=>m.testBit k).map aB)):=by
 have r:=o.Z6;have u:=Ae o;have g:=jc o;refine qf func52 call52 ntmps52 results52 ?_;have F:=aS.eq_1;repeat refine st ?_
 generalize mv c (-1)=W at*;refine am 5 5 3 1 ?_;refine aN (D:=Nat) (fun j v=>[(1,Wr m),(5, .row 5 (v 5)),(13, .seq 1 (W.map aB)),(14,I W.length),(15,I j)]) (fun j _=>[(5,⟨1,(oe m W j).map aB,3,true⟩)]) (fun j _ d=>j<=W.length/\d 5=false) (fun j=>W.length-j) 0 ?_ ?_ ?_ ?_
 ·exact⟨O6 _,rfl⟩
 ·exact qe
 ·(simp only[go_sem,F])
  rfl
 rintro j x d ⟨w,b⟩;by_cases a:j<W.length
 ·obtain⟨k,l⟩:=gE a;have f:k<32:=by have:=(g k).1 (OM l);omega
  have f0:=Aj env m s k f;have h:=mc a;have p:=aD a (by omega);have t:=JJ m W j;have q:ek ((oe m W j).length+1) 8:=⟨by omega,by omega⟩;have n:=Gb (m:=m) l;cases i:m.testBit k with
  | true=>
    rw[i]at f0;rw[i,OL rfl]at n;have F:=pf h p l WJ q b;repeat refine g8 f0 ?_
    refine⟨j+1,⟨a,by simp only[go_sem,b]⟩,?_,?_,by omega⟩
    ·exact qe
    have F:=jw n WJ @Oa.{0,0};exact qe
  | false=>
    rw[i]at f0;rw[i,OK P3]at n;have F:=pf h p l WJ q b;repeat refine g8 f0 ?_
    refine⟨j+1,⟨a,by simp only[go_sem,b]⟩,?_,?_,by omega⟩
    ·exact qe
    have F:=jw n WJ @Oa.{0,0};exact qe
 obtain rfl:j=W.length:=by omega
 have h:=nl W.length;have e:oe m W W.length=W.filter fun k=>m.testBit k:=by unfold oe;rw[Ob]
 have F:=jw h e b;exact fl
def Er(l:List Int)(j:Nat):Nat:=(l.take j).foldl (fun m k=>m||| 2^k.toNat) 0
def Gk{l:List Int}{j:Nat}{k:Int}(h:l[j]? =some k):Er l (j+1)=Er l j||| 2^k.toNat:=by
 unfold Er;rw[Ot,h,TI];rfl
def uY: ∀(l:List Int)(m b:Nat),(l.foldl (fun m k=>m||| 2^k.toNat) m).testBit b=(m.testBit b||l.any fun k=>k.toNat==b)
 |[],m,b=>by simp
 | k::l,m,b=>by
   rw[Sl,uY l,SS,RZ,Sd,Bool.or_assoc];rfl
def sY{c:aq}(d:Right c){l:List Int} : ∀ {j:Nat},(∀k∈l.take j,fe c k=true)->Er l j<4294967296:=fun {j} h=>by
 have a:=d.Z6;apply Nat.lt_pow_two_of_testBit (n:=32);intro b f;unfold Er;rw[uY,Nat.zero_testBit,Qq,Rp];intro k e;have:=aJ.1 (h k e);simp;omega
def Gl{c:aq}{l:List Int}(h:l.all (fe c)=true):((mv c (-1)).filter fun k=>(Er l l.length).testBit k)=ca c l:=by
 unfold ca;rw[OL h];apply QK;intro k _;unfold Er;rw[uY,Nat.zero_testBit,Qq,Ob,PC,P1,OQ];constructor
 ·rintro⟨x,a,b⟩;have:=(aJ.1 (OP.1 h x a)).1;have b:x.toNat=k:=by simpa using b
  rw[show (k:Int)=x by omega];exact a
 exact fun a=>⟨k,a,by simp⟩
def Iw{c:aq}{l:List Int}{j:Nat}{k:Int}(h:(l.take j).all (fe c)=true)(a:l[j]? =some k)(b:fe c k=true):(l.take (j+1)).all (fe c)=true:=by
 rw[Ot,a,SI,h];simp[b]
def Iy{c:aq}{l:List Int}{j:Nat}{k:Int}(a:l[j]? =some k)(b:fe c k=false):ca c l=[]:=by
 unfold ca;rw[OK];intro h;have:=OP.1 h k (OM a);rw[b]at this;cases this
abbrev aa(k:Int):List AV:=[I k]
def WN:=@aa.eq_1
def fZ(env:b7)(c:aq)(i:Right c)(l:List Int)(t:l.length<=1000000):cy prog env 19 [aS c, .seq 1 (l.map aa)] (.own 3 1 ((ca c l).map aB)):=by
 have q:=i.Z6;refine qw func19 call19 ntmps19 results19 ?_;repeat refine sm ?_
 refine aN (D:=Nat) (fun j _=>[(0,aS c),(5,Wr (Er l j)),(8, .seq 1 (l.map aa)),(9,I l.length),(10,I j)]) (fun _ _=>[]) (fun j _ _=>j<=l.length/\(l.take j).all (fe c)=true) (fun j=>l.length-j) 0 ?_ ?_ ?_ ?_
 ·exact⟨O6 _,rfl⟩
 ·(simp only[go_sem])
  rfl
 ·exact Wg
 rintro j v r ⟨s,a⟩;by_cases d:j<l.length
 ·obtain⟨k,b⟩:=gE d;have f:=mc d;have h:=aD d (by omega);have f0:=rz env c k;cases g:fe c k with
  | false=>
    rw[g]at f0;have F:=jw f h b;repeat refine g8 f0 ?_
    (refine aO ?_;refine⟨_,(by show (au _ _ _).run _=some _;simp only[go_sem,F];rfl),?_⟩)
    rw[Iy b g];exact i8.own_nil _ _ (by decide)
  | true=>
    rw[g]at f0;have u:=aJ.1 g;obtain⟨p,rfl⟩: ∃p:Nat,k=p:=⟨k.toNat,by omega⟩;have m:=sF (p:=p) (by omega);have e:=sY i (j:=j) (fun k b=>OP.1 a k b);have n:=yy e (jI p (by omega));have o:=Gk b;rw[Pd]at o;have F:=ld f h m n b;repeat refine g8 f0 ?_
    refine⟨j+1,⟨d,Iw a b g⟩,?_,?_,by omega⟩
    ·have F:=pf f h m n b o;exact qe
    ·(simp only[go_sem,f,h,m,n,b,o])
 obtain rfl:j=l.length:=by omega
 have f:=nl l.length;have e:=sY i (j:=l.length) (fun k b=>OP.1 a k b);rw[Ob]at a;have f1:=zZ env c i _ e;rw[Gl a]at f1;have F:=f;repeat refine g8 f1 ?_
 (refine aO ?_;refine⟨_,(by show (au _ _ _).run _=some _;simp only[go_sem,F];rfl),?_⟩)
 exact i8.refl _
end
section
open Go.RowKit Go.Sort Go.Shelf Go.Lib
def lf(n:Nat)(act:List Int):List (List AV):=(List.range n).map fun k:Nat=>[B (act.contains (k:Int))]
def eZ(n:Nat)(act:List Int):(lf n act).length=n:=by unfold lf;simp
def kY{n:Nat}{act:List Int}{k:Nat}(a:k<n):(lf n act)[k]? =some [B (act.contains (k:Int))]:=by
 unfold lf;rw[OS,Pn a];rfl
def Hp(n:Nat):List.replicate n [B false]=lf n []:=by
 unfold lf;apply PM;intro j;rw[OS];by_cases h:j<n
 ·rw[Pn h,List.getElem?_replicate_of_lt h];rfl
 rw[OT (by simp;omega),OT (by simp;omega)];rfl
def Bj{n:Nat}{act:List Int}{i:Int}(h: ∀k:Nat,k<n->(k:Int)≠i):lf n (act++[i])=lf n act:=by
 unfold lf;apply Po;intro k a;have:=h k (Oh.1 a);simp;exact fun e=>absurd e this
def Jq{n:Nat}{act:List Int}{k:Nat}(b:k<n):(lf n act).set k [B true]=lf n (act++[(k:Int)]):=by
 apply PM;intro j;by_cases a:j<n
 ·rw[kY a];by_cases e:k=j
  ·subst e;rw[Rf (by rw[eZ];exact b)];simp
  rw[RG e,kY a];simp;exact fun c=>absurd (by omega) e
 rw[OT (by rw[QO,eZ];omega),OT (by rw[eZ];omega)]
def Ex{act:List Int}{ks:List Nat}{j k:Nat}(a:ks[j]? =some k):cR act (ks.take (j+1))=cR act (ks.take j)+if act.contains (k:Int)=true then 1 else 0:=by
 unfold cR;rw[Ot,a,PH,ON];simp only[TF,QH,TZ];split<;>rfl
def gL(l:List Nat):(zL l).map aa=l.map aB:=by simp only[zL,Q1];rfl
def cQ(l:List Nat):(zL l).length=l.length:=O4 ..
def CP{l:List Nat}{j k:Nat}(h:l[j]? =some k):(zL l)[j]? =some (k:Int):=by unfold zL;rw[OS,h];rfl
/-! slices.Sort of ints -/
def tA(k:Int):List Value:=[.int .i64 k]
def bi(l:List Int):List Int:=l.mergeSort fun x y=>decide (x<=y)
def tC{w:World}{g:Nat}{l:List Int}(h:Holds id w g 0 (l.map (Value.int .i64)).toArray):Holds (Value.int .i64) w g 0 l.toArray:=fun j b=>by
 have a:j<l.length:=by simpa using b
 have:=h j (by simpa using a);rw[Qr _ j (by simpa using a)]at this;rw[Qr _ j b];simpa using this
def Tryz.sortIEnter: ∀(args:Array Value)(w:World),(callFunc 173 args).run prog w= .ok (.enter 173 args) w:=Sv func173 (by kernel_rfl) rfl
def qM(l:List Int)(f:l.length<4611686018427387904):K' prog 173 [] 3 1 (l.map tA) ((bi l).map tA):=by
 by_cases d:l=[]
 ·subst d;rw[show bi []=[] by simp[bi]];exact ma Tryz.sortIEnter fun p a w=>Any.slices_Sort_int_none Tryz.sortI p a w
 refine kJ (by rw[O4];exact QD.2 d) Tryz.sortIEnter (by simp[bi]) (fun x c=> ?_) (fun x c=> ?_) fun w g a b e=> ?_
 ·obtain⟨y,_,rfl⟩:=OW.1 c;rfl
 ·obtain⟨y,_,rfl⟩:=OW.1 c;exact⟨rfl,fun u h=>by rw[O2.1 h];rfl⟩
 have b:Holds id w g 0 (l.map (Value.int .i64)).toArray:=by rw[<-d8];exact b
 have:=Any.slices_Sort_int Tryz.sortI g 0 a l w (tC b) e f;rw[O4];refine(show Calls prog 173 #[.slice (some ⟨g,0,none⟩) l.length a] w _ from this).mono ?_;rintro j k ⟨rfl,n,i,rfl⟩;refine⟨rfl,n,i,?_⟩;rw[j3,show ((bi l).map tA).flatten=(bi l).map (Value.int .i64) from d8 (Value.int .i64) _];simp[bi]
end
section
open Go.RowKit
def bD(c:aq)(i:Int):Bool:=match at_ c i with
 |some s=>s.kind==1
 |none=>false
def mG(c:aq)(i:Int):Int:=match at_ c i with
 |some s=>s.initial
 |none=> -1
def bx(c:aq)(k i:Int):Bool:=(mu c i).contains k
def Di(c:aq)(a i:Int):Bool:=decide (i<0)||(bD c i&&bx c i a)
def DA(c:aq)(a b:Int):Int:=((mu c a).find? (Di c b)).getD (-1)
def wh{a:Type}{p:a->Bool}{l:List a}{j:Nat}{x:a}(h:l[j]? =some x):(l.drop j).find? p=if p x=true then some x else(l.drop (j+1)).find? p:=by
 obtain⟨b,rfl⟩:=OG.1 h;rw[QM b,List.find?_cons];cases p l[j]<;>rfl
abbrev hU(c:aq)(i:Int):List Int:=zL (aw c i true)
def bP{c:aq}(h:Right c){i k:Int}(d:k∈hU c i):fe c k=true/\aQ c k=i/\i<k:=by
 obtain⟨j,b,rfl⟩:=OW.1 d;obtain⟨s,a,e,_⟩:=zD b;refine⟨ak.2 (OG.1 a).1,by rw[fH a,e],?_⟩;have:=h.par j s a;omega
def sr(c:aq)(i:Int):(hU c i).Nodup:=by
 unfold hU zL;exact List.Pairwise.map _ (fun a b d e=>d (by omega)) (bQ c i true)
/-! What comes with a state -/
def pM(c:aq)(l:List Int)(i:Int):List Int:=
 if bD c i=true then(if (hU c i).any (fun k=>l.contains k)=true then [] else if 0<=mG c i then [mG c i] else []) else hU c i
def jQ(c:aq)(l:List Int)(i:Int):List Int:=(pM c l i).filter fun k=> !l.contains k
def io(c:aq):Nat->List Int->List Int->List Int
 |0,l,_=>l
 |_+1,l,[]=>l
 |f+1,l,i::r=>io c f (l++jQ c l i) (r++jQ c l i)
def py(c:aq)(l:List Int):Nat:=((List.range c.Z9.length).filter fun k:Nat=> !l.contains (k:Int)).length
def rn(c:aq)(l:List Int):List Int:=io c (py c l+l.length) l l
inductive Gr(c:aq)(l:List Int):Int->Prop
 |base {x:Int} (h:x∈l):Gr c l x
 |ini {p:Int} (h:Gr c l p) (hp:bD c p=true) (hn: ∀k∈hU c p,k∉l) (h0:0<=mG c p):Gr c l (mG c p)
 |par {p k:Int} (h:Gr c l p) (hp:bD c p=false) (hk:k∈hU c p):Gr c l k
def lR{c:aq}(h:cD c){p:Int}(b:bD c p=true)(d:0<=mG c p):mG c p∈hU c p:=by
 unfold bD at b;unfold mG at d |-;cases a:at_ c p with
 |none=>rw[a]at b;cases b
 | some s=>
   rw[a]at b d;simp only at b d |-
   have l:0<=p:=by
    unfold at_ at a;split at a
    ·assumption
    cases a
   obtain⟨k,rfl⟩: ∃k:Nat,p=k:=⟨p.toNat,by omega⟩;rw[bO]at a;have i:s.kind=1:=by simpa using b
   rcases h.cases a with⟨_,g|⟨j,f,e⟩⟩|⟨e,_⟩|⟨e,_⟩|⟨e|e,_⟩
   ·omega
   ·rw[e];exact OW.2 ⟨j,f,rfl⟩
   all_goals omega
def BK{c:aq}(h:cD c){l:List Int}{i k:Int}(a:k∈pM c l i):k∈hU c i:=by
 unfold pM at a;split at a
 ·rename_i d;split at a
  ·cases a
  split at a
  ·rename_i b;rw[O2.1 a];exact lR h d b
  cases a
 exact a
def fM{c:aq}(h:cD c){l:List Int}{i k:Int}(d:k∈jQ c l i):k∉l/\fe c k=true/\aQ c k=i:=by
 obtain⟨a,b⟩:=OY.1 d;obtain⟨e,f,_⟩:=bP h.toRight (BK h a);exact⟨by simpa using b,e,f⟩
def sd(c:aq)(l:List Int)(i:Int):(pM c l i).Nodup:=by
 unfold pM;split
 ·split
  ·exact Ti
  split
  ·simp
  exact Ti
 exact sr c i
def fY(c:aq)(l:List Int)(i:Int):(jQ c l i).Nodup:=(sd c l i).sublist Pf
def tL{a:Type}(p q:a->Bool): ∀l:List a,(l.filter fun x=>p x&& !q x).length+(l.filter fun x=>p x&&q x).length=(l.filter p).length
 |[]=>rfl
 | x::l=>by
   have:=tL p q l;simp only[QH];cases p x<;>cases q x<;>simp<;>omega
def ol{c:aq}{l a:List Int}(i:a.Nodup)(d: ∀k∈a,k∉l/\fe c k=true):py c (l++a)+a.length<=py c l:=by
 have e:=tL (fun k:Nat=> !l.contains (k:Int)) (fun k:Nat=>a.contains (k:Int)) (List.range c.Z9.length)
 have h:py c (l++a)=((List.range c.Z9.length).filter fun k:Nat=> !l.contains (k:Int)&& !a.contains (k:Int)).length:=by
  unfold py
  congr 1
  apply QK;intro k _;simp[List.contains_eq_mem]
 have o:a.length<=((List.range c.Z9.length).filter fun k:Nat=> !l.contains (k:Int)&&a.contains (k:Int)).length:=by
  have:(a.map Int.toNat).Nodup:=by
   refine List.Pairwise.map (R:=fun x y=>x≠y/\0<=x/\0<=y) _ (fun x y j=>by omega) ?_;refine SE ?_ i;intro x y g b f;exact⟨f,(aJ.1 (d x g).2).1,(aJ.1 (d y b).2).1⟩
  have:=this.length_le_of_subset (l₂:=(List.range c.Z9.length).filter fun k:Nat=> !l.contains (k:Int)&&a.contains (k:Int)) fun x g=>by
   obtain⟨y,b,rfl⟩:=OW.1 g;obtain⟨m,n⟩:=d y b;have p:=aJ.1 n;rw[OY,Oh];have e:((y.toNat:Nat):Int)=y:=by omega
   refine⟨by omega,?_⟩;rw[e];simp[m,b]
  simpa using this
 unfold py at h |-;omega
structure Grown(c:aq)(l0 l t:List Int):Prop where
 sub: ∀x∈l0,x∈l
 todo: ∀x∈t,x∈l
 nd:t.Nodup
 gr: ∀x∈l,Gr c l0 x
 par: ∀x∈l,x∉l0->aQ c x∈l/\aQ c x∉t
 done: ∀p∈l,p∉t->(bD c p=true->(∀k∈hU c p,k∉l0)->0<=mG c p->mG c p∈l)/\(bD c p=false-> ∀k∈hU c p,k∈l)
def Grown.step{c:aq}(h:cD c){A l r:List Int}{i:Int}(g:Grown c A l (i::r)):Grown c A (l++jQ c l i) (r++jQ c l i):=by
 have z:=g.todo i (by simp);obtain⟨L,M⟩:=QZ.1 g.nd
 have H: ∀k∈hU c i,k∈l->k∈A:=fun k m o=>RD fun D=>by
  have:=(g.par k o D).2;rw[(bP h.toRight m).2.1]at this;exact this (by simp)
 have C: ∀x∈jQ c l i,Gr c A x:=fun x f=>by
  obtain⟨n,O⟩:=OY.1 f;have J:=n;unfold pM at n;split at n
  ·rename_i hp;split at n
   ·cases n
   rename_i s;split at n
   ·rename_i B;rw[O2.1 n];refine .ini (g.gr i z) hp (fun k m o=>s ?_) B;rw[P1];exact⟨k,m,by simpa using g.sub k o⟩
   cases n
  rename_i hp;exact .par (g.gr i z) (by simpa using hp) n
 refine⟨fun x f=>PN _ (g.sub x f),fun x f=> ?_,?_,fun x f=> ?_,fun x f D=> ?_,fun p hp t=> ?_⟩
 ·rcases Of.1 f with f|f
  ·exact PN _ (g.todo x (Pi _ f))
  exact QR _ f
 ·rw[QJ];refine⟨M,fY c l i,fun x f y K e=> ?_⟩;subst e;exact(fM h K).1 (g.todo x (Pi _ f))
 ·rcases Of.1 f with f|f
  ·exact g.gr x f
  exact C x f
 ·rcases Of.1 f with f|f
  ·obtain⟨w,I⟩:=g.par x f D;refine⟨PN _ w,fun j=> ?_⟩;rcases Of.1 j with j|j
   ·exact I (Pi _ j)
   exact(fM h j).1 w
  obtain⟨w,_,N⟩:=fM h f;rw[N];refine⟨PN _ z,fun j=> ?_⟩;rcases Of.1 j with j|j
  ·exact L j
  exact(fM h j).1 z
 have G:p∈l:=by
  rcases Of.1 hp with hp|hp
  ·exact hp
  exact absurd (QR _ hp) t
 by_cases e:p=i
 ·subst e
  have v: ∀k∈pM c l p,k∈l++jQ c l p:=fun k m=>by
   by_cases o:k∈l
   ·exact PN _ o
   exact QR _ (OY.2 ⟨m,by simpa using o⟩)
  refine⟨fun q E B=>v _ ?_,fun q k m=>v k ?_⟩
  ·unfold pM;rw[OL q,OK ?_,OL B]
   ·simp
   rw[P1];rintro⟨k,m,o⟩;exact E k m (H k m (by simpa using o))
  unfold pM;rw[OK (by rw[q];simp)];exact m
 have u:p∉i::r:=fun j=>by
  rcases O7.1 j with rfl|j
  ·exact e rfl
  exact t (PN _ j)
 obtain⟨w,I⟩:=g.done p G u;exact⟨fun a b d=>PN _ (w a b d),fun a k m=>PN _ (I a k m)⟩
def Grown.all{c:aq}{d l:List Int}(g:Grown c d l []){x:Int} :x∈l↔Gr c d x:=by
 refine⟨g.gr x,fun h=> ?_⟩
 induction h with
 |base h=>exact g.sub _ h
 |ini _ a i e b=>exact(g.done _ b (by simp)).1 a i e
 |par _ a f b=>exact(g.done _ b (by simp)).2 a _ f
def Grown.grow{c:aq}(h:cD c){d:List Int} : ∀(f:Nat)(l t:List Int),Grown c d l t->py c l+t.length<=f->Grown c d (io c f l t) []
 | 0,l,t,g,a=>by
   have:t=[]:=Ox (by omega);subst this;exact g
 |f+1,l,[],g,a=>g
 | f+1,l,i::r,g,a=>by
   unfold io;refine Grown.grow h f _ _ (g.step h) ?_;have:=ol (c:=c) (l:=l) (fY c l i) fun k b=>⟨(fM h b).1,(fM h b).2.1⟩;simp only[ON,OU]at a |-;omega
def wW{c:aq}(h:cD c){j:List Int} : ∀ {f g:Nat}{l t:List Int},Grown c j l t->py c l+t.length<=f->py c l+t.length<=g->io c f l t=io c g l t
 |0,0,_,_,_,_,_=>rfl
 | 0,g+1,l,t,_,a,_=>by
   have:t=[]:=Ox (by omega);subst this;rfl
 | f+1,0,l,t,_,_,b=>by
   have:t=[]:=Ox (by omega);subst this;rfl
 |f+1,g+1,l,[],_,_,_=>rfl
 | f+1,g+1,l,i::r,e,a,b=>by
   have:=ol (c:=c) (l:=l) (fY c l i) fun k d=>⟨(fM h d).1,(fM h d).2.1⟩;simp only[OU]at a b;unfold io;exact wW h (e.step h) (by rw[ON];omega) (by rw[ON];omega)
def qg{c:aq}{l:List Int}(b:l.Nodup):Grown c l l l:=⟨fun _ h=>h,fun _ h=>h,b,fun _ h=> .base h,fun _ h a=>absurd h a,fun _ h a=>absurd h a⟩
def gJ{c:aq}(h:cD c){l:List Int}(a:l.Nodup){x:Int} :x∈rn c l↔Gr c l x:=((qg a).grow h _ _ _ (OO _)).all
def Gr.real{c:aq}(h:cD c){l:List Int}{x:Int}(g:Gr c l x):x∈l\/(x∈hU c (aQ c x)/\Gr c l (aQ c x)/\(bD c (aQ c x)=true->x=mG c (aQ c x)/\ ∀k∈hU c (aQ c x),k∉l)):=by
 cases g with
 |base h=>exact .inl h
 | ini g b i f=>
   rename_i p;have a:=lR h b f;have e:=(bP h.toRight a).2.1;rw[e];exact .inr ⟨a,g,fun _=>⟨rfl,i⟩⟩
 | par g b a=>
   have e:=(bP h.toRight a).2.1;rw[e];exact .inr ⟨a,g,fun d=>by rw[b]at d;cases d⟩
def Gr.in{c:aq}(h:cD c){l:List Int}(b: ∀x∈l,fe c x=true){x:Int}(g:Gr c l x):fe c x=true:=by
 rcases g.real h with a|⟨a,_⟩
 ·exact b x a
 exact(bP h.toRight a).1
def Gr.congr{c:aq}{l e:List Int}(h: ∀x,x∈l↔x∈e){x:Int}(g:Gr c l x):Gr c e x:=by
 induction g with
 |base m=>exact .base ((h _).1 m)
 |ini _ b j f d=>exact .ini d b (fun k a i=>j k a ((h k).2 i)) f
 |par _ b a d=>exact .par d b a
/-! As the document says -/
def lZ{l:List Int}{ks:List Nat} :cR l ks=0↔ ∀k∈zL ks,k∉l:=by
 unfold cR;rw[QV,Q5];constructor
 ·intro h k a;obtain⟨j,b,rfl⟩:=OW.1 a;simpa using h j b
 intro h k a;simpa using h k (OW.2 ⟨k,a,rfl⟩)
def Lr(c:aq)(l:List Int):py c l<=c.Z9.length:=by
 unfold py;exact O3 (Ol ..) (by simp)
/-! The ways up of some states -/
def Ua(o:List Int)(i:Int):List Int:=if o.contains i=true then o else o++[i]
def H'(c:aq)(d:Int)(o U:List Int)(m:Nat):List Int:=(U.take m).foldl (fun o k=>if 0<=k/\bx c d k=true then Ua o k else o) o
def u7(c:aq)(d:Int)(l:List Int)(j:Nat):List Int:=(l.take j).foldl (fun o i=>H' c d (Ua o i) (mu c i) (mu c i).length) []
def n7(c:aq)(l:List Int)(d:Int):List Int:=u7 c d l l.length
def bz{a c:Type}(f:c->a->c)(b:c){l:List a}{j:Nat}{x:a}(h:l[j]? =some x):(l.take (j+1)).foldl f b=f ((l.take j).foldl f b) x:=by
 rw[Ot,h,TI];rfl
def uk{o:List Int}{i x:Int} :x∈Ua o i↔x∈o\/x=i:=by
 unfold Ua;split
 ·rename_i h;have h:=OQ.1 h;exact⟨.inl,fun a=>a.elim id fun e=>e ▸ h⟩
 rw[Of,O2]
def nX{o:List Int}(h:o.Nodup)(i:Int):(Ua o i).Nodup:=by
 unfold Ua;split
 ·exact h
 rename_i a;rw[QJ];refine⟨h,by simp,fun x b y c e=> ?_⟩;rw[O2.1 c]at e;subst e;exact a (OQ.2 b)
def xw{c:aq}{d:Int}{U:List Int} : ∀(m:Nat){o:List Int},m<=U.length->o.Nodup->(H' c d o U m).Nodup/\ ∀x,x∈H' c d o U m↔x∈o\/(x∈U.take m/\0<=x/\bx c d x=true)
 |0,o,_,g=>⟨g,fun x=>by simp[H']⟩
 | m+1,o,n,g=>by
   obtain⟨k,i⟩: ∃k,U[m]? =some k:=⟨U[m],OE (by omega)⟩;obtain⟨j,l⟩:=xw (c:=c) (d:=d) (U:=U) m (o:=o) (by omega) g;have e:H' c d o U (m+1)=if 0<=k/\bx c d k=true then Ua (H' c d o U m) k else H' c d o U m:=bz _ _ i
   have h: ∀x,x∈U.take (m+1)↔x∈U.take m\/x=k:=fun x=>by rw[Ot,i];simp
   rw[e];split
   ·rename_i f;refine⟨nX j k,fun x=> ?_⟩;rw[uk,l,h];constructor
    ·rintro((a|⟨a,b⟩)|rfl)
     ·exact .inl a
     ·exact .inr ⟨.inl a,b⟩
     exact .inr ⟨.inr rfl,f⟩
    rintro(a|⟨a|rfl,b⟩)
    ·exact .inl (.inl a)
    ·exact .inl (.inr ⟨a,b⟩)
    exact .inr rfl
   rename_i f;refine⟨j,fun x=> ?_⟩;rw[l,h];constructor
   ·rintro(a|⟨a,b⟩)
    ·exact .inl a
    exact .inr ⟨.inl a,b⟩
   rintro(a|⟨a|rfl,b⟩)
   ·exact .inl a
   ·exact .inr ⟨a,b⟩
   exact absurd b f
def tv{c:aq}{d:Int}{l:List Int} : ∀(j:Nat),j<=l.length->(u7 c d l j).Nodup/\ ∀x,x∈u7 c d l j↔x∈l.take j\/ ∃i∈l.take j,x∈mu c i/\0<=x/\bx c d x=true
 |0,_=>⟨Ti,fun x=>by simp[u7]⟩
 | j+1,p=>by
   obtain⟨k,f⟩: ∃k,l[j]? =some k:=⟨l[j],OE (by omega)⟩;obtain⟨n,o⟩:=tv (c:=c) (d:=d) (l:=l) j (by omega);have e:u7 c d l (j+1)=H' c d (Ua (u7 c d l j) k) (mu c k) (mu c k).length:=bz _ _ f;have g: ∀x,x∈l.take (j+1)↔x∈l.take j\/x=k:=fun x=>by rw[Ot,f];simp
   obtain⟨h,m⟩:=xw (c:=c) (d:=d) (U:=mu c k) _ (OO _) (nX n k);rw[e];refine⟨h,fun x=> ?_⟩;rw[m,uk,o,Ob];simp only[g];constructor
   ·rintro(((a|⟨i,a,b⟩)|rfl)|b)
    ·exact .inl (.inl a)
    ·exact .inr ⟨i, .inl a,b⟩
    ·exact .inl (.inr rfl)
    exact .inr ⟨k, .inr rfl,b⟩
   rintro((a|rfl)|⟨i,a|rfl,b⟩)
   ·exact .inl (.inl (.inl a))
   ·exact .inl (.inr rfl)
   ·exact .inl (.inl (.inr ⟨i,a,b⟩))
   exact .inr b
def iy{c:aq}{d:Int}{l:List Int} :(n7 c l d).Nodup/\ ∀x,x∈n7 c l d↔x∈l\/ ∃i∈l,x∈mu c i/\0<=x/\bx c d x=true:=by
 have:=tv (c:=c) (d:=d) (l:=l) _ (OO _);rw[Ob]at this;exact this
def LS(c:aq)(l:List Int)(d:Int)(i:Nat):Bool:=l.contains (i:Int)||l.any fun k=>bx c (i:Int) k&&bx c d (i:Int)
def Mg(c:aq)(l:List Int)(d:Int):List Nat:=(List.range c.Z9.length).filter (LS c l d)
def iZ{c:aq}(h:Right c){k i:Int}(a:k∈mu c i)(b:0<=k):fe c k=true/\k<i:=by
 have:=kZ h 40 i k a
 have e:fe c i=true:=by
  cases d:fe c i with
  |true=>rfl
  |false=>rw[cq d]at a;simp at a
 have:=aJ.1 e;exact⟨aJ.2 ⟨b,by omega⟩,by omega⟩
def uE{c:aq}(h:Right c){l:List Int}(p: ∀x∈l,fe c x=true){d x:Int} :x∈zL (Mg c l d)↔x∈n7 c l d:=by
 rw[iy.2];constructor
 ·intro b;obtain⟨i,n,rfl⟩:=OW.1 b;obtain⟨_,a⟩:=OY.1 n;unfold LS at a;rw[PS,P1]at a;rcases a with a|⟨k,o,a⟩
  ·exact .inl (by simpa using a)
  rw[OJ]at a;exact .inr ⟨k,o,by simpa[bx]using a.1,by omega,a.2⟩
 intro b
 have q:fe c x=true:=by
  rcases b with b|⟨i,_,f,g,_⟩
  ·exact p x b
  exact(iZ h f g).1
 have r:=aJ.1 q;refine OW.2 ⟨x.toNat,OY.2 ⟨Oh.2 (by omega),?_⟩,by omega⟩;have e:((x.toNat:Nat):Int)=x:=by omega
 unfold LS;rw[e,PS,P1];rcases b with b|⟨i,j,f,g,m⟩
 ·exact .inl (by simpa using b)
 exact .inr ⟨i,j,by rw[OJ];exact⟨by simpa[bx]using f,m⟩⟩
/-! Rising lists -/
def V8(l:List Int)(j:Nat):Bool:=(j==0)||decide (l.getD (j-1) 0<l.getD j 0)
def jL(l:List Int)(j:Nat):Bool:=(j==0)||decide (¬l.getD j 0<l.getD (j-1) 0)
def jR(l:List Int):Bool:= !l.isEmpty&&(List.range l.length).all (V8 l)
def jH(l:List Int):Bool:=(List.range l.length).all (jL l)
def B8(l:List Int)(j:Nat)(b:j<l.length):Lib.keeps l.toArray j=((j==0)||decide (l.getD j 0≠l.getD (j-1) 0)):=by
 unfold Lib.keeps
 have e: ∀k,k<l.length->l.toArray[k]! =l.getD k 0:=fun k a=>by
  rw[Qr _ k (by simpa using a),Oe,OE a];simp
 rw[e j b,e (j-1) (by omega)];by_cases h:j=0<;>simp[h]
def AR(l:List Int):(Lib.compact l).length=l.length↔ ∀j,j<l.length->Lib.keeps l.toArray j=true:=by
 unfold Lib.compact Lib.compactUpTo;rw[O4]
 conv=>lhs;rhs;rw[<-SU (n:=l.length)]
 rw[List.length_filter_eq_length_iff];simp
def Le(l:List Int):(!l.isEmpty&&jH l&&decide ((Lib.compact l).length=l.length))=jR l:=by
 unfold jR jH;rw[TE]
 congr 1
 rw[PC,OJ,OR,AR,OP,OP];simp only[Oh];constructor
 ·rintro⟨e,f⟩ j d;have a:=e j d;have b:=f j d;rw[B8 l j d]at b;unfold V8;unfold jL at a;by_cases c:j=0
  ·simp[c]
  simp[c]at a b |-;omega
 intro h;refine⟨fun j d=> ?_,fun j d=> ?_⟩
 ·have a:=h j d;unfold V8 at a;unfold jL;by_cases c:j=0
  ·simp[c]
  simp[c]at a |-;omega
 have a:=h j d;rw[B8 l j d];unfold V8 at a;by_cases c:j=0
 ·simp[c]
 simp[c]at a |-;omega
def mq{l:List Int}(h:jR l=true):l.Nodup:=by
 unfold jR at h;rw[OJ,OP]at h
 have a: ∀i d,i+d+1<l.length->l.getD i 0<l.getD (i+d+1) 0:=fun i d=>by
  induction d with
  | zero=>
    intro b;have:=h.2 (i+1) (Oh.2 (by omega));unfold V8 at this;simpa using this
  | succ d k=>
    intro b;have m:=k (by omega);have:=h.2 (i+d+1+1) (Oh.2 (by omega));unfold V8 at this;have n:l.getD (i+d+1) 0<l.getD (i+d+1+1) 0:=by simpa using this
    rw[show i+(d+1)+1=i+d+1+1 by omega];omega
 rw[Pt,Ow];intro i j c g f e;have:=a i (j-i-1) (by omega);rw[show i+(j-i-1)+1=j by omega]at this;simp[Oe,OE c,OE g,e]at this
/-! Deep memories -/
def cV(c:aq)(l:List Int)(i:Int):Bool:=match at_ c i with
 |some s=> !(((s.kind==1)&&decide (1<cR l (aw c i true)))||((s.kind==4)||(s.kind==5)))
 |none=>false
def dp(c:aq)(a i:Int):Bool:=bx c a i&&(aw c i true).isEmpty
def g7(c:aq)(a:Int)(l:List Int):List Int:=n7 c l a++[a]
def O'(c:aq)(a:Int)(l:List Int):Bool:=jR l&&l.all (dp c a)&&decide ((rn c (g7 c a l)).length=(g7 c a l).length)&&(rn c (g7 c a l)).all (cV c (rn c (g7 c a l)))
def kW(c:aq)(a i:Int):Bool:=bx c a i&&(match at_ c i with|some s=> !ab s|none=>false)&&(aw c i true).isEmpty
def iG(c:aq)(l:List Int)(i:Int):Bool:=match at_ c i with
 |some s=> !(((s.kind==1)&&decide (cR l (aw c i true)≠min (aw c i true).length 1))||((s.kind==2)&&decide (cR l (aw c i true)≠(aw c i true).length)))
 |none=>false
def gy(c:aq)(a:Int)(l:List Int):List Int:=zL (Mg c l a)++[a]
def zO(c:aq)(a:Int)(l:List Int):Bool:=jR l&&l.all (kW c a)&&(gy c a l).all (iG c (gy c a l))
def wX(c:aq): ∀(f:Nat)(l t:List Int),∃a,io c f l t=l++a
 |0,l,t=>⟨[],by simp[io]⟩
 |f+1,l,[]=>⟨[],by simp[io]⟩
 | f+1,l,i::r=>by
   obtain⟨a,e⟩:=wX c f (l++jQ c l i) (r++jQ c l i);exact⟨jQ c l i++a,by unfold io;rw[e,O1]⟩
def lC(c:aq): ∀(f:Nat)(l t:List Int),l.Nodup->(io c f l t).Nodup
 |0,l,t,h=>h
 |f+1,l,[],h=>h
 | f+1,l,i::r,h=>by
   unfold io;refine lC c f _ _ ?_;rw[QJ];refine⟨h,fY c l i,fun x a y b e=> ?_⟩;subst e;have:=(OY.1 b).2;simp[a]at this
def Hj{c:aq}(h:cD c){l:List Int}(d:l.Nodup):(rn c l).length=l.length↔ ∀x,Gr c l x->x∈l:=by
 obtain⟨a,e⟩:=wX c (py c l+l.length) l l;have e:rn c l=l++a:=e;constructor
 ·intro i x f;have:a=[]:=Ox (by rw[e,ON]at i;omega);rw[this,P9]at e;rw[<-e];exact(gJ h d).2 f
 intro f;have b:=(lC c (py c l+l.length) l l d).length_le_of_subset (l₂:=l) fun x g=>f x ((gJ h d).1 g);have b:(rn c l).length<=l.length:=b;rw[e,ON]at b |-;omega
def iI{l a:List Int}(h: ∀x,x∈l↔x∈a)(ks:List Nat):cR l ks=cR a ks:=by
 unfold cR
 congr 1
 apply QK;intro k _;rw[PC,OQ,OQ];exact h _
def ru{c:aq}(h:cD c): ∀(n:Nat)(i k:Int),i<n->k∈mu c i->0<=k->ar c k=true
 | 0,i,k,f,hk,b=>by
   cases a:fe c i with
   |true=>have:=aJ.1 a;omega
   |false=>rw[cq a]at hk;simp at hk
 | n+1,i,k,f,hk,b=>by
   cases a:fe c i with
   |false=>rw[cq a]at hk;simp at hk
   | true=>
     rw[cr h.toRight a]at hk;have g:=dn h.toRight a;rcases hk with rfl|hk
     ·obtain⟨j,s,rfl,d,_⟩:=fB a;have:=h.st j s d;simp only[cG,OJ]at this;have:=this.1.1.1.2;rw[fH d]at b |-;simp only[dA,PS,OJ,P4]at this;rcases this with e|⟨_,e⟩
      ·omega
      exact e
     exact ru h n _ k (by omega) hk b
def gh{c:aq}{i:Int}(h:ar c i=true): ∃s,at_ c i=some s/\(s.kind=1\/s.kind=2):=by
 unfold ar at h;split at h
 ·rename_i s a;refine⟨s,a,?_⟩;unfold eO at h;simpa using h
 cases h
def lT{c:aq}(h:cD c){i:Int}{s:pc}(b:at_ c i=some s):(s.kind=1/\(aw c i true=[]\/(0<=mG c i/\mG c i∈hU c i)))\/(s.kind=2/\aw c i true≠[])\/(s.kind=3/\aw c i true=[])\/((s.kind=4\/s.kind=5)/\aw c i true=[]):=by
 have g:0<=i:=by
  unfold at_ at b;split at b
  ·assumption
  cases b
 obtain⟨k,rfl⟩: ∃k:Nat,i=k:=⟨i.toNat,by omega⟩;have d:mG c (k:Int)=s.initial:=by unfold mG;rw[b]
 rw[bO]at b;rcases h.cases b with⟨e,⟨a,_⟩|⟨j,f,a⟩⟩|⟨e,_,a,_⟩|⟨e,a,_⟩|⟨e,a,_⟩
 ·exact .inl ⟨e, .inl a⟩
 ·exact .inl ⟨e, .inr (by rw[d,a];exact⟨by omega,OW.2 ⟨j,f,rfl⟩⟩)⟩
 ·exact .inr (.inl ⟨e,a⟩)
 ·exact .inr (.inr (.inl ⟨e,sa a⟩))
 exact .inr (.inr (.inr ⟨e,sa a⟩))
def bk{c:aq}{i:Int}{s:pc}(a:at_ c i=some s):bD c i=(s.kind==1):=by unfold bD;rw[a]
def jz{l:List Int}{ks:List Nat} :cR l ks=ks.length↔ ∀k∈zL ks,k∈l:=by
 unfold cR;rw[List.length_filter_eq_length_iff];constructor
 ·intro h k a;obtain⟨j,b,rfl⟩:=OW.1 a;simpa using h j b
 intro h k a;simpa using h k (OW.2 ⟨k,a,rfl⟩)
def xC{c:aq}(h:cD c){a:Int}(W:ar c a=true)(l:List Int):O' c a l=zO c a l:=by
 unfold O' zO;cases hr:jR l with
 |false=>rfl
 |true=>
 simp only[PQ];by_cases f:l.all (dp c a)=true
 ·rw[f,PQ]
  have N: ∀x∈l,bx c a x=true/\aw c x true=[]/\fe c x=true:=fun x b=>by
   have:=OP.1 f x b;unfold dp at this;rw[OJ]at this;refine⟨this.1,by simpa using this.2,?_⟩;cases t:fe c x with
   |true=>rfl
   | false=>
     have:=this.1;unfold bx at this;rw[cq t]at this;simp at this
  obtain⟨sp,D,V⟩:=gh W
  have hp0:0<=a:=by
   unfold at_ at D;split at D
   ·assumption
   cases D
  obtain⟨un,U⟩:=iy (c:=c) (d:=a) (l:=l)
  have w: ∀x∈n7 c l a,bx c a x=true:=fun x b=>by
   rcases (U x).1 b with b|⟨_,_,_,_,b⟩
   ·exact(N x b).1
   exact b
  have S:a∉n7 c l a:=fun t=>by
   have:=w _ t;unfold bx at this;have:=(kZ h.toRight 40 a a (OQ.1 this)).2;omega
  have C:(g7 c a l).Nodup:=by
   unfold g7;rw[QJ];refine⟨un,by simp,fun x b y hy e=> ?_⟩;rw[O2.1 hy]at e;rw[e]at b;exact S b
  have o: ∀x,x∈gy c a l↔x∈g7 c a l:=fun x=>by
   unfold gy g7;rw[Of,Of,uE h.toRight fun x b=>(N x b).2.2]
  have I: ∀x∈g7 c a l,x∈l\/ar c x=true:=fun x b=>by
   rcases Of.1 b with b|b
   ·rcases (U x).1 b with b|⟨i,_,j,Y,_⟩
    ·exact .inl b
    exact .inr (ru h 40 i x (by
     cases t:fe c i with
     |true=>have:=aJ.1 t;have:=h.Z6;omega
     |false=>rw[cq t]at j;simp at j) j Y)
   rw[O2.1 b];exact .inr W
  have J: ∀x∈l,x∈g7 c a l:=fun x b=>PN _ ((U x).2 (.inl b))
  have n: ∀x∈g7 c a l,∃s,at_ c x=some s:=fun x b=>by
   rcases I x b with b|b
   ·obtain⟨_,s,_,_,e⟩:=fB (N x b).2.2;exact⟨s,e⟩
   obtain⟨s,e,_⟩:=gh b;exact⟨s,e⟩
  rw[PC,OJ,OR,Hj h C,OJ];constructor
  ·rintro⟨Q,z⟩
   have E: ∀x,x∈rn c (g7 c a l)↔x∈g7 c a l:=fun x=>by
    rw[gJ h C];exact⟨Q x, .base⟩
   have z: ∀x∈g7 c a l,cV c (g7 c a l) x=true:=fun x b=>by
    have:=OP.1 z x ((E x).2 b);unfold cV at this |-;obtain⟨s,m⟩:=n x b;rw[m]at this |-;rw[iI E]at this;exact this
   refine⟨OP.2 fun x b=> ?_,OP.2 fun x b=> ?_⟩
   ·have:=z x (J x b);unfold cV at this;unfold kW;obtain⟨s,m⟩:=n x (J x b);rw[m]at this |-;simp only at this |-;rw[(N x b).1,(N x b).2.1];unfold ab;simp only[Bool.not_or,OJ]at this;simp[this.2.1,this.2.2]at*
   have b:=(o x).1 b;obtain⟨s,m⟩:=n x b;have j:=z x b;unfold cV at j;unfold iG;rw[m]at j |-;simp only at j |-;rw[iI o];rcases lT h m with⟨e,v⟩|⟨e,v⟩|⟨e,v⟩|⟨e,v⟩
   ·have K:cR (g7 c a l) (aw c x true)<=1:=by
     rw[e]at j;simp at j;exact j
    have:cR (g7 c a l) (aw c x true)=min (aw c x true).length 1:=by
     rcases v with v|⟨v,P⟩
     ·rw[v];rfl
     have L:0< (aw c x true).length:=by
      cases T:aw c x true with
      |nil=>rw[hU,T]at P;simp at P
      |cons=>simp
     have X:cR (g7 c a l) (aw c x true)≠0:=fun G=>by
      have M:=lZ.1 G;exact M _ P (Q _ (.ini (.base b) (by rw[bk m,e];rfl) M v))
     omega
    simp[e,this]
   ·have:cR (g7 c a l) (aw c x true)=(aw c x true).length:=jz.2 fun k u=>Q k (.par (.base b) (by rw[bk m,e];rfl) u);simp[e,this]
   ·simp[e]
   rcases e with e|e<;>simp[e]
  rintro⟨R,r⟩
  have r: ∀x∈g7 c a l,iG c (g7 c a l) x=true:=fun x b=>by
   have:=OP.1 r x ((o x).2 b);unfold iG at this |-;obtain⟨s,m⟩:=n x b;rw[m]at this |-;rw[iI o]at this;exact this
  have H: ∀x,Gr c (g7 c a l) x->x∈g7 c a l:=fun x g=>by
   induction g with
   |base h=>exact h
   | ini g q Z G O=>
     rename_i p
     exfalso
     obtain⟨s,m⟩:=n p O;have j:=r p O;unfold iG at j;rw[m]at j;rw[bk m]at q;have u:s.kind=1:=by simpa using q
     have A:=lR h (by rw[bk m,u];rfl) G
     have L:0< (aw c p true).length:=by
      cases T:aw c p true with
      |nil=>rw[hU,T]at A;simp at A
      |cons=>simp
     have G:=lZ.2 Z;simp only[u,G]at j;simp at j;omega
   | par g q u O=>
     rename_i p k;obtain⟨s,m⟩:=n p O;have j:=r p O;unfold iG at j;rw[m]at j;rw[bk m]at q;rcases lT h m with⟨e,_⟩|⟨e,_⟩|⟨_,e⟩|⟨_,e⟩
     ·rw[e]at q;cases q
     ·simp[e]at j;exact jz.1 j k u
     ·rw[hU,e]at u;simp at u
     rw[hU,e]at u;simp at u
  have E: ∀x,x∈rn c (g7 c a l)↔x∈g7 c a l:=fun x=>by
   rw[gJ h C];exact⟨H x, .base⟩
  refine⟨H,OP.2 fun x b=> ?_⟩;have b:=(E x).1 b;obtain⟨s,m⟩:=n x b;have j:=r x b;unfold iG at j;unfold cV;rw[m]at j |-;simp only at j |-;rw[iI E]
  have B:s.kind≠4/\s.kind≠5:=by
   rcases I x b with b|b
   ·have:=OP.1 R x b;unfold kW at this;rw[m]at this;simp only[ab,OJ,Bool.not_or]at this;have:=this.1.2;exact⟨by simpa using this.1,by simpa using this.2⟩
   obtain⟨s',e,v⟩:=gh b;rw[m]at e;cases e;omega
  have K:s.kind=1->cR (g7 c a l) (aw c x true)<=1:=fun e=>by
   simp[e]at j;omega
  by_cases e:s.kind=1
  ·have:=K e;simp[e];omega
  simp[e,B.1,B.2]
 have f:l.all (dp c a)=false:=by simpa using f
 rw[f]
 have:l.all (kW c a)=false:=by
  rw[RP]at f |-;obtain⟨x,b,e⟩:=f;refine⟨x,b,fun t=>e ?_⟩;unfold kW at t;unfold dp;simp only[OJ]at t |-;exact⟨t.1.1,t.2⟩
 rw[this];rfl
/-! Memories -/
abbrev ed:=Int×List Int
def mz(c:aq)(m:ed):Bool:=match at_ c m.1 with
 |some s=>if s.kind=4 then decide (m.2.length=1)&&(hU c s.parent).contains (m.2.getD 0 0) else(s.kind==5)&&O' c s.parent m.2
 |none=>false
def se(c:aq)(l:List ed)(j:Nat):Bool:=match l[j]? with
 |some m=>mz c m&&((j==0)||decide ((l.getD (j-1) (0,[])).1<m.1))
 |none=>true
def bu(c:aq)(l:List ed):Bool:=(List.range l.length).all (se c l)
end
section
open Go.RowKit Go.ChangeShapes Go.WideShapes Go.ChangeAt
def fi(m:ed):List AV:=[I m.1, .seq 1 (m.2.map aa)]
def WS:=@fi.eq_1
def Kz(m:ed):Prop:=m.2.length<=maxLen
section
variable {H:Type} {enc:TypeId×Value->H} {w:World} {base:Nat} {spare:Nat->Bool} {held:Bool}
theorem UW.app{S:Nat->Nat->Prop}{w:World} : ∀ {vs b:List Value}{cs ds:List AV},UW S w vs cs->UW S w b ds->UW S w (vs++b) (cs++ds)
 |[],_,[],_,_,h=>h
 |_::_,_,_::_,_,a,c=>⟨a.1,UW.app a.2 c⟩
end
end
section
open Go.RowKit
def Mo(a b:Nat)(h:b<=a)(c:a<9223372036854775808):IntKind.i64.wrap ((a:Int)-(b:Int))=((a-b:Nat):Int):=by rw[bB (by omega) (by omega)];omega
abbrev cI(l:List Int):AV:= .seq 1 (l.map aa)
def ew(t:List UInt8×Int):List AV:=[Sg t.1,I t.2]
def WT:=@ew.eq_1
def B9(r:Rc):List AV:=[cI r.Z8,cI r.vars, .seq 2 (r.mem.map fi), .seq 2 (r.timers.map ew),B r.over]
def Xm:=@B9.eq_1
def dy(r:Rc):List AV:=[I r.Z5,I r.born,I r.steps,cI r.Z8,cI r.vars, .seq 2 (r.mem.map fi), .seq 2 (r.timers.map ew),B r.over]
def Xb:=@dy.eq_1
structure Vm(r:Rc):Prop where
 Z8:r.Z8.length<=1000000
 vars:r.vars.length<=1000000
 mem:r.mem.length<=1000000
 timers:r.timers.length<=1000000
 Z9: ∀m∈r.mem,m.2.length<=1000000
def cW{a:Type}{l:List a}{i:Nat}{x d:a}(h:l[i]? =some x):l.getD i d=x:=by rw[Oe,h];rfl
def EQ{a:Type}{l:List a}{i:Nat}{x:a}(h:l[i]? =some x):x∈l:=OM h
def J7(a b n:Int):decide (a<=n/\n<=b)=(decide (a<=n)&&decide (n<=b)):=Sm ..
def iK{i:Nat}{f:Nat->Bool}(a: ∀j,j<i->f j=true)(h:f i=true): ∀j,j<i+1->f j=true:=fun j b=>by
 by_cases e:j=i
 ·rw[e];exact h
 exact a j (by omega)
def pg: ∀a b:List UInt8,Op.bytesLess b a= !(Op.bytesLess a b||a==b)
 |[],[]=>rfl
 |[],_::_=>rfl
 |_::_,[]=>rfl
 | x::a,y::b=>by
   have i:=pg a b;simp only[Op.bytesLess,List.cons_beq_cons,i];by_cases h:x=y
   ·subst h;simp
   have g: ¬y=x:=fun e=>h e.symm;have c:(x==y)=false:=by simpa using h
   have d:(y==x)=false:=by simpa using g
   have f:decide (y<x)= !decide (x<y):=by
    rw[PC];simp[UInt8.lt_iff_toNat_lt];have:x.toNat≠y.toNat:=fun e=>h (T6.1 e);omega
   simp[c,d,f]
def nS(x:Int)(l:List Int)(i:Nat)(a:l[i]? =some x):l.getD i 0=x:=by rw[Oe,a];rfl
end
end Go.Proofs.YtfcdkaolcdglmaaGreatDoor
