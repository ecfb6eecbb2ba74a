/- A table's map in the making: a row for each key. -/
import Derived.Test.YtknkhdgfhbogdaaGreatDoorP14
set_option maxRecDepth 100000
set_option maxHeartbeats 4000000
set_option linter.unusedSimpArgs false
set_option linter.defProp false
namespace Go.Proofs.YtknkhdgfhbogdaaGreatDoor
open Go.Proofs.Tryz
open Go.RowKit
section
def dQ(env:b6)(es:List (List AV))(c:es.length<=4096):b7 prog env 47 [.seq 1 es] (.own 3 1 es):=by
 cases es with
 | nil=>
   refine b7.empty fun A a=> ?_;cases A with
   | none=>
     refine qw func47 call47 ntmps47 results47 ?_;repeat refine m8 ?_
     (refine aM ?_;refine⟨_,(by show (ag _ _ _).run _=some _;simp only[go_sem];rfl),?_⟩)
     exact fX.own_nil _ _ (by decide)
   | some A=>
     refine qf func47 call47 ntmps47 results47 ?_;repeat refine m8 ?_
     exact p'
 | cons d l=>
   have b:cI ((l.length+1)) 8:=aC (by simpa using c) (by omega);refine qf func47 call47 ntmps47 results47 ?_;have F:=b;exact dT
def su(env:b6)(es:List (List AV))(c:es.length<=4096):b7 prog env 62 [.seq 2 es] (.own 65 2 es):=by
 cases es with
 | nil=>
   refine b7.empty fun A a=> ?_;cases A with
   | none=>
     refine qw func62 call62 ntmps62 results62 ?_;repeat refine m8 ?_
     (refine aM ?_;refine⟨_,(by show (ag _ _ _).run _=some _;simp only[go_sem];rfl),?_⟩)
     exact fX.own_nil _ _ (by decide)
   | some A=>
     refine qf func62 call62 ntmps62 results62 ?_;repeat refine m8 ?_
     exact p'
 | cons d l=>
   have b:cI ((l.length+1)) 16:=aC (by simpa using c) (by omega);refine qf func62 call62 ntmps62 results62 ?_;have F:=b;exact dT
def Cu(env:b6)(es:List (List AV))(c:es.length<=4096):b7 prog env 60 [.seq 2 es] (.own 143 2 es):=by
 cases es with
 | nil=>
   refine b7.empty fun A a=> ?_;cases A with
   | none=>
     refine qw func60 call60 ntmps60 results60 ?_;repeat refine m8 ?_
     (refine aM ?_;refine⟨_,(by show (ag _ _ _).run _=some _;simp only[go_sem];rfl),?_⟩)
     exact fX.own_nil _ _ (by decide)
   | some A=>
     refine qf func60 call60 ntmps60 results60 ?_;repeat refine m8 ?_
     exact p'
 | cons d l=>
   have b:cI ((l.length+1)) 24:=aC (by simpa using c) (by omega);refine qf func60 call60 ntmps60 results60 ?_;have F:=b;exact dT
/-! Few of all -/
def RF(l:List jn):Prop:=l.length<=4096/\ ∀a∈l,a.code.length<=4096
structure g6(c:aq):Prop where
 vars:c.vars.length<=4096
 sts:c.Z9.length<=4096
 trs:c.trans.length<=4096
 st: ∀s∈c.Z9,RF s.ZW/\RF s.out
 tr: ∀t∈c.trans,t.guard.length<=4096/\RF t.Z1
def wi{l:List lf}{vs ss:Int}(h:bn l vs ss=true):l.length<=32:=by
 unfold bn iM at h;split at h
 ·simp at h
 omega
def pX{c b:Int}{l:List jn}(h:eL c b l=true):RF l:=by
 unfold eL at h;rw[Li,Lt,Lm]at h;refine⟨by omega,fun a f=> ?_⟩;have d:=h.2 a f;unfold gC at d;by_cases e:a.code=[]
 ·rw[e];simp
 have:bn a.code c b=true:=by
  revert d
  cases bn a.code c b<;>simp[e]
 have:=wi this;omega
def t8{c:aq}(h:(nv c).1=0):g6 c:=by
 have j:=AL h;unfold nv at h;split at h
 ·simp at h
 rename_i i;split at h
 ·simp at h
 split at h
 ·simp at h
 split at h
 ·simp at h
 rename_i b;split at h
 ·simp at h
 split at h
 ·simp at h
 rename_i d;refine⟨by omega,by omega,by omega,fun s f=> ?_,fun t g=> ?_⟩
 ·obtain⟨k,a⟩:=NL.1 f;have:=cc b k (Ld.1 a).1;unfold lY at this;rw[a]at this;simp only[cJ,Li]at this;exact⟨pX this.1.2,pX this.2⟩
 obtain⟨k,a⟩:=NL.1 g;have:=cc d k (Ld.1 a).1;unfold qb at this;rw[a]at this;simp only[d5,Li,Mx]at this;refine⟨?_,pX this.1.2⟩;rcases this.1.1.2 with e|e
 ·have:t.guard=[]:=by simpa using e
  rw[this];simp
 have:=wi e;omega
def jk(env:b6)(l:List jn)(k:RF l):b7 prog env 61 [i0 l] (.own 67 4 (l.map az)):=by
 have q:=k.1;refine qf func61 call61 ntmps61 results61 ?_;repeat refine m8 ?_
 refine am 3 3 67 4 ?_;refine PA l.length (by omega) (fun j o=>[(3, .row 3 (o 3)),(6,i0 l),(7,I l.length),(8,I j)]) (fun j _=>[(3,⟨4,(l.take j).map az,67,true⟩)]) (fun j _ b=>b 3=false) rfl ?_ ?_
 ·rintro j p b c e m d;obtain⟨a,f⟩:=gE c;have f0:=su env (a.code.map bV) (by rw[ME];exact k.2 a (Lh f));have i:(l.take j).length=j:=by rw[Lw];omega
  have n:cI (j+1) 56:=aC (by omega) (by omega);have h:l.take (j+1)=l.take j++[a]:=by rw[MM,f];rfl
  have F:=lP S4 e m f i n d;repeat refine ef f0 ?_
  refine⟨j+1,⟨c,by simp only[go_sem,d]⟩,?_,?_,by omega⟩
  ·exact qe
  have F:=fI S4 h @Ln.{0,0};exact qe
 rintro p b e d;have g:l.take l.length=l:=MC;have F:=fI e g d;exact dT
def pD(env:b6)(c:aq)(p:g6 c):b7 prog env 30 [.agg (aA c)] (.agg (aA c)):=by
 have w:=p.sts;have x:=p.trs;have f0:=Cu env (c.vars.map iB) (by rw[ME];exact p.vars);refine qf func30 call30 ntmps30 results30 ?_;have F:=aA.eq_1;repeat refine ef f0 ?_
 refine nC 3 9000 0 3 62 6 ?_;refine nC 3 9001 0 4 53 5 ?_
 refine aG (D:=Nat) (fun j e=>[(1, .loc 1 (e 1) 0 0),(2, .loc 2 (e 2) 0 0),(3, .loc 3 (e 3) 0 0),(17,o' c.Z9),(18,I c.Z9.length),(19,I j)])
  (fun j e=>[(1,⟨5,[aA c],26,false⟩),(2,⟨5,[[Sg [],I 0,ct,ct,ct]],26,false⟩),(3,⟨5,[[Sg c.name,I c.initial, .row 14 (e 14), .row 9000 (e 9000), .row 9001 (e 9001)]],26,false⟩),(14,⟨2,c.vars.map iB,143,true⟩),(9000,⟨6,(c.Z9.take j).map aK,62,true⟩),(9001,⟨5,[],53,true⟩)])
  (fun j _ a=>j<=c.Z9.length/\a 2=false/\a 3=false/\a 14=false/\a 9000=false/\a 9001=false) (fun j=>c.Z9.length-j) 0 ?_ ?_ ?_ ?_
 ·refine⟨Lx _,?_,?_,?_,?_,?_⟩<;>simp only[go_sem]
 ·exact qe
 ·have F:=aA.eq_1;exact qe
 rintro j y a ⟨v,f,g,h,i,k⟩;by_cases b:j<c.Z9.length
 ·obtain⟨s,d⟩:=gE b;have l:=h9 b;have r:=aD b (by omega);have f1:=jk env s.ZW (p.st s (Lh d)).1;have f2:=jk env s.out (p.st s (Lh d)).2;have o:(c.Z9.take j).length=j:=by rw[Lw];omega
  have u:cI (j+1) 88:=aC (by omega) (by omega);have n:c.Z9.take (j+1)=c.Z9.take j++[s]:=by rw[MM,d];rfl
  have F:=dk SR SS l r d o u f g h i k;repeat refine vb f1 f2 ?_
  refine⟨j+1,⟨b,?_,?_,?_,?_,?_⟩,?_,?_,by omega⟩;all_goals (first|(show _=false;simp only[go_sem,f,g,h,i,k];done)|skip)
  ·exact qe
  have F:=pf SR SS n @Ln.{0,0} f g h i k;exact qe
 obtain rfl:j=c.Z9.length:=by omega
 have l:=nl c.Z9.length;have m:c.Z9.take c.Z9.length=c.Z9:=MC;have F:=ns SR l m f g h i k;repeat refine st ?_
 refine aG (D:=Nat) (fun j e=>[(1, .loc 1 (e 1) 0 0),(2, .loc 2 (e 2) 0 0),(3, .loc 3 (e 3) 0 0),(39,rk c.trans),(40,I c.trans.length),(41,I j)])
  (fun j e=>[(1,⟨5,[aA c],26,false⟩),(2,⟨5,[[Sg [],I 0,ct,ct,ct]],26,false⟩),(3,⟨5,[[Sg c.name,I c.initial, .row 14 (e 14), .row 9000 (e 9000), .row 9001 (e 9001)]],26,false⟩),(14,⟨2,c.vars.map iB,143,true⟩),(9000,⟨6,c.Z9.map aK,62,true⟩),(9001,⟨5,(c.trans.take j).map an,53,true⟩)])
  (fun j _ a=>j<=c.trans.length/\a 2=false/\a 3=false/\a 14=false/\a 9000=false/\a 9001=false) (fun j=>c.trans.length-j) 0 ?_ ?_ ?_ ?_
 ·refine⟨Lx _,?_,?_,?_,?_,?_⟩<;>simp only[go_sem,f,g,h,i,k]
 ·exact qe
 ·have F:=aA.eq_1;exact qe
 try clear f g h i k
 rintro j y a ⟨v,f,g,h,i,k⟩;by_cases b:j<c.trans.length
 ·obtain⟨t,d⟩:=gE b;have l:=h9 b;have r:=aD b (by omega);have q:=p.tr t (Lh d);have f1:=su env (t.guard.map bV) (by rw[ME];exact q.1);have f2:=jk env t.Z1 q.2;have o:(c.trans.take j).length=j:=by rw[Lw];omega
  have u:cI (j+1) 80:=aC (by omega) (by omega);have n:c.trans.take (j+1)=c.trans.take j++[t]:=by rw[MM,d];rfl
  have F:=dk SR SV l r d o u f g h i k;repeat refine vb f1 f2 ?_
  refine⟨j+1,⟨b,?_,?_,?_,?_,?_⟩,?_,?_,by omega⟩;all_goals (first|(show _=false;simp only[go_sem,f,g,h,i,k];done)|skip)
  ·exact qe
  have F:=pf SR SV n @Ln.{0,0} f g h i k;exact qe
 obtain rfl:j=c.trans.length:=by omega
 have l:=nl c.trans.length;have m:c.trans.take c.trans.length=c.trans:=MC;have F:=ns SR l m f g h i k;exact dT
end
section
def gF(s:List UInt8):List AV:=[Sg s]
def Tu:=@gF.eq_1
def lO(l:List (List UInt8)):bN (l.map Dm)=l.map gF:=by
 unfold bN;rw[OE];rfl
def bi(c:aq)(j:Nat):List (List UInt8):=((c.trans.take j).map (·.Z8)).filter fun e=> !e.isEmpty
def Fm(c:aq):List (List UInt8):=Lib.compact (gW (bi c c.trans.length))
def CR{c:aq}{j:Nat}{t:sh}(h:c.trans[j]? =some t):bi c (j+1)=if t.Z8.isEmpty then bi c j else bi c j++[t.Z8]:=by
 unfold bi;rw[MM,h,Ln,MR];cases a:t.Z8.isEmpty<;>simp[a]
def pF(c:aq)(j:Nat):(bi c j).length<=j:=by
 unfold bi;exact Ly (MF ..) (by simp;omega)
def Ch(env:b6)(c:aq)(p:c.trans.length<=1000000):b7 prog env 31 [.agg (aA c)] (.own 9 1 ((Fm c).map gF)):=by
 refine qf func31 call31 ntmps31 results31 ?_;have F:=aA.eq_1;repeat refine st ?_
 refine am 3 3 9 1 ?_;refine aG (D:=Nat) (fun j o=>[(3, .row 3 (o 3)),(7,rk c.trans),(8,I c.trans.length),(9,I j)]) (fun j _=>[(3,⟨1,(bi c j).map gF,9,true⟩)]) (fun j _ e=>j<=c.trans.length/\e 3=false) (fun j=>c.trans.length-j) 0 ?_ ?_ ?_ ?_
 ·exact⟨Lx _,rfl⟩
 ·exact qe
 ·(simp only[go_sem,F])
  rfl
 rintro j r e ⟨q,a⟩;by_cases b:j<c.trans.length
 ·obtain⟨t,k⟩:=gE b;have f:=h9 b;have l:=aD b (by omega);have h:=CR k;have n:=pF c j;have m:cI ((bi c j).length+1) 16:=⟨by omega,by omega⟩;cases g:t.Z8.isEmpty with
  | true=>
    rw[g,Lj rfl]at h;have d:(t.Z8 == [])=true:=by simpa using g
    have F:=ip SV f l k d a;repeat refine st ?_
    refine⟨j+1,⟨b,by simp only[go_sem,a]⟩,?_,?_,by omega⟩
    ·exact qe
    have F:=h;exact qe
  | false=>
    rw[g,Lf MW]at h;have d:(t.Z8 == [])=false:=by simpa using g
    have F:=lP SV f l k d m a;repeat refine st ?_
    refine⟨j+1,⟨b,by simp only[go_sem,a]⟩,?_,?_,by omega⟩
    ·exact qe
    have F:=fI h Tu @Ln.{0,0};exact qe
 obtain rfl:j=c.trans.length:=by omega
 have f:=nl c.trans.length;have n:=pF c c.trans.length;have F:=ai f a;repeat refine st ?_
 have f1:=yz (bi c c.trans.length) (by omega);have i:(gW (bi c c.trans.length)).length<=9223372036854775807:=by simp[gW];omega
 have f2:=Cq (gW (bi c c.trans.length)) i;refine ng 3 rfl (row:=⟨1,(bi c c.trans.length).map gF,9,true⟩) f1 (MZ 0) rfl (lO _).symm (by simp only[go_sem,a];exact iR) (by simp only[go_sem,a];exact iR) (by simp only[go_sem,a];exact iR) (by simp only[go_sem,a];exact iR) ?_;rw[lO];repeat refine st ?_
 refine uX 3 rfl (row:=⟨1,(gW (bi c c.trans.length)).map gF,9,true⟩) f2 (MZ 0) rfl (lO _).symm (by simp only[go_sem,a];exact iR) (by simp only[go_sem,a];exact iR) (by simp only[go_sem,a];exact iR) (by simp only[go_sem,a];exact iR) iR ?_;rw[lO];repeat refine st ?_
 (refine aM ?_;show (ag _ _ _).run _=some _;simp only[go_sem,F])
 rfl
end
section
def eI: ∀a:List UInt8,Op.bytesLess a a=false
 |[]=>rfl
 |x::a=>by simp[Op.bytesLess,eI a]
def e9: ∀ {a b c:List UInt8},Op.bytesLess a b=true->Op.bytesLess b c=true->Op.bytesLess a c=true
 |_,[],_,h,_=>by simp[Op.bytesLess]at h
 |_,_::_,[],_,h=>by simp[Op.bytesLess]at h
 |[],_::_,_::_,_,_=>rfl
 | x::a,y::b,z::c,h,k=>by
   simp only[Op.bytesLess,Mx,Lt,Li,Mh]at h k |-;rcases h with h|⟨h,e⟩
   ·rcases k with k|⟨k,d⟩
    ·exact .inl (UInt8.lt_trans h k)
    exact .inl (k ▸ h)
   rcases k with k|⟨k,d⟩
   ·exact .inl (h ▸ k)
   exact .inr ⟨h.trans k,e9 e d⟩
def dp: ∀ {a b:List UInt8},Op.bytesLess a b=false->Op.bytesLess b a=false->a=b
 |[],[],_,_=>rfl
 |[],_::_,h,_=>by simp[Op.bytesLess]at h
 |_::_,[],_,h=>by simp[Op.bytesLess]at h
 | x::a,y::b,h,k=>by
   simp only[Op.bytesLess,PH,Me,Bool.and_eq_false_iff]at h k;have e:x=y:=UInt8.le_antisymm (UInt8.not_lt.1 k.1) (UInt8.not_lt.1 h.1);subst e;simp only[QO,Bool.true_eq_false,false_or]at h k;rw[dp h.2 k.2]
def o6{a b:List UInt8}(h:Op.bytesLess a b=true):Op.bytesLess b a=false:=by
 cases k:Op.bytesLess b a
 ·rfl
 have:=e9 h k;rw[eI]at this;cases this
end
section
abbrev th:=List UInt8
abbrev SL(a b:th):Prop:=Op.bytesLess a b=true
/-! Texts in the order of bytes -/
def K1: ∀(x y:th),Op.bytesLess x y=decide (x<y)
 |[],[]=>by simp[Op.bytesLess]
 |_::_,[]=>by simp[Op.bytesLess]
 |[],_::_=>by simp[Op.bytesLess]
 | a::x,b::y=>by
   rw[Op.bytesLess,K1 x y];simp only[List.cons_lt_cons_iff];by_cases c:a<b<;>by_cases d:a=b<;>by_cases e:x<y<;>simp[c,d,e]
def JY(x y:th):decide (x<=y)= !Op.bytesLess y x:=by
 rw[K1, <-decide_not];rfl
def zm{a b c:th}(f:Op.bytesLess b a=false)(d:Op.bytesLess c b=false):Op.bytesLess c a=false:=by
 cases k:Op.bytesLess c a
 ·rfl
 cases e:Op.bytesLess a b
 ·rw[<-dp e f,k]at d;cases d
 rw[e9 k e]at d;cases d
def AH(l:List th):(gW l).Pairwise fun a b=>Op.bytesLess b a=false:=by
 have:=P4 (le:=fun x y:th=>decide (x<=y)) (fun a b c d e=>by
  simp only[JY,Mo]at*;exact zm d e) (fun a b=>by
  simp only[JY];cases k:Op.bytesLess b a
  ·simp
  rw[o6 k];simp) l
 exact this.imp fun {a b} h=>by simpa[JY]using h
def FJ{l:List th}{x:th} :x∈gW l↔x∈l:=List.mem_mergeSort
def pU(l:List th)(i:l.Pairwise fun a b=>Op.bytesLess b a=false): ∀m,m<=l.length->(Lib.compactUpTo l.toArray m).Pairwise SL/\ ∀x,x∈Lib.compactUpTo l.toArray m↔x∈l.take m
 |0,_=>by simp[Lib.compactUpTo]
 | m+1,v=>by
   obtain⟨o,f⟩:=pU l i m (by omega);have d:l.toArray[m]! =l[m]'(by omega):=by rw[OQ _ m (by simp;omega)];rfl
   have n:l.take (m+1)=l.take m++[l[m]'(by omega)]:=by rw[MM,Lc (by omega)];rfl
   have c: ∀k (hk:k<m),Op.bytesLess (l[m]'(by omega)) (l[k]'(by omega))=false:=fun k hk=>M6.1 i k m (by omega) (by omega) hk;rw[Lib.compactUpTo_succ,d];by_cases hk:Lib.keeps l.toArray m=true
   ·rw[Lj hk];refine⟨OR.2 ⟨o,Od ..,fun x p y u=> ?_⟩,fun x=>by rw[n,ML,ML,f]⟩;rw[MA.1 u];rw[f,PN]at p;obtain⟨k,s,rfl⟩:=p;have g:k<m:=by omega
    show Op.bytesLess _ _=true;cases t:Op.bytesLess (l[k]'(by omega)) (l[m]'(by omega)) with
    |true=>rfl
    | false=>
      have e:=dp t (c k g)
      exfalso
      unfold Lib.keeps at hk;rw[Lt]at hk;rcases hk with hk|hk
      ·omega
      apply hk;rw[d,OQ _ (m-1) (by simp;omega)];show l[m]'(by omega)=l[m-1]'(by omega);have q:=c (m-1) (by omega);by_cases r:k=m-1
      ·subst r;exact e.symm
      have j:=M6.1 i k (m-1) (by omega) (by omega) (by omega);rw[e]at j;exact dp q j
   rw[Lf hk,Mw];refine⟨o,fun x=> ?_⟩;rw[f,n,ML,MA];refine⟨.inl,fun h=>h.elim id fun h=> ?_⟩;unfold Lib.keeps at hk;rw[Lt,QD,Ow,d,OQ _ (m-1) (by simp;omega)]at hk;rw[h,hk.2];exact PN.2 ⟨m-1,by omega,rfl⟩
def yF(c:aq):(Fm c).Pairwise SL:=(pU _ (AH _) _ (Lr _)).1
def yb{c:aq}{s:th} :s∈Fm c↔s≠[]/\ ∃t∈c.trans,t.Z8=s:=by
 unfold Fm Lib.compact;rw[(pU _ (AH _) _ (Lr _)).2,MC,FJ];unfold bi;rw[MC,Lq,Lp];constructor
 ·rintro⟨⟨t,a,b⟩,d⟩;exact⟨by simpa using d,t,a,b⟩
 rintro⟨h,t,a,b⟩;exact⟨⟨t,a,b⟩,by simpa using h⟩
def Jy(c:aq):(Fm c).length<=c.trans.length:=by
 have a:(Lib.compact (gW (bi c c.trans.length))).length<=(gW (bi c c.trans.length)).length:=by
  unfold Lib.compact Lib.compactUpTo;rw[ME];exact Ly (MF ..) (by simp)
 have b:=pF c c.trans.length;unfold Fm;have d:(gW (bi c c.trans.length)).length=(bi c c.trans.length).length:=by simp[gW]
 omega
/-! Where a text stands, or would stand -/
def ri(l:List th)(x:th):Nat:=(l.filter fun y=>Op.bytesLess y x).length
def SD(l:List th)(x:th)(p:Nat):Prop:=p<=l.length/\ ∀k y,l[k]? =some y->(Op.bytesLess y x=true↔k<p)
def xj: ∀ {l:List th},l.Pairwise SL-> ∀x,SD l x (ri l x)
 |[],_,x=>⟨Lx _,fun k y h=>by simp at h⟩
 | a::l,h,x=>by
   obtain⟨g,i⟩:=NT.1 h;obtain⟨n,m⟩:=xj i x;unfold ri at*;rw[Na];by_cases c:Op.bytesLess a x=true
   ·rw[Lj c,MB];refine⟨by simp only[MB];omega,fun k y b=> ?_⟩;cases k with
    | zero=>
      obtain rfl:a=y:=by simpa using b
      exact⟨fun _=>by omega,fun _=>c⟩
    | succ k=>
      rw[m k y (by simpa using b)];omega
   ·rw[Lf c];have d: ∀y∈l,¬Op.bytesLess y x=true:=fun y j f=>c (e9 (g y j) f);have e:(l.filter fun y=>Op.bytesLess y x)=[]:=Nr.2 d;rw[e];refine⟨Lx _,fun k y b=>⟨fun f=> ?_,fun b=>by simp at b⟩⟩;cases k with
    | zero=>
      obtain rfl:a=y:=by simpa using b
      exact absurd f c
    |succ k=>exact absurd f (d y (Lh (by simpa using b)))
def Iv{l:List th}(h:l.Pairwise SL){x:th}(i:x∈l):l[ri l x]? =some x:=by
 obtain⟨j,d⟩:=xj h x;obtain⟨k,a⟩:=NL.1 i;have b:=(d k x a);rw[eI]at b;have b: ¬k<ri l x:=fun e=>by simpa using b.2 e
 have c:=(Ld.1 a).1;by_cases e:k=ri l x
 ·rw[<-e];exact a
 have g:ri l x<l.length:=by omega
 have f:=M6.1 h (ri l x) k g c (by omega);rw[(Ld.1 a).2]at f;have:=(d _ _ (Lc g)).1 f;omega
def Qz(c:aq)(s:th):Int:=if (Fm c)[ri (Fm c) s]? =some s then(ri (Fm c) s:Nat) else -1
def uu{c:aq}{s:th}(h:s∈Fm c): ∃k:Nat,Qz c s=k/\(Fm c)[k]? =some s:=⟨ri (Fm c) s,by unfold Qz;rw[Lj (Iv (yF c) h)],Iv (yF c) h⟩
def E4{c:aq}{s:th}(h:s∉Fm c):Qz c s= -1:=by
 unfold Qz;rw[Lf fun e=>h (Lh e)]
def Kq{c:aq}{s t:th}(d:s∈Fm c)(e:t∈Fm c)(h:Qz c s=Qz c t):s=t:=by
 obtain⟨k,f,a⟩:=uu d;obtain⟨j,g,b⟩:=uu e;have:k=j:=by omega
 subst this;exact NQ (a.symm.trans b)
def yG(c:aq):Qz c []= -1:=E4 fun h=>(yb.1 h).1 rfl
/-! A state's transitions -/
def dH(c:aq)(k:Nat):Int×Int:=match c.trans[k]? with
 |some t=>(t.src,Qz c t.Z8)
 |none=>(-1, -1)
def ib(c:aq)(j:Nat)(p:Int×Int):List Nat:=(List.range j).filter fun k=>dH c k=p
def cy(c:aq):Nat->List (Int×Int)
 |0=>[]
 |j+1=>if dH c j∈cy c j then cy c j else cy c j++[dH c j]
def RC(c:aq)(i e:Int):List Nat:=ib c c.trans.length (i,e)
def np(c:aq)(j:Nat)(p:Int×Int):ib c (j+1) p=if dH c j=p then ib c j p++[j] else ib c j p:=by
 unfold ib;rw[Nn,MR];by_cases h:dH c j=p<;>simp[h]
def oI{c:aq}{p:Int×Int} : ∀ {j:Nat},p∈cy c j↔ ∃k,k<j/\dH c k=p
 |0=>by simp[cy]
 | j+1=>by
   unfold cy;split
   ·rename_i h;rw[oI];constructor
    ·rintro⟨k,b,a⟩;exact⟨k,by omega,a⟩
    rintro⟨k,b,a⟩;by_cases e:k=j
    ·subst e;rw[<-a];exact oI.1 h
    exact⟨k,by omega,a⟩
   rw[ML,oI,MA];constructor
   ·rintro(⟨k,b,a⟩|h)
    ·exact⟨k,by omega,a⟩
    exact⟨j,by omega,h.symm⟩
   rintro⟨k,b,a⟩;by_cases e:k=j
   ·subst e;exact .inr a.symm
   exact .inl ⟨k,by omega,a⟩
def mh(c:aq): ∀j,(cy c j).Nodup
 |0=> .nil
 | j+1=>by
   unfold cy;split
   ·exact mh c j
   rename_i h;exact Nc.2 ⟨mh c j,by simp,fun a d b f e=>h (by rw[MA.1 f]at e;exact e ▸ d)⟩
def tc{c:aq}{j:Nat}{p:Int×Int}(h:p∉cy c j):ib c j p=[]:=by
 unfold ib;rw[Nr];intro k a;simp only[Lt];exact fun e=>h (oI.2 ⟨k,MK.1 a,e⟩)
def Dq(c:aq)(j:Nat)(p:Int×Int):(ib c j p).length<=j:=by
 unfold ib;exact Ly (MF ..) (by simp)
def qv(p:Int×Int):List (Int×Int)->Nat->Option Nat
 |[],_=>none
 |q::l,i=>if p=q then some i else qv p l (i+1)
def pP{p:Int×Int} : ∀ {l:List (Int×Int)}{i n:Nat},qv p l i=some n->i<=n/\l[n-i]? =some p
 |[],i,n,h=>by simp[qv]at h
 | q::l,i,n,h=>by
   unfold qv at h;split at h
   ·rename_i e;obtain rfl:i=n:=by simpa using h
    simp[e]
   obtain⟨b,a⟩:=pP h;refine⟨by omega,?_⟩;rw[show n-i=(n-(i+1))+1 by omega,NW];exact a
def lT{p:Int×Int} : ∀ {l:List (Int×Int)}{i:Nat},qv p l i=none->p∉l
 |[],i,h=>by simp
 | q::l,i,h=>by
   unfold qv at h;split at h
   ·cases h
   rename_i e;rw[MI];exact fun a=>a.elim e (lT h)
def JP{c:aq}(i:Int)(s:th)(h:s=[]\/s∈Fm c):RC c i (Qz c s)=(List.range c.trans.length).filter fun k=>match c.trans[k]? with|some t=>decide (t.src=i/\t.Z8=s)|none=>false:=by
 unfold RC ib;apply NR;intro k d;have d:=MK.1 d;have f:c.trans[k]? =some c.trans[k]:=Lc d;unfold dH;rw[f];simp only[Oa]
 congr 1
 generalize j:c.trans[k]=t at*;have b:t∈c.trans:=Lh f;apply propext;refine and_congr_right fun _=>⟨fun e=> ?_,fun e=>by rw[e]⟩;rcases h with rfl|h
 ·rw[yG]at e;by_cases a:t.Z8=[]
  ·exact a
  obtain⟨k,g,_⟩:=uu (yb.2 ⟨a,t,b,rfl⟩);omega
 obtain⟨k,g,_⟩:=uu h;by_cases a:t.Z8=[]
 ·rw[a,yG]at e;omega
 exact Kq (yb.2 ⟨a,t,b,rfl⟩) h e
end
section
def A6(env:b6)(s:List UInt8):b7 prog env 113 [Sg s] (B false):=by
 refine qf func113 call113 ntmps113 results113 ?_;repeat refine m8 ?_
 exact p'
def Hh(env:b6)(s:List UInt8):b7 prog env 172 [Sg s] (B false):=by
 refine qf func172 call172 ntmps172 results172 ?_;repeat refine m8 ?_
 exact p'
def Fw(env:b6)(s t:List UInt8):b7 prog env 112 [Sg s,Sg t] (B (Op.bytesLess s t)):=by
 have f0:=Hh env s;refine qf func112 call112 ntmps112 results112 ?_;repeat refine jL f0 ?_
 exact p'
def zl(env:b6)(l:List (List UInt8))(x:List UInt8)(p:Nat)(C:SD l x p)(H:l.length<=1000000):b7 prog env 65 [.seq 1 (l.map gF),Sg x] (.tuple [I p,B (l[p]? == some x)]):=by
 have f0:=A6 env x;refine qf func65 call65 ntmps65 results65 ?_;repeat refine m8 ?_
 refine Si (D:=Nat×Nat) (fun d _=>[(0, .seq 1 (l.map gF)),(1,Sg x),(6,I l.length),(7,I d.1),(8,I d.2)]) (fun _ _=>[]) (fun d _ _=>d.1<=p/\p<=d.2/\d.2<=l.length) (fun d=>d.2-d.1) (0,l.length) ⟨Lx _,C.1,Lr _⟩ ?_;rintro⟨i,j⟩ J E ⟨u,v,w⟩;simp only at u v w;by_cases m:i<j
 ·have f:=h9 m;have A:(i+j)/2<l.length:=by omega
  obtain⟨y,b⟩: ∃y,l[(i+j)/2]? =some y:=⟨l[(i+j)/2],Lc A⟩;have a:=C.2 _ _ b;have f1:=Fw env y x;have c:IntKind.i64.wrap ((i:Int)+(j:Int))=((i+j:Nat):Int):=by rw[aW (by omega) (by omega)];omega
  have q:IntKind.u64.wrap ((i+j:Nat):Int)=((i+j:Nat):Int):=IntWalk.u64_in _ (by omega)
  have r:IntKind.i64.wrap (((i+j:Nat):Int).fdiv (2^min 1 64))=(((i+j)/2:Nat):Int):=by
   rw[show ((i+j:Nat):Int).fdiv (2^min 1 64)=(((i+j)/2:Nat):Int) from(Q4 (i+j) 2).symm,aW (by omega) (by omega)]
  have s:(((i+j)/2:Nat):Int)< (l.length:Int):=by omega
  have t:=aD (k:=(i+j)/2) (n:=l.length) A (by omega);generalize G:(i+j)/2=o at*;cases e:Op.bytesLess y x with
  | true=>
    rw[e]at f1 a;have:=a.1 rfl;have F:=ns f c q r s t b Tu;repeat refine ef f1 ?_
    refine⟨(o+1,j),⟨?_,?_,?_⟩,?_,?_,?_⟩
    ·simp only;omega
    ·exact v
    ·exact w
    ·exact qe
    ·exact qe
    simp only;omega
  | false=>
    rw[e]at f1 a;have: ¬o<p:=fun h=>by cases a.2 h
    have F:=ns f c q r s t b Tu;repeat refine ef f1 ?_
    refine⟨(i,o),⟨?_,?_,?_⟩,?_,?_,?_⟩
    ·exact u
    ·simp only;omega
    ·simp only;omega
    ·exact qe
    ·exact qe
    simp only;omega
 obtain rfl:i=j:=by omega
 obtain rfl:i=p:=by omega
 have f:=nl i;by_cases z:i<l.length
 ·have c:=h9 z;obtain⟨y,b⟩:=gE z;have f1:=A6 env y;cases e:(y==x) with
  | true=>
    have g:(l[i]? == some x)=true:=by rw[b];simpa using e
    rw[g];have F:=g7 f c b e Tu;exact m5 f0 f1
  | false=>
    have g:(l[i]? == some x)=false:=by rw[b];simpa using e
    rw[g];have F:=g7 f c b e Tu;exact m5 f0 f1
 have c: ¬(i:Int)< (l.length:Int):=by omega
 have g:(l[i]? == some x)=false:=by rw[Lu (by omega)];rfl
 rw[g];have F:=fI f c Tu;exact g9 f0
end
section
def my(env:b6)(c:aq)(h:b8 c): ∀(n i:Nat),i<c.Z9.length->c.Z9.length<=i+n->b7 prog env 34 [.agg (aA c),I i] (.own 3 1 ((wd c i).map aB))
 |0,i,A,O=>by omega
 | n+1,i,A,O=>by
   have G:=h.Z6;obtain⟨s,o⟩:=gE A;have a:=K2 h o;have f:=JN h A;have w:((i:Nat):Int)< (c.Z9.length:Int):=by omega
   by_cases g:s.kind=1
   ·by_cases b:0<=s.initial
    ·obtain⟨j,L,E⟩:=xw h o g b;have R:=bH h.toRight (aY L).1;rw[Lj ⟨g,b⟩,E,Mz]at a;have f0:=my env c h n j (by omega) (by omega);rw[a]at f;have z:cI (1+(wd c j).length) 8:=aC (by simp at f;omega) (by omega);rw[a];refine qf func34 call34 ntmps34 results34 ?_;have F:=ns SR SS o g E w SU z;exact g9 f0
    rw[Lf fun e=>b e.2,Lf (by omega)]at a;rw[a];refine qf func34 call34 ntmps34 results34 ?_;have F:=lP SR SS o g b w SU;exact dT
   rw[Lf fun e=>g e.1]at a;have p:(s.kind==1)=false:=by simpa using g
   by_cases b:s.kind=2
   ·rw[Lj b]at a;have f1:=gk env c i (by omega);generalize y:av c i true=K at*
    have q: ∀k∈K,i<k/\k<c.Z9.length:=fun k l=>by
     rw[<-y]at l;have:=bH h.toRight (aY l).1;omega
    have J:K.length<=32:=by
     have:=(bU c i true).length_le_of_subset (l₂:=List.range c.Z9.length) fun m N=>MK.2 (q m (y ▸ N)).2;rw[y]at this;simp at this;omega
    have t: ∀j,(i::(K.take j).flatMap (wd c)).length<=32:=fun j=>by
     have e:(K.take j).flatMap (wd c)++(K.drop j).flatMap (wd c)=K.flatMap (wd c):=by rw[<-N8,Nw]
     have:=MS List.length e;rw[a]at f;simp only[MB,Ll]at*;omega
    refine qf func34 call34 ntmps34 results34 ?_;have F:=lP SR SS o p b w SU;repeat refine ef f1 ?_
    have F:=fI SR SU @List.flatMap_nil.{0,0};refine lq K.length (by omega) (fun j D=>[(2, .loc 2 (D 2) 0 0),(5, .row 10 (D 10)),(37, .row 37 (D 37)),(38,I K.length),(39,I j)]) (fun j _=>[(2,⟨5,[aA c],26,false⟩),(10,⟨1,(i::(K.take j).flatMap (wd c)).map aB,3,true⟩),(37,⟨1,K.map aB,3,true⟩)]) (fun j _ d=>d 10=false) rfl ?_ ?_
    ·rintro j Q d r C P v;obtain⟨k,l⟩:=gE r;have M:=q k (Lh l);have f0:=my env c h n k (by omega) (by omega);have u:(K.take (j+1)).flatMap (wd c)=(K.take j).flatMap (wd c)++wd c k:=by rw[MM,l,N8];simp
     have H:=t (j+1);rw[u]at H;have z:cI (((K.take j).flatMap (wd c)).length+1+(wd c k).length) 8:=aC (by simp only[MB,Ll]at H;omega) (by omega);have F:=lP SR SU l C P z v;repeat refine ef f0 ?_
     refine⟨j+1,⟨r,by simp only[go_sem,v]⟩,?_,?_,by omega⟩
     ·exact qe
     have F:=hH SR SU u @Ln.{0,0};exact qe
    rintro Q d C v;have B:K.take K.length=K:=MC;rw[a];have F:=hH SU C B v;exact dT
   rw[Lf b]at a;have x:(s.kind==2)=false:=by simpa using b
   rw[a];refine qf func34 call34 ntmps34 results34 ?_;have F:=lP SR SS o p x w SU;exact dT
def wW(env:b6)(c:aq)(b:c.trans.length<=1000000)(x y:AV)(s:List UInt8):b7 prog env 32 [.ref 9 [[Sg c.name,I c.initial,n7 c.vars,o' c.Z9,rk c.trans,aQ c, .seq 1 ((Fm c).map gF),x,y]] 0 0,Sg s] (I (Qz c s)):=by
 have d:=Jy c;have f0:=zl env (Fm c) s (ri (Fm c) s) (xj (yF c) s) (by omega);unfold Qz;by_cases h:(Fm c)[ri (Fm c) s]? =some s
 ·have a:((Fm c)[ri (Fm c) s]? == some s)=true:=by simpa using h
  rw[a]at f0;rw[Lj h];refine qf func32 call32 ntmps32 results32 ?_;repeat refine jL f0 ?_
  exact p'
 have a:((Fm c)[ri (Fm c) s]? == some s)=false:=by simpa using h
 rw[a]at f0;rw[Lf h];refine qf func32 call32 ntmps32 results32 ?_;repeat refine jL f0 ?_
 exact p'
end
section
def d7(c:aq)(j:Nat)(vs:Nat->Nat):List (List AV):=(cy c j).mapIdx fun q p=>[.agg [I p.1,I p.2], .row (q+6000) (vs (q+6000))]
def it(c:aq)(j:Nat):List Row:=(cy c j).map fun p=>⟨1,(ib c j p).map aB,3,true⟩
def fB(c:aq):List (List AV):=(cy c c.trans.length).map fun p=>[.agg [I p.1,I p.2], .seq 1 ((ib c c.trans.length p).map aB)]
def qO(c:aq)(j:Nat):List (List AV):=(List.range j).map fun i=>[.seq 1 ((Rq c i).map aB)]
def ca(c:aq):List AV:=[Sg c.name,I c.initial,n7 c.vars,o' c.Z9,rk c.trans,aQ c, .seq 1 ((Fm c).map gF), .fmap (fB c), .seq 1 (qO c c.Z9.length)]
def Te:=@ca.eq_1
def aH(c:aq):AV:= .ref 9 [ca c] 0 0
def Tj:=@aH.eq_1
def gp(c:aq)(j:Nat)(vs:Nat->Nat):(d7 c j vs).length=(cy c j).length:=by simp[d7]
def dn(c:aq)(j:Nat)(vs:Nat->Nat)(q:Nat):(d7 c j vs)[q]? =((cy c j)[q]?).map fun p=>[.agg [I p.1,I p.2], .row (q+6000) (vs (q+6000))]:=by simp[d7]
def cG(c:aq)(j q:Nat):(it c j)[q]? =((cy c j)[q]?).map fun p=>⟨1,(ib c j p).map aB,3,true⟩:=by simp[it]
def xp(p:Int×Int)(f:Nat->AV): ∀(l:List (Int×Int))(i:Nat),qr prog 101 (.agg [I p.1,I p.2]) (l.mapIdx fun q k=>[.agg [I k.1,I k.2],f q]) i=some (qv p l i)
 |[],i=>rfl
 |(a,b)::l,i=>by
   have m:=xp p (fun q=>f (q+1)) l (i+1);obtain⟨c,d⟩:=p;rw[List.mapIdx_cons];by_cases h:c=a/\d=b
   ·obtain⟨rfl,rfl⟩:=h;have g:(c==c)=true:=by simp
    have j:(d==d)=true:=by simp
    simp only[go_sem,qy,cY,g,j,qv]
   have g:(c==a&&(d==b))=false:=by
    rw[OL];intro e;simp only[Li,Mh]at e;exact h e
   have j: ¬((c,d):Int×Int)=(a,b):=fun e=>h (by simpa using e);simp only at m;simp only[go_sem,qy,cY,g,qv,j,m]
def Fs(c:aq)(j:Nat)(vs:Nat->Nat)(a b:Int):qr prog 101 (.agg [I a,I b]) (d7 c j vs) 0=some (qv (a,b) (cy c j) 0):=xp (a,b) (fun q=> .row (q+6000) (vs (q+6000))) (cy c j) 0
def EB(c:aq)(a b:Int):qr prog 101 (.agg [I a,I b]) (fB c) 0=some (qv (a,b) (cy c c.trans.length) 0):=by
 have:fB c=(cy c c.trans.length).mapIdx fun q k=>[.agg [I k.1,I k.2],((fB c)[q]?.bind (·[1]?)).getD .any]:=by
  apply Md;intro q;rw[List.getElem?_mapIdx];unfold fB;rw[Lo];cases (cy c c.trans.length)[q]? with
  |none=>rfl
  |some p=>rfl
 rw[this];exact xp (a,b) _ _ 0
/-! The state at the head of the loop -/
def nW(c:aq)(g:Nat->Nat):Row:=⟨9,[[Sg c.name,I c.initial,n7 c.vars,o' c.Z9,rk c.trans,aQ c, .seq 1 ((Fm c).map gF), .mp 25 (g 25),ct]],98,false⟩
def Tk:=@nW.eq_1
def RA(c:aq)(j:Nat)(g:Nat->Nat):List (Nat×Row):=(1,⟨5,[aA c],26,false⟩)::(27,nW c g)::(25,⟨0,d7 c j g,95,false⟩)::jw 6000 (it c j)
def Ta:=@RA.eq_1
def nh(c:aq)(j:Nat)(q:Nat):ao (jw 6000 (it c j)) (q+6000)=(it c j)[q]? :=by
 rw[nM,Lj (by omega),show q+6000-6000=q by omega]
def C1{c:aq}{j q:Nat}{p:Int×Int}{g g':Nat->Nat}(f:cy c (j+1)=cy c j)(a:(cy c j)[q]? =some p)(b: ∀k,k≠q->g' (k+6000)=g (k+6000)){v:Nat}(d:g' (q+6000)=v):(d7 c j g).set q [.agg [I p.1,I p.2], .row (q+6000) v]=d7 c (j+1) g':=by
 apply Md;intro k;rw[NF,dn,dn,gp,f];by_cases e:q=k
 ·subst e;rw[Lj rfl,Lj (Ld.1 a).1,a, <-d];rfl
 ·rw[Lf e];cases (cy c j)[k]? with
  |none=>rfl
  |some h=>simp only[MG,b k (N5 e)]
def CZ{c:aq}{j q:Nat}{p:Int×Int}{g:Nat->Nat}(a:(cy c j)[q]? =some p):(d7 c j g).set q [.agg [I p.1,I p.2], .row (q+6000) (g (q+6000))]=d7 c j g:=by
 apply Md;intro k;rw[NF,dn,gp];by_cases e:q=k
 ·subst e;rw[Lj rfl,Lj (Ld.1 a).1,a];rfl
 rw[Lf e]
def C0{c:aq}{j:Nat}{g g':Nat->Nat}(f:cy c (j+1)=cy c j++[dH c j])(b: ∀k,k< (cy c j).length->g' (k+6000)=g (k+6000)){v:Nat}(d:g' ((cy c j).length+6000)=v):d7 c j g++[[.agg [I (dH c j).1,I (dH c j).2], .row ((cy c j).length+6000) v]]=d7 c (j+1) g':=by
 apply Md;intro k;rw[dn,f];by_cases a:k< (cy c j).length
 ·rw[MY (by rw[gp];exact a),MY a,dn,Lc a];simp only[MG,b k a]
 rw[MO (by rw[gp];omega),MO (by omega),gp];by_cases e:k=(cy c j).length
 ·subst e;simp[d]
 rw[Lu (by simp;omega),Lu (by simp;omega)];rfl
def xS{c:aq}{j q:Nat}{p:Int×Int}(r:cy c (j+1)=cy c j)(m:dH c j=p)(s:(cy c j).Nodup)(n:(cy c j)[q]? =some p)(k:Nat):(it c (j+1))[k]? =if k=q then some ⟨1,(ib c j p).map aB++[[I j]],3,true⟩ else(it c j)[k]? :=by
 rw[cG,cG,r];by_cases e:k=q
 ·subst e;rw[Lj rfl,n];simp only[MG,np,m,Mb,Ln,M1,NH,aB]
 ·rw[Lf e];cases d:(cy c j)[k]? with
  |none=>rfl
  | some t=>
    have f: ¬p=t:=fun o=>by
     subst o;obtain⟨g,i⟩:=Ld.1 n;obtain⟨h,l⟩:=Ld.1 d;have b:=M6.1 (NU.1 s);rcases O2 k q with a|a|a
     ·exact b k q h g a (l.trans i.symm)
     ·exact e a
     exact b q k g h a (i.trans l.symm)
    simp only[MG,np,m,Lf f]
def xR{c:aq}{j:Nat}(g:cy c (j+1)=cy c j++[dH c j])(b:dH c j∉cy c j)(k:Nat):(it c (j+1))[k]? =if k=(cy c j).length then some ⟨1,[[I j]],3,true⟩ else(it c j)[k]? :=by
 rw[cG,cG,g];by_cases e:k=(cy c j).length
 ·subst e;simp only[Mb,MO (Lr _),Ol,M9,MG,np,tc b,Nz,M1,NH,aB]
 rw[Lf e];by_cases a:k< (cy c j).length
 ·rw[MY a,Lc a];have d: ¬dH c j=(cy c j)[k]:=fun f=>b (f ▸ N4 a);simp only[MG,np,Lf d]
 rw[Lu (by simp;omega),Lu (by omega)];rfl
def FA(c:aq)(j:Nat)(g:Nat->Nat):List (Nat×AV):=[(1, .loc 1 (g 1) 0 0),(2, .lit (.pointer none)),(3, .lit .nilIface),(4,aQ c),(6, .loc 27 (g 27) 0 0),(32,rk c.trans),(33,I c.trans.length),(34,I j)]
def Tr:=@FA.eq_1
def RN(c:aq)(j:Nat)(g:Nat->Nat):List (Nat×Row):=(1,⟨5,[aA c],26,false⟩)::(27,nW c g)::(25,⟨0,d7 c j g++[[.agg [I (dH c j).1,I (dH c j).2], .row 55 (g 55)]],95,false⟩)::(55,⟨1,[[I j]],3,true⟩)::jw 6000 (it c j)
def Fu(c:aq)(j:Nat)(vs:Nat->Nat){g gm:Nat->Nat->Option AV}(h: ∀q v,g (q+6000) v=none):(d7 c j vs).map (·.map (AV.see g gm))=d7 c j vs:=by
 apply Md;intro q;rw[Lo,dn];cases (cy c j)[q]? with
 |none=>rfl
 |some p=>simp only[MG,M1,NH,AV.see,AV.see.seeL,h,Ni]
def BP(c:aq)(vs:Nat->Nat){g gm:Nat->Nat->Option AV}(h: ∀v,gm 25 v=none):(nW c vs).see g gm=nW c vs:=by
 simp only[Row.see,nW,M1,NH,AV.see,AV.see.seeL,h,Ni,aQ,MH,Mi]
def Da(c:aq){g gm:Nat->Nat->Option AV} :(aA c).map (AV.see g gm)=aA c:=rfl
def lI{s:St}{r r2:Nat}{row:Row}{k:Nat} :(eJ s r r2 row).rows k=if k=r2 then some row else if k=r then none else(s.rows k).map (Row.see (nq r (s.vs r) r2 (s.vs r2+1)) fun _ _=>none):=rfl
def FR(v n a q w:Nat):nq 55 v n a (q+6000) w=none:=by unfold nq;rw[Lf (by omega)]
def Jh{c:aq}{j:Nat}(h:cy c (j+1)=cy c j++[dH c j])(l:dH c j∉cy c j)(F:Nat){g:Nat->Nat}{e:Nat->Bool}(x:e 27=false): ∃g' u,u 27=false/\cU (head (FA c F g) (RN c j g) g e) (head (FA c F g') (RA c (j+1) g') g' u):=by
 generalize i:(cy c j).length=n at*;have o:(it c j)[n]? =none:=by rw[cG,Lu (by omega)];rfl
 have d:(head (FA c F g) (RN c j g) g e).rows 55=some ⟨1,[[I j]],3,true⟩:=by simp[head,RN,ao]
 have a:(head (FA c F g) (RN c j g) g e).rows (n+6000)=none:=by
  have:=nh c j n;rw[o]at this;simp only[head,RN,ao];rw[Lf (by omega),Lf (by omega),Lf (by omega),Lf (by omega),this]
 have t1:=cU.ren (s:=head (FA c F g) (RN c j g) g e) 55 (n+6000) ⟨1,[[I j]],3,true⟩ (by omega) d a (MZ 0) rfl;have f: ∀t,t≠n+6000->mc g (n+6000) (g (n+6000)+1) t=g t:=fun t y=>cD _ _ _ y;refine⟨mc g (n+6000) (g (n+6000)+1),mc e (n+6000) (e 55),by rw[cD _ _ _ (by omega)];exact x,t1.trans (cU.head ?_ ?_)⟩
 ·simp only[cP,FA,eJ,head,mj,AV.see,aQ,f 1 (by omega),f 27 (by omega),Mb,Nat.reduceEqDiff,Mi,Ls,reduceCtorEq]
 refine⟨?_,?_,?_,px fun q r b=> ?_⟩
 ·show (eJ _ _ _ _).rows 1=some _;rw[lI,Lf (by omega),Lf (by omega)];simp only[head,RN,ao,Mb,MG,Row.see,M1,NH,Da,MH,Mi]
 ·show (eJ _ _ _ _).rows 27=some _;rw[lI,Lf (by omega),Lf (by omega)];simp only[head,RN,ao,Mb,MG,Nat.reduceEqDiff,Mi];rw[BP _ _ fun _=>rfl];simp only[nW,f 25 (by omega)]
 ·show (eJ _ _ _ _).rows 25=some _;rw[lI,Lf (by omega),Lf (by omega)];simp only[head,RN,ao,Mb,MG,Nat.reduceEqDiff,Mi,Row.see,MH,Ln,M1,NH];rw[Fu _ _ _ fun q v=>FR ..];have:=C0 (c:=c) (j:=j) (g:=g) (g':=mc g (n+6000) (g (n+6000)+1)) h (fun k h=>f _ (by omega)) (v:=g (n+6000)+1) (by rw[i,aw]);rw[i]at this;rw[<-this];simp[AV.see,AV.see.seeL,nq]
 rw[xR h l,i]at b;show (eJ _ _ _ _).rows (q+6000)=some _;rw[lI];by_cases w:q=n
 ·subst w;rw[Lj rfl]at b |-;exact b
 rw[Lf w]at b;rw[Lf (by omega),Lf (by omega)];simp only[head,RN,ao];rw[Lf (by omega),Lf (by omega),Lf (by omega),Lf (by omega),nh,b]
 have m:r.pure=true:=by
  rw[cG]at b;obtain⟨p,_,rfl⟩:=NA.1 b;rfl
 simp only[MG,Row.see,m,Mb]
/-! The map, frozen -/
def mS{g:Nat->Nat}{r v:Nat} : ∀ {l:List Row}{b:Nat},fH (nw g (jw b l)) r v=if b<=r/\v=g r then(l[r-b]?).map fun row=> .seq row.sz row.es else none
 |[],b=>by simp[jw,nw,fH]
 | x::l,b=>by
   have d:=mS (g:=g) (r:=r) (v:=v) (l:=l) (b:=b+1);simp only[nw]at d;simp only[jw,nw,M1,fH,d];by_cases h:r=b
   ·subst h;by_cases a:v=g r
    ·subst a;simp
    simp[a]
   rw[Lf fun e=>h e.1];by_cases c:b+1<=r
   ·by_cases a:v=g r
    ·rw[Lj ⟨c,a⟩,Lj ⟨by omega,a⟩,show r-b=(r-(b+1))+1 by omega,NW]
    rw[Lf fun e=>a e.2,Lf fun e=>a e.2]
   rw[Lf fun e=>c e.1,Lf fun e=>by omega]
def LK(c:aq):Row:=⟨9,[[Sg c.name,I c.initial,n7 c.vars,o' c.Z9,rk c.trans,aQ c, .seq 1 ((Fm c).map gF), .fmap (fB c),ct]],98,false⟩
def Ce{c:aq}(F:Nat){g:Nat->Nat}{e:Nat->Bool}(w:e 27=false): ∃l,l 27=false/\cU (head (FA c F g) (RA c c.trans.length g) g e) (head (FA c F g) [(1,⟨5,[aA c],26,false⟩),(27,LK c)] g l):=by
 generalize y:c.trans.length=n at*
 have u:qt (head (FA c F g) (RA c n g) g e) (nw g (jw 6000 (it c n))):=by
  intro p k;obtain⟨x,b,rfl⟩:=Lp.1 k;obtain⟨q,d,m⟩:=mU b;refine⟨rfl,x.2,?_,?_,?_,rfl⟩
  ·simp only[head,RA,ao,m];rw[Lf (by omega),Lf (by omega),Lf (by omega),nh];exact d
  ·rw[cG]at d;obtain⟨p,_,f⟩:=NA.1 d;rw[<-f];exact MZ 0
  rw[cG]at d;obtain⟨p,_,f⟩:=NA.1 d;rw[<-f]
 have t1:=cU.sees _ u
 have j:(d7 c n g).map (·.map (AV.see (fH (nw g (jw 6000 (it c n)))) fun _ _=>none))=fB c:=by
  apply Md;intro q;unfold fB;rw[y,Lo,dn,Lo];cases z:(cy c n)[q]? with
  |none=>rfl
  | some p=>
    have A:fH (nw g (jw 6000 (it c n))) (q+6000) (g (q+6000))=some (.seq 1 ((ib c n p).map aB)):=by
     rw[mS,Lj ⟨by omega,rfl⟩,show q+6000-6000=q by omega,cG,z];rfl
    simp only[MG,M1,NH,AV.see,AV.see.seeL,A,Mn]
 have o: ∀r v,r<6000->fH (nw g (jw 6000 (it c n))) r v=none:=fun r v h=>by
  rw[mS,Lf fun e=>by omega]
 generalize i:fH (nw g (jw 6000 (it c n)))=G at*
 have t2:cU (j0 (head (FA c F g) (RA c n g) g e) (nw g (jw 6000 (it c n)))) (head (FA c F g) [(1,⟨5,[aA c],26,false⟩),(27,nW c g),(25,⟨0,fB c,95,false⟩)] g _):=cU.head (s:=j0 (head (FA c F g) (RA c n g) g e) (nw g (jw 6000 (it c n)))) (by
  simp only[cP,FA,j0,head,mj,AV.see,aQ,Mb,Nat.reduceEqDiff,Mi,Ls,reduceCtorEq]) (by
  refine⟨?_,?_,?_,trivial⟩
  ·simp only[j0,i,head,RA,ao,Mb,MG,Row.see,M1,NH,Da,MH,Mi]
  ·simp only[j0,i,head,RA,ao,Mb,MG,Nat.reduceEqDiff,Mi];rw[BP _ _ fun _=>rfl]
  simp only[j0,i,head,RA,ao,Mb,MG,Nat.reduceEqDiff,Mi,Row.see,MH,j])
 have a:(j0 (head (FA c F g) (RA c n g) g e) (nw g (jw 6000 (it c n)))).esc 27=false:=by
  show (e 27||_)=false;rw[w,NY,Oy];intro p k;obtain⟨x,b,rfl⟩:=Lp.1 k;obtain⟨q,_,m⟩:=mU b;simp;omega
 have t3:=t1.trans t2;generalize (j0 (head (FA c F g) (RA c n g) g e) (nw g (jw 6000 (it c n)))).esc=t at t3 a
 have t4:=t3.trans (cU.mapSee 25 ⟨0,fB c,95,false⟩ (by simp[head,ao]) rfl (by
  rw[Lm];intro x b;unfold fB at b;obtain⟨p,_,rfl⟩:=Lp.1 b
  rfl))
 refine⟨t,a,t4.trans (cU.head ?_ ?_)⟩
 ·simp only[cP,FA,yY,head,mj,AV.see,aQ,Mb,Nat.reduceEqDiff,Mi,Ls,reduceCtorEq]
 refine⟨?_,?_,trivial⟩
 ·simp only[yY,head,ao,Mb,MG,Nat.reduceEqDiff,Mi,Row.see,M1,NH,Da,MH]
 simp only[yY,head,ao,Mb,MG,Nat.reduceEqDiff,Mi,Row.see,nW,LK,M1,NH,AV.see,aQ,MH,Ls,Mn]
end
end Go.Proofs.YtknkhdgfhbogdaaGreatDoor
