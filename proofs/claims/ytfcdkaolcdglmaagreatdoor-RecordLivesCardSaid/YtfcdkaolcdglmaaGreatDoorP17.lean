/- Above, transitions and their domains: the program's and the document's words. -/
import Derived.Test.YtfcdkaolcdglmaaGreatDoorP16
set_option maxRecDepth 100000
set_option maxHeartbeats 8000000
set_option linter.unusedSimpArgs false
set_option linter.defProp false
namespace Go.Proofs.YtfcdkaolcdglmaaGreatDoor
open Go.Proofs.Tryz
open Go.RowKit
section
def tZ(env:b7):cy prog env 114 [gb] (.own 3 1 []):=(dU env [] (by simp)).args (JT.cons (Tu.nil 1) JT.nil)
def bJ(env:b7)(c:aq):cy prog env 160 [aH c] (aS c):=by
 refine qf func160 call160 ntmps160 results160 ?_;have F:=jw WZ WY Xa;exact fl
def ap(env:b7)(c:aq)(a:h9 c):cy prog env 72 [aH c] (.agg (aA c)):=by
 have f0:=pZ env c a;unfold aA at f0;refine qf func72 call72 ntmps72 results72 ?_;have F:=ai WZ WY;repeat refine g8 f0 ?_
 (refine aO ?_;show (au _ _ _).run _=some _;simp only[go_sem,F])
 rfl
def xV(env:b7)(c:aq)(a:c.trans.length<=4096)(s:List UInt8):cy prog env 18 [aH c,Sg s] (I (U3 c s)):=wq env c (by omega) _ _ s
def La(c:aq)(i e:Int):List Nat:=if e<0 then [] else Vx c i e
def Fc(c:aq)(i e:Int):(Vx c i e).length<=c.trans.length:=Ef ..
def CM{c:aq}{i e:Int}{q:Nat}(a:rW (i,e) (cf c c.trans.length) 0=some q):(fN c)[q]? =some [.agg [I i,I e], .seq 1 ((Vx c i e).map aB)]:=by
 have:=(pw a).2;unfold fN;rw[OS,Rw]at*;rw[this];rfl
def GA(env:b7)(c:aq)(f:c.trans.length<=4096)(i e:Int):cy prog env 201 [aH c,I i,I e] (.own 3 1 ((La c i e).map aB)):=by
 have g:=Fc c i e;have a:=Ev c i e;unfold La;by_cases h:e<0
 ·rw[OL h];refine qw func201 call201 ntmps201 results201 ?_;have F:=jw WZ WY h;repeat refine st ?_
  (refine aO ?_;refine⟨_,(by show (au _ _ _).run _=some _;simp only[go_sem,F];rfl),?_⟩)
  exact i8.own_nil _ _ (by decide)
 ·rw[OK h];cases b:rW (i,e) (cf c c.trans.length) 0 with
  | none=>
    rw[b]at a;have f0:=tZ env;rw[show Vx c i e=[] from uA (lh b)];refine qf func201 call201 ntmps201 results201 ?_;have F:=mX WZ WY h a;exact nb f0
  | some q=>
    rw[b]at a;have d:=CM b;have f0:=dU env ((Vx c i e).map aB) (by rw[O4];omega);refine qf func201 call201 ntmps201 results201 ?_;have F:=ld WZ WY h a d;exact nb f0
def za(env:b7)(c:aq)(e:c.trans.length<=4096)(i:Int):cy prog env 200 [aH c,I i] (.own 3 1 ((Vx c i (-1)).map aB)):=by
 have f:=Fc c i (-1);have a:=Ev c i (-1);cases b:rW (i, -1) (cf c c.trans.length) 0 with
 | none=>
   rw[b]at a;have f0:=tZ env;rw[show Vx c i (-1)=[] from uA (lh b)];refine qf func200 call200 ntmps200 results200 ?_;have F:=jw WZ WY a;exact nb f0
 | some q=>
   rw[b]at a;have d:=CM b;have f0:=dU env ((Vx c i (-1)).map aB) (by rw[O4];omega);refine qf func200 call200 ntmps200 results200 ?_;have F:=mX WZ WY a d;exact nb f0
def lV(env:b7)(c:aq)(i:Int):cy prog env 152 [aH c,I i] (B (fe c i)):=by
 unfold fe;by_cases a:0<=i
 ·by_cases b:i< (c.Z9.length:Int)
  ·refine qf func152 call152 ntmps152 results152 ?_;have F:=mX WZ WY a b;exact fl
  refine qf func152 call152 ntmps152 results152 ?_;have F:=mX WZ WY a b;exact fl
 refine qf func152 call152 ntmps152 results152 ?_;have F:=jw WZ WY a;exact fl
def kf(c:aq)(i:Int):List Nat:=if fe c (if i= -1 then c.initial else i)=true then Vl c (if i= -1 then c.initial else i).toNat else []
def xW(env:b7)(c:aq)(h:cD c)(i:Int):cy prog env 112 [aH c,I i] (.own 3 1 ((kf c i).map aB)):=by
 have n:=h.Z6;unfold kf;by_cases e:i= -1
 ·subst e;simp only[PW];obtain⟨s,l,a,_⟩:=h.topS;have f:=(OG.1 l).1;have f0:=lV env c c.initial;have d:fe c c.initial=true:=by rw[a];exact ak.2 f
  rw[d]at f0;rw[d,OL rfl];have f1:=dU env ((Vl c (Tr c)).map aB) (by rw[O4];have:=EK h (Tr c);omega);have j:(qu c c.Z9.length)[Tr c]? =some [.seq 1 ((Vl c (Tr c)).map aB)]:=by unfold qu;rw[OS,Pn f];rfl
  have b:(qu c c.Z9.length).length=c.Z9.length:=by simp[qu]
  have g:((Tr c:Nat):Int)< (c.Z9.length:Int):=by omega
  rw[a]at f0 |-;rw[Pd];unfold aH aK at f0 |-;rw[a]at f0 |-;refine qf func112 call112 ntmps112 results112 ?_;have F:=jw j b g;exact po f0 f1
 ·rw[OK e];have m:(i == -1)=false:=by simpa using e
  have f0:=lV env c i;cases d:fe c i with
  | false=>
    rw[d]at f0;rw[OK (by simp)];unfold aH aK at f0 |-;refine qw func112 call112 ntmps112 results112 ?_;have F:=m;repeat refine g8 f0 ?_
    (refine aO ?_;refine⟨_,(by show (au _ _ _).run _=some _;simp only[go_sem,F];rfl),?_⟩)
    exact i8.own_nil _ _ (by decide)
  | true=>
    obtain⟨k,s,rfl,l,o⟩:=fB d;have f:=(OG.1 l).1;rw[d]at f0;rw[OL rfl,Pd];have f1:=dU env ((Vl c k).map aB) (by rw[O4];have:=EK h k;omega);have j:(qu c c.Z9.length)[k]? =some [.seq 1 ((Vl c k).map aB)]:=by unfold qu;rw[OS,Pn f];rfl
    have b:(qu c c.Z9.length).length=c.Z9.length:=by simp[qu]
    have g:((k:Nat):Int)< (c.Z9.length:Int):=by omega
    unfold aH aK at f0 |-;refine qf func112 call112 ntmps112 results112 ?_;have F:=mX j b g m;exact po f0 f1
def bX(env:b7)(c:aq)(h:cD c)(i:Int):cy prog env 125 [aH c,I i] (.own 3 1 ((if i= -1\/fe c i=true then aw c i true else []).map aB)):=by
 have d:=h.Z6;have f0:=lV env c i;have f1:=gf env c i (by omega);unfold aA at f1;unfold aH aK at f0 |-;by_cases e:i= -1
 ·subst e;have a:fe c (-1)=false:=by unfold fe;simp
  rw[a]at f0;rw[OL (.inl rfl)];refine qf func125 call125 ntmps125 results125 ?_;repeat refine E8 f0 f1 ?_
  exact L0
 ·have b:(i != -1)=true:=by simpa using e
  cases a:fe c i with
  | false=>
    rw[a]at f0;rw[OK (by simp[e])];refine qw func125 call125 ntmps125 results125 ?_;have F:=b;repeat refine PJ f0 f1 ?_
    (refine aO ?_;refine⟨_,(by show (au _ _ _).run _=some _;simp only[go_sem,F];rfl),?_⟩)
    exact i8.own_nil _ _ (by decide)
  | true=>
    rw[a]at f0;rw[OL (.inr rfl)];refine qf func125 call125 ntmps125 results125 ?_;have F:=b;exact po f0 f1
def Lt(c:aq)(i:Int)(k:Nat):Bool:=match c.Z9[k]? with
 |some s=>fe c i&&((s.parent==i)&&ab s)
 |none=>false
def D'(c:aq)(i:Int):List Nat:=(List.range c.Z9.length).filter (Lt c i)
def J0{c:aq}(i:Int)(h:fe c i=true):D' c i=(aw c i false).filter fun k:Nat=> !Uw (aw c i true) (k:Int):=by
 unfold D' aw b9;rw[List.filter_filter];apply QK;intro k a;have a:=Oh.1 a;obtain⟨s,b⟩:=gE a;have d:dJ c i false k=(s.parent==i):=by unfold dJ;rw[b];simp
 have f:Uw ((List.range c.Z9.length).filter (dJ c i true)) (k:Int)=((s.parent==i)&& !ab s):=by
  rw[PC,tB];constructor
  ·rintro⟨j,g,e⟩;have:j=k:=by omega
   subst this;have:=(OY.1 g).2;unfold dJ at this;rw[b]at this;simpa using this
  intro e;refine⟨k,OY.2 ⟨Oh.2 a,?_⟩,rfl⟩;unfold dJ;rw[b];simpa using e
 unfold Lt;rw[d,f,b];simp only[h,PQ];cases (s.parent==i)<;>cases ab s<;>rfl
def om(K R:List Nat)(j:Nat):List Nat:=(K.take j).filter fun k:Nat=> !Uw R (k:Int)
def DD{K R:List Nat}{j k:Nat}(h:K[j]? =some k):om K R (j+1)=if Uw R (k:Int) then om K R j else om K R j++[k]:=by
 unfold om;rw[Ot,h,PH];cases a:Uw R (k:Int)<;>simp[a]
def Gy(K R:List Nat)(j:Nat):(om K R j).length<=K.length:=by
 unfold om;exact O3 (Ol ..) (by rw[OZ];omega)
def CZ(env:b7)(c:aq)(h:cD c)(i:Int):cy prog env 241 [aH c,I i] (.own 3 1 ((D' c i).map aB)):=by
 have q:=h.Z6;have f0:=lV env c i;cases l:fe c i with
 | false=>
   rw[l]at f0
   have w:D' c i=[]:=by
    unfold D';rw[Q5];intro k _;unfold Lt;cases c.Z9[k]? with
    |none=>simp
    |some s=>simp[l]
   rw[w];unfold aH aK at f0 |-;refine qw func241 call241 ntmps241 results241 ?_;repeat refine nf f0 ?_
   (refine aO ?_;refine⟨_,(by show (au _ _ _).run _=some _;simp only[go_sem];rfl),?_⟩)
   exact i8.own_nil _ _ (by decide)
 | true=>
   rw[l]at f0;rw[J0 i l];have f1:=gf env c i (by omega);have f2:=pY env c i (by omega);unfold aA at f1 f2;have t:=d7 h.toRight i false;have u:=d7 h.toRight i true;generalize aw c i true=R at*;generalize aw c i false=K at*;unfold aH aK at f0 |-;refine qf func241 call241 ntmps241 results241 ?_;repeat refine Md f0 f1 f2 ?_
   refine am 6 6 3 1 ?_;refine UC K.length (by omega) (fun j o=>[(5, .row 18 (o 18)),(6, .row 6 (o 6)),(24, .row 24 (o 24)),(25,I K.length),(26,I j)]) (fun j _=>[(6,⟨1,(om K R j).map aB,3,true⟩),(18,⟨1,R.map aB,3,true⟩),(24,⟨1,K.map aB,3,true⟩)]) (fun j _ a=>a 6=false) rfl ?_ ?_
   ·rintro j x a b m r d;obtain⟨k,n⟩:=gE b;have f3:=kC env R k (by omega);have v:=Gy K R j;have p:ek ((om K R j).length+1) 8:=aG (by omega) (by omega);have g:=DD (R:=R) n;cases f:Uw R k with
    | true=>
      rw[f]at f3;rw[f,OL rfl]at g;have F:=pf WJ m r n p d;repeat refine g8 f3 ?_
      refine⟨j+1,⟨b,by simp only[go_sem,d]⟩,?_,?_,by omega⟩
      ·exact qe
      have F:=jw WJ g @Oa.{0,0};exact qe
    | false=>
      rw[f]at f3;rw[f,OK P3]at g;have F:=pf WJ m r n p d;repeat refine g8 f3 ?_
      refine⟨j+1,⟨b,by simp only[go_sem,d]⟩,?_,?_,by omega⟩
      ·exact qe
      have F:=jw WJ g @Oa.{0,0};exact qe
   rintro x a m d;have e:om K R K.length=K.filter fun k:Nat=> !Uw R (k:Int):=by unfold om;rw[Ob]
   have F:=jw m e d;exact fl
end
section
def Tu.seq{sz:Nat}{a es:List (List AV)}(C:a.length=es.length)(s: ∀(i:Nat)(r e:List AV),a[i]? =some r->es[i]? =some e->JT r e):Tu (.seq sz a) (.seq sz es):=fun S w v h=>by
 have cell: ∀ {i j:Nat}{c:AV},bt es i j=some c-> ∃k,bt a i j=some k/\Tu k c:=fun {i j c} f=>by
  unfold bt at f |-;cases g:es[i]? with
  |none=>rw[g]at f;cases f
  | some e=>
    rw[g]at f;have x:=(OG.1 g).1;have d:a[i]? =some a[i]:=OE (by omega);obtain⟨m,q⟩:=s i _ e d g;have B:=(OG.1 (show e[j]? =some c from f)).1;rw[d];exact⟨a[i][j],OE (by omega),q j _ c (OE (by omega)) f⟩
 cases h with
 | seq A n p sz a b o u D l t z f y=>
   refine .seq A n p sz es b o u (by omega) l t (fun i e g=> ?_) (fun i j c h=> ?_) fun i j c h=> ?_
   ·have x:=(OG.1 g).1;have d:a[i]? =some a[i]:=OE (by omega);rw[<-(s i _ e d g).1];exact z i _ d
   ·obtain⟨k,m,_⟩:=cell h;exact f i j k m
   obtain⟨k,m,q⟩:=cell h;exact q _ _ _ (y i j k m)
def JT.one{a c:AV}(h:Tu a c):JT [a] [c]:= .cons h .nil
def U1(a es:List (List AV)):Prop:=a.length=es.length/\ ∀(i:Nat)(b e:List AV),a[i]? =some b->es[i]? =some e->JT b e
def U1.nil:U1 [] []:=⟨rfl,fun i a c h _=>by simp at h⟩
def U1.cons{g e:List AV}{c es:List (List AV)}(h:JT g e)(j:U1 c es):U1 (g::c) (e::es):=⟨by simp[j.1],fun i a b d f=>by
 cases i with
 | zero=>
   simp only[PK,OH]at d f;subst d f;exact h
 |succ i=>exact j.2 i a b (by simpa using d) (by simpa using f)⟩
end
section
def Cm(env:b7)(c:aq):cy prog env 4 [.agg (aA c)] (B ((qs c).1==0)):=by
 have f0:=Cn env c;unfold VO at f0;refine qf func4 call4 ntmps4 results4 ?_;repeat refine nf f0 ?_
 exact L0
def NU{c:aq}(h:(qs c).1=0):qs c=(0, -1):=by
 unfold qs at h |-;split at h
 ·simp at h
 rename_i a;rw[OK a];split at h
 ·simp at h
 rename_i b;rw[OK b];split at h
 ·simp at h
 rename_i e;try simp only at h |-
 split at h
 ·simp at h
 rename_i f;try simp only at h |-
 split at h
 ·simp at h
 rename_i d;rw[OK d];split at h
 ·simp at h
 rfl
end
section
def yv(c:aq)(i:Int)(s:List UInt8)(k:Nat):Bool:=match c.trans[k]? with|some t=>decide (t.src=i/\t.Z7=s)|none=>false
def dm(c:aq)(i:Int)(s:List UInt8)(j:Nat):List Nat:=(List.range j).filter (yv c i s)
def AA(p:Nat->Bool)(j:Nat):((List.range j).filter p).length<=j:=O3 (Ol ..) (by simp)
def Ci(c:aq)(i:Int):dm c i [] c.trans.length=Vx c i (-1):=by
 have:=LO (c:=c) i [] (.inl rfl);rw[yd]at this;rw[this];rfl
def Ch(c:aq)(i:Int){s:List UInt8}(d:s≠[]):dm c i s c.trans.length=La c i (U3 c s):=by
 by_cases h:s∈Th c
 ·obtain⟨k,e,_⟩:=vF h;have:=LO (c:=c) i s (.inr h);unfold La;rw[OK (by omega),this];rfl
 ·unfold La;rw[FX h,OL (by omega)];unfold dm;rw[Q5];intro k f a;unfold yv at a;cases b:c.trans[k]? with
  |none=>rw[b]at a;cases a
  | some t=>
    rw[b]at a;simp only[OR]at a;exact h (zK.2 ⟨d,t,OM b,a.2⟩)
end
section
def j8(env:b7)(c:aq)(D:c.Z9.length<=4000)(act:List Int)(E:act.length<=1000000):cy prog env 121 [aH c, .seq 1 (act.map aa)] (.own 4 1 (lf c.Z9.length act)):=by
 have f0:=bJ env c;have f1:=Ai env c;have v:=Hp c.Z9.length;have w: ¬(16777216:Int)< (c.Z9.length:Int):=by omega
 have y: ¬(281474976710656:Int)<1*(c.Z9.length:Int):=by omega
 have z: ¬(c.Z9.length:Int)<0:=by omega
 have A: ¬(281474976710656:Int)< (c.Z9.length:Int):=by omega
 unfold aS at f0 f1;unfold aH at f0 |-;refine qf func121 call121 ntmps121 results121 ?_;have F:=mX w y z A;repeat refine PJ f0 f1 ?_
 have F:=v;refine lq act.length (by omega) (fun j B=>[(5, .row 11 (B 11)),(12, .seq 1 (act.map aa)),(13,I act.length),(14,I j)]) (fun j _=>[(11,⟨1,lf c.Z9.length (act.take j),4,true⟩)]) (fun j _ e=>e 11=false) rfl ?_ ?_
 ·rintro j C e a g r b;obtain⟨x,h⟩:=gE a;have p:act.take (j+1)=act.take j++[x]:=by rw[Ot,h];rfl
  have f:=eZ c.Z9.length (act.take j);by_cases t:0<=x
  ·obtain⟨k,rfl⟩:=gk t;by_cases l:k<c.Z9.length
   ·have s:=mc l;have d:=Jq (act:=act.take j) l;have o:=kY (act:=act.take j) l;rw[<-p]at d;have F:=L7 h g r s o d f b;repeat refine st ?_
    exact qn (j+1) ⟨a,by simp only[go_sem,b]⟩
   have s: ¬(k:Int)< (c.Z9.length:Int):=by omega
   have d:=Bj (n:=c.Z9.length) (act:=act.take j) (i:=(k:Int)) (fun m u=>by omega);rw[<-p]at d;have F:=pf h g r s f b;repeat refine st ?_
   refine⟨j+1,⟨a,by simp only[go_sem,b]⟩,?_,?_,by omega⟩
   ·exact qe
   have F:=d;exact qe
  have d:=Bj (n:=c.Z9.length) (act:=act.take j) (i:=x) (fun m u=>by omega);rw[<-p]at d;have F:=pf h g r t f b;repeat refine st ?_
  refine⟨j+1,⟨a,by simp only[go_sem,b]⟩,?_,?_,by omega⟩
  ·exact qe
  have F:=d;exact qe
 rintro C e g b;have q:act.take act.length=act:=Ob;have F:=jw g q b;exact fl
def uK(env:b7)(n:Nat)(act:List Int)(ks:List Nat)(_hn:n<=4000)(u:ks.length<=4000)(q: ∀k∈ks,k<n):cy prog env 124 [.seq 1 (lf n act), .seq 1 (ks.map aB)] (I (cR act ks:Nat)):=by
 have e:=eZ n act;have t:cR act []=0:=rfl;refine qf func124 call124 ntmps124 results124 ?_;repeat refine sm ?_
 have F:=t;refine lq ks.length (by omega) (fun j _=>[(0, .seq 1 (lf n act)),(5,I (cR act (ks.take j):Nat)),(8, .seq 1 (ks.map aB)),(9,I ks.length),(10,I j)]) (fun _ _=>[]) (fun _ _ _=>True) trivial ?_ ?_
 ·rintro j s h d g o _;obtain⟨k,b⟩:=gE d;have f:=q k (OM b);have p:=mc f;have a:=kY (act:=act) f;have c:=Ex (act:=act) b;have i:=Ey act (ks.take j);rw[OZ]at i;have r:=aD (show cR act (ks.take j)<ks.length by omega) (by omega);cases m:act.contains (k:Int) with
  | true=>
    rw[m]at a c;rw[OL rfl]at c;have F:=L7 WJ b g o p r a e;repeat refine st ?_
    refine⟨j+1,⟨d,trivial⟩,?_,?_,by omega⟩
    ·have F:=c;exact qe
    ·(simp only[go_sem,c])
  | false=>
    rw[m]at a c;rw[OK P3,QT]at c;have F:=vb WJ b g o p a e;repeat refine st ?_
    refine⟨j+1,⟨d,trivial⟩,?_,?_,by omega⟩
    ·have F:=c;exact qe
    ·(simp only[go_sem,c])
 rintro s h g _;have l:ks.take ks.length=ks:=Ob;have F:=ai g l;exact fl
def Gf{c:aq}(h:Right c){k:Nat}{s:pc}(a:c.Z9[k]? =some s)(act:List Int):(s.parent<0/\decide (s.parent<0)=true)\/(¬s.parent<0/\decide (s.parent<0)=false/\0<=s.parent/\s.parent< (c.Z9.length:Int)/\(lf c.Z9.length act)[s.parent.toNat]? =some [B (act.contains s.parent)]):=by
 have d:=(OG.1 a).1;have b:=(h.par k s a).2;by_cases e:s.parent<0
 ·exact .inl ⟨e,Ou e⟩
 refine .inr ⟨e,Oi e,by omega,by omega,?_⟩;rw[kY (by omega)];rw[show ((s.parent.toNat:Nat):Int)=s.parent by omega]
def Jr(env:b7)(c:aq)(h:cD c)(act:List Int)(k:Nat)(s:pc)(i:c.Z9[k]? =some s):cy prog env 122 [.agg (aA c),aH c, .seq 1 (lf c.Z9.length act),I k] (B (yX c act k s)):=by
 have H:=h.Z6;have J:=(OG.1 i).1;have l:((k:Nat):Int)< (c.Z9.length:Int):=by omega
 have f0:=bX env c h k;rw[OL (.inr (ak.2 J))]at f0;have M:=d7 h.toRight k true;have C: ∀j∈aw c k true,j<c.Z9.length:=fun j L=>by have:=bK h.toRight (ae L).1;omega
 have f1:=uK env c.Z9.length act (aw c k true) (by omega) (by omega) C;have o:=eZ c.Z9.length act;have A:=Gf h.toRight i act;have G:yX c act k s=(!ab s&&(decide (s.parent<0)||act.contains s.parent)&&(if s.kind=1/\aw c k true≠[] then cR act (aw c k true)==1 else if s.kind=2 then cR act (aw c k true)==(aw c k true).length else true)):=rfl;rw[G];try clear G
 generalize aw c k true=K at*;unfold aH at f0 |-;by_cases D:s.kind=4
 ·have b:(s.kind==4)=true:=by simpa using D
  have x:ab s=true:=by unfold ab;rw[b];rfl
  rw[x];refine qf func122 call122 ntmps122 results122 ?_;have F:=ld WH WI i l b;exact nb f0
 have b:(s.kind==4)=false:=by simpa using D
 by_cases E:s.kind=5
 ·have g:(s.kind==5)=true:=by simpa using E
  have x:ab s=true:=by unfold ab;rw[g,Bool.or_true]
  rw[x];refine qf func122 call122 ntmps122 results122 ?_;have F:=pf WH WI i l b g;exact nb f0
 have g:(s.kind==5)=false:=by simpa using E
 have x:ab s=false:=by unfold ab;rw[b,g];rfl
 rw[x];by_cases y:s.kind=1
 ·have m:(s.kind==1)=true:=by simpa using y
  by_cases p:K=[]
  ·rw[OK (by simp[p]),OK (by omega)];have w: ¬(0:Int)< (K.length:Int):=by rw[p];simp
   rcases A with⟨d,f⟩|⟨d,f,q,r,t⟩
   ·refine qf func122 call122 ntmps122 results122 ?_;have F:=zs WH WI i l b g m w d f;exact nb f0
   refine qf func122 call122 ntmps122 results122 ?_;have F:=fb WH WI i l b g m w d f q<|jw r t o;exact nb f0
  rw[OL ⟨y,p⟩];have w:(0:Int)< (K.length:Int):=by have:=QD.2 p;omega
  by_cases n:cR act K=1
  ·have a:((cR act K:Nat):Int)=1:=by omega
   rw[n];rcases A with⟨d,f⟩|⟨d,f,q,r,t⟩
   ·refine qf func122 call122 ntmps122 results122 ?_;have F:=u4 WH WI i l b g m w a d f;exact po f0 f1
   refine qf func122 call122 ntmps122 results122 ?_;have F:=fb WH WI i l b g m w a d f<|mX q r t o;exact po f0 f1
  have a:(((cR act K:Nat):Int) != 1)=true:=by simp;omega
  have u:(cR act K==1)=false:=by simpa using n
  rw[u];refine qf func122 call122 ntmps122 results122 ?_;have F:=y' WH WI i l b g m w a;exact po f0 f1
 have m:(s.kind==1)=false:=by simpa using y
 rw[OK (fun e=>y e.1)];by_cases z:s.kind=2
 ·have v:(s.kind==2)=true:=by simpa using z
  rw[OL z];by_cases n:cR act K=K.length
  ·have a:(((cR act K:Nat):Int) != (K.length:Int))=false:=by simp;omega
   rw[n];rcases A with⟨d,f⟩|⟨d,f,q,r,t⟩
   ·refine qf func122 call122 ntmps122 results122 ?_;have F:=u4 WH WI i l b g m v a d f;exact po f0 f1
   refine qf func122 call122 ntmps122 results122 ?_;have F:=fb WH WI i l b g m v a d f<|mX q r t o;exact po f0 f1
  have a:(((cR act K:Nat):Int) != (K.length:Int))=true:=by simp;omega
  have u:(cR act K==K.length)=false:=by simpa using n
  rw[u];refine qf func122 call122 ntmps122 results122 ?_;have F:=y' WH WI i l b g m v a;exact po f0 f1
 have v:(s.kind==2)=false:=by simpa using z
 rw[OK z];rcases A with⟨d,f⟩|⟨d,f,q,r,t⟩
 ·refine qf func122 call122 ntmps122 results122 ?_;have F:=zs WH WI i l b g m v d f;exact nb f0
 refine qf func122 call122 ntmps122 results122 ?_;have F:=fb WH WI i l b g m v d f q<|jw r t o;exact nb f0
def IJ(env:b7)(a b:Addr)(d:fk env a b)(p:Int)(e: -1<=p):cy prog env 123 [I p] (dj p (b6 a)):=by
 have c:=gS d.e1;have f0:=yb env [108,101,103,97,108,46,67,104,101,99,107] p a e;refine qf func123 call123 ntmps123 results123 ?_;have F:=c;exact nb f0
def vL(a:Addr)(c:aq)(act:List Int):AV:=if F' c act=true then gc else dj (rE c act).2 (b6 a)
def CG{a:Addr}{c:aq}{act:List Int}{p:Int}(h:rE c act=(1,p)):vL a c act=dj p (b6 a):=by
 unfold vL F';rw[h];rfl
def MS{a:Addr}{c:aq}{act:List Int}{p:Int}(h:rE c act=(0,p)):vL a c act=gc:=by
 unfold vL F';rw[h];rfl
def yN{c:aq}{act:List Int}{j:Nat}{x:Int}(a:act[j]? =some x):yO c act j=((j==0||decide (act.getD (j-1) 0<x))&&vA c act x):=by unfold yO;rw[a]
def Js{c:aq}{act:List Int}{k:Nat}{s:pc}(a:c.Z9[k]? =some s):vA c act (k:Int)=yX c act k s:=by
 unfold vA;rw[bO,a];rfl
def u9{c:aq}{act:List Int}{x:Int}(b:fe c x=false):vA c act x=false:=by
 unfold vA at_;unfold fe at b;by_cases a:0<=x
 ·rw[OL a];rw[Ou a,PQ,Ov]at b;rw[OT (by omega)]
 rw[OK a]
end
section
def Li{act:List Int}{j:Nat}(a:0<j)(b:j<act.length):act[j-1]? =some (act.getD (j-1) 0):=by
 rw[Oe,OE (show j-1<act.length by omega)];rfl
def bl(l:List Int):bI (l.map tA)=l.map aa:=by
 unfold bI;rw[Q1];rfl
end
section
end
section
def ik(ps:List Int)(e:AV):AV:=ps.foldr (fun p x=>dj p x) e
def du(env:b7)(s:List UInt8)(p:Int)(e:AV):cy prog env 15 [Sg s,dj p e] (dj (-1) (dj p e)):=by
 refine qw func15 call15 ntmps15 results15 ?_;repeat refine sm ?_
 (refine aO ?_;refine⟨_,(by show (au _ _ _).run _=some _;simp only[go_sem];rfl),?_⟩)
 exact lj _ _ _ rfl _ _ (.refl _)
def Jz(env:b7)(s:List UInt8)(p:Int)(a:Addr):cy prog env 133 [Sg s,I p,b6 a] (dj (max p (-1)) (b6 a)):=by
 refine cy.args (cs:=[Sg s,I p, .iface 307 (.lit (.pointer (some a)))]) ?_ (.cons (.refl _) (.cons (.refl _) (.cons (.ifl _ _) .nil)));by_cases b:p< -1
 ·rw[show max p (-1)= -1 by omega];refine qw func133 call133 ntmps133 results133 ?_;have F:=b;repeat refine st ?_
  (refine aO ?_;refine⟨_,(by show (au _ _ _).run _=some _;simp only[go_sem,F];rfl),?_⟩)
  exact lj _ _ _ rfl _ _ (.lfi _ _)
 rw[show max p (-1)=p by omega];refine qw func133 call133 ntmps133 results133 ?_;have F:=b;repeat refine st ?_
 (refine aO ?_;refine⟨_,(by show (au _ _ _).run _=some _;simp only[go_sem,F];rfl),?_⟩)
 exact lj _ _ _ rfl _ _ (.lfi _ _)
def EA(env:b7)(a b:Addr)(d:fk env a b)(p:Int):cy prog env 123 [I p] (dj (max p (-1)) (b6 a)):=by
 have c:=gS d.e1;have f0:=Jz env [108,101,103,97,108,46,67,104,101,99,107] p a;refine qf func123 call123 ntmps123 results123 ?_;have F:=c;exact nb f0
def DT{c:aq}{act:List Int}{j:Nat}{x:Int}(b:act[j]? =some x)(a: ∀m,m<j->yO c act m=true)(d:yO c act j=false):rE c act=(1,max x (-1)):=by
 have e:=(OG.1 b).1;unfold rE;rw[dM e a d];simp only[Oe,b,Pk]
def cY(env:b7)(u C:Addr)(N:fk env u C)(c:aq)(h:cD c)(J:h9 c)(act:List Int)(T:act.length<=1000000):cy prog env 73 [aH c, .seq 1 (act.map aa)] (vL u c act):=by
 have O:=h.Z6;have f0:=ap env c J;have f1:=j8 env c (by omega) act T;have f2:=fun(k:Nat)(s:pc)(B:c.Z9[k]? =some s)=>Jr env c h act k s B;have f3:=bX env c h (-1);rw[OL (.inl rfl)]at f3;have V:=d7 h.toRight (-1) true;have G: ∀j∈aw c (-1) true,j<c.Z9.length:=fun j S=>by have:=bK h.toRight (ae S).1;omega
 have f4:=uK env c.Z9.length act (aw c (-1) true) (by omega) (by omega) G;have R:=IJ env u C N (-1) (by omega);have d:=eZ c.Z9.length act;unfold aH at f0 f1 f2 f3 |-;refine qf func73 call73 ntmps73 results73 ?_;have F:=aA.eq_1;repeat refine PJ f0 f1 ?_
 have F:=aA.eq_1;refine lq act.length (by omega) (fun j Q=>[(0, .ref 9 [aK c] 0 0),(1, .seq 1 (act.map aa)),(5, .loc 5 (Q 5) 0 0),(6, .row 17 (Q 17)),(18, .seq 1 (act.map aa)),(19,I act.length),(20,I j)]) (fun _ _=>[(5,⟨5,[aA c],26,false⟩),(17,⟨1,lf c.Z9.length act,4,true⟩)]) (fun j _ _=> ∀m,m<j->yO c act m=true) (fun m q=>absurd q (by omega)) ?_ ?_
 ·rintro j U D n i P b;obtain⟨x,o⟩:=gE n;have a:=yN (c:=c) o;have A:=EA env u C N x;have f:yO c act j=false->vL u c act=dj (max x (-1)) (b6 u):=fun g=>CG (DT o b g);by_cases r:x<0
  ·rw[f (by rw[a,u9 (by unfold fe;rw[Oi (by omega)];rfl),P0])];have F:=jw o i r;exact nb A
  obtain⟨k,rfl⟩:=gk (show 0<=x by omega);by_cases v:(c.Z9.length:Int)<=k
  ·rw[f (by rw[a,u9 (by unfold fe;rw[Oi (p:=(k:Int)<_) (by omega),P0]),P0])];have F:=ld o i r v d;exact nb A
  obtain⟨s,B⟩: ∃s,c.Z9[k]? =some s:=⟨c.Z9[k]'(by omega),OE _⟩;have f2:=f2 k s B;rw[Js B]at a;by_cases H:0<j
  ·have w:(0:Int)< (j:Int):=by omega
   have L:IntKind.i64.wrap ((j:Int)-1)=((j-1:Nat):Int):=by rw[bB (by omega) (by omega)];omega
   have K:=Li H n;have M:((j-1:Nat):Int)< (act.length:Int):=by omega
   have z:(j==0)=false:=by simp;omega
   generalize act.getD (j-1) 0=y at*;by_cases E:(k:Int)<=y
   ·rw[f (by rw[a,z,Oi (by omega)];rfl)];have F:=zs o i r v d w L M K E;exact nb A
   cases g:yX c act k s with
   | false=>
     rw[g]at f2 a;rw[f (by rw[a,P0])];have F:=u4 WH o i r v d w L M K E;exact po f2 A
   | true=>
     rw[g,z,Ou (show y< (k:Int) by omega)]at a;rw[g]at f2;have F:=fb WH o i P r v d w L M K E;repeat refine g8 f2 ?_
     refine⟨j+1,⟨n,fun m q=>by rcases Qb.1 q with e|e;exact b m e;rw[e];exact a⟩,?_,?_,by omega⟩
     ·exact qe
     have F:=aA.eq_1;exact qe
  ·have w: ¬(0:Int)< (j:Int):=by omega
   have z:(j==0)=true:=by simp;omega
   cases g:yX c act k s with
   | false=>
     rw[g,z]at a;rw[g]at f2;rw[f (by rw[a,P0])];have F:=vb WH o i r v d w;exact po f2 A
   | true=>
     rw[g,z]at a;rw[g]at f2;have F:=L7 WH o i P r v d w;repeat refine g8 f2 ?_
     refine⟨j+1,⟨n,fun m q=>by rcases Qb.1 q with e|e;exact b m e;rw[e];exact a⟩,?_,?_,by omega⟩
     ·exact qe
     have F:=aA.eq_1;exact qe
 rintro U D i b
 have l:rE c act=if cR act (aw c (-1) true)=1 then(0, -1) else(1, -1):=by
  unfold rE;rw[bN b]
 by_cases q:cR act (aw c (-1) true)=1
 ·rw[OL q]at l;rw[MS l];have t:((cR act (aw c (-1) true):Nat):Int)=1:=by omega
  have F:=ai i t;exact po f3 f4
 rw[OK q]at l;rw[CG l];have t:(((cR act (aw c (-1) true):Nat):Int) != 1)=true:=by simp;omega
 have F:=ai i t;exact UR f3 f4 R
end
section
def dT.frozen{s:St}(r t:Nat)(row:Row)(g:row.pure=true)(b:row.sz≠0)(e:s.rows r=some row)(h:s.f t= .row r (s.vs r)):dT s ((s.show r).put (some t) (.seq row.sz row.es)):=fun x a w m d=>by
 obtain⟨k,i,l,j⟩:=d.show r row e b g;have f:=d.slot t;rw[h]at f;have c:a.tmps.getD t undef=m.ρ r:=f.row_.2 rfl row e;exact⟨_,i.tell t (.seq row.sz row.es) (by rw[c];exact .val j)⟩
def dT.nil{s:St}(t sz:Nat)(e:s.f t= .lit (.slice none 0 0)):dT s (s.put (some t) (.seq sz [])):=fun x a w m c=>by
 have d:=c.slot t;rw[e]at d;have b:=d.lit_;exact⟨_,c.tell t (.seq sz []) (by rw[b];exact .val (Tu.nil sz _ _ _ (.lit _)))⟩
section
variable {P:Program} {env:b7} {nt:Nat} {s:St}
theorem MY{c rest:Code}{b:Exit->St->Prop}{D:Type}(F:D->(Nat->Nat)->List (Nat×AV))(R:D->(Nat->Nat)->List (Nat×Row))(a:D->(Nat->Nat)->(Nat->Bool)->Prop)
 (g:gu P env nt c (bR (fun s=> ∃d,a d s.vs s.esc/\dK s (F d s.vs)/\cn s (R d s.vs)) b) s)(h: ∀d vs esc,a d vs esc->gu P env nt rest b (head (F d vs) (R d vs) vs esc)):
 gu P env nt c (bR (gu P env nt rest b) b) s:=
 CK g fun e s f=>by
  cases e with
  | normal=>
    obtain⟨d,i,j,k⟩:=f;exact pE _ _ j k (h d _ _ i)
  |_=>exact f
end
def pL(Q:Exit->St->Prop):Exit->St->Prop
 | .goto _,_=>False
 |e,s=>Q e s
def dW{P:Program}{b:Frame}{a:Act}{k:List Item}{cs:List Frame}{w:World}{c:Code} :step P (lone (b.atR a (.code (.scope c)::k)) cs w)= .next (lone (b.atR a (.code c:: .inScope c::k)) cs w):=
 step_lone_go (by simp[stepG,stepG.exec,Frame.atR])
def r8{P:Program}{b:Frame}{a:Act}{k:List Item}{cs:List Frame}{w:World}{c:Code} :step P (lone (b.atR a (.inScope c::k)) cs w)= .next (lone (b.atR a k) cs w):=
 step_lone_go (by simp[stepG,stepG.exec,Frame.atR])
def zX{F:Fence}{n:Nat}{P:Program}{Q:Exit->Act->World->Prop}{a:Act}{w:World}{c:Code}(h:c.wpIn F n P (Exit.noGoto Q) a w):(Code.scope c).wpIn F n P Q a w:=by
 intro b k t s o q;have i:(lone (b.atR a (.code (.scope c)::k)) t w).fenced P F:=fenced_calm o q rfl;obtain⟨e,f,g,j,d⟩:=h b (.inScope c::k) t s o q;cases e with
 |normal=>exact⟨.normal,f,g,j, .head i dW (StepsIn.trans d (.one (fenced_calm o q rfl) r8))⟩
 | exit id=>
   have u:exitTo id (.inScope c::k)=exitTo id k:=by simp[exitTo]
   exact⟨.exit id,f,g,j,fun y p=> .head i dW (d.1 y (by rw[u];exact p)),
    fun r p=>let ⟨m,v,x⟩:=d.2 r (by rw[u];exact p);⟨m,v, .head i dW x⟩⟩
 |goto l=>exact j.elim
 |ret=>exact⟨_,f,g,j, .of_steps (.one i dW) d⟩
 |panic z=>exact⟨_,f,g,j, .of_steps (.one i dW) d⟩
 |outgrown=>exact⟨_,f,g,j, .of_steps (.one i dW) d⟩
def xL{P:Program}{env:b7}{nt:Nat}{Q:Exit->St->Prop}{s:St}{c:Code}(h:gu P env nt c (pL Q) s):gu P env nt (.scope c) Q s:=fun j x d f a w m b=>
 zX (Ql (h j x d f a w m b) fun e n o ⟨k,i,q,g⟩=>by
  cases e with
  |goto l=>exact q.elim
  |_=>exact⟨k,i,q,g⟩)
end
section
def ED{c:aq}(a:Right c){k i:Nat}(_hi:i<c.Z9.length):(ql c i).testBit k=bx c k i:=by
 unfold bx mu ql;rw[uJ a,PC,OR,OQ]
def fP(env:b7)(c:aq)(a:Right c)(k i:Int):cy prog env 183 [aS c,I k,I i] (B (bx c k i)):=by
 have n:=a.Z6;have f0:=rz env c i;cases d:fe c i with
 | false=>
   rw[d]at f0;have:bx c k i=false:=by unfold bx;rw[cq d];rfl
   rw[this];refine qf func183 call183 ntmps183 results183 ?_;repeat refine nf f0 ?_
   exact L0
 | true=>
   rw[d]at f0;obtain⟨m,s,rfl,u,w⟩:=fB d;have f:=(OG.1 u).1;by_cases e:k= -1
   ·subst e;have:bx c (-1) m=true:=by unfold bx;rw[OQ];exact rq a (m+1) m d (by omega)
    rw[this];refine qf func183 call183 ntmps183 results183 ?_;repeat refine nf f0 ?_
    exact L0
   ·have j:(k == -1)=false:=by simpa using e
    have f1:=rz env c k;cases b:fe c k with
    | false=>
      rw[b]at f1
      have:bx c k m=false:=by
       cases l:bx c k m with
       |false=>rfl
       | true=>
         unfold bx at l;have v:=kZ a 40 _ _ (OQ.1 l);rw[aJ.2 ⟨by omega,by omega⟩]at b;cases b
      rw[this];refine qf func183 call183 ntmps183 results183 ?_;have F:=j;exact po f0 f1
    | true=>
      rw[b]at f1;obtain⟨p,sp,rfl,h,_⟩:=fB b;have t:=(OG.1 h).1;have g:ql c m<4294967296:=nA a (by omega);have f2:=Aj env (ql c m) g p (by omega);rw[ED a f]at f2;have o:(mB c c.Z9.length)[m]? =some (ql c m):=by rw[kX f,OL f]
      have q:((m:Nat):Int)< (c.Z9.length:Int):=by omega
      have r:=d6 c c.Z9.length;refine qf func183 call183 ntmps183 results183 ?_;have F:=pf Xa Xe j o q r;exact UR f0 f1 f2
def bc:List Int->Int->Nat->Int
 |[],_,_=> -1
 |x::l,v,k=>if x=v then k else bc l v (k+1)
def Hf{l:List Int}{v:Int}{k:Nat}{x:Int}(h:l[k]? =some x)(a:bc l v 0=bc (l.drop k) v k):(x=v->bc l v 0=k)/\(x≠v->bc l v 0=bc (l.drop (k+1)) v (k+1)):=by
 obtain⟨b,rfl⟩:=OG.1 h;rw[QM b]at a;simp only[bc]at a;exact⟨fun e=>by rw[a,OL e],fun e=>by rw[a,OK e]⟩
def FF(v:Int): ∀(l:List Int)(k:Nat),decide (0<=bc l v k)=l.contains v
 |[],k=>rfl
 | x::l,k=>by
   have b:=FF v l (k+1);by_cases e:x=v
   ·have a:bc (x::l) v k=k:=OL e;rw[a,PC,OR,OQ];exact⟨fun _=>by rw[e];exact Rh ..,fun _=>by omega⟩
   have a:bc (x::l) v k=bc l v (k+1):=OK e;rw[a,b,PC,OQ,OQ,O7];exact⟨.inr,fun h=>h.resolve_left fun h=>e h.symm⟩
def D4(env:b7)(l:List Int)(v:Int)(o:l.length<=1000000):cy prog env 181 [.seq 1 (l.map aa),I v] (I (bc l v 0)):=by
 refine qf func181 call181 ntmps181 results181 ?_;repeat refine sm ?_
 refine UC l.length (by omega) (fun k _=>[(0, .seq 1 (l.map aa)),(1,I v),(7,I l.length),(8,I k)]) (fun _ _=>[]) (fun k _ _=>bc l v 0=bc (l.drop k) v k) rfl ?_ ?_
 ·rintro k n c a b j d;obtain⟨x,f,_⟩:=aT a;obtain⟨i,m⟩:=Hf f d;by_cases e:x=v
  ·rw[i e];have g:(v==x)=true:=by simp[e]
   have F:=mX b j g f;exact fl
  have g:(v==x)=false:=by simpa using fun h=>e h.symm
  have F:=mX b j g f;repeat refine st ?_
  exact qn (k+1) ⟨a,m e⟩
 rintro n c b d;rw[d,Pp (by omega),show bc [] v l.length= -1 from rfl];have F:=b;exact fl
def bG(env:b7)(l:List Int)(v:Int)(a:l.length<=1000000):cy prog env 157 [.seq 1 (l.map aa),I v] (B (l.contains v)):=by
 have h:=FF v l 0;refine qf func157 call157 ntmps157 results157 ?_;repeat refine nf (D4 env l v a) ?_
 (refine aO ?_;show (au _ _ _).run _=some _;simp only[go_sem])
 exact Oj B h
def o5(env:b7)(c:aq)(f:h9 c)(k:Nat)(t:Fr)(a:c.trans[k]? =some t):cy prog env 222 [aH c,I k] (.tuple [.agg (cN t),B true]):=by
 have f0:=ap env c f;have g:=(OG.1 a).1;have b:((k:Nat):Int)< (c.trans.length:Int):=by omega
 have d: ¬(c.trans.length:Int)<=(k:Int):=by omega
 have e: ¬((k:Nat):Int)<0:=by omega
 refine qf func222 call222 ntmps222 results222 ?_;have F:=pf WH WP b d e a;exact nb f0
def BI{c:aq}{k:Nat}{s:pc}(a:c.Z9[k]? =some s):bD c k=(s.kind==1):=by unfold bD;rw[bO,a]
def nQ(env:b7)(c:aq)(p:Right c)(z:h9 c)(t:Fr)(_hsrc:fe c t.src=true):cy prog env 224 [aH c, .agg (cN t)] (I (DA c t.src t.target)):=by
 have w:=p.Z6;have f0:=ap env c z;have f1:=bJ env c;have f2:=xy env c p t.src;have A:(mu c t.src).length<=40:=uo 40 t.src
 have f: ∀x∈mu c t.src,x<0\/fe c x=true:=fun x g=>by
  rcases Sq x 0 with h|h
  ·exact .inl h
  exact .inr (iZ p g h).1
 unfold DA;generalize mu c t.src=U at*;unfold aH at f0 f1 |-;refine qf func224 call224 ntmps224 results224 ?_;have F:=cN.eq_1;repeat refine V6 f0 f1 f2 ?_
 have F:=ai WP WH;refine lq U.length (by omega) (fun j v=>[(0, .ref 9 [aK c] 0 0),(3, .loc 3 (v 3) 0 0),(5, .loc 5 (v 5) 0 0),(14, .row 14 (v 14)),(15,I U.length),(16,I j)]) (fun j _=>[(3,⟨5,[cN t],70,false⟩),(5,⟨5,[aA c],26,false⟩),(14,⟨1,U.map aa,3,true⟩)]) (fun j _ _=>U.find? (Di c t.target)=(U.drop j).find? (Di c t.target)) rfl ?_ ?_
 ·rintro j C q i l r a;obtain⟨x,g⟩:=gE i;rw[wh g]at a;rcases f x (OM g) with e|B
  ·have y:Di c t.target x=true:=by unfold Di;rw[Ou e];rfl
   rw[y]at a;simp only[PW]at a;rw[a,Pk];have F:=ai g l;repeat (first|refine oO rfl (by simp only[go_sem,e,F];exact⟨rfl,rfl⟩) ?_|refine gR ?_|refine gO ?_|refine oZ (ki ?_)|refine oZ ?_|refine oS ?_|refine gT ?_|refine gD mixed ?_|refine oB ?_|refine oK ?_|(refine oX ?_;simp only[bR,bf, ↓reduceIte,Nat.reduceEqDiff,reduceCtorEq])|refine oY (by simp only[go_sem,e,F];exact iR) ?_|refine oN (by simp only[go_sem,e,F];exact iR) ?_)
   (refine aO ?_;show (au _ _ _).run _=some _;simp only[go_sem,e,F])
  ·obtain⟨k,s,rfl,d,_⟩:=fB B;have D:=(OG.1 d).1;have e: ¬((k:Nat):Int)<0:=by omega
   have u:((k:Nat):Int)< (c.Z9.length:Int):=by omega
   have n:Di c t.target (k:Int)=(bD c (k:Int)&&bx c (k:Int) t.target):=by unfold Di;rw[Oi e,Qq]
   have o:=BI d;have f3:=fP env c p k t.target;cases b:(s.kind==1) with
   | false=>
     rw[n,o,b,PU]at a;simp only[On,P8]at a;have F:=zs WP WH WI g d l r u e b;repeat refine g8 f1 ?_
     refine⟨j+1,⟨i,a⟩,?_,?_,by omega⟩
     ·exact qe
     have F:=ai WP WH;exact qe
   | true=>
     rw[n,o,b,PQ]at a;cases m:bx c (k:Int) t.target with
     | false=>
       rw[m]at a f3;simp only[On,P8]at a;unfold aS at f1 f3;have F:=zs WP WH WI g d l r u e b;repeat refine PJ f1 f3 ?_
       refine⟨j+1,⟨i,a⟩,?_,?_,by omega⟩
       ·exact qe
       have F:=ai WP WH;exact qe
     | true=>
       rw[m]at a f3;simp only[PW]at a;rw[a,Pk];unfold aS at f1 f3;have F:=zs WP WH WI g d l r u e b;exact po f1 f3
 rintro C q l a;rw[Q3]at a;rw[a];simp only[Tl,R9];have F:=l;exact fl
def cD.src{c:aq}(h:cD c){k:Nat}{t:Fr}(e:c.trans[k]? =some t):fe c t.src=true/\(t.target= -1\/fe c t.target=true):=by
 have:=h.tr k t e;unfold d9 at this;simp only[OJ,PS,P4,OR]at this;refine⟨?_,this.2.imp id fun q=>aJ.2 q⟩;have b:=this.1.1.1.1;unfold ar at b;split at b
 ·rename_i s a;unfold at_ at a;split at a
  ·rename_i d;have:=(OG.1 a).1;exact aJ.2 ⟨d,by omega⟩
  cases a
 cases b
end
end Go.Proofs.YtfcdkaolcdglmaaGreatDoor
