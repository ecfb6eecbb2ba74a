/- fault.Page of an error that wraps others: the first page on the way, or none. -/
import Derived.Test.YtfhkmjbjafeckaaGreatDoorQ21
set_option maxRecDepth 100000
set_option maxHeartbeats 16000000
set_option linter.unusedSimpArgs false
set_option linter.defProp false
namespace Go.Proofs.YtfhkmjbjafeckaaGreatDoor
open Go.Proofs.Tryz
section
open Go.RowKit
def tQ{c:aq}{act:List Int}(h:tU c act=true): ∃l:List Nat,act=zL l/\ ∀k∈l,k<c.Z9.length:=by
 have i:=(zp.1 h).1
 have f: ∀x∈act,0<=x/\x< (c.Z9.length:Int):=fun x a=>by
  obtain⟨n,d,e⟩:=O1 a;have:=i n d;rw[zF (Mt.2 ⟨d,e⟩),Mx]at this;have b:=this.2;cases g:fi c x with
  |false=>rw[vJ g]at b;cases b
  |true=>exact aI.1 g
 refine⟨act.map Int.toNat,?_,fun k j=> ?_⟩
 ·unfold zL;rw[P4];refine((O6 fun x a=> ?_).trans (SG act)).symm;have:=f x a;show ((x.toNat:Nat):Int)=x;omega
 obtain⟨x,a,rfl⟩:=NG.1 j;have:=f x a;omega
def I3(c:aq)(l:List Nat)(k:Nat):Bool:=ch (zL l) (av c k true)==0
def u3(c:aq)(l:List Nat)(j:Nat):List Nat:=(l.take j).filter (I3 c l)
def x4(c:aq)(l:List Nat):List Nat:=b7 c (zL (u3 c l l.length))
def xE{c:aq}{l:List Nat}{j k:Nat}(h:l[j]? =some k):u3 c l (j+1)=if I3 c l k then u3 c l j++[k] else u3 c l j:=by
 unfold u3;rw[N4,h,N6];cases a:I3 c l k<;>simp[a]
def oy(c:aq)(l:List Nat)(j:Nat):(u3 c l j).length<=l.length:=by
 unfold u3;exact NN (NV ..) (by rw[NK];omega)
def Aq(env:cf)(c:aq)(h:ct c)(l:List Nat)(A:l.length<=1000)(v: ∀k∈l,k<c.Z9.length):b8 prog env 188 [aG c, .seq 1 (l.map aB)] (.own 3 1 ((x4 c l).map aB)):=by
 have r:=h.Z6;have f0:=j5 env c (by omega) (zL l) (by rw[ar];omega);rw[bl]at f0;have f1:=fun k:Nat=>bc env c h k;have f2:=fun k:Nat=>uo env c.Z9.length (zL l) (av c k true) (by omega) (by have:=bU h.toRight k true;omega) (fun j u=>by have:=bF h.toRight (aY u).1;omega);have f3:=bP env c;have f4:=gB env c h.toRight (zL (u3 c l l.length)) (by rw[ar];have:=oy c l l.length;omega);rw[bl]at f4;show b8 _ _ _ _ (.own _ 1 ((b7 c (zL (u3 c l l.length))).map aB));generalize b7 c (zL (u3 c l l.length))=R at*;unfold aQ at f3 f4;unfold aG at f0 f1 f3 |-;generalize o:ld c.Z9.length (zL l)=z at*;try clear o
 refine qf func188 call188 ntmps188 results188 ?_;repeat refine nw ?_
 refine ap 5 5 3 1 ?_;refine Q' l.length (by omega) (fun j x=>[(0, .ref 9 [cy c] 0 0),(1, .seq 1 (l.map aB)),(5, .row 5 (x 5)),(8, .seq 1 (l.map aB)),(9,I l.length),(10,I j)]) (fun j _=>[(5,⟨1,(u3 c l j).map aB,3,true⟩)]) (fun j _ a=>a 5=false) rfl ?_ ?_
 ·rintro j y a b m s d;obtain⟨k,i⟩:=gE b;have p:=v k (My i);have f1:=f1 k;rw[Mw (.inr (aW.2 p))]at f1;have f2:=f2 k;have w:=oy c l j;have t:dd ((u3 c l j).length+1) 8:=aC (by omega) (by omega);have g:=xE (c:=c) i;have e:I3 c l k=(ch (zL l) (av c k true)==0):=rfl;cases f:I3 c l k with
  | true=>
    rw[f,Mw rfl]at g;rw[f]at e
    have n:(((ch (zL l) (av c k true):Nat):Int)==0)=true:=by
     have:=OQ.1 e.symm;simp;omega
    have F:=m7 Uu i m s n t d;repeat refine Sw f0 f1 f2 ?_
    refine⟨j+1,⟨b,by simp only[go_sem,d]⟩,?_,?_,by omega⟩
    ·exact qe
    have F:=gs Uu g @NC.{0,0};exact qe
  | false=>
    rw[f,Mv Nb]at g;rw[f]at e
    have n:(((ch (zL l) (av c k true):Nat):Int)==0)=false:=by
     have: ¬ch (zL l) (av c k true)=0:=fun q=>by rw[q]at e;cases e
     simp;omega
    have F:=kv Uu i m s n d;repeat refine Sw f0 f1 f2 ?_
    refine⟨j+1,⟨b,by simp only[go_sem,d]⟩,?_,?_,by omega⟩
    ·exact qe
    have F:=ai Uu g;exact qe
 rintro y a m d;have F:=ai m d;exact ns f3 f4
def yX(env:cf)(c:aq)(h:ct c)(l:List Nat)(w:l.length<=1000)(t: ∀k∈l,k<c.Z9.length):b8 prog env 113 [.agg (aA c), .seq 1 (l.map aB)] (.own 3 1 ((x4 c l).map aB)):=by
 have o:=h.Z6;have _u:=t;have f1:=fun k:Nat=>dI env c k true (by omega);have f2:=fun k:Nat=>lj env (zL l) (av c k true) (by rw[ar];omega) (by have:=bU h.toRight k true;omega);rw[bl]at f2;have f4:=jY env c h.toRight (u3 c l l.length) (by have:=oy c l l.length;omega);show b8 _ _ _ _ (.own _ 1 ((b7 c (zL (u3 c l l.length))).map aB));generalize b7 c (zL (u3 c l l.length))=R at*;refine qf func113 call113 ntmps113 results113 ?_;have F:=aA.eq_1;repeat refine st ?_
 have F:=aA.eq_1;refine lq l.length (by omega) (fun j r=>[(1, .seq 1 (l.map aB)),(2, .loc 2 (r 2) 0 0),(5, .row 7 (r 7)),(6,I j)]) (fun j _=>[(2,⟨5,[aA c],26,false⟩),(7,⟨1,(u3 c l j).map aB,3,true⟩)]) (fun j _ a=>a 7=false) rfl ?_ ?_
 ·rintro j v a b i p d;obtain⟨k,n⟩:=gE b;have f1:=f1 k;have f2:=f2 k;have u:=oy c l j;have s:dd ((u3 c l j).length+1) 8:=aC (by omega) (by omega);have g:=xE (c:=c) n;have e:I3 c l k=(ch (zL l) (av c k true)==0):=rfl;cases f:I3 c l k with
  | true=>
    rw[f,Mw rfl]at g;rw[f]at e
    have m:(((ch (zL l) (av c k true):Nat):Int)==0)=true:=by
     have:=OQ.1 e.symm;simp;omega
    have F:=qr Us Uu n i p m s d;repeat refine y3 f1 f2 ?_
    refine⟨j+1,⟨b,by simp only[go_sem,d]⟩,?_,?_,by omega⟩
    ·exact qe
    have F:=i0 Us Uu g @NC.{0,0};exact qe
  | false=>
    rw[f,Mv Nb]at g;rw[f]at e
    have m:(((ch (zL l) (av c k true):Nat):Int)==0)=false:=by
     have: ¬ch (zL l) (av c k true)=0:=fun q=>by rw[q]at e;cases e
     simp;omega
    have F:=m7 Us Uu n i p m d;repeat refine y3 f1 f2 ?_
    refine⟨j+1,⟨b,by simp only[go_sem,d]⟩,?_,?_,by omega⟩
    ·exact qe
    have F:=gs Us Uu g;exact qe
 rintro v a i d;have F:=gs Us i d;exact kb f4
def Gz(env:cf)(b d:Addr)(f:gb env b d)(c:aq)(h:ct c)(a:hP c)(l:List Nat)(i:l.length<=1000)(g: ∀k∈l,k<c.Z9.length)(e:tU c (zL l)=true):b8 prog env 134 [aG c, .seq 1 (l.map aB)] (.tuple [.seq 1 ((x4 c l).map aB),ik]):=by
 have f0:=cj env b d f c h a (zL l) (by rw[ar];omega);unfold wC at f0;rw[Mw e,bl]at f0;have f1:=Aq env c h l i g;unfold aG at f0 f1 |-;generalize x4 c l=R at*;refine qf func134 call134 ntmps134 results134 ?_;repeat refine sL f0 f1 ?_
 exact px
def fh(w:rx)(g:List mu):Option Bool:=if g=[] then some true else(ki w g).map fun n=>n != 0
def jR(c:aq)(n:Nat):List mu:=match c.trans[n]? with
 |some t=>t.guard
 |none=>[]
def dl(c:aq)(n:Nat):tS:=c.trans.getD n ⟨0,[],[],[],0⟩
def dD{c:aq}{n:Nat}{t:tS}(h:c.trans[n]? =some t):dl c n=t:=by
 unfold dl;rw[N3,h];rfl
inductive Fd where
 |no
 |one (n:Nat)
 |bad (n:Nat)
def cO(c:aq)(w:rx):List Nat->Fd
 |[]=> .no
 | n::l=>match fh w (jR c n) with
   |none=> .bad n
   |some true=> .one n
   |some false=>cO c w l
def dS(c:aq)(w:rx)(ev:List UInt8):List Int->Fd
 |[]=> .no
 | k::l=>match cO c w (it c k ev c.trans.length) with
   | .no=>dS c w ev l
   |r=>r
def dA(c:aq)(w:rx)(ev:List UInt8):List Nat->List Nat->Except Nat (List Nat)
 |[],o=> .ok o
 | i::l,o=>match dS c w ev ((i:Int)::kf c i) with
   | .bad n=> .error n
   | .no=>dA c w ev l o
   | .one n=>dA c w ev l (if o.contains n then o else o++[n])
def bd(c:aq)(act:List Int)(a b:Nat):Bool:=(fy c act (dl c a)).any fun i=>(fy c act (dl c b)).contains i
def ln(c:aq)(act:List Int)(n k:Nat):Bool:= !bd c act k n||b4 c (dl c k).src (dl c n).src
def l'(c:aq)(act:List Int)(l:List Nat)(n:Nat):List Nat:=if l.all (ln c act n) then(l.filter fun k=> !bd c act k n)++[n] else l
def Eb(c:aq)(act:List Int)(l:List Nat):List Nat:=l.foldl (l' c act) []
def rY(c:aq)(act:List Int)(w:rx)(ev:List UInt8)(a:List Nat):Except Nat (List Nat):=match dA c w ev a []with
 | .ok l=> .ok (Eb c act l)
 | .error n=> .error n
structure Fit(c:aq)(act:List Int)(l:List Nat):Prop where
 real: ∀n∈l,∃t,c.trans[n]? =some t/\t.src∈act
 two:l.Pairwise fun k n=>k≠n/\bd c act k n=false
def Fit.nil(c:aq)(act:List Int):Fit c act []:=⟨fun _ h=>by simp at h, .nil⟩
def Fit.take{c:aq}{act:List Int}{l:List Nat}(h:Fit c act l){n:Nat}(k: ∃t,c.trans[n]? =some t/\t.src∈act)(j:n∉l):Fit c act (l' c act l n):=by
 unfold l';split
 ·refine⟨fun m hm=> ?_,?_⟩
  ·rcases N1.1 hm with hm|hm
   ·exact h.real m (NF.1 hm).1
   rw[NP.1 hm];exact k
  refine Pj.2 ⟨h.two.sublist OT,QJ ..,fun a g b i=> ?_⟩;rw[NP.1 i];obtain⟨d,f⟩:=NF.1 g;exact⟨fun e=>j (e ▸ d),by simpa using f⟩
 exact h
def ua{c:aq}{act:List Int}{l:List Nat}{n m:Nat}(h:m∈l' c act l n):m∈l\/m=n:=by
 unfold l' at h;split at h
 ·rcases N1.1 h with h|h
  ·exact .inl (NF.1 h).1
  exact .inr (NP.1 h)
 exact .inl h
def CJ{c:aq}{act:List Int} : ∀(l:List Nat)(o:List Nat),Fit c act o->(∀n∈l,∃t,c.trans[n]? =some t/\t.src∈act)->l.Nodup->(∀n∈l,n∉o)->Fit c act (l.foldl (l' c act) o)
 |[],o,h,_,_,_=>h
 | n::l,o,h,b,g,d=>by
   obtain⟨i,j⟩:=PN.1 g;refine CJ l _ (h.take (b n (by simp)) (d n (by simp))) (fun m a=>b m (by simp[a])) j fun m a f=> ?_;rcases ua f with e|e
   ·exact d m (by simp[a]) e
   exact i (e ▸ a)
def CL{c:aq}{w:rx}{n:Nat} : ∀ {l:List Nat},cO c w l= .one n->n∈l
 |[],h=>by simp[cO]at h
 | k::l,h=>by
   unfold cO at h;split at h
   ·cases h
   ·cases h;simp
   exact O2 _ (CL h)
def zP{c:aq}{w:rx}{ev:List UInt8}{n:Nat} : ∀ {l:List Int},dS c w ev l= .one n-> ∃k∈l,∃t,c.trans[n]? =some t/\t.src=k/\t.Z7=ev
 |[],h=>by simp[dS]at h
 | k::l,h=>by
   unfold dS at h;split at h
   ·obtain⟨j,d,q⟩:=zP h;exact⟨j,O2 _ d,q⟩
   ·rename_i r f;have:=CL h;unfold it at this;obtain⟨e,a⟩:=NF.1 this;unfold je at a;cases b:c.trans[n]? with
    |none=>rw[b]at a;cases a
    | some t=>
      rw[b]at a;simp only[NI]at a;exact⟨k,by simp,t,rfl,a.1,a.2⟩
def vH{c:aq}(h:ct c){act:List Int}(q:Lg c act){w:rx}{ev:List UInt8} : ∀(l o f:List Nat),dA c w ev l o= .ok f->(∀i∈l,(i:Int)∈act)->(∀n∈o,∃t,c.trans[n]? =some t/\t.src∈act/\t.Z7=ev)->o.Nodup->(∀n∈f,∃t,c.trans[n]? =some t/\t.src∈act/\t.Z7=ev)/\f.Nodup
 | [],o,f,e,_,g,d=>by
   simp only[dA,Except.ok.injEq]at e;subst e;exact⟨g,d⟩
 | i::l,o,f,e,u,g,d=>by
   unfold dA at e;split at e
   ·cases e
   ·exact vH h q l o f e (fun j r=>u j (by simp[r])) g d
   rename_i n C;refine vH h q l _ f e (fun j r=>u j (by simp[r])) ?_ ?_
   ·obtain⟨k,hk,t,x,D,p⟩:=zP C;have v:=u i (by simp);have y:=(h.src x).1
    have s:t.src∈act:=by
     rw[D]at y |-;rcases NX.1 hk with e|hk
     ·rw[e];exact v
     exact q.up h.toRight ((i:Int).toNat+1) i k (by omega) v hk (aI.1 y).1
    split
    ·exact g
    intro m hm;rcases N1.1 hm with hm|hm
    ·exact g m hm
    rw[NP.1 hm];exact⟨t,x,s,p⟩
   split
   ·exact d
   rename_i B;refine O8.2 ⟨d,by simp,fun a z b A e=>B ?_⟩;rw[NP.1 A]at e;rw[Mz, <-e];exact z
def LL{c:aq}(h:ct c){l:List Nat}(d: ∀k∈l,k<c.Z9.length){i:Nat}(hi:i∈x4 c l):i∈l:=by
 have b: ∀j,j∈u3 c l l.length->j∈l:=fun j a=>Ot (NF.1 a).1
 have g:(zL (u3 c l l.length)).all (fi c)=true:=NB.2 fun x f=>by
  obtain⟨j,a,rfl⟩:=NG.1 f;exact aW.2 (d j (b j a))
 unfold x4 at hi;rw[BU h.toRight g]at hi;obtain⟨j,a,e⟩:=NG.1 hi;have:j=i:=by omega
 exact this ▸ b j a
def Je{c:aq}(h:ct c){act:List Int}(j:Lg c act){w:rx}{ev:List UInt8}{a f:List Nat}(hi: ∀i∈a,(i:Int)∈act)(e:rY c act w ev a= .ok f):Fit c act f:=by
 unfold rY at e;split at e
 ·rename_i l m;cases e;obtain⟨d,g⟩:=vH h j a [] l m hi (fun n b=>by simp at b) .nil;exact CJ l [] (Fit.nil c act) (fun n b=>by obtain⟨t,o,p,_⟩:=d n b;exact⟨t,o,p⟩) g (fun n _ k=>by simp at k)
 cases e
def TX(mem:List eg)(h:Int):List Int:=match mem.find? (fun m=>m.1==h) with|some m=>m.2|none=>[]
def FG(env:cf)(mem:List eg)(h:Int)(n:mem.length<=1000000):b8 prog env 170 [go mem,I h] (.seq 1 ((TX mem h).map aa)):=by
 unfold TX;cases g:mem.find? (fun m=>m.1==h) with
 | some m=>
   simp only;refine qf func170 call170 ntmps170 results170 ?_;repeat refine nw ?_
   refine Q' mem.length (by omega) (fun j l=>[(0,go mem),(1,I h),(5,I j)]) (fun _ _=>[]) (fun j _ _=>mem.find? (fun m=>m.1==h)=(mem.drop j).find? (fun m=>m.1==h)) rfl ?_ ?_
   ·rintro j k d b e i a;obtain⟨x,f⟩:=gE b;rw[iG f]at a;cases c:(x.1==h) with
    | true=>
      rw[c]at a;simp only[Nn]at a;obtain rfl:m=x:=by rw[g]at a;cases a;rfl
      have F:=i0 UF f e c;exact fc
    | false=>
      rw[c]at a;simp only[NW,OB]at a;have F:=ii UF f e i c;repeat refine st ?_
      exact qn (j+1) ⟨b,a⟩
   rintro k d e a;rw[OE,QK]at a;rw[g]at a;cases a
 | none=>
   simp only;refine qw func170 call170 ntmps170 results170 ?_;have F:=fj.eq_1;repeat refine st ?_
   refine lq mem.length (by omega) (fun j l=>[(0,go mem),(1,I h),(5,I j)]) (fun _ _=>[]) (fun j _ _=>mem.find? (fun m=>m.1==h)=(mem.drop j).find? (fun m=>m.1==h)) rfl ?_ ?_
   ·rintro j k d b e i a;obtain⟨x,f⟩:=gE b;rw[iG f]at a;cases c:(x.1==h) with
    | true=>
      rw[c]at a;simp only[Nn]at a;rw[g]at a;cases a
    | false=>
      rw[c]at a;simp only[NW,OB]at a;have F:=ii UF f e i c;repeat refine st ?_
      exact qn (j+1) ⟨b,a⟩
   rintro k d e a;rw[OE,QK]at a;have F:=e;repeat refine st ?_
   (refine aM ?_;refine⟨_,(by show (ag _ _ _).run _=some _;simp only[go_sem,F];rfl),?_⟩)
   exact .of (.nil 1) (fun _ _ _ h=>by cases h) (fun _ _ _ h=>by cases h)
def H5{c:aq}{l:List Int}{j:Nat}(a:j<c.Z9.length):eX c l j=match jg c l j with|some v=>some v|none=>eX c l (j+1):=by
 unfold eX;rw[Ol (by simpa using a),List.getElem_range,List.findSome?_cons];cases jg c l j<;>rfl
def JX(c:aq)(l:List Int):eX c l c.Z9.length=none:=by
 unfold eX;rw[OH (by simp)];rfl
def DV(env:cf)(c:aq)(h:ct c)(l:List Int)(R:l.length<=1000000):b8 prog env 225 [.agg (aA c), .seq 1 (l.map aa)] (I (PT c l)):=by
 have X:=h.Z6;have U:=fun(i:Int)=>dI env c i true (by omega);unfold aA at U;unfold PT;refine qf func225 call225 ntmps225 results225 ?_;have F:=aA.eq_1;repeat refine st ?_
 have F:=aA.eq_1;refine lq c.Z9.length (by omega) (fun j o=>[(1, .seq 1 (l.map aa)),(2, .loc 2 (o 2) 0 0),(5,I j)]) (fun _ _=>[(2,⟨5,[aA c],26,false⟩)]) (fun j _ _=>eX c l 0=eX c l j) rfl ?_ ?_
 ·rintro j ws O g n A a;obtain⟨s,b⟩:=gE g;have f0:=dJ env l (j:Int) R;rw[H5 g]at a;have d:jg c l j=if l.contains (j:Int)=true then(if s.kind=1/\av c j true≠[]/\ch l (av c j true)=0 then some s.initial else if s.kind=2 then(hH c j).find? (fun k=> !l.contains k) else none) else none:=by unfold jg;rw[b]
  cases W:l.contains (j:Int) with
  | false=>
    rw[W]at f0 d;rw[Mv Nb]at d;rw[d]at a;simp only at a;have F:=gs Us n A;repeat refine ff f0 ?_
    refine⟨j+1,⟨g,a⟩,?_,?_,by omega⟩
    ·exact qe
    have F:=aA.eq_1;exact qe
  | true=>
    rw[W]at f0 d;rw[Mw rfl]at d;have x:=U (j:Int);have hK:=bU h.toRight j true;have z:=lj env l (av c j true) R (by omega);have Z:hH c (j:Int)=zL (av c j true):=rfl;rw[Z]at d;generalize av c (j:Int) true=K at*;have P:(zL K).length=K.length:=ar K;by_cases v:s.kind=1/\K≠[]/\ch l K=0
    ·rw[Mw v]at d;rw[d]at a;rw[a,OJ];have r:(s.kind==1)=true:=by simp[v.1]
     have t:(0:Int)< (K.length:Int):=by
      have:=Oi.2 v.2.1;omega
     have M:((ch l K:Nat):Int)=0:=by rw[v.2.2];rfl
     generalize ch l K=N at*;have F:=m7 Us Ut b n r t M;exact D0 f0 x z
    ·have G:K.length=0->(((zL K).find? fun k=> !l.contains k)=none):=fun e=>by rw[OZ.1 e];rfl
     have p:s.kind≠2\/K.length=0->eX c l 0=eX c l (j+1):=fun q=>by
      rw[Mv v]at d
      have:jg c l j=none:=by
       rw[d];rcases q with q|q
       ·rw[Mv q]
       rw[G q];split<;>rfl
      rw[this]at a;exact a
     cases r:(s.kind==1) with
     | true=>
       have w:s.kind=1:=by simpa using r
       have t:(s.kind==2)=false:=by simp[w]
       have a:=p (.inl (by omega));by_cases C:K.length=0
       ·have u: ¬(0:Int)< (K.length:Int):=by omega
        have F:=kv Us Ut b n r u;repeat refine Sw f0 x z ?_
        refine aH (D:=Unit) (fun _ o=>[(1, .seq 1 (l.map aa)),(2, .loc 2 (o 2) 0 0),(5,I j),(6, .row 21 (o 21)),(7,I 0)]) (fun _ _=>[(2,⟨5,[aA c],26,false⟩),(21,⟨1,K.map aB,3,true⟩)]) (fun _ _ _=>True) (fun _=>0) () trivial ?_ ?_ ?_
        ·(simp only[go_sem,F])
         try rfl
        ·have F:=aA.eq_1
         (simp only[go_sem,F])
         try rfl
        rintro _ H B _;have F:=kv Us Ut b n A u;repeat refine st ?_
        refine⟨j+1,⟨g,a⟩,?_,?_,by omega⟩
        ·exact qe
        have F:=aA.eq_1;exact qe
       have u:(0:Int)< (K.length:Int):=by omega
       have M:(((ch l K:Nat):Int)==0)=false:=by
        have:ch l K≠0:=fun e=>v ⟨w,fun Y=>C (by rw[Y];rfl),e⟩;simp;omega
       generalize ch l K=N at*;have F:=m7 Us Ut b n r u M;repeat refine Sw f0 x z ?_
       refine aH (D:=Unit) (fun _ o=>[(1, .seq 1 (l.map aa)),(2, .loc 2 (o 2) 0 0),(5,I j),(6, .row 21 (o 21)),(7,I 0)]) (fun _ _=>[(2,⟨5,[aA c],26,false⟩),(21,⟨1,K.map aB,3,true⟩)]) (fun _ _ _=>True) (fun _=>0) () trivial ?_ ?_ ?_
       ·(simp only[go_sem,F])
        try rfl
       ·have F:=aA.eq_1
        (simp only[go_sem,F])
        try rfl
       rintro _ H B _;have F:=m7 Us Ut b n A u t;repeat refine st ?_
       refine⟨j+1,⟨g,a⟩,?_,?_,by omega⟩
       ·exact qe
       have F:=aA.eq_1;exact qe
     | false=>
       have w:s.kind≠1:=by simpa using r
       cases t:(s.kind==2) with
       | false=>
         have a:=p (.inl (by simpa using t));by_cases C:K.length=0
         ·have u: ¬(0:Int)< (K.length:Int):=by omega
          have F:=ii Us Ut b n r;repeat refine Sw f0 x z ?_
          refine aH (D:=Unit) (fun _ o=>[(1, .seq 1 (l.map aa)),(2, .loc 2 (o 2) 0 0),(5,I j),(6, .row 21 (o 21)),(7,I 0)]) (fun _ _=>[(2,⟨5,[aA c],26,false⟩),(21,⟨1,K.map aB,3,true⟩)]) (fun _ _ _=>True) (fun _=>0) () trivial ?_ ?_ ?_
          ·(simp only[go_sem,F])
           try rfl
          ·have F:=aA.eq_1
           (simp only[go_sem,F])
           try rfl
          rintro _ H B _;have F:=kv Us Ut b n A u;repeat refine st ?_
          refine⟨j+1,⟨g,a⟩,?_,?_,by omega⟩
          ·exact qe
          have F:=aA.eq_1;exact qe
         have u:(0:Int)< (K.length:Int):=by omega
         have F:=ii Us Ut b n r;repeat refine Sw f0 x z ?_
         refine aH (D:=Unit) (fun _ o=>[(1, .seq 1 (l.map aa)),(2, .loc 2 (o 2) 0 0),(5,I j),(6, .row 21 (o 21)),(7,I 0)]) (fun _ _=>[(2,⟨5,[aA c],26,false⟩),(21,⟨1,K.map aB,3,true⟩)]) (fun _ _ _=>True) (fun _=>0) () trivial ?_ ?_ ?_
         ·(simp only[go_sem,F])
          try rfl
         ·have F:=aA.eq_1
          (simp only[go_sem,F])
          try rfl
         rintro _ H B _;have F:=m7 Us Ut b n A u t;repeat refine st ?_
         refine⟨j+1,⟨g,a⟩,?_,?_,by omega⟩
         ·exact qe
         have F:=aA.eq_1;exact qe
       | true=>
         have Q:s.kind=2:=by simpa using t
         rw[Mv v,Mw Q]at d;rw[d]at a;try clear p G
         have F:=ii Us Ut b n r;repeat refine Sw f0 x z ?_
         have F:=aA.eq_1;refine lq K.length (by omega) (fun m o=>[(1, .seq 1 (l.map aa)),(2, .loc 2 (o 2) 0 0),(5,I j),(6, .row 21 (o 21)),(7,I m)]) (fun _ _=>[(2,⟨5,[aA c],26,false⟩),(21,⟨1,K.map aB,3,true⟩)]) (fun m _ _=>((zL K).find? fun k=> !l.contains k)=((zL K).drop m).find? fun k=> !l.contains k) rfl ?_ ?_
         ·rintro m H B E L p2 f;obtain⟨y,S⟩:=gE E;have J:=dJ env l (y:Int) R;have T:(zL K)[m]? =some (y:Int):=by unfold zL;rw[NE,S];rfl
          rw[iG T]at f;cases V:l.contains (y:Int) with
          | false=>
            rw[V]at J f;rw[Mw (by rfl)]at f;rw[f]at a;simp only at a;rw[a,OJ];have F:=qr Us Ut Uu b S n L t;exact kb J
          | true=>
            rw[V]at J f;rw[Mv (by simp)]at f;have F:=qs Us Ut Uu b S n L p2 t;repeat refine ff J ?_
            refine⟨m+1,⟨E,f⟩,?_,?_,by omega⟩
            ·exact qe
            have F:=aA.eq_1;exact qe
         rintro H B L f;rw[OH (by rw[P];exact ND _),QK]at f;rw[f]at a;simp only at a;have F:=kv Us Ut b n A L;repeat refine st ?_
         refine⟨j+1,⟨g,a⟩,?_,?_,by omega⟩
         ·exact qe
         have F:=aA.eq_1;exact qe
 rintro ws O n a;rw[a,JX,PH];have F:=ai Us n;exact fc
def tf(c:aq): ∀(f:Nat)(l:List Int),(mZ c f l).length<=l.length+f
 |0,l=>ND _
 | f+1,l=>by
   unfold mZ;split
   ·omega
   have:=tf c f (l++[PT c l]);rw[NA,Nf]at this;omega
def Gk(env:cf)(c:aq)(h:ct c)(l:List Int)(t:l.length<=3000):b8 prog env 172 [.agg (aA c), .seq 1 (l.map aa)] (.own 3 1 ((z6 c l).map aa)):=by
 have k:=h.Z6;have j:dd l.length 8:=aC (by omega) (by omega);refine qf func172 call172 ntmps172 results172 ?_;have F:=ai Us j;repeat refine st ?_
 refine aH (D:=Nat×List Int) (fun d m=>[(2, .loc 2 (m 2) 0 0),(5, .row 8 (m 8)),(6,I d.1)]) (fun d _=>[(2,⟨5,[aA c],26,false⟩),(8,⟨1,d.2.map aa,3,true⟩)]) (fun d _ b=>(d.1<=c.Z9.length+1/\mZ c (c.Z9.length+1-d.1) d.2=z6 c l/\d.2.length<=l.length+d.1)/\b 8=false) (fun d=>c.Z9.length+1-d.1) (0,l) ?_ ?_ ?_ ?_
 ·exact⟨⟨NJ _,rfl,ND _⟩,by simp only[go_sem]⟩
 ·(simp only[go_sem,F])
  try rfl
 ·have F:=aA.eq_1
  (simp only[go_sem,F])
  try rfl
 rintro⟨n,L⟩ u b ⟨⟨r,a,o⟩,e⟩;simp only at r a o;by_cases q:n<=c.Z9.length
 ·have g:(n:Int)<=(c.Z9.length:Int):=by omega
  have s:=aD (show n<c.Z9.length+1 by omega) (by omega);have f1:=(DV env c h L (by omega)).lend rfl;unfold aA at f1;rw[show c.Z9.length+1-n=(c.Z9.length-n)+1 by omega]at a;unfold mZ at a;generalize PT c L=i at*;by_cases f:i<0
  ·rw[Mw f]at a;rw[<-a];have F:=i0 Us g e f;repeat refine st ?_
   refine lL f1 ?_;exact fc
  rw[Mv f]at a;have p:dd (L.length+1) 8:=aC (by omega) (by omega);have F:=kv Us g s e f p;repeat refine st ?_
  refine lL f1 ?_;repeat refine st ?_
  refine⟨(n+1,L++[i]),⟨⟨by simp only;omega,?_,by simp only[NA,Nf];omega⟩,by simp only[go_sem,e]⟩,?_,?_,by simp only;omega⟩
  ·simp only;rw[show c.Z9.length+1-(n+1)=c.Z9.length-n by omega];exact a
  ·exact qe
  have F:=ai Us @NC.{0,0};exact qe
 obtain rfl:n=c.Z9.length+1:=by omega
 have g: ¬((c.Z9.length+1:Nat):Int)<=(c.Z9.length:Int):=by omega
 rw[QA]at a;have a:L=z6 c l:=a;rw[<-a];have F:=gs Us g e;exact fc
def tG{c:aq}(h:ct c){mem:List eg}(i:bm c mem=true): ∀m∈mem,m.2≠[]/\m.2.length<=32:=fun m d=>by
 have a:=(pU i).2 m d;unfold pV at a;split at a
 ·split at a
  ·rw[Mx,NI]at a;exact⟨fun e=>by rw[e]at a;simp at a,by omega⟩
  unfold Fm at a;simp only[Mx]at a;have g:=a.2.1.1.1;have f:m.2.Nodup:=nK g
  have b: ∀x∈m.2,fi c x=true:=fun x j=>by
   have:=NB.1 a.2.1.1.2 x j;unfold eC at this;rw[Mx]at this;exact am this.1
  have:=jK f b;have:=h.toRight.Z6;refine⟨fun e=> ?_,by omega⟩;rw[e]at g;cases g
 cases a
def vh(env:cf)(c:aq)(h:ct c)(t:tS)(f:fi c t.src=true)(g:fi c t.target=true)(mem:List eg)(H:mem.length<=1000000)(A:bm c mem=true):
 b8 prog env 119 [.agg (aA c), .agg (ax t),go mem] (.own 3 1 ((I2 c t.src t.target mem).map aB)):=by
 obtain⟨a,w,y,v,M⟩:=t;simp only at f g |-;obtain⟨k,s,rfl,e,n⟩:=dB g;have o:=h.toRight;have z:=h.Z6;obtain⟨K,L⟩:=FV h g A;have r: ¬(k:Int)<0:=by omega
 have P:=(Mt.1 e).1;have u:((k:Nat):Int)< (c.Z9.length:Int):=by omega
 have f1:=mN env c o ⟨a,w,y,v,(k:Int)⟩ f;have f2:=Gi env c o (k9 c (k:Int) mem) L (n5 c a (k:Int));have J:=Iv c (k9 c (k:Int) mem) (n5 c a (k:Int))
 have j: ∀x∈zL (wg c (k9 c (k:Int) mem) (n5 c a (k:Int))),fi c x=true:=fun x q=>by
  obtain⟨i,E,rfl⟩:=NG.1 q;exact aW.2 (NZ.1 (NF.1 E).1)
 have f3:=Gk env c h (zL (wg c (k9 c (k:Int) mem) (n5 c a (k:Int)))) (by rw[ar];omega)
 have p:(z6 c (zL (wg c (k9 c (k:Int) mem) (n5 c a (k:Int))))).length<=1000000:=by
  have:=tf c (c.Z9.length+1) (zL (wg c (k9 c (k:Int) mem) (n5 c a (k:Int))));rw[ar]at this;unfold z6;omega
 have f4:=se env c o (z6 c (zL (wg c (k9 c (k:Int) mem) (n5 c a (k:Int))))) p fun x q=>(aI.1 (((tc h j).1 q).in h j)).1;unfold I2;rw[AM h K];rw[bl]at f3;have f5:=ce env s;have f6:=FG env mem (k:Int) H
 have b:k9 c (k:Int) mem=if aU s=true then(if TX mem (k:Int)=[] then [s.initial] else TX mem (k:Int)) else [(k:Int)]:=by
  unfold k9;rw[n];simp only;cases I:aU s with
  |false=>rfl
  | true=>
    unfold TX;cases C:mem.find? (fun m=>m.1==(k:Int)) with
    | some m=>
      simp only[Nn];rw[Mv (tG h A m (Om C)).1]
    |none=>rfl
 generalize n5 c a (k:Int)=D at*;generalize z6 c (zL (wg c (k9 c (k:Int) mem) D))=G at*;generalize wg c (k9 c (k:Int) mem) D=N at*;generalize TX mem (k:Int)=O at*;unfold ax at f1;simp only at f1;unfold aA at f1 f2 f3 f4;unfold aL at f5;cases d:aU s with
 | false=>
   rw[d]at f5;rw[b,d,Mv Nb]at f2;refine qf func119 call119 ntmps119 results119 ?_;have F:=kv Us Uv Ut r u e;exact Uc f5 f1 f2 f3 f4
 | true=>
   rw[d]at f5;rw[b,d,Mw rfl]at f2;by_cases l:O=[]
   ·rw[Mw l]at f2;subst l;refine qf func119 call119 ntmps119 results119 ?_;have F:=kv Us Uv Ut r u e;exact TL f5 f6 f1 f2 f3 f4
   rw[Mv l]at f2
   have B:((O.length:Int)==0)=false:=by
    have:=Oi.2 l;simp;omega
   refine qf func119 call119 ntmps119 results119 ?_;have F:=m7 Us Uv Ut r u e B;exact TL f5 f6 f1 f2 f3 f4
end
section
open Go.RowKit Go.Extern.Stop Go.Stop Go.Extern
def Tryz.typeOfS(v:Value)(w:World):(ReflectliteType.typeOf #[.iface 369 v]).run prog w= .ok (.iface 237 (.agg #[.pointer (some ⟨11,369,none⟩)])) w:=by kernel_rfl
def Tryz.assignS(w:World):(ReflectliteType.relation "AssignableTo" ReflectliteType.assignableTo #[.agg #[.pointer (some ⟨11,369,none⟩)], .iface 237 (.agg #[.pointer (some ⟨11,134,none⟩)])]).run prog w= .ok (.bool false) w:=by kernel_rfl
def Tryz.noAsE(v:Value)(a:TypeId)(w:World):(Instr.typeAssert (.iface 369 v) a 263 true).run prog w= .ok (.tuple #[.nilIface, .bool false]) w:=Pv Tryz.underlying263 (by kernel_rfl) (by kernel_rfl) v a w
def z8(e t:Addr)(w:World)(hg:w.cell? ⟨9,0,none⟩=some zE):
 Calls prog 70 #[.iface 369 (.pointer (some e)), .iface 155 (.pointer (some t))] w fun ev w'=>ev= .returned (.bool false)/\w'=((w.alloc (.cells #[.pointer (some t)] 155)).alloc (.cells #[.pointer (some ⟨11,155,none⟩), .pointer (some ⟨w.heap.size,0,none⟩), .int .u64 150] 210)).alloc (.cells #[.pointer (some ⟨11,155,none⟩), .pointer (some ⟨w.heap.size,0,none⟩), .int .u64 150] 210):=by
 have h6:=@OC prog 125 _ (fun args=>ReflectliteValue.unpack (args.getD 0 (.tuple #[]))) func125 (by kernel_rfl) (by kernel_rfl) (by kernel_rfl) (by kernel_rfl);have h7:=@OC prog 126 _ (ReflectliteValue.methodAny (ReflectliteValue.valueError "reflectlite.Value.Type" 0) (fun t _ _ _=>ReflectliteType.toType t)) func126 (by kernel_rfl) (by kernel_rfl) (by kernel_rfl) (by kernel_rfl);have h8:=@OC prog 127 _ (ReflectliteValue.method (ReflectliteValue.valueError "reflectlite.Value.IsNil" 0) ReflectliteValue.isNil) func127 (by kernel_rfl) (by kernel_rfl) (by kernel_rfl) (by kernel_rfl);have h27:=@OC prog 345 _ (ReflectliteType.abiMethod fun t=>do pure (.int .u8 (<-Rtype.kind t))) func345 (by kernel_rfl) (by kernel_rfl) (by kernel_rfl) (by kernel_rfl);have h37:=@OC prog 356 _ (ReflectliteType.method ReflectliteType.elem) func356 (by kernel_rfl) (by kernel_rfl) (by kernel_rfl) (by kernel_rfl);have h38:=@OC prog 357 _ (ReflectliteType.relation "Implements" ReflectliteType.implements_) func357 (by kernel_rfl) (by kernel_rfl) (by kernel_rfl) (by kernel_rfl);have h10:=@OC prog 103 _ ReflectliteType.typeOf func103 (by kernel_rfl) (by kernel_rfl) (by kernel_rfl) (by kernel_rfl);have h35:=@OC prog 354 _ (ReflectliteType.relation "AssignableTo" ReflectliteType.assignableTo) func354 (by kernel_rfl) (by kernel_rfl) (by kernel_rfl) (by kernel_rfl);have tO:=Tryz.typeOfS;have mA:=Tryz.asmethodAssignableTo;have a25:=Tryz.assignS;have f6:=Tryz.asvalueOf27;have f7:=Tryz.astype27;have mK:=Tryz.asmethodKind;have mE:=Tryz.asmethodElem;have mI:=Tryz.asmethodImplements;have k27:=Tryz.askind27;have k25:=Tryz.askind25;have e27:=Tryz.aselem27;have i25:=Tryz.asimplements25;have aE:=Tryz.noAsE;have uE:=Tryz.noUnwrapE;have vE:=Tryz.noUnwrapsE;have n8:=Tryz.asisNil27 ⟨w.heap.size,0,none⟩ t ((w.alloc (.cells #[.pointer (some t)] 155)).alloc (.cells #[.pointer (some ⟨11,155,none⟩), .pointer (some ⟨w.heap.size,0,none⟩), .int .u64 150] 210)) (by simp);have hlt:9<w.heap.size:=ah hg
 have hg2:((w.alloc (.cells #[.pointer (some t)] 155)).alloc (.cells #[.pointer (some ⟨11,155,none⟩), .pointer (some ⟨w.heap.size,0,none⟩), .int .u64 150] 210)).cell? ⟨9,0,none⟩=some (.iface 237 (.agg #[.pointer (some ⟨11,40,none⟩)])):=by
  rw[OU _ _ ⟨9,0,none⟩ (by simp;omega),OU _ _ ⟨9,0,none⟩ hlt];exact hg
 go_enter func70,ntmps70
 go_wp2
 refine Pk 1 ?_;rw[Ow]
 go_wp2
 go_ret
 exact⟨rfl,rfl⟩
end
section
open Go.RowKit
def bZ(e t:Addr)(c:Value)(w:World)(h:w.cell? ⟨9,0,none⟩=some zE)(a:w.cell? t=some c)(d:w.frozen? t=false)(i:t.spot=none):
 Calls prog 70 #[.iface 134 (.pointer (some e)), .iface 155 (.pointer (some t))] w fun ev g=>ev= .returned (.bool true)/\g.cell? t=some (.pointer (some e))/\g.frozen? t=false/\Below t.block w g:=by
 refine(MY e t c w h a d).mono ?_;rintro ev g ⟨rfl,rfl⟩
 have f:t.block<w.heap.size:=by
  obtain⟨b,o,sp⟩:=t;cases i;exact ah a
 refine⟨rfl,?_,?_,?_⟩
 ·refine World.cell?_setCell_same (u:=c) _ _ _ ?_;rw[OU _ _ t (by simp;omega),OU _ _ t (by simp;omega),OU _ _ t (by simp;omega),OU _ _ t f,a]
 ·rw[World.frozen?_setCell,PD _ _ t (by simp;omega),PD _ _ t (by simp;omega),PD _ _ t (by simp;omega),PD _ _ t (Qt f)];exact d
 exact(((((OY _ _).alloc (by omega) _).alloc (by simp;omega) _).alloc (by simp;omega) _).alloc (by simp;omega) _).setCell (ND _) _
def Iy(b0 o0 b1 o1:Nat)(w:World)(q0:Int)(n0:q0<0)(hp0:w.cell? ⟨b0,o0+1,none⟩=some (.int .i64 q0))(hs0:w.cell? ⟨b0,o0+2,none⟩=some (.iface 134 (.pointer (some ⟨b1,o1,none⟩))))(p:Int)(h0:0<=p)(hp1:w.cell? ⟨b1,o1+1,none⟩=some (.int .i64 p))(hg:w.cell? ⟨9,0,none⟩=some zE):
 Calls prog 40 #[.iface 134 (.pointer (some ⟨b0,o0,none⟩))] w fun e w'=>e= .returned (.int .i64 p)/\Below w.heap.size w w':=by
 have hb0:=(OY w.heap.size w).alloc (ND _) (.cells #[.pointer none] 134);have G0:=Nc (dk hg hb0);have P0:=Nc (dk hp0 hb0);have l0:=ah hp0;have S0:=Nc (dk hs0 hb0);have m0:=ah hs0;have P1:=Nc (dk hp1 hb0);have l1:=ah hp1;have B0:=Nc hb0;have hgb:=ah hg;have hwb:gc (w.alloc (.cells #[.pointer none] 134)) w.heap.size 134 #[.pointer none]:=gc.new w 134 #[.pointer none];have n0': ¬0<=q0:=by omega
 try clear hb0 hg hp0 hp1 hs0
 go_enter func40,ntmps40
 go_wp2_with fail
 refine Pk 2 ?_;rw[Ow]
 go_wp2_with fail
 refine(bZ ⟨b0,o0,none⟩ ⟨w.heap.size,0,none⟩ (.pointer none) _ G0.out (by simp) (hwb.frozen 0) rfl).mono ?_;rintro e w2 ⟨rfl,hc0,fz0,hb⟩;have P0:=Nc ((hb.cell (p:=⟨b0,o0+1,none⟩) l0).trans P0.out);have S0:=Nc ((hb.cell (p:=⟨b0,o0+2,none⟩) m0).trans S0.out);have P1:=Nc ((hb.cell (p:=⟨b1,o1+1,none⟩) l1).trans P1.out);have G1:=Nc ((hb.cell (p:=⟨9,0,none⟩) hgb).trans G0.out);have B1:=Nc (B0.out.trans hb);have hp0:=P0.out;have hs0:=S0.out;try clear hb
 go_wp2_with fail
 try clear hp0 hs0
 rw[Ow]
 go_wp2_with fail
 refine(bZ ⟨b1,o1,none⟩ ⟨w.heap.size,0,none⟩ (.pointer (some ⟨b0,o0,none⟩)) w2 G1.out hc0 (fz0) rfl).mono ?_;rintro e w3 ⟨rfl,hc1,fz1,hb⟩;have P1:=Nc ((hb.cell (p:=⟨b1,o1+1,none⟩) l1).trans P1.out);have G2:=Nc ((hb.cell (p:=⟨9,0,none⟩) hgb).trans G1.out);have B2:=Nc (B1.out.trans hb);have hp1:=P1.out;try clear hb
 go_wp2_with fail
 try clear hp1
 go_ret
 exact⟨rfl,B2.out⟩
def Gu(b0 o0 b1 o1:Nat)(w:World)(q0:Int)(n0:q0<0)(hp0:w.cell? ⟨b0,o0+1,none⟩=some (.int .i64 q0))(hs0:w.cell? ⟨b0,o0+2,none⟩=some (.iface 134 (.pointer (some ⟨b1,o1,none⟩))))(p:Int)(h0:p<0)(hp1:w.cell? ⟨b1,o1+1,none⟩=some (.int .i64 p))(a:Addr)(hs1:w.cell? ⟨b1,o1+2,none⟩=some (.iface 369 (.pointer (some a))))(hg:w.cell? ⟨9,0,none⟩=some zE):
 Calls prog 40 #[.iface 134 (.pointer (some ⟨b0,o0,none⟩))] w fun e w'=>e= .returned (.int .i64 (-1))/\Below w.heap.size w w':=by
 have hb0:=(OY w.heap.size w).alloc (ND _) (.cells #[.pointer none] 134);have G0:=Nc (dk hg hb0);have P0:=Nc (dk hp0 hb0);have l0:=ah hp0;have S0:=Nc (dk hs0 hb0);have m0:=ah hs0;have P1:=Nc (dk hp1 hb0);have l1:=ah hp1;have S1:=Nc (dk hs1 hb0);have m1:=ah hs1;have B0:=Nc hb0;have hgb:=ah hg;have hwb:gc (w.alloc (.cells #[.pointer none] 134)) w.heap.size 134 #[.pointer none]:=gc.new w 134 #[.pointer none];have n0': ¬0<=q0:=by omega
 have h0': ¬0<=p:=by omega
 try clear hb0 hg hp0 hp1 hs0 hs1
 go_enter func40,ntmps40
 go_wp2_with fail
 refine Pk 3 ?_;rw[Ow]
 go_wp2_with fail
 refine(bZ ⟨b0,o0,none⟩ ⟨w.heap.size,0,none⟩ (.pointer none) _ G0.out (by simp) (hwb.frozen 0) rfl).mono ?_;rintro e w2 ⟨rfl,hc0,fz0,hb⟩;have P0:=Nc ((hb.cell (p:=⟨b0,o0+1,none⟩) l0).trans P0.out);have S0:=Nc ((hb.cell (p:=⟨b0,o0+2,none⟩) m0).trans S0.out);have P1:=Nc ((hb.cell (p:=⟨b1,o1+1,none⟩) l1).trans P1.out);have S1:=Nc ((hb.cell (p:=⟨b1,o1+2,none⟩) m1).trans S1.out);have G1:=Nc ((hb.cell (p:=⟨9,0,none⟩) hgb).trans G0.out);have B1:=Nc (B0.out.trans hb);have hp0:=P0.out;have hs0:=S0.out;try clear hb
 go_wp2_with fail
 try clear hp0 hs0
 rw[Ow]
 go_wp2_with fail
 refine(bZ ⟨b1,o1,none⟩ ⟨w.heap.size,0,none⟩ (.pointer (some ⟨b0,o0,none⟩)) w2 G1.out hc0 (fz0) rfl).mono ?_;rintro e w3 ⟨rfl,hc1,fz1,hb⟩;have P1:=Nc ((hb.cell (p:=⟨b1,o1+1,none⟩) l1).trans P1.out);have S1:=Nc ((hb.cell (p:=⟨b1,o1+2,none⟩) m1).trans S1.out);have G2:=Nc ((hb.cell (p:=⟨9,0,none⟩) hgb).trans G1.out);have B2:=Nc (B1.out.trans hb);have hp1:=P1.out;have hs1:=S1.out;try clear hb
 go_wp2_with fail
 try clear hp1 hs1
 rw[Ow]
 go_wp2_with fail
 refine(z8 a ⟨w.heap.size,0,none⟩ w3 G2.out).mono ?_;rintro e w9 ⟨rfl,rfl⟩
 go_wp2_with fail
 go_ret
 have hsz:=B2.out.size;exact⟨rfl,((B2.out.alloc hsz _).alloc (by simp;omega) _).alloc (by simp;omega) _⟩
def Ix(b0 o0 b1 o1 b2 o2:Nat)(w:World)(q0:Int)(n0:q0<0)(hp0:w.cell? ⟨b0,o0+1,none⟩=some (.int .i64 q0))(hs0:w.cell? ⟨b0,o0+2,none⟩=some (.iface 134 (.pointer (some ⟨b1,o1,none⟩))))(q1:Int)(n1:q1<0)(hp1:w.cell? ⟨b1,o1+1,none⟩=some (.int .i64 q1))(hs1:w.cell? ⟨b1,o1+2,none⟩=some (.iface 134 (.pointer (some ⟨b2,o2,none⟩))))(p:Int)(h0:0<=p)(hp2:w.cell? ⟨b2,o2+1,none⟩=some (.int .i64 p))(hg:w.cell? ⟨9,0,none⟩=some zE):
 Calls prog 40 #[.iface 134 (.pointer (some ⟨b0,o0,none⟩))] w fun e w'=>e= .returned (.int .i64 p)/\Below w.heap.size w w':=by
 have hb0:=(OY w.heap.size w).alloc (ND _) (.cells #[.pointer none] 134);have G0:=Nc (dk hg hb0);have P0:=Nc (dk hp0 hb0);have l0:=ah hp0;have S0:=Nc (dk hs0 hb0);have m0:=ah hs0;have P1:=Nc (dk hp1 hb0);have l1:=ah hp1;have S1:=Nc (dk hs1 hb0);have m1:=ah hs1;have P2:=Nc (dk hp2 hb0);have l2:=ah hp2;have B0:=Nc hb0;have hgb:=ah hg;have hwb:gc (w.alloc (.cells #[.pointer none] 134)) w.heap.size 134 #[.pointer none]:=gc.new w 134 #[.pointer none];have n0': ¬0<=q0:=by omega
 have n1': ¬0<=q1:=by omega
 try clear hb0 hg hp0 hp1 hp2 hs0 hs1
 go_enter func40,ntmps40
 go_wp2_with fail
 refine Pk 3 ?_;rw[Ow]
 go_wp2_with fail
 refine(bZ ⟨b0,o0,none⟩ ⟨w.heap.size,0,none⟩ (.pointer none) _ G0.out (by simp) (hwb.frozen 0) rfl).mono ?_;rintro e w2 ⟨rfl,hc0,fz0,hb⟩;have P0:=Nc ((hb.cell (p:=⟨b0,o0+1,none⟩) l0).trans P0.out);have S0:=Nc ((hb.cell (p:=⟨b0,o0+2,none⟩) m0).trans S0.out);have P1:=Nc ((hb.cell (p:=⟨b1,o1+1,none⟩) l1).trans P1.out);have S1:=Nc ((hb.cell (p:=⟨b1,o1+2,none⟩) m1).trans S1.out);have P2:=Nc ((hb.cell (p:=⟨b2,o2+1,none⟩) l2).trans P2.out);have G1:=Nc ((hb.cell (p:=⟨9,0,none⟩) hgb).trans G0.out);have B1:=Nc (B0.out.trans hb);have hp0:=P0.out;have hs0:=S0.out;try clear hb
 go_wp2_with fail
 try clear hp0 hs0
 rw[Ow]
 go_wp2_with fail
 refine(bZ ⟨b1,o1,none⟩ ⟨w.heap.size,0,none⟩ (.pointer (some ⟨b0,o0,none⟩)) w2 G1.out hc0 (fz0) rfl).mono ?_;rintro e w3 ⟨rfl,hc1,fz1,hb⟩;have P1:=Nc ((hb.cell (p:=⟨b1,o1+1,none⟩) l1).trans P1.out);have S1:=Nc ((hb.cell (p:=⟨b1,o1+2,none⟩) m1).trans S1.out);have P2:=Nc ((hb.cell (p:=⟨b2,o2+1,none⟩) l2).trans P2.out);have G2:=Nc ((hb.cell (p:=⟨9,0,none⟩) hgb).trans G1.out);have B2:=Nc (B1.out.trans hb);have hp1:=P1.out;have hs1:=S1.out;try clear hb
 go_wp2_with fail
 try clear hp1 hs1
 rw[Ow]
 go_wp2_with fail
 refine(bZ ⟨b2,o2,none⟩ ⟨w.heap.size,0,none⟩ (.pointer (some ⟨b1,o1,none⟩)) w3 G2.out hc1 (fz1) rfl).mono ?_;rintro e w4 ⟨rfl,hc2,fz2,hb⟩;have P2:=Nc ((hb.cell (p:=⟨b2,o2+1,none⟩) l2).trans P2.out);have G3:=Nc ((hb.cell (p:=⟨9,0,none⟩) hgb).trans G2.out);have B3:=Nc (B2.out.trans hb);have hp2:=P2.out;try clear hb
 go_wp2_with fail
 try clear hp2
 go_ret
 exact⟨rfl,B3.out⟩
def Gt(b0 o0 b1 o1 b2 o2:Nat)(w:World)(q0:Int)(n0:q0<0)(hp0:w.cell? ⟨b0,o0+1,none⟩=some (.int .i64 q0))(hs0:w.cell? ⟨b0,o0+2,none⟩=some (.iface 134 (.pointer (some ⟨b1,o1,none⟩))))(q1:Int)(n1:q1<0)(hp1:w.cell? ⟨b1,o1+1,none⟩=some (.int .i64 q1))(hs1:w.cell? ⟨b1,o1+2,none⟩=some (.iface 134 (.pointer (some ⟨b2,o2,none⟩))))(p:Int)(h0:p<0)(hp2:w.cell? ⟨b2,o2+1,none⟩=some (.int .i64 p))(a:Addr)(hs2:w.cell? ⟨b2,o2+2,none⟩=some (.iface 369 (.pointer (some a))))(hg:w.cell? ⟨9,0,none⟩=some zE):
 Calls prog 40 #[.iface 134 (.pointer (some ⟨b0,o0,none⟩))] w fun e w'=>e= .returned (.int .i64 (-1))/\Below w.heap.size w w':=by
 have hb0:=(OY w.heap.size w).alloc (ND _) (.cells #[.pointer none] 134);have G0:=Nc (dk hg hb0);have P0:=Nc (dk hp0 hb0);have l0:=ah hp0;have S0:=Nc (dk hs0 hb0);have m0:=ah hs0;have P1:=Nc (dk hp1 hb0);have l1:=ah hp1;have S1:=Nc (dk hs1 hb0);have m1:=ah hs1;have P2:=Nc (dk hp2 hb0);have l2:=ah hp2;have S2:=Nc (dk hs2 hb0);have m2:=ah hs2;have B0:=Nc hb0;have hgb:=ah hg;have hwb:gc (w.alloc (.cells #[.pointer none] 134)) w.heap.size 134 #[.pointer none]:=gc.new w 134 #[.pointer none];have n0': ¬0<=q0:=by omega
 have n1': ¬0<=q1:=by omega
 have h0': ¬0<=p:=by omega
 try clear hb0 hg hp0 hp1 hp2 hs0 hs1 hs2
 go_enter func40,ntmps40
 go_wp2_with fail
 refine Pk 4 ?_;rw[Ow]
 go_wp2_with fail
 refine(bZ ⟨b0,o0,none⟩ ⟨w.heap.size,0,none⟩ (.pointer none) _ G0.out (by simp) (hwb.frozen 0) rfl).mono ?_;rintro e w2 ⟨rfl,hc0,fz0,hb⟩;have P0:=Nc ((hb.cell (p:=⟨b0,o0+1,none⟩) l0).trans P0.out);have S0:=Nc ((hb.cell (p:=⟨b0,o0+2,none⟩) m0).trans S0.out);have P1:=Nc ((hb.cell (p:=⟨b1,o1+1,none⟩) l1).trans P1.out);have S1:=Nc ((hb.cell (p:=⟨b1,o1+2,none⟩) m1).trans S1.out);have P2:=Nc ((hb.cell (p:=⟨b2,o2+1,none⟩) l2).trans P2.out);have S2:=Nc ((hb.cell (p:=⟨b2,o2+2,none⟩) m2).trans S2.out);have G1:=Nc ((hb.cell (p:=⟨9,0,none⟩) hgb).trans G0.out);have B1:=Nc (B0.out.trans hb);have hp0:=P0.out;have hs0:=S0.out;try clear hb
 go_wp2_with fail
 try clear hp0 hs0
 rw[Ow]
 go_wp2_with fail
 refine(bZ ⟨b1,o1,none⟩ ⟨w.heap.size,0,none⟩ (.pointer (some ⟨b0,o0,none⟩)) w2 G1.out hc0 (fz0) rfl).mono ?_;rintro e w3 ⟨rfl,hc1,fz1,hb⟩;have P1:=Nc ((hb.cell (p:=⟨b1,o1+1,none⟩) l1).trans P1.out);have S1:=Nc ((hb.cell (p:=⟨b1,o1+2,none⟩) m1).trans S1.out);have P2:=Nc ((hb.cell (p:=⟨b2,o2+1,none⟩) l2).trans P2.out);have S2:=Nc ((hb.cell (p:=⟨b2,o2+2,none⟩) m2).trans S2.out);have G2:=Nc ((hb.cell (p:=⟨9,0,none⟩) hgb).trans G1.out);have B2:=Nc (B1.out.trans hb);have hp1:=P1.out;have hs1:=S1.out;try clear hb
 go_wp2_with fail
 try clear hp1 hs1
 rw[Ow]
 go_wp2_with fail
 refine(bZ ⟨b2,o2,none⟩ ⟨w.heap.size,0,none⟩ (.pointer (some ⟨b1,o1,none⟩)) w3 G2.out hc1 (fz1) rfl).mono ?_;rintro e w4 ⟨rfl,hc2,fz2,hb⟩;have P2:=Nc ((hb.cell (p:=⟨b2,o2+1,none⟩) l2).trans P2.out);have S2:=Nc ((hb.cell (p:=⟨b2,o2+2,none⟩) m2).trans S2.out);have G3:=Nc ((hb.cell (p:=⟨9,0,none⟩) hgb).trans G2.out);have B3:=Nc (B2.out.trans hb);have hp2:=P2.out;have hs2:=S2.out;try clear hb
 go_wp2_with fail
 try clear hp2 hs2
 rw[Ow]
 go_wp2_with fail
 refine(z8 a ⟨w.heap.size,0,none⟩ w4 G3.out).mono ?_;rintro e w9 ⟨rfl,rfl⟩
 go_wp2_with fail
 go_ret
 have hsz:=B3.out.size;exact⟨rfl,((B3.out.alloc hsz _).alloc (by simp;omega) _).alloc (by simp;omega) _⟩
end
end Go.Proofs.YtfhkmjbjafeckaaGreatDoor
