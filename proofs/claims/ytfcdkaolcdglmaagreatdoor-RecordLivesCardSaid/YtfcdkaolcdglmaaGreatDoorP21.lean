/- Expressions' values where the variables are the caller's own row. -/
import Derived.Test.YtfcdkaolcdglmaaGreatDoorP20
set_option maxRecDepth 100000
set_option maxHeartbeats 16000000
set_option linter.unusedSimpArgs false
set_option linter.defProp false
namespace Go.Proofs.YtfcdkaolcdglmaaGreatDoor
open Go.Proofs.Tryz
section
open Go.RowKit
def jC(w:u0)(g:List mw):Option Bool:=if g=[] then some true else(rG w g).map fun n=>n != 0
def mK(c:aq)(n:Nat):List mw:=match c.trans[n]? with
 |some t=>t.guard
 |none=>[]
def dw(c:aq)(n:Nat):Fr:=c.trans.getD n ⟨0,[],[],[],0⟩
def fF{c:aq}{n:Nat}{t:Fr}(h:c.trans[n]? =some t):dw c n=t:=by
 unfold dw;rw[Oe,h];rfl
inductive Fd where
 |no
 |one (n:Nat)
 |bad (n:Nat)
def cw(c:aq)(w:u0):List Nat->Fd
 |[]=> .no
 | n::l=>match jC w (mK c n) with
   |none=> .bad n
   |some true=> .one n
   |some false=>cw c w l
def eh(c:aq)(w:u0)(ev:List UInt8):List Int->Fd
 |[]=> .no
 | k::l=>match cw c w (dm c k ev c.trans.length) with
   | .no=>eh c w ev l
   |r=>r
def dq(c:aq)(w:u0)(ev:List UInt8):List Nat->List Nat->Except Nat (List Nat)
 |[],o=> .ok o
 | i::l,o=>match eh c w ev ((i:Int)::mu c i) with
   | .bad n=> .error n
   | .no=>dq c w ev l o
   | .one n=>dq c w ev l (if o.contains n then o else o++[n])
def eQ(c:aq)(act:List Int)(a b:Nat):Bool:=(iS c act (dw c a)).any fun i=>(iS c act (dw c b)).contains i
def vR(c:aq)(act:List Int)(n k:Nat):Bool:= !eQ c act k n||bx c (dw c k).src (dw c n).src
def rx(c:aq)(act:List Int)(l:List Nat)(n:Nat):List Nat:=if l.all (vR c act n) then(l.filter fun k=> !eQ c act k n)++[n] else l
def Ki(c:aq)(act:List Int)(l:List Nat):List Nat:=l.foldl (rx c act) []
def zN(c:aq)(act:List Int)(w:u0)(ev:List UInt8)(a:List Nat):Except Nat (List Nat):=match dq c w ev a []with
 | .ok l=> .ok (Ki c act l)
 | .error n=> .error n
structure Fit(c:aq)(act:List Int)(l:List Nat):Prop where
 real: ∀n∈l,∃t,c.trans[n]? =some t/\t.src∈act
 two:l.Pairwise fun k n=>k≠n/\eQ c act k n=false
def Fit.nil(c:aq)(act:List Int):Fit c act []:=⟨fun _ h=>by simp at h, .nil⟩
def Fit.take{c:aq}{act:List Int}{l:List Nat}(h:Fit c act l){n:Nat}(k: ∃t,c.trans[n]? =some t/\t.src∈act)(j:n∉l):Fit c act (rx c act l n):=by
 unfold rx;split
 ·refine⟨fun m hm=> ?_,?_⟩
  ·rcases Of.1 hm with hm|hm
   ·exact h.real m (OY.1 hm).1
   rw[O2.1 hm];exact k
  refine Qs.2 ⟨h.two.sublist Pf,Rb ..,fun a g b i=> ?_⟩;rw[O2.1 i];obtain⟨d,f⟩:=OY.1 g;exact⟨fun e=>j (e ▸ d),by simpa using f⟩
 exact h
def Al{c:aq}{act:List Int}{l:List Nat}{n m:Nat}(h:m∈rx c act l n):m∈l\/m=n:=by
 unfold rx at h;split at h
 ·rcases Of.1 h with h|h
  ·exact .inl (OY.1 h).1
  exact .inr (O2.1 h)
 exact .inl h
def Bl{c:aq}{act:List Int} : ∀(l:List Nat)(o:List Nat),Fit c act o->(∀n∈l,∃t,c.trans[n]? =some t/\t.src∈act)->l.Nodup->(∀n∈l,n∉o)->Fit c act (l.foldl (rx c act) o)
 |[],o,h,_,_,_=>h
 | n::l,o,h,b,g,d=>by
   obtain⟨i,j⟩:=QZ.1 g;refine Bl l _ (h.take (b n (by simp)) (d n (by simp))) (fun m a=>b m (by simp[a])) j fun m a f=> ?_;rcases Al f with e|e
   ·exact d m (by simp[a]) e
   exact i (e ▸ a)
def Bm{c:aq}{w:u0}{n:Nat} : ∀ {l:List Nat},cw c w l= .one n->n∈l
 |[],h=>by simp[cw]at h
 | k::l,h=>by
   unfold cw at h;split at h
   ·cases h
   ·cases h;simp
   exact Pi _ (Bm h)
def yY{c:aq}{w:u0}{ev:List UInt8}{n:Nat} : ∀ {l:List Int},eh c w ev l= .one n-> ∃k∈l,∃t,c.trans[n]? =some t/\t.src=k/\t.Z7=ev
 |[],h=>by simp[eh]at h
 | k::l,h=>by
   unfold eh at h;split at h
   ·obtain⟨j,d,q⟩:=yY h;exact⟨j,Pi _ d,q⟩
   ·rename_i r f;have:=Bm h;unfold dm at this;obtain⟨e,a⟩:=OY.1 this;unfold yv at a;cases b:c.trans[n]? with
    |none=>rw[b]at a;cases a
    | some t=>
      rw[b]at a;simp only[OR]at a;exact⟨k,by simp,t,rfl,a.1,a.2⟩
def uX{c:aq}(h:cD c){act:List Int}(q:Lg c act){w:u0}{ev:List UInt8} : ∀(l o f:List Nat),dq c w ev l o= .ok f->(∀i∈l,(i:Int)∈act)->(∀n∈o,∃t,c.trans[n]? =some t/\t.src∈act/\t.Z7=ev)->o.Nodup->(∀n∈f,∃t,c.trans[n]? =some t/\t.src∈act/\t.Z7=ev)/\f.Nodup
 | [],o,f,e,_,g,d=>by
   simp only[dq,Except.ok.injEq]at e;subst e;exact⟨g,d⟩
 | i::l,o,f,e,u,g,d=>by
   unfold dq at e;split at e
   ·cases e
   ·exact uX h q l o f e (fun j r=>u j (by simp[r])) g d
   rename_i n C;refine uX h q l _ f e (fun j r=>u j (by simp[r])) ?_ ?_
   ·obtain⟨k,hk,t,x,D,p⟩:=yY C;have v:=u i (by simp);have y:=(h.src x).1
    have s:t.src∈act:=by
     rw[D]at y |-;rcases O7.1 hk with e|hk
     ·rw[e];exact v
     exact q.up h.toRight ((i:Int).toNat+1) i k (by omega) v hk (aJ.1 y).1
    split
    ·exact g
    intro m hm;rcases Of.1 hm with hm|hm
    ·exact g m hm
    rw[O2.1 hm];exact⟨t,x,s,p⟩
   split
   ·exact d
   rename_i B;refine QJ.2 ⟨d,by simp,fun a z b A e=>B ?_⟩;rw[O2.1 A]at e;rw[OQ, <-e];exact z
def ME{c:aq}(h:cD c){l:List Nat}(d: ∀k∈l,k<c.Z9.length){i:Nat}(hi:i∈Ul c l):i∈l:=by
 have b: ∀j,j∈RK c l l.length->j∈l:=fun j a=>Ph (OY.1 a).1
 have g:(zL (RK c l l.length)).all (fe c)=true:=OP.2 fun x f=>by
  obtain⟨j,a,rfl⟩:=OW.1 f;exact ak.2 (d j (b j a))
 unfold Ul at hi;rw[Aq h.toRight g]at hi;obtain⟨j,a,e⟩:=OW.1 hi;have:j=i:=by omega
 exact this ▸ b j a
def KC{c:aq}(h:cD c){act:List Int}(j:Lg c act){w:u0}{ev:List UInt8}{a f:List Nat}(hi: ∀i∈a,(i:Int)∈act)(e:zN c act w ev a= .ok f):Fit c act f:=by
 unfold zN at e;split at e
 ·rename_i l m;cases e;obtain⟨d,g⟩:=uX h j a [] l m hi (fun n b=>by simp at b) .nil;exact Bl l [] (Fit.nil c act) (fun n b=>by obtain⟨t,o,p,_⟩:=d n b;exact⟨t,o,p⟩) g (fun n _ k=>by simp at k)
 cases e
def yJ{c:aq}(h:cD c){mem:List ed}(i:bu c mem=true): ∀m∈mem,m.2≠[]/\m.2.length<=32:=fun m d=>by
 have a:=(mD i).2 m d;unfold mz at a;split at a
 ·split at a
  ·rw[OJ,OR]at a;exact⟨fun e=>by rw[e]at a;simp at a,by omega⟩
  unfold O' at a;simp only[OJ]at a;have g:=a.2.1.1.1;have f:m.2.Nodup:=mq g
  have b: ∀x∈m.2,fe c x=true:=fun x j=>by
   have:=OP.1 a.2.1.1.2 x j;unfold dp at this;rw[OJ]at this;exact ah this.1
  have:=jE f b;have:=h.toRight.Z6;refine⟨fun e=> ?_,by omega⟩;rw[e]at g;cases g
 cases a
end
section
open Go.RowKit Go.Extern.Stop Go.Stop Go.Extern
end
section
end
section
open Go.RowKit
def tD(c:aq)(t:Fr)(mem:List ed):List Nat:=if t.target<0 then [] else L8 c t.src t.target mem
def EE(env:b7)(i j:Addr)(o:fk env i j)(c:aq)(h:cD c)(d:h9 c)(mem:List ed)(l:mem.length<=1000000)(n: ∀m∈mem,ek m.2.length 8)(k:Nat)(t:Fr)(f:c.trans[k]? =some t)(b:bu c mem=true):cy prog env 206 [aH c,I k,i9 mem] (.tuple [.seq 1 ((tD c t mem).map aB),gc]):=by
 have f0:=qF env i j o c h d mem l n;unfold LJ at f0;rw[b,OL rfl]at f0;have f1:=o5 env c d k t f;unfold tD;unfold cN at f1;by_cases a:t.target<0
 ·rw[OL a];unfold aH at f0 f1 |-;refine qw func206 call206 ntmps206 results206 ?_;have F:=a;repeat refine PJ f0 f1 ?_
  (refine aO ?_;refine⟨_,(by show (au _ _ _).run _=some _;simp only[go_sem,F];rfl),?_⟩)
  exact .of (.tuple (.cons (.nil 1) (.cons (.refl _) .nil))) (fun _ _ _ h=>by cases h) (fun _ _ _ h=>by cases h)
 rw[OK a]
 have g:fe c t.target=true:=by
  rcases (h.src f).2 with e|e
  ·omega
  exact e
 have f2:=CY env c h d t (h.src f).1 g mem l (fun m p=>by have:=(yJ h b m p).2;omega) b;unfold cN at f2;unfold aH at f0 f1 f2 |-;refine qf func206 call206 ntmps206 results206 ?_;have F:=a;exact UR f0 f1 f2
structure dg where
 act:List Int
 vars:List Int
 mem:List ed
 Z4:List (List UInt8×Int)
 over:Bool
 outs:List Int
 Z1:List (List UInt8×Int)
abbrev M':=Option (Nat×List Int)
def VU(c:aq)(d:Int)(r:dg):u0:=⟨r.vars,d,(List.range c.Z9.length).map fun k:Nat=>r.act.contains (k:Int)⟩
def g9(l:List (List UInt8×Int))(s:List UInt8):List (List UInt8×Int):=l.filter fun x=> !(x.1==s)
def RC(x:List UInt8×Int):List (List UInt8×Int)->List (List UInt8×Int)
 |[]=>[x]
 |y::l=>if Op.bytesLess x.1 y.1=true then x::y::l else y::RC x l
def lP(r:dg)(s:List UInt8)(v:Int):dg×M':=if 16<=r.Z1.length then(r,some (8,[-1])) else({ r with Z1:=r.Z1++[(s,v)] },none)
def Tt(a:Int)(r:dg)(s:List UInt8)(v:Int):dg×M':=
 if v<0\/1099511627776-a<v then(r,some (2,[-1]))
 else if 8<=(g9 r.Z4 s).length then({ r with Z4:=g9 r.Z4 s },some (8,[-1]))
 else({ r with Z4:=RC (s,a+v) (g9 r.Z4 s) },none)
def Mh(r:dg)(v:Int):dg×M':=if 256<=r.outs.length then(r,some (8,[-1])) else({ r with outs:=r.outs++[v] },none)
def Vs(c:aq)(d b:Int)(r:dg)(a:n9):dg×M':=
 if a.kind=5 then({ r with Z4:=g9 r.Z4 a.name },none)
 else match rG (VU c d r) a.code with
  |none=>(r,some (2,[-1, -1]))
  | some v=>if a.kind=1 then({ r with vars:=r.vars.set a.n.toNat v },none)
    else if a.kind=2 then lP r a.name v
    else if a.kind=4 then Tt b r a.name v
    else Mh r v
def tI(c:aq)(d b:Int)(r:dg):List n9->dg×M'
 |[]=>(r,none)
 | a::l=>match Vs c d b r a with
   |(e,none)=>tI c d b e l
   |x=>x
def Ep(c:aq)(i:Int):List n9:=match at_ c i with
 |some s=>s.out
 |none=>[]
def V2(c:aq)(i:Int):List n9:=match at_ c i with
 |some s=>s.ZW
 |none=>[]
def eP(c:aq)(i:Int):Int:=match at_ c i with
 |some s=>s.kind
 |none=>0
def LV(c:aq)(i:Int):List UInt8:=match at_ c i with
 |some s=>s.name
 |none=>[]
def bd(c:aq)(d a:Int)(r:dg):List Int->dg×M'
 |[]=>(r,none)
 | i::l=>match tI c d a r (Ep c i) with
   |(b,none)=>bd c d a { b with act:=b.act.filter fun k=> !(k==i) } l
   |x=>x
def gW(c:aq)(d a:Int)(r:dg):List Nat->dg×M'
 |[]=>(r,none)
 | n::l=>match tI c d a r (dw c n).ZZ with
   |(b,none)=>gW c d a b l
   |x=>x
def bA(c:aq)(d a:Int)(r:dg)(f:List Int):List Int->(dg×M')×List Int
 |[]=>((r,none),f)
 | i::l=>if r.act.contains i=true then bA c d a r f l
   else match tI c d a { r with act:=bi (r.act++[i]) } (V2 c i) with
    |(b,none)=>bA c d a b (if eP c i=3 then f++[i] else f) l
    |x=>(x,[])
def rY(c:aq)(i:Int):List UInt8:=[100,111,110,101,46]++LV c i
def fX(c:aq)(r:dg)(o:List Int):List Int->(dg×M')×List Int
 |[]=>((r,none),o)
 | i::l=>if aQ c i<0 then fX c { r with over:=true } o l
   else match lP r (rY c (aQ c i)) 0 with
    |(a,none)=>fX c a (if 0<=aQ c (aQ c i)/\eP c (aQ c (aQ c i))=2 then o++[aQ c (aQ c i)] else o) l
    |x=>(x,[])
def vU(c:aq)(act:List Int):Nat->Int->Bool
 |0,_=>false
 | f+1,i=>if eP c i=3 then true
   else if eP c i=1 then(match (hU c i).find? fun k=>act.contains k with
    |some k=>eP c k==3
    |none=>false)
   else(hU c i).all fun k=>vU c act f k
def Dh(c:aq)(act:List Int)(i:Int):Bool:=act.contains i&&vU c act 40 i
def iq(c:aq)(r:dg):List Int->dg×M'
 |[]=>(r,none)
 | g::l=>if Dh c r.act g=true then(match lP r (rY c g) 0 with
    |(a,none)=>iq c a l
    |x=>x)
   else iq c r l
def DH(c:aq)(r:dg)(f:List Int):dg×M':=match fX c r [] f with
 |((a,none),o)=>iq c a (zL (ca c o))
 |(x,_)=>x
def ip(c:aq)(d a:Int)(r:dg)(l:List Int):dg×M':=match bA c d a r [] l with
 |((b,none),f)=>DH c b f
 |(x,_)=>x
def fj(c:aq)(act:List Int)(a:List Nat):List Int:=a.flatMap fun n=>iS c act (dw c n)
def toR(c:aq)(mem:List ed)(a:List Nat):List Nat:=a.flatMap fun n=>tD c (dw c n) mem
def tS(c:aq)(d b:Int)(r:dg)(f:List Nat):dg×M':=
 let a:=ca c (fj c r.act f)
 let e:=u5 c r.act (zL a) r.mem
 match bd c d b { r with mem:=e } (zL a).reverse with
 |(g,none)=>match gW c d b g f with
   |(h,none)=>ip c d b h (zL (ca c (zL (toR c e f))))
   |x=>x
 |x=>x
def cK(c:aq)(a:Int):dg×M':=ip c 0 a ⟨[],c.vars.map (·.start),[],[],false,[],[]⟩ (zL (kf c (-1)))
/-! Timers by their names -/
def Nw(x:List UInt8×Int):Prop:=bT x.1=true/\0<=x.2/\x.2<=1099511627776
structure RM(l:List (List UInt8×Int)):Prop where
 ZY:l.Pairwise fun a b=>Op.bytesLess a.1 b.1=true
 each: ∀x∈l,Nw x
def RM.without{l:List (List UInt8×Int)}(h:RM l)(s:List UInt8):RM (g9 l s):=⟨h.ZY.sublist Pf,fun x a=>h.each x (OY.1 a).1⟩
def rj{l:List (List UInt8×Int)}{s:List UInt8} : ∀x∈g9 l s,x.1≠s:=fun x a=>by
 have:=(OY.1 a).2;simpa using this
def qH(l:List (List UInt8×Int))(s:List UInt8):(g9 l s).length<=l.length:=Ol ..
def yR{x y:List UInt8×Int} : ∀ {l:List (List UInt8×Int)},y∈RC x l↔y=x\/y∈l
 |[]=>by simp[RC]
 | z::l=>by
   unfold RC;split
   ·simp
   rw[O7,yR,O7];constructor
   ·rintro(h|h|h)
    ·exact .inr (.inl h)
    ·exact .inl h
    exact .inr (.inr h)
   rintro(h|h|h)
   ·exact .inr (.inl h)
   ·exact .inl h
   exact .inr (.inr h)
def FC(x:List UInt8×Int): ∀l,(RC x l).length=l.length+1
 |[]=>rfl
 | z::l=>by
   unfold RC;split
   ·rfl
   rw[OU,FC x l,OU]
def uS{x:List UInt8×Int} : ∀ {l:List (List UInt8×Int)},(l.Pairwise fun a b=>Op.bytesLess a.1 b.1=true)->(∀y∈l,y.1≠x.1)->(RC x l).Pairwise fun a b=>Op.bytesLess a.1 b.1=true
 |[],_,_=>Rb ..
 | z::l,h,f=>by
   obtain⟨e,g⟩:=Ps.1 h;unfold RC;split
   ·rename_i d;refine Ps.2 ⟨fun y c=> ?_,h⟩;rcases O7.1 c with rfl|c
    ·exact d
    exact ej d (e y c)
   rename_i d;refine Ps.2 ⟨fun y c=> ?_,uS g fun y c=>f y (Pi _ c)⟩;rcases yR.1 c with rfl|c
   ·cases i:Op.bytesLess z.1 y.1 with
    |true=>rfl
    |false=>exact absurd (eu i (by simpa using d)) (f z (by simp))
   exact e y c
def RM.ins{l:List (List UInt8×Int)}(h:RM l){x:List UInt8×Int}(c:Nw x)(b: ∀y∈l,y.1≠x.1):RM (RC x l):=⟨uS h.ZY b,fun y a=>by
 rcases yR.1 a with rfl|a
 ·exact c
 exact h.each y a⟩
/-! Actions -/
structure fy(c:aq)(r:dg):Prop where
 len:r.vars.length=c.vars.length
 vars: ∀x∈r.vars,aL x=true
 Z4:RM r.Z4
 ZE:r.Z4.length<=8
 outs:r.outs.length<=256
 Z1:r.Z1.length<=16
 raf: ∀e∈r.Z1,aL e.2=true
structure sw(r r1:dg):Prop where
 act:r1.act=r.act
 mem:r1.mem=r.mem
 over:r1.over=r.over
def sw.rfl{r:dg} :sw r r:=⟨Eq.refl _,Eq.refl _,Eq.refl _⟩
def sw.trans{r a r2:dg}(h:sw r a)(k:sw a r2):sw r r2:=⟨k.act.trans h.act,k.mem.trans h.mem,k.over.trans h.over⟩
def uB{c:aq}{r:dg}(h:fy c r)(s:List UInt8){v:Int}(b:aL v=true):fy c (lP r s v).1/\sw r (lP r s v).1:=by
 unfold lP;split
 ·exact⟨h, .rfl⟩
 rename_i d;refine⟨{ h with Z1:= ?_,raf:=fun e a=> ?_ },⟨rfl,rfl,rfl⟩⟩
 ·simp only[ON,Pa];omega
 rcases Of.1 a with q|q
 ·exact h.raf e q
 rw[O2.1 q];exact b
def ud{l:List mw}{vs ss:Int}(h:cP l vs ss=true):um vs ss l 0=some 1/\l.length<=32:=by
 unfold cP at h;rw[P4]at h;unfold iu at h;split at h
 ·omega
 rename_i b;split at h
 ·rename_i a;exact⟨a,by omega⟩
 omega
def Kc{c:aq}{r:dg}(h:fy c r){d:Int}(a:aL d=true):(VU c d r).Ok:=⟨h.vars,a⟩
def Mq{c:aq}{d e:Int}(n:aL d=true)(s:0<=e/\e<=1099511627776){r:dg}(h:fy c r){a:n9}(b:iM c.vars.length c.Z9.length a=true):fy c (Vs c d e r a).1/\sw r (Vs c d e r a).1:=by
 unfold Vs;split
 ·exact⟨{ h with Z4:=h.Z4.without _,ZE:=O3 (qH ..) h.ZE },⟨rfl,rfl,rfl⟩⟩
 rename_i m;split
 ·exact⟨h, .rfl⟩
 rename_i v o
 have g:cP a.code c.vars.length c.Z9.length=true:=by
  unfold iM at b;repeat' split at b
  all_goals (first|(exact absurd ‹a.kind=5› m)|(simp only[OJ]at b;exact b.2)|cases b)
 have f:=Hx (Kc h n) (ud g).1 o;split
 ·refine⟨{ h with len:=by simp only[QO];exact h.len,vars:=fun x j=> ?_ },⟨rfl,rfl,rfl⟩⟩;rcases List.mem_or_eq_of_mem_set j with j|rfl
  ·exact h.vars x j
  exact f
 split
 ·exact uB h _ f
 split
 ·rename_i k p l;unfold Tt;split
  ·exact⟨h, .rfl⟩
  rename_i t;split
  ·exact⟨{ h with Z4:=h.Z4.without _,ZE:=O3 (qH ..) h.ZE },⟨rfl,rfl,rfl⟩⟩
  rename_i q
  have i:bT a.name=true:=by
   unfold iM at b;rw[OK k,OL (.inr l)]at b;simp only[OJ]at b;exact b.1.2
  refine⟨{ h with Z4:=(h.Z4.without _).ins ⟨i,?_⟩ rj,ZE:=by simp only[FC];omega },⟨rfl,rfl,rfl⟩⟩;simp only;omega
 unfold Mh;split
 ·exact⟨h, .rfl⟩
 refine⟨{ h with outs:= ?_ },⟨rfl,rfl,rfl⟩⟩;simp only[ON,Pa];omega
def mV{c:aq}{d f:Int}(k:aL d=true)(m:0<=f/\f<=1099511627776): ∀ {l:List n9}{r:dg},fy c r->(∀a∈l,iM c.vars.length c.Z9.length a=true)->fy c (tI c d f r l).1/\sw r (tI c d f r l).1
 |[],r,h,_=>⟨h, .rfl⟩
 | a::l,r,h,j=>by
   obtain⟨g,i⟩:=Mq k m h (j a (by simp));unfold tI;split
   ·rename_i q e;rw[e]at g i;obtain⟨o,p⟩:=mV (l:=l) k m g fun b n=>j b (by simp[n]);exact⟨o,i.trans p⟩
   exact⟨g,i⟩
structure Uh(c:aq):Prop where
 out: ∀i,∀a∈Ep c i,iM c.vars.length c.Z9.length a=true
 ZW: ∀i,∀a∈V2 c i,iM c.vars.length c.Z9.length a=true
 tr: ∀(n:Nat)(t:Fr),c.trans[n]? =some t-> ∀a∈t.ZZ,iM c.vars.length c.Z9.length a=true
def uN{c:aq}(o:Uh c){d a:Int}(p:aL d=true)(q:0<=a/\a<=1099511627776): ∀ {l:List Int}{r:dg},fy c r->fy c (bd c d a r l).1/\(bd c d a r l).1.mem=r.mem/\(bd c d a r l).1.over=r.over/\((bd c d a r l).2=none->(bd c d a r l).1.act=r.act.filter fun k=> !l.contains k)
 |[],r,h=>⟨h,rfl,rfl,fun _=>(List.filter_eq_self.2 fun _ _=>rfl).symm⟩
 | i::l,r,h=>by
   obtain⟨m,b⟩:=mV p q h (o.out i);unfold bd;split
   ·rename_i f e;rw[e]at m b;obtain⟨u,v,w,y⟩:=uN o (l:=l) p q (r:={ f with act:=f.act.filter fun k=> !(k==i) }) { m with };refine⟨u,v.trans b.mem,w.trans b.over,fun g=> ?_⟩;rw[y g];simp only;have n:f.act=r.act:=b.act;rw[n,List.filter_filter];apply QK;intro k _;rw[List.contains_cons,Bool.not_or,Bool.and_comm]
   rename_i x t
   exact⟨m,b.mem,b.over,fun g=>absurd g (by
    intro j;rcases s:tI c d a r (Ep c i) with⟨f,z⟩;rw[s]at j;simp only at j;subst j
    exact t f s)⟩
def Ff{c:aq}(g:Uh c){d a:Int}(i:aL d=true)(k:0<=a/\a<=1099511627776): ∀ {l:List Nat}{r:dg},(∀n∈l,∃t,c.trans[n]? =some t)->fy c r->fy c (gW c d a r l).1/\sw r (gW c d a r l).1
 |[],r,_,h=>⟨h, .rfl⟩
 | n::l,r,j,h=>by
   obtain⟨t,o⟩:=j n (by simp);obtain⟨b,f⟩:=mV (l:=(dw c n).ZZ) i k h (by rw[fF o];exact g.tr n t o);unfold gW;split
   ·rename_i u e;rw[e]at b f;obtain⟨q,s⟩:=Ff g (l:=l) i k (fun m p=>j m (by simp[p])) b;exact⟨q,f.trans s⟩
   exact⟨b,f⟩
def GE(env:b7)(w:u0)(o:mw)(R:List Int)(e:R.length<=1000)(a:1<=o.kind/\o.kind<=4)(h:nk o w.vars.length w.act.length=true):cy prog env 237 [cI R, .agg (cE o), .agg (jG w)] (.tuple [cI (R++[m9 w o]),B true]):=by
 have f0:=BZ env w o a h;have c:o.kind<=4:=a.2;have d:ek (R.length+1) 8:=aG (by omega) (by omega);have b:cI (R++[m9 w o])= .seq 1 (R.map aa++[[I (m9 w o)]]):=by rw[show R.map aa++[[I (m9 w o)]]=(R++[m9 w o]).map aa by simp]
 rw[b];try clear b
 generalize m9 w o=v at*;unfold cE jG at f0;refine qf func237 call237 ntmps237 results237 ?_;have F:=mX WO Xi c d;exact nb f0
def GC(env:b7)(w:u0)(o:mw)(a:Int)(R:List Int)(p:R.length<=1000)(d:o.kind=5\/o.kind=6)(c:aL a=true):cy prog env 237 [cI (R++[a]), .agg (cE o), .agg (jG w)] (.tuple [cI (R++[UG o.kind a]),B true]):=by
 have f0:=vf env o.kind a d c;have e: ¬o.kind<=4:=by omega
 have f:o.kind<=6:=by omega
 have g:ek (R.length+1) 8:=aG (by omega) (by omega);have b: ∀x:Int,cI (R++[x])= .seq 1 (R.map aa++[[I x]]):=fun x=>by rw[show R.map aa++[[I x]]=(R++[x]).map aa by simp]
 rw[b,b];have i:(R.map aa++[[I a]]).length=R.length+1:=by simp
 have j:(R.map aa++[[I a]])[R.length]? =some [I a]:=by rw[Og (by simp)];simp
 have k:(R.map aa++[[I a]]).take R.length=R.map aa:=by rw[Px (by simp),PI (by simp)]
 have h:IntKind.i64.wrap (((R.length+1:Nat):Int)-1)=(R.length:Int):=(bB (by omega) (by omega)).trans (by omega);have l:(R.length:Int)< ((R.length+1:Nat):Int):=by omega
 have m: ¬((R.length:Int)=((R.length+1:Nat):Int)):=by omega
 have n:(R.length:Int)<=((R.length+1:Nat):Int):=by omega
 generalize R.map aa++[[I a]]=X at*;generalize UG o.kind a=v at*;refine qf func237 call237 ntmps237 results237 ?_;have F:=fb WO Xi e f g h i j k l m n;exact nb f0
def GF(env:b7)(w:u0)(o:mw)(a b:Int)(R:List Int)(s:R.length<=1000)(g:7<=o.kind/\o.kind<=19)(e:aL a=true)(f:aL b=true):cy prog env 237 [cI (R++[a,b]), .agg (cE o), .agg (jG w)] (.tuple [cI (R++[(nr o.kind a b).1]),B (nr o.kind a b).2]):=by
 have f0:=tf env o.kind a b g e f;have h: ¬o.kind<=4:=by omega
 have i: ¬o.kind<=6:=by omega
 have j:ek (R.length+1) 8:=aG (by omega) (by omega);have c: ∀x:Int,cI (R++[x])= .seq 1 (R.map aa++[[I x]]):=fun x=>by rw[show R.map aa++[[I x]]=(R++[x]).map aa by simp]
 have d:cI (R++[a,b])= .seq 1 (R.map aa++[[I a],[I b]]):=by rw[show R.map aa++[[I a],[I b]]=(R++[a,b]).map aa by simp]
 rw[c,d];have l:(R.map aa++[[I a],[I b]]).length=R.length+2:=by simp
 have m:(R.map aa++[[I a],[I b]])[R.length]? =some [I a]:=by rw[Og (by simp)];simp
 have p5:(R.map aa++[[I a],[I b]])[R.length+1]? =some [I b]:=by rw[Og (by simp)];simp
 have n:(R.map aa++[[I a],[I b]]).take R.length=R.map aa:=by rw[Px (by simp),PI (by simp)]
 have k:IntKind.i64.wrap (((R.length+2:Nat):Int)-2)=(R.length:Int):=(bB (by omega) (by omega)).trans (by omega);have p3:IntKind.i64.wrap (((R.length+2:Nat):Int)-1)=((R.length+1:Nat):Int):=(bB (by omega) (by omega)).trans (by omega);have p:(R.length:Int)< ((R.length+2:Nat):Int):=by omega
 have p7:((R.length+1:Nat):Int)< ((R.length+2:Nat):Int):=by omega
 have q: ¬((R.length:Int)=((R.length+2:Nat):Int)):=by omega
 have r:(R.length:Int)<=((R.length+2:Nat):Int):=by omega
 generalize R.map aa++[[I a],[I b]]=X at*;generalize nr o.kind a b=v at*;refine qf func237 call237 ntmps237 results237 ?_;have F:=fb WO Xi h i j k p3 l m p5 n<|mX p p7 q r;exact nb f0
def kG(env:b7)(w:u0)(e:w.Ok)(h:w.vars.length<=1000000):cy prog env 221 [.agg (jG w)] gc:=by
 have f0:=dD env w.data;rw[e.data]at f0
 have f1: ∀x∈w.vars,cy prog env 78 [I x] (B true):=fun x b=>by
  have:=dD env x;rwa [e.vars x b]at this
 refine qf func221 call221 ntmps221 results221 ?_;have F:=jG.eq_1;repeat refine g8 f0 ?_
 refine lq w.vars.length (by omega) (fun j _=>[(3,B true),(10,cI w.vars),(11,I w.vars.length),(12,I j)]) (fun _ _=>[]) (fun _ _ _=>True) trivial ?_ ?_
 ·rintro j g c a d f _;obtain⟨x,b⟩:=gE a;have f2:=f1 x (OM b);have F:=mX WN d f b;repeat refine g8 f2 ?_
  exact qn (j+1) ⟨a,trivial⟩
 rintro g c d _;have F:=d;exact fl
def jl(a:Addr):Option Int->AV
 |some v=> .tuple [I v,gc]
 |none=> .tuple [I 0,dj (-1) (b6 a)]
def sC{vs ss n:Int}{o:mw}(h:bp vs ss n o=true):(1<=o.kind/\o.kind<=4/\aC o.kind=0)\/((o.kind=5\/o.kind=6)/\aC o.kind=1/\1<=n)\/(7<=o.kind/\o.kind<=19/\aC o.kind=2/\2<=n):=by
 have b:=jX h
 have c:aC o.kind=0/\1<=o.kind/\o.kind<=4\/aC o.kind=1/\(o.kind=5\/o.kind=6)\/aC o.kind=2/\7<=o.kind/\o.kind<=19\/aC o.kind= -1:=by
  unfold aC;split
  ·rename_i a;exact .inl ⟨rfl,a⟩
  split
  ·rename_i a;exact .inr (.inl ⟨rfl,a⟩)
  split
  ·rename_i a;exact .inr (.inr (.inl ⟨rfl,a⟩))
  exact .inr (.inr (.inr rfl))
 omega
def Kt{vs ss n:Int}{o:mw}(h:bp vs ss n o=true):nk o vs ss=true:=by
 simp only[bp,OJ]at h;exact h.2
def Ay{w:u0}{a:List mw}{i:Nat}{o:mw}{s:List Int}(h:a[i]? =some o)(b:ml w (a.take i) []=some s):ml w (a.take (i+1)) []=dx w o s:=by
 rw[Ot,h,lJ,b];exact o8 w o s
def run_stuck{w:u0}{a:List mw}{i:Nat}(h:ml w (a.take i) []=none):ml w a []=none:=by
 rw[<-Qn i a,lJ,h];rfl
def Bo(env:b7)(O K P:Addr)(he:fk env O P)(h2:env 3=some (b6 K))(w:u0)(H:w.Ok)(hl:w.vars.length<=1000000)(e:List mw)(N:cP e w.vars.length w.act.length=true):cy prog env 219 [DP e, .agg (jG w)] (jl K (rG w e)):=by
 have f0:=kG env w H hl;have f1:=gY env O P he e w.vars.length w.act.length;have Y:=gS h2;have f9:=bW env [118,97,108,117,101,46,69,118,97,108] K;obtain⟨E,Q⟩:=ud N;have Z:iu e w.vars.length w.act.length=0:=by unfold cP at N;simpa using N
 unfold gw at f1;rw[OL Z]at f1;have p:=Bn w E;have q0:(w.act.map rK).length=w.act.length:=O4 ..;have T: ∀(o:mw)(R:List Int),R.length<=1000->1<=o.kind/\o.kind<=4->nk o w.vars.length w.act.length=true->_:=fun o R=>GE env w o R;have U: ∀(o:mw)(a:Int)(R:List Int),_:=fun o a R=>GC env w o a R;have V: ∀(o:mw)(a b:Int)(R:List Int),_:=fun o a b R=>GF env w o a b R;unfold jG at f0 T U V |-;refine qf func219 call219 ntmps219 results219 ?_;repeat refine E8 f0 f1 ?_
 refine iX (dT.nil 8 1 (by simp only[go_sem])) ?_;refine Wp (D:=Nat×List Int) (fun d W=>[(3, .loc 3 (W 3) 0 0),(8,cI d.2.reverse),(31,DP e),(32,I e.length),(33,I d.1)]) (fun _ _=>[(3,⟨3,[[cI w.vars,I w.data, .seq 1 (w.act.map rK)]],252,false⟩)]) (fun d _ _=>d.1<=e.length/\ml w (e.take d.1) []=some d.2/\um w.vars.length w.act.length e 0=um w.vars.length w.act.length (e.drop d.1) d.2.length/\(∀x∈d.2,aL x=true)/\d.2.length<=d.1) (fun d=>e.length-d.1) (0,[]) ⟨O6 _,rfl,rfl,by simp,OO _⟩ ?_;rintro⟨i,s⟩ W X ⟨hi,n,q,m,h⟩;simp only at hi n q m h;by_cases l:i<e.length
 ·obtain⟨o,r,_⟩:=aT l;obtain⟨up,no⟩:=ot r q;have t:=mc l;have J:=aD l (by omega);have c:=Ay (w:=w) r n
  have g:bp w.vars.length w.act.length s.length o=true:=by
   cases g:bp w.vars.length w.act.length s.length o with
   |true=>rfl
   |false=>rw[no g]at E;cases E
  have j:=up g;have k:=Kt g;rcases sC g with⟨u,C,y⟩|⟨u,y,z⟩|⟨u,C,y,z⟩
  ·have f2:=T o s.reverse (by rw[Q6];omega) ⟨u,C⟩ k;have f:dx w o s=some (m9 w o::s):=by unfold dx;rw[OL C]
   rw[f]at c;have A:s.reverse++[m9 w o]=(m9 w o::s).reverse:=by simp
   rw[A]at f2;have F:=mX WO r t J;repeat refine g8 f2 ?_
   refine⟨(i+1,m9 w o::s),⟨l,c,?_,ga H k m f,?_⟩,?_,?_,?_⟩
   ·rw[j,y]
    congr 1<;>simp
   ·simp only[OU];omega
   ·exact qe
   ·exact qe
   simp only;omega
  ·match s,n,q,m,h,g,j,c,z with
   | a::s,n,q,m,h,g,j,c,z=>
     have M:=m a (by simp);have f2:=U o a s.reverse (by rw[Q6];simp only[OU]at h;omega) u M;have f:dx w o (a::s)=some (UG o.kind a::s):=by unfold dx;rw[OK (by omega),OL (by omega)]
     rw[f]at c;have A:s.reverse++[UG o.kind a]=(UG o.kind a::s).reverse:=by simp
     have L:s.reverse++[a]=(a::s).reverse:=by simp
     rw[A,L]at f2;have F:=mX WO r t J;repeat refine g8 f2 ?_
     refine⟨(i+1,UG o.kind a::s),⟨l,c,?_,ga H k m f,?_⟩,?_,?_,?_⟩
     ·rw[j,y]
      congr 1<;>simp
     ·simp only[OU]at h |-;omega
     ·exact qe
     ·exact qe
     simp only;omega
  ·match s,n,q,m,h,g,j,c,z with
   | b::a::s,n,q,m,h,g,j,c,z=>
     have hb:=m b (by simp);have M:=m a (by simp);have f2:=V o a b s.reverse (by rw[Q6];simp only[OU]at h;omega) ⟨u,C⟩ M hb;have f:dx w o (b::a::s)=if (nr o.kind a b).2 then some ((nr o.kind a b).1::s) else none:=by unfold dx;rw[OK (by omega),OK (by omega)]
     rw[f]at c;have A:s.reverse++[(nr o.kind a b).1]=((nr o.kind a b).1::s).reverse:=by simp
     have L:s.reverse++[a,b]=(b::a::s).reverse:=by simp
     rw[A,L]at f2;cases G:(nr o.kind a b).2 with
     | true=>
       rw[G]at f2 f c;simp only[PW]at f c;have F:=mX WO r t J;repeat refine g8 f2 ?_
       refine⟨(i+1,(nr o.kind a b).1::s),⟨l,c,?_,ga H k m f,?_⟩,?_,?_,?_⟩
       ·rw[j,y]
        congr 1
        simp only[OU];omega
       ·simp only[OU]at h |-;omega
       ·exact qe
       ·exact qe
       simp only;omega
     | false=>
       rw[G]at f2 c;simp only[On,P8]at c;have S:=run_stuck c;rw[p,S3]at S;rw[S];show gu _ _ _ _ _ _;unfold jl;have F:=ld WO r t J Y;exact po f2 f9
 obtain rfl:i=e.length:=by omega
 have t:=nl e.length;have B:=tE (OO _) q;rw[E]at B;rw[Ob,p]at n;obtain⟨v,G,rfl⟩:=P6.1 n;rw[G];unfold jl;have F:=mX WN t @List.reverse_cons.{0} @List.reverse_nil.{0};exact fl
def It(env:b7)(g h i:Addr)(n:fk env g i)(l:env 3=some (b6 h))(w:u0)(k:w.Ok)(j:w.vars.length<=1000000)(a:List mw)(m:a=[]\/cP a w.vars.length w.act.length=true)(b:Bool)(c:jC w a=some b):cy prog env 198 [DP a, .agg (jG w)] (.tuple [B b,gc]):=by
 have f0:=kG env w k j;have f1:=qG env [118,97,108,117,101,46,84,114,117,101];unfold jC at c;by_cases d:a=[]
 ·subst d;rw[OL rfl]at c;cases c;unfold jG at f0 |-;refine qf func198 call198 ntmps198 results198 ?_;repeat refine E8 f0 f1 ?_
  exact L0
 rw[OK d]at c;have f2:=Bo env g h i n l w k j a (m.resolve_left d)
 have f:((a.length:Int)==0)=false:=by
  have:a.length≠0:=fun e=>d (QV.1 e);simp;omega
 obtain⟨v,o,rfl⟩:=P6.1 c;rw[o]at f2;unfold jl at f2;unfold jG at f0 f2 |-;refine qf func198 call198 ntmps198 results198 ?_;have F:=f;exact po f2 f1
def Fw(env:b7)(g c h:Addr)(m:fk env g h)(k:env 3=some (b6 c))(w:u0)(j:w.Ok)(i:w.vars.length<=1000000)(a:List mw)(l:a=[]\/cP a w.vars.length w.act.length=true)(b:jC w a=none):cy prog env 198 [DP a, .agg (jG w)] (.tuple [B false,dj (-1) (dj (-1) (b6 c))]):=by
 have f0:=kG env w j i;have f1:=du env [118,97,108,117,101,46,84,114,117,101] (-1) (b6 c);unfold jC at b;by_cases d:a=[]
 ·rw[OL d]at b;cases b
 rw[OK d,S3]at b;have f2:=Bo env g c h m k w j i a (l.resolve_left d)
 have f:((a.length:Int)==0)=false:=by
  have:a.length≠0:=fun e=>d (QV.1 e);simp;omega
 rw[b]at f2;unfold jl at f2;unfold jG at f0 f2 |-;refine qf func198 call198 ntmps198 results198 ?_;have F:=f;exact po f2 f1
def VF(w:u0)(g:Nat->Nat):AV:= .agg [.row 1002 (g 1002),I w.data, .seq 1 (w.act.map rK)]
def uv(w:u0):Nat×Row:=(1002,⟨1,w.vars.map aa,3,true⟩)
def C1(env:b7)(w:u0)(o:mw)(R:List Int)(l:R.length<=1000)(b:1<=o.kind/\o.kind<=4)(h:nk o w.vars.length w.act.length=true):g6 prog env 237 [1002,27] (fun k=>k==27) (fun g=>[cI R, .agg (cE o),VF w g]) (fun _=>[uv w]) (fun _=>[uv w,(27,⟨1,(R++[m9 w o]).map aa,3,true⟩)]) (fun g=> .tuple [.row 27 (g 27),B true]):=by
 have f0:=(BZ env w o b h).lend rfl;have i:o.kind<=4:=b.2;have j:ek (R.length+1) 8:=aG (by omega) (by omega);have c:(R++[m9 w o]).map aa=R.map aa++[[I (m9 w o)]]:=by simp
 rw[c];try clear c
 generalize m9 w o=v at*;unfold cE jG at f0;unfold VF uv;refine qi func237 call237 ntmps237 results237 ?_;intro m f a;obtain⟨d,e⟩:=Us a;have F:=ld WO i j d e;repeat refine st ?_
 refine lL f0 ?_;repeat refine st ?_
 exact rI
def C0(env:b7)(w:u0)(o:mw)(a:Int)(R:List Int)(A:R.length<=1000)(j:o.kind=5\/o.kind=6)(i:aL a=true):g6 prog env 237 [1002,51] (fun k=>k==51) (fun g=>[cI (R++[a]), .agg (cE o),VF w g]) (fun _=>[uv w]) (fun _=>[uv w,(51,⟨1,(R++[UG o.kind a]).map aa,3,true⟩)]) (fun g=> .tuple [.row 51 (g 51),B true]):=by
 have f0:=vf env o.kind a j i;have l: ¬o.kind<=4:=by omega
 have m:o.kind<=6:=by omega
 have n:ek (R.length+1) 8:=aG (by omega) (by omega);have d: ∀x:Int,(R++[x]).map aa=R.map aa++[[I x]]:=fun x=>by simp
 have e:cI (R++[a])= .seq 1 (R.map aa++[[I a]]):=by rw[show R.map aa++[[I a]]=(R++[a]).map aa by simp]
 rw[d,e];have q:(R.map aa++[[I a]]).length=R.length+1:=by simp
 have r:(R.map aa++[[I a]])[R.length]? =some [I a]:=by rw[Og (by simp)];simp
 have s:(R.map aa++[[I a]]).take R.length=R.map aa:=by rw[Px (by simp),PI (by simp)]
 have p:IntKind.i64.wrap (((R.length+1:Nat):Int)-1)=(R.length:Int):=(bB (by omega) (by omega)).trans (by omega);have t:(R.length:Int)< ((R.length+1:Nat):Int):=by omega
 have u: ¬((R.length:Int)=((R.length+1:Nat):Int)):=by omega
 have y:(R.length:Int)<=((R.length+1:Nat):Int):=by omega
 generalize z:R.map aa++[[I a]]=X at*;generalize UG o.kind a=v at*;unfold VF uv;refine qi func237 call237 ntmps237 results237 ?_;intro C h b;obtain⟨c,f⟩:=Us b;have F:=fb WO l m n p q r s t u y<|ai c f;repeat refine g8 f0 ?_
 exact rI
def C2(env:b7)(w:u0)(o:mw)(a b:Int)(R:List Int)(D:R.length<=1000)(m:7<=o.kind/\o.kind<=19)(j:aL a=true)(l:aL b=true):g6 prog env 237 [1002,77] (fun k=>k==77) (fun g=>[cI (R++[a,b]), .agg (cE o),VF w g]) (fun _=>[uv w]) (fun _=>[uv w,(77,⟨1,(R++[(nr o.kind a b).1]).map aa,3,true⟩)]) (fun g=> .tuple [.row 77 (g 77),B (nr o.kind a b).2]):=by
 have f0:=tf env o.kind a b m j l;have n: ¬o.kind<=4:=by omega
 have p: ¬o.kind<=6:=by omega
 have q:ek (R.length+1) 8:=aG (by omega) (by omega);have e: ∀x:Int,(R++[x]).map aa=R.map aa++[[I x]]:=fun x=>by simp
 have f:cI (R++[a,b])= .seq 1 (R.map aa++[[I a],[I b]]):=by rw[show R.map aa++[[I a],[I b]]=(R++[a,b]).map aa by simp]
 rw[e,f];have s:(R.map aa++[[I a],[I b]]).length=R.length+2:=by simp
 have t:(R.map aa++[[I a],[I b]])[R.length]? =some [I a]:=by rw[Og (by simp)];simp
 have p5:(R.map aa++[[I a],[I b]])[R.length+1]? =some [I b]:=by rw[Og (by simp)];simp
 have u:(R.map aa++[[I a],[I b]]).take R.length=R.map aa:=by rw[Px (by simp),PI (by simp)]
 have r:IntKind.i64.wrap (((R.length+2:Nat):Int)-2)=(R.length:Int):=(bB (by omega) (by omega)).trans (by omega);have p3:IntKind.i64.wrap (((R.length+2:Nat):Int)-1)=((R.length+1:Nat):Int):=(bB (by omega) (by omega)).trans (by omega);have y:(R.length:Int)< ((R.length+2:Nat):Int):=by omega
 have p7:((R.length+1:Nat):Int)< ((R.length+2:Nat):Int):=by omega
 have z: ¬((R.length:Int)=((R.length+2:Nat):Int)):=by omega
 have A:(R.length:Int)<=((R.length+2:Nat):Int):=by omega
 generalize C:R.map aa++[[I a],[I b]]=X at*;generalize nr o.kind a b=v at*;unfold VF uv;refine qi func237 call237 ntmps237 results237 ?_;intro E i c;obtain⟨d,h⟩:=Us c;have F:=fb WO n p q r p3 s t p5 u y<|ld p7 z A d h;repeat refine g8 f0 ?_
 exact rI
def Hy(env:b7)(W Q X:Addr)(he:fk env W X)(h2:env 3=some (b6 Q))(w:u0)(O:w.Ok)(hl:w.vars.length<=1000000)(e:List mw)(U:cP e w.vars.length w.act.length=true):g6 prog env 219 [1002] (fun _=>false) (fun g=>[DP e,VF w g]) (fun _=>[uv w]) (fun _=>[uv w]) (fun _=>jl Q (rG w e)):=by
 have f0:=(kG env w O hl).lend rfl;have f1:=gY env W X he e w.vars.length w.act.length;have g2:=gS h2;have f9:=bW env [118,97,108,117,101,46,69,118,97,108] Q;obtain⟨M,Y⟩:=ud U;have h0:iu e w.vars.length w.act.length=0:=by unfold cP at U;simpa using U
 unfold gw at f1;rw[OL h0]at f1;have r:=Bn w M;have q0:(w.act.map rK).length=w.act.length:=O4 ..;have s1: ∀(o:mw)(R:List Int),R.length<=1000->1<=o.kind/\o.kind<=4->nk o w.vars.length w.act.length=true->_:=fun o R=>C1 env w o R;have s2: ∀(o:mw)(a:Int)(R:List Int),_:=fun o a R=>C0 env w o a R;have s3: ∀(o:mw)(a b:Int)(R:List Int),_:=fun o a b R=>C2 env w o a b R;unfold jG at f0;unfold VF uv at*;refine qi func219 call219 ntmps219 results219 ?_;intro K t H;have n:=H 1002 (by simp);have F:=n;repeat refine st ?_
 refine lL f0 ?_;repeat refine g8 f1 ?_
 refine iX (dT.nil 8 1 (by simp only[go_sem])) ?_;refine lp (D:=Nat×List Int) (fun d K=>[(3, .loc 3 (K 3) 0 0),(8,cI d.2.reverse),(31,DP e),(32,I e.length),(33,I d.1)]) (fun _ K=>[(3,⟨3,[[.row 1002 (K 1002),I w.data, .seq 1 (w.act.map rK)]],252,false⟩),(1002,⟨1,w.vars.map aa,3,true⟩)]) (fun d V t=>(d.1<=e.length/\ml w (e.take d.1) []=some d.2/\um w.vars.length w.act.length e 0=um w.vars.length w.act.length (e.drop d.1) d.2.length/\(∀x∈d.2,aL x=true)/\d.2.length<=d.1)/\V 1002=K 1002/\t 1002=false) (fun d=>e.length-d.1) (0,[]) ⟨⟨O6 _,rfl,rfl,by simp,OO _⟩,by simp only[go_sem],by simp only[go_sem,n]⟩ ?_;try clear n
 rintro⟨i,s⟩ ws t ⟨⟨hi,q,u,p,j⟩,J,n⟩;simp only at hi q u p j;by_cases m:i<e.length
 ·obtain⟨o,y,_⟩:=aT m;obtain⟨up,no⟩:=ot y u;have z:=mc m;have P:=aD m (by omega);have c:=Ay (w:=w) y q
  have h:bp w.vars.length w.act.length s.length o=true:=by
   cases h:bp w.vars.length w.act.length s.length o with
   |true=>rfl
   |false=>rw[no h]at M;cases M
  have k:=up h;have l:=Kt h;refine xN 9001 rfl ?_;rcases sC h with⟨A,L,B⟩|⟨A,B,C⟩|⟨A,L,B,C⟩
  ·have f2:=s1 o s.reverse (by rw[Q6];omega) ⟨A,L⟩ l;have f:dx w o s=some (m9 w o::s):=by unfold dx;rw[OL L]
   rw[f]at c;have E:s.reverse++[m9 w o]=(m9 w o::s).reverse:=by simp
   rw[E]at f2;refine fA ?_;have F:=ld WO y z P n;repeat refine st ?_
   refine iL [(1002,1002),(27,9001)] f2 ?_;repeat refine st ?_
   refine⟨_,dT.frozen 9001 8 ⟨1,(m9 w o::s).reverse.map aa,3,true⟩ rfl (PD 0) (by simp only[go_sem]) (by simp only[go_sem]),(i+1,m9 w o::s),⟨⟨m,c,?_,ga O l p f,?_⟩,?_,?_⟩,?_,?_,?_⟩
   ·rw[k,B]
    congr 1<;>simp
   ·simp only[OU];omega
   ·simp only[go_sem,J]
   ·simp only[go_sem,n]
   ·exact qe
   ·exact qe
   simp only;omega
  ·match s,q,u,p,j,h,k,c,C with
   | a::s,q,u,p,j,h,k,c,C=>
     have T:=p a (by simp);have f2:=s2 o a s.reverse (by rw[Q6];simp only[OU]at j;omega) A T;have f:dx w o (a::s)=some (UG o.kind a::s):=by unfold dx;rw[OK (by omega),OL (by omega)]
     rw[f]at c;have E:s.reverse++[UG o.kind a]=(UG o.kind a::s).reverse:=by simp
     have S:s.reverse++[a]=(a::s).reverse:=by simp
     rw[E,S]at f2;refine fA ?_;have F:=ld WO y z P n;repeat refine st ?_
     refine iL [(1002,1002),(51,9001)] f2 ?_;repeat refine st ?_
     refine⟨_,dT.frozen 9001 8 ⟨1,(UG o.kind a::s).reverse.map aa,3,true⟩ rfl (PD 0) (by simp only[go_sem]) (by simp only[go_sem]),(i+1,UG o.kind a::s),⟨⟨m,c,?_,ga O l p f,?_⟩,?_,?_⟩,?_,?_,?_⟩
     ·rw[k,B]
      congr 1<;>simp
     ·simp only[OU]at j |-;omega
     ·simp only[go_sem,J]
     ·simp only[go_sem,n]
     ·exact qe
     ·exact qe
     simp only;omega
  ·match s,q,u,p,j,h,k,c,C with
   | b::a::s,q,u,p,j,h,k,c,C=>
     have hb:=p b (by simp);have T:=p a (by simp);have f2:=s3 o a b s.reverse (by rw[Q6];simp only[OU]at j;omega) ⟨A,L⟩ T hb;have f:dx w o (b::a::s)=if (nr o.kind a b).2 then some ((nr o.kind a b).1::s) else none:=by unfold dx;rw[OK (by omega),OK (by omega)]
     rw[f]at c;have E:s.reverse++[(nr o.kind a b).1]=((nr o.kind a b).1::s).reverse:=by simp
     have S:s.reverse++[a,b]=(b::a::s).reverse:=by simp
     rw[E,S]at f2;cases N:(nr o.kind a b).2 with
     | true=>
       rw[N]at f2 f c;simp only[PW]at f c;refine fA ?_;have F:=ld WO y z P n;repeat refine st ?_
       refine iL [(1002,1002),(77,9001)] f2 ?_;repeat refine st ?_
       refine⟨_,dT.frozen 9001 8 ⟨1,((nr o.kind a b).1::s).reverse.map aa,3,true⟩ rfl (PD 0) (by simp only[go_sem]) (by simp only[go_sem]),(i+1,(nr o.kind a b).1::s),⟨⟨m,c,?_,ga O l p f,?_⟩,?_,?_⟩,?_,?_,?_⟩
       ·rw[k,B]
        congr 1
        simp only[OU];omega
       ·simp only[OU]at j |-;omega
       ·simp only[go_sem,J]
       ·simp only[go_sem,n]
       ·exact qe
       ·exact qe
       simp only;omega
     | false=>
       rw[N]at f2 c;simp only[On,P8]at c;have Z:=run_stuck c;rw[r,S3]at Z;rw[Z];show gu _ _ _ _ _ _;unfold jl;have F:=vb WO y z P g2 n J;repeat refine st ?_
       refine iL [(1002,1002),(77,9001)] f2 ?_;repeat refine g8 f9 ?_
       exact rI
 obtain rfl:i=e.length:=by omega
 have z:=nl e.length;have G:=tE (OO _) u;rw[M]at G;rw[Ob,r]at q;obtain⟨v,N,rfl⟩:=P6.1 q;rw[N];unfold jl;have F:=pf WN z @List.reverse_cons.{0} @List.reverse_nil.{0} n J;repeat refine st ?_
 exact rI
end
end Go.Proofs.YtfcdkaolcdglmaaGreatDoor
