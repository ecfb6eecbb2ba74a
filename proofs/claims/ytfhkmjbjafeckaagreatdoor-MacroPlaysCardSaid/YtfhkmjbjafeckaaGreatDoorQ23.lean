/- The document's words on expressions' values. -/
import Derived.Test.YtfhkmjbjafeckaaGreatDoorQ22
set_option maxRecDepth 100000
set_option maxHeartbeats 8000000
set_option linter.unusedSimpArgs false
set_option linter.defProp false
namespace Go.Proofs.YtfhkmjbjafeckaaGreatDoor
open Go.Proofs.Tryz
section
open Go.RowKit
def iW{S:Nat->Nat->Prop}{w:World}{v:Value}{p:Int}{e:AV}(h:RV S w v (c0 p e)): ∃b o u,v= .iface 134 (.pointer (some ⟨b,o,none⟩))/\w.cell? ⟨b,o+1,none⟩=some (.int .i64 p)/\w.cell? ⟨b,o+2,none⟩=some u/\RV S w u e:=by
 have h:RV S w v (.iface 134 (.ref 3 [[.any,I p,e]] 0 0)):=h;cases h with
 | iface t v c h=>
   cases h with
   | ref m k i j b o u l f a=>
     have d:=(f 0 1 (I p) rfl).2.1;rw[(a 0 1 (I p) rfl).lit_inv]at d;have g:=(f 0 2 e rfl).2.1;exact⟨b,o+(0*3+0),u 0 2,rfl,by simpa using d,by simpa using g,a 0 2 e rfl⟩
def BC(env:cf)(b:Nat->Addr)(a: ∀w,env.inv w->ql w b)(k:Nat)(c:1<=k/\k<=9)(ps:List Int):b8 prog env 30 [fp ps (bt (b k))] (I k):=
 mn call30 fun w S h d f g=>by
  match h,f with
  | [v],_=>
    have a:ql w b:=a w d.inv;refine(C3 a k c ps.length v (vR (sV a k c) ps v (g 0 v _ rfl rfl))).mono ?_;rintro e i ⟨rfl,rfl⟩;exact⟨rfl,OY _ _⟩
def Gx(env:cf)(n:env 9=some (.lit zE))(p:Int)(x: -1<=p)(a:Addr):b8 prog env 40 [c0 (-1) (c0 p (bt a))] (I p):=by
 refine mn call40 fun w S t m o q=> ?_
 match t,o with
 | [v],_=>
   obtain⟨u,b,_,_,l⟩:=m.env _ _ n;rw[l.lit_inv]at b;obtain⟨c,e,y,rfl,g,j,r⟩:=iW (q 0 v _ rfl rfl);obtain⟨d,f,z,rfl,i,k,s⟩:=iW r;rw[s.lit_inv]at k;by_cases h:0<=p
   ·exact Iy c e d f w (-1) (by omega) g j p h i b
   obtain rfl:p= -1:=by omega
   exact Gu c e d f w (-1) (by omega) g j (-1) (by omega) i a k b
def Gw(env:cf)(s:env 9=some (.lit zE))(p:Int)(C: -1<=p)(a:Addr):b8 prog env 40 [c0 (-1) (c0 (-1) (c0 p (bt a)))] (I p):=by
 refine mn call40 fun w S B r t x=> ?_
 match B,t with
 | [v],_=>
   obtain⟨u,b,_,_,q⟩:=r.env _ _ s;rw[q.lit_inv]at b;obtain⟨c,f,D,rfl,j,m,y⟩:=iW (x 0 v _ rfl rfl);obtain⟨d,g,E,rfl,k,n,z⟩:=iW y;obtain⟨e,i,G,rfl,l,o,A⟩:=iW z;rw[A.lit_inv]at o;by_cases h:0<=p
   ·exact Ix c f d g e i w (-1) (by omega) j m (-1) (by omega) k n p h l b
   obtain rfl:p= -1:=by omega
   exact Gt c f d g e i w (-1) (by omega) j m (-1) (by omega) k n (-1) (by omega) l a o b
def bf(b:Nat->Addr):cf:=⟨fun g=>if g=9 then some (.lit zE) else vd b g,fun w=>(ql w b/\r5 w)/\w.cell? ⟨9,0,none⟩=some zE,fun _ _ h a=>⟨⟨h.1.1.below a,h.1.2.below a⟩,dk h.2 a⟩⟩
def HJ{d:Nat->Addr}{w:World}(h:ql w d)(j:r5 w)(f:w.cell? ⟨9,0,none⟩=some zE):um (bf d) (fun b _=>b<w.heap.size) w:=by
 have i:=xn (mo:=⟨fun _=>True,fun _ _ _ _=>trivial⟩) h trivial;refine⟨⟨⟨h,j⟩,f⟩,fun b o k=>k,fun g c a=> ?_⟩;have a:(if g=9 then some (.lit zE) else vd d g)=some c:=a;split at a
 ·rename_i e;subst e;cases a;exact⟨_,f,rfl,ah f, .lit _⟩
 exact i.env g c a
def HK(a:Nat->Addr):gb (bf a) (a 1) (a 8):=⟨rfl,rfl⟩
def D7(a:Nat->Addr): ∀W,(bf a).inv W->r5 W:=fun _ h=>h.1.2
def yZ(a:Nat->Addr): ∀W,(bf a).inv W->ql W a:=fun _ h=>h.1.1
end
section
end
section
open Go.RowKit
def m9(c:aq)(t:tS)(mem:List eg):List Nat:=if t.target<0 then [] else I2 c t.src t.target mem
def E2(env:cf)(i j:Addr)(o:gb env i j)(c:aq)(h:ct c)(d:hP c)(mem:List eg)(l:mem.length<=1000000)(n: ∀m∈mem,dd m.2.length 8)(k:Nat)(t:tS)(f:c.trans[k]? =some t)(b:bm c mem=true):b8 prog env 239 [aG c,I k,go mem] (.tuple [.seq 1 ((m9 c t mem).map aB),ik]):=by
 have f0:=qS env i j o c h d mem l n;unfold KZ at f0;rw[b,Mw rfl]at f0;have f1:=oe env c d k t f;unfold m9;unfold ax at f1;by_cases a:t.target<0
 ·rw[Mw a];unfold aG at f0 f1 |-;refine qw func239 call239 ntmps239 results239 ?_;have F:=a;repeat refine y3 f0 f1 ?_
  (refine aM ?_;refine⟨_,(by show (ag _ _ _).run _=some _;simp only[go_sem,F];rfl),?_⟩)
  exact .of (.tuple (.cons (.nil 1) (.cons (.refl _) .nil))) (fun _ _ _ h=>by cases h) (fun _ _ _ h=>by cases h)
 rw[Mv a]
 have g:fi c t.target=true:=by
  rcases (h.src f).2 with e|e
  ·omega
  exact e
 have f2:=Cl env c h d t (h.src f).1 g mem l (fun m p=>by have:=(tG h b m p).2;omega) b;unfold ax at f2;unfold aG at f0 f1 f2 |-;refine qf func239 call239 ntmps239 results239 ?_;have F:=a;exact D0 f0 f1 f2
def yU(env:cf)(c:aq)(h:ct c)(mem:List eg)(g:mem.length<=1000000)(k:Nat)(t:tS)(d:c.trans[k]? =some t)(f:bm c mem=true):b8 prog env 119 [.agg (aA c), .agg (ax t),go mem] (.own 3 1 ((m9 c t mem).map aB)):=by
 unfold m9;by_cases a:t.target<0
 ·rw[Mw a];refine qw func119 call119 ntmps119 results119 ?_;have F:=gs Us Uv a;repeat refine st ?_
  (refine aM ?_;refine⟨_,(by show (ag _ _ _).run _=some _;simp only[go_sem,F];rfl),?_⟩)
  exact fN.own_nil _ _ (by decide)
 rw[Mv a]
 have b:fi c t.target=true:=by
  rcases (h.src d).2 with e|e
  ·omega
  exact e
 exact vh env c h t (h.src d).1 b mem g f
structure cD where
 act:List Int
 vars:List Int
 mem:List eg
 Z2:List (List UInt8×Int)
 over:Bool
 outs:List Int
 Z8:List (List UInt8×Int)
abbrev tn:=Option (Nat×List Int)
def Tc(c:aq)(d:Int)(r:cD):rx:=⟨r.vars,d,(List.range c.Z9.length).map fun k:Nat=>r.act.contains (k:Int)⟩
def ek(l:List (List UInt8×Int))(s:List UInt8):List (List UInt8×Int):=l.filter fun x=> !(x.1==s)
def sT(x:List UInt8×Int):List (List UInt8×Int)->List (List UInt8×Int)
 |[]=>[x]
 |y::l=>if Op.bytesLess x.1 y.1=true then x::y::l else y::sT x l
def g6(r:cD)(s:List UInt8)(v:Int):cD×tn:=if 16<=r.Z8.length then(r,some (8,[-1])) else({ r with Z8:=r.Z8++[(s,v)] },none)
def AS(now:Int)(r:cD)(s:List UInt8)(v:Int):cD×tn:=
 if v<0\/1099511627776-now<v then(r,some (2,[-1]))
 else if 8<=(ek r.Z2 s).length then({ r with Z2:=ek r.Z2 s },some (8,[-1]))
 else({ r with Z2:=sT (s,now+v) (ek r.Z2 s) },none)
def KL(r:cD)(v:Int):cD×tn:=if 256<=r.outs.length then(r,some (8,[-1])) else({ r with outs:=r.outs++[v] },none)
def Sb(c:aq)(d now:Int)(r:cD)(a:la):cD×tn:=
 if a.kind=5 then({ r with Z2:=ek r.Z2 a.name },none)
 else match ki (Tc c d r) a.code with
  |none=>(r,some (2,[-1, -1]))
  | some v=>if a.kind=1 then({ r with vars:=r.vars.set a.n.toNat v },none)
    else if a.kind=2 then g6 r a.name v
    else if a.kind=4 then AS now r a.name v
    else KL r v
def mv(c:aq)(d now:Int)(r:cD):List la->cD×tn
 |[]=>(r,none)
 | a::l=>match Sb c d now r a with
   |(b,none)=>mv c d now b l
   |x=>x
def ww(c:aq)(i:Int):List la:=match at_ c i with
 |some s=>s.out
 |none=>[]
def Tl(c:aq)(i:Int):List la:=match at_ c i with
 |some s=>s.ZW
 |none=>[]
def bX(c:aq)(i:Int):Int:=match at_ c i with
 |some s=>s.kind
 |none=>0
def Ka(c:aq)(i:Int):List UInt8:=match at_ c i with
 |some s=>s.name
 |none=>[]
def bS(c:aq)(d now:Int)(r:cD):List Int->cD×tn
 |[]=>(r,none)
 | i::l=>match mv c d now r (ww c i) with
   |(a,none)=>bS c d now { a with act:=a.act.filter fun k=> !(k==i) } l
   |x=>x
def dW(c:aq)(d now:Int)(r:cD):List Nat->cD×tn
 |[]=>(r,none)
 | n::l=>match mv c d now r (dl c n).Z1 with
   |(a,none)=>dW c d now a l
   |x=>x
def ak(c:aq)(d now:Int)(r:cD)(f:List Int):List Int->(cD×tn)×List Int
 |[]=>((r,none),f)
 | i::l=>if r.act.contains i=true then ak c d now r f l
   else match mv c d now { r with act:=bQ (r.act++[i]) } (Tl c i) with
    |(a,none)=>ak c d now a (if bX c i=3 then f++[i] else f) l
    |x=>(x,[])
def j8(c:aq)(i:Int):List UInt8:=[100,111,110,101,46]++Ka c i
def cW(c:aq)(r:cD)(o:List Int):List Int->(cD×tn)×List Int
 |[]=>((r,none),o)
 | i::l=>if aP c i<0 then cW c { r with over:=true } o l
   else match g6 r (j8 c (aP c i)) 0 with
    |(a,none)=>cW c a (if 0<=aP c (aP c i)/\bX c (aP c (aP c i))=2 then o++[aP c (aP c i)] else o) l
    |x=>(x,[])
def pF(c:aq)(act:List Int):Nat->Int->Bool
 |0,_=>false
 | f+1,i=>if bX c i=3 then true
   else if bX c i=1 then(match (hH c i).find? fun k=>act.contains k with
    |some k=>bX c k==3
    |none=>false)
   else(hH c i).all fun k=>pF c act f k
def uH(c:aq)(act:List Int)(i:Int):Bool:=act.contains i&&pF c act 40 i
def dU(c:aq)(r:cD):List Int->cD×tn
 |[]=>(r,none)
 | g::l=>if uH c r.act g=true then(match g6 r (j8 c g) 0 with
    |(a,none)=>dU c a l
    |x=>x)
   else dU c r l
def p'(c:aq)(r:cD)(f:List Int):cD×tn:=match cW c r [] f with
 |((a,none),o)=>dU c a (zL (b7 c o))
 |(x,_)=>x
def g5(c:aq)(d now:Int)(r:cD)(l:List Int):cD×tn:=match ak c d now r [] l with
 |((a,none),f)=>p' c a f
 |(x,_)=>x
def dj(c:aq)(act:List Int)(ts:List Nat):List Int:=ts.flatMap fun n=>fy c act (dl c n)
def toR(c:aq)(mem:List eg)(ts:List Nat):List Nat:=ts.flatMap fun n=>m9 c (dl c n) mem
def md(c:aq)(d now:Int)(r:cD)(ts:List Nat):cD×tn:=
 let a:=b7 c (dj c r.act ts)
 let b:=nr c r.act (zL a) r.mem
 match bS c d now { r with mem:=b } (zL a).reverse with
 |(e,none)=>match dW c d now e ts with
   |(f,none)=>g5 c d now f (zL (b7 c (zL (toR c b ts))))
   |x=>x
 |x=>x
def gu(c:aq)(now:Int):cD×tn:=g5 c 0 now ⟨[],c.vars.map (·.start),[],[],false,[],[]⟩ (zL (h9 c (-1)))
/-! Timers by their names -/
def Ml(x:List UInt8×Int):Prop:=bp x.1=true/\0<=x.2/\x.2<=1099511627776
structure Fk(l:List (List UInt8×Int)):Prop where
 ZZ:l.Pairwise fun a b=>Op.bytesLess a.1 b.1=true
 each: ∀x∈l,Ml x
def Fk.without{l:List (List UInt8×Int)}(h:Fk l)(s:List UInt8):Fk (ek l s):=⟨h.ZZ.sublist OT,fun x a=>h.each x (NF.1 a).1⟩
def sH{l:List (List UInt8×Int)}{s:List UInt8} : ∀x∈ek l s,x.1≠s:=fun x a=>by
 have:=(NF.1 a).2;simpa using this
def qT(l:List (List UInt8×Int))(s:List UInt8):(ek l s).length<=l.length:=NV ..
def zI{x y:List UInt8×Int} : ∀ {l:List (List UInt8×Int)},y∈sT x l↔y=x\/y∈l
 |[]=>by simp[sT]
 | z::l=>by
   unfold sT;split
   ·simp
   rw[NX,zI,NX];constructor
   ·rintro(h|h|h)
    ·exact .inr (.inl h)
    ·exact .inl h
    exact .inr (.inr h)
   rintro(h|h|h)
   ·exact .inr (.inl h)
   ·exact .inl h
   exact .inr (.inr h)
def FY(x:List UInt8×Int): ∀l,(sT x l).length=l.length+1
 |[]=>rfl
 | z::l=>by
   unfold sT;split
   ·rfl
   rw[NQ,FY x l,NQ]
def uy{x:List UInt8×Int} : ∀ {l:List (List UInt8×Int)},(l.Pairwise fun a b=>Op.bytesLess a.1 b.1=true)->(∀y∈l,y.1≠x.1)->(sT x l).Pairwise fun a b=>Op.bytesLess a.1 b.1=true
 |[],_,_=>QJ ..
 | z::l,h,f=>by
   obtain⟨e,g⟩:=Ob.1 h;unfold sT;split
   ·rename_i d;refine Ob.2 ⟨fun y c=> ?_,h⟩;rcases NX.1 c with rfl|c
    ·exact d
    exact fB d (e y c)
   rename_i d;refine Ob.2 ⟨fun y c=> ?_,uy g fun y c=>f y (O2 _ c)⟩;rcases zI.1 c with rfl|c
   ·cases i:Op.bytesLess z.1 y.1 with
    |true=>rfl
    |false=>exact absurd (dx i (by simpa using d)) (f z (by simp))
   exact e y c
def Fk.ins{l:List (List UInt8×Int)}(h:Fk l){x:List UInt8×Int}(c:Ml x)(b: ∀y∈l,y.1≠x.1):Fk (sT x l):=⟨uy h.ZZ b,fun y a=>by
 rcases zI.1 a with rfl|a
 ·exact c
 exact h.each y a⟩
/-! Actions -/
structure fe(c:aq)(r:cD):Prop where
 len:r.vars.length=c.vars.length
 vars: ∀x∈r.vars,aJ x=true
 Z2:Fk r.Z2
 ZM:r.Z2.length<=8
 outs:r.outs.length<=256
 Z8:r.Z8.length<=16
 raf: ∀e∈r.Z8,aJ e.2=true
structure ra(r r1:cD):Prop where
 act:r1.act=r.act
 mem:r1.mem=r.mem
 over:r1.over=r.over
def ra.rfl{r:cD} :ra r r:=⟨Eq.refl _,Eq.refl _,Eq.refl _⟩
def ra.trans{r a r2:cD}(h:ra r a)(k:ra a r2):ra r r2:=⟨k.act.trans h.act,k.mem.trans h.mem,k.over.trans h.over⟩
def ug{c:aq}{r:cD}(h:fe c r)(s:List UInt8){v:Int}(b:aJ v=true):fe c (g6 r s v).1/\ra r (g6 r s v).1:=by
 unfold g6;split
 ·exact⟨h, .rfl⟩
 rename_i d;refine⟨{ h with Z8:= ?_,raf:=fun e a=> ?_ },⟨rfl,rfl,rfl⟩⟩
 ·simp only[NA,Nf];omega
 rcases N1.1 a with q|q
 ·exact h.raf e q
 rw[NP.1 q];exact b
def pG{l:List mu}{vs ss:Int}(h:bo l vs ss=true):sh vs ss l 0=some 1/\l.length<=32:=by
 unfold bo at h;rw[OQ]at h;unfold iY at h;split at h
 ·omega
 rename_i b;split at h
 ·rename_i a;exact⟨a,by omega⟩
 omega
def E8{c:aq}{r:cD}(h:fe c r){d:Int}(a:aJ d=true):(Tc c d r).Ok:=⟨h.vars,a⟩
def Ke{c:aq}{d now:Int}(m:aJ d=true)(q:0<=now/\now<=1099511627776){r:cD}(h:fe c r){a:la}(b:gM c.vars.length c.Z9.length a=true):fe c (Sb c d now r a).1/\ra r (Sb c d now r a).1:=by
 unfold Sb;split
 ·exact⟨{ h with Z2:=h.Z2.without _,ZM:=NN (qT ..) h.ZM },⟨rfl,rfl,rfl⟩⟩
 rename_i l;split
 ·exact⟨h, .rfl⟩
 rename_i v n
 have f:bo a.code c.vars.length c.Z9.length=true:=by
  unfold gM at b;repeat' split at b
  all_goals (first|(exact absurd ‹a.kind=5› l)|(simp only[Mx]at b;exact b.2)|cases b)
 have e:=Ht (E8 h m) (pG f).1 n;split
 ·refine⟨{ h with len:=by simp only[PG];exact h.len,vars:=fun x i=> ?_ },⟨rfl,rfl,rfl⟩⟩;rcases List.mem_or_eq_of_mem_set i with i|rfl
  ·exact h.vars x i
  exact e
 split
 ·exact ug h _ e
 split
 ·rename_i j o k;unfold AS;split
  ·exact⟨h, .rfl⟩
  rename_i s;split
  ·exact⟨{ h with Z2:=h.Z2.without _,ZM:=NN (qT ..) h.ZM },⟨rfl,rfl,rfl⟩⟩
  rename_i p
  have g:bp a.name=true:=by
   unfold gM at b;rw[Mv j,Mw (.inr k)]at b;simp only[Mx]at b;exact b.1.2
  refine⟨{ h with Z2:=(h.Z2.without _).ins ⟨g,?_⟩ sH,ZM:=by simp only[FY];omega },⟨rfl,rfl,rfl⟩⟩;simp only;omega
 unfold KL;split
 ·exact⟨h, .rfl⟩
 refine⟨{ h with outs:= ?_ },⟨rfl,rfl,rfl⟩⟩;simp only[NA,Nf];omega
def jo{c:aq}{d now:Int}(j:aJ d=true)(k:0<=now/\now<=1099511627776): ∀ {l:List la}{r:cD},fe c r->(∀a∈l,gM c.vars.length c.Z9.length a=true)->fe c (mv c d now r l).1/\ra r (mv c d now r l).1
 |[],r,h,_=>⟨h, .rfl⟩
 | a::l,r,h,i=>by
   obtain⟨f,g⟩:=Ke j k h (i a (by simp));unfold mv;split
   ·rename_i p e;rw[e]at f g;obtain⟨n,o⟩:=jo (l:=l) j k f fun b m=>i b (by simp[m]);exact⟨n,g.trans o⟩
   exact⟨f,g⟩
structure Nd(c:aq):Prop where
 out: ∀i,∀a∈ww c i,gM c.vars.length c.Z9.length a=true
 ZW: ∀i,∀a∈Tl c i,gM c.vars.length c.Z9.length a=true
 tr: ∀(n:Nat)(t:tS),c.trans[n]? =some t-> ∀a∈t.Z1,gM c.vars.length c.Z9.length a=true
def lV{c:aq}(n:Nd c){d now:Int}(o:aJ d=true)(p:0<=now/\now<=1099511627776): ∀ {l:List Int}{r:cD},fe c r->fe c (bS c d now r l).1/\(bS c d now r l).1.mem=r.mem/\(bS c d now r l).1.over=r.over/\((bS c d now r l).2=none->(bS c d now r l).1.act=r.act.filter fun k=> !l.contains k)
 |[],r,h=>⟨h,rfl,rfl,fun _=>(List.filter_eq_self.2 fun _ _=>rfl).symm⟩
 | i::l,r,h=>by
   obtain⟨j,a⟩:=jo o p h (n.out i);unfold bS;split
   ·rename_i b e;rw[e]at j a;obtain⟨t,u,v,w⟩:=lV n (l:=l) o p (r:={ b with act:=b.act.filter fun k=> !(k==i) }) { j with };refine⟨t,u.trans a.mem,v.trans a.over,fun f=> ?_⟩;rw[w f];simp only;have m:b.act=r.act:=a.act;rw[m,List.filter_filter];apply O9;intro k _;rw[List.contains_cons,Bool.not_or,Bool.and_comm]
   rename_i x s
   exact⟨j,a.mem,a.over,fun f=>absurd f (by
    intro g;rcases q:mv c d now r (ww c i) with⟨b,y⟩;rw[q]at g;simp only at g;subst g
    exact s b q)⟩
def zd{c:aq}(f:Nd c){d now:Int}(g:aJ d=true)(j:0<=now/\now<=1099511627776): ∀ {l:List Nat}{r:cD},(∀n∈l,∃t,c.trans[n]? =some t)->fe c r->fe c (dW c d now r l).1/\ra r (dW c d now r l).1
 |[],r,_,h=>⟨h, .rfl⟩
 | n::l,r,i,h=>by
   obtain⟨t,k⟩:=i n (by simp);obtain⟨a,b⟩:=jo (l:=(dl c n).Z1) g j h (by rw[dD k];exact f.tr n t k);unfold dW;split
   ·rename_i s e;rw[e]at a b;obtain⟨p,q⟩:=zd f (l:=l) g j (fun m o=>i m (by simp[o])) a;exact⟨p,b.trans q⟩
   exact⟨a,b⟩
def GU(env:cf)(w:rx)(o:mu)(R:List Int)(e:R.length<=1000)(a:1<=o.kind/\o.kind<=4)(h:nP o w.vars.length w.act.length=true):b8 prog env 291 [bs R, .agg (bW o), .agg (dv w)] (.tuple [bs (R++[m5 w o]),B true]):=by
 have f0:=Bs env w o a h;have c:o.kind<=4:=a.2;have d:dd (R.length+1) 8:=aC (by omega) (by omega);have b:bs (R++[m5 w o])= .seq 1 (R.map aa++[[I (m5 w o)]]):=by rw[show R.map aa++[[I (m5 w o)]]=(R++[m5 w o]).map aa by simp]
 rw[b];try clear b
 generalize m5 w o=v at*;unfold bW dv at f0;refine qf func291 call291 ntmps291 results291 ?_;have F:=i0 UA UM c d;exact kb f0
def GR(env:cf)(w:rx)(o:mu)(a:Int)(R:List Int)(p:R.length<=1000)(d:o.kind=5\/o.kind=6)(c:aJ a=true):b8 prog env 291 [bs (R++[a]), .agg (bW o), .agg (dv w)] (.tuple [bs (R++[RW o.kind a]),B true]):=by
 have f0:=wR env o.kind a d c;have e: ¬o.kind<=4:=by omega
 have f:o.kind<=6:=by omega
 have g:dd (R.length+1) 8:=aC (by omega) (by omega);have b: ∀x:Int,bs (R++[x])= .seq 1 (R.map aa++[[I x]]):=fun x=>by rw[show R.map aa++[[I x]]=(R++[x]).map aa by simp]
 rw[b,b];have i:(R.map aa++[[I a]]).length=R.length+1:=by simp
 have j:(R.map aa++[[I a]])[R.length]? =some [I a]:=by rw[NY (by simp)];simp
 have k:(R.map aa++[[I a]]).take R.length=R.map aa:=by rw[Og (by simp),Nu (by simp)]
 have h:IntKind.i64.wrap (((R.length+1:Nat):Int)-1)=(R.length:Int):=(aX (by omega) (by omega)).trans (by omega);have l:(R.length:Int)< ((R.length+1:Nat):Int):=by omega
 have m: ¬((R.length:Int)=((R.length+1:Nat):Int)):=by omega
 have n:(R.length:Int)<=((R.length+1:Nat):Int):=by omega
 generalize R.map aa++[[I a]]=X at*;generalize RW o.kind a=v at*;refine qf func291 call291 ntmps291 results291 ?_;have F:=ed UA UM e f g h i j k l m n;exact kb f0
def GV(env:cf)(w:rx)(o:mu)(a b:Int)(R:List Int)(s:R.length<=1000)(g:7<=o.kind/\o.kind<=19)(e:aJ a=true)(f:aJ b=true):b8 prog env 291 [bs (R++[a,b]), .agg (bW o), .agg (dv w)] (.tuple [bs (R++[(kX o.kind a b).1]),B (kX o.kind a b).2]):=by
 have f0:=uR env o.kind a b g e f;have h: ¬o.kind<=4:=by omega
 have i: ¬o.kind<=6:=by omega
 have j:dd (R.length+1) 8:=aC (by omega) (by omega);have c: ∀x:Int,bs (R++[x])= .seq 1 (R.map aa++[[I x]]):=fun x=>by rw[show R.map aa++[[I x]]=(R++[x]).map aa by simp]
 have d:bs (R++[a,b])= .seq 1 (R.map aa++[[I a],[I b]]):=by rw[show R.map aa++[[I a],[I b]]=(R++[a,b]).map aa by simp]
 rw[c,d];have l:(R.map aa++[[I a],[I b]]).length=R.length+2:=by simp
 have m:(R.map aa++[[I a],[I b]])[R.length]? =some [I a]:=by rw[NY (by simp)];simp
 have p5:(R.map aa++[[I a],[I b]])[R.length+1]? =some [I b]:=by rw[NY (by simp)];simp
 have n:(R.map aa++[[I a],[I b]]).take R.length=R.map aa:=by rw[Og (by simp),Nu (by simp)]
 have k:IntKind.i64.wrap (((R.length+2:Nat):Int)-2)=(R.length:Int):=(aX (by omega) (by omega)).trans (by omega);have p3:IntKind.i64.wrap (((R.length+2:Nat):Int)-1)=((R.length+1:Nat):Int):=(aX (by omega) (by omega)).trans (by omega);have p:(R.length:Int)< ((R.length+2:Nat):Int):=by omega
 have p7:((R.length+1:Nat):Int)< ((R.length+2:Nat):Int):=by omega
 have q: ¬((R.length:Int)=((R.length+2:Nat):Int)):=by omega
 have r:(R.length:Int)<=((R.length+2:Nat):Int):=by omega
 generalize R.map aa++[[I a],[I b]]=X at*;generalize kX o.kind a b=v at*;refine qf func291 call291 ntmps291 results291 ?_;have F:=ed UA UM h i j k p3 l m p5 n<|i0 p p7 q r;exact kb f0
def kD(env:cf)(w:rx)(e:w.Ok)(h:w.vars.length<=1000000):b8 prog env 269 [.agg (dv w)] ik:=by
 have f0:=dG env w.data;rw[e.data]at f0
 have f1: ∀x∈w.vars,b8 prog env 72 [I x] (B true):=fun x b=>by
  have:=dG env x;rwa [e.vars x b]at this
 refine qf func269 call269 ntmps269 results269 ?_;have F:=dv.eq_1;repeat refine ff f0 ?_
 refine lq w.vars.length (by omega) (fun j _=>[(3,B true),(10,bs w.vars),(11,I w.vars.length),(12,I j)]) (fun _ _=>[]) (fun _ _ _=>True) trivial ?_ ?_
 ·rintro j g c a d f _;obtain⟨x,b⟩:=gE a;have f2:=f1 x (My b);have F:=i0 UB d f b;repeat refine ff f2 ?_
  exact qn (j+1) ⟨a,trivial⟩
 rintro g c d _;have F:=d;exact fc
def jh(a:Addr):Option Int->AV
 |some v=> .tuple [I v,ik]
 |none=> .tuple [I 0,c0 (-1) (bt a)]
def nF{vs ss n:Int}{o:mu}(h:cE vs ss n o=true):(1<=o.kind/\o.kind<=4/\aF o.kind=0)\/((o.kind=5\/o.kind=6)/\aF o.kind=1/\1<=n)\/(7<=o.kind/\o.kind<=19/\aF o.kind=2/\2<=n):=by
 have b:=jX h
 have c:aF o.kind=0/\1<=o.kind/\o.kind<=4\/aF o.kind=1/\(o.kind=5\/o.kind=6)\/aF o.kind=2/\7<=o.kind/\o.kind<=19\/aF o.kind= -1:=by
  unfold aF;split
  ·rename_i a;exact .inl ⟨rfl,a⟩
  split
  ·rename_i a;exact .inr (.inl ⟨rfl,a⟩)
  split
  ·rename_i a;exact .inr (.inr (.inl ⟨rfl,a⟩))
  exact .inr (.inr (.inr rfl))
 omega
def Eg{vs ss n:Int}{o:mu}(h:cE vs ss n o=true):nP o vs ss=true:=by
 simp only[cE,Mx]at h;exact h.2
def B5{w:rx}{a:List mu}{i:Nat}{o:mu}{s:List Int}(h:a[i]? =some o)(b:nI w (a.take i) []=some s):nI w (a.take (i+1)) []=eA w o s:=by
 rw[N4,h,lN,b];exact oh w o s
def run_stuck{w:rx}{a:List mu}{i:Nat}(h:nI w (a.take i) []=none):nI w a []=none:=by
 rw[<-PU i a,lN,h];rfl
def CP(env:cf)(O K P:Addr)(he:gb env O P)(h2:env 1=some (bt K))(w:rx)(H:w.Ok)(hl:w.vars.length<=1000000)(e:List mu)(N:bo e w.vars.length w.act.length=true):b8 prog env 262 [sv e, .agg (dv w)] (jh K (ki w e)):=by
 have f0:=kD env w H hl;have f1:=gp env O P he e w.vars.length w.act.length;have Y:=gg h2;have f9:=b9 env [118,97,108,117,101,46,69,118,97,108] K;obtain⟨E,Q⟩:=pG N;have Z:iY e w.vars.length w.act.length=0:=by unfold bo at N;simpa using N
 unfold iH at f1;rw[Mw Z]at f1;have p:=CO w E;have q0:(w.act.map Bk).length=w.act.length:=NT ..;have T: ∀(o:mu)(R:List Int),R.length<=1000->1<=o.kind/\o.kind<=4->nP o w.vars.length w.act.length=true->_:=fun o R=>GU env w o R;have U: ∀(o:mu)(a:Int)(R:List Int),_:=fun o a R=>GR env w o a R;have V: ∀(o:mu)(a b:Int)(R:List Int),_:=fun o a b R=>GV env w o a b R;unfold dv at f0 T U V |-;refine qf func262 call262 ntmps262 results262 ?_;repeat refine sL f0 f1 ?_
 refine fG (dg.nil 8 1 (by simp only[go_sem])) ?_;refine TW (D:=Nat×List Int) (fun d W=>[(3, .loc 3 (W 3) 0 0),(8,bs d.2.reverse),(31,sv e),(32,I e.length),(33,I d.1)]) (fun _ _=>[(3,⟨3,[[bs w.vars,I w.data, .seq 1 (w.act.map Bk)]],300,false⟩)]) (fun d _ _=>d.1<=e.length/\nI w (e.take d.1) []=some d.2/\sh w.vars.length w.act.length e 0=sh w.vars.length w.act.length (e.drop d.1) d.2.length/\(∀x∈d.2,aJ x=true)/\d.2.length<=d.1) (fun d=>e.length-d.1) (0,[]) ⟨NJ _,rfl,rfl,by simp,ND _⟩ ?_;rintro⟨i,s⟩ W X ⟨hi,n,q,m,h⟩;simp only at hi n q m h;by_cases l:i<e.length
 ·obtain⟨o,r,_⟩:=aS l;obtain⟨up,no⟩:=pB r q;have t:=ip l;have J:=aD l (by omega);have c:=B5 (w:=w) r n
  have g:cE w.vars.length w.act.length s.length o=true:=by
   cases g:cE w.vars.length w.act.length s.length o with
   |true=>rfl
   |false=>rw[no g]at E;cases E
  have j:=up g;have k:=Eg g;rcases nF g with⟨u,C,y⟩|⟨u,y,z⟩|⟨u,C,y,z⟩
  ·have f2:=T o s.reverse (by rw[Oj];omega) ⟨u,C⟩ k;have f:eA w o s=some (m5 w o::s):=by unfold eA;rw[Mw C]
   rw[f]at c;have A:s.reverse++[m5 w o]=(m5 w o::s).reverse:=by simp
   rw[A]at f2;have F:=i0 UA r t J;repeat refine ff f2 ?_
   refine⟨(i+1,m5 w o::s),⟨l,c,?_,gz H k m f,?_⟩,?_,?_,?_⟩
   ·rw[j,y]
    congr 1<;>simp
   ·simp only[NQ];omega
   ·exact qe
   ·exact qe
   simp only;omega
  ·match s,n,q,m,h,g,j,c,z with
   | a::s,n,q,m,h,g,j,c,z=>
     have M:=m a (by simp);have f2:=U o a s.reverse (by rw[Oj];simp only[NQ]at h;omega) u M;have f:eA w o (a::s)=some (RW o.kind a::s):=by unfold eA;rw[Mv (by omega),Mw (by omega)]
     rw[f]at c;have A:s.reverse++[RW o.kind a]=(RW o.kind a::s).reverse:=by simp
     have L:s.reverse++[a]=(a::s).reverse:=by simp
     rw[A,L]at f2;have F:=i0 UA r t J;repeat refine ff f2 ?_
     refine⟨(i+1,RW o.kind a::s),⟨l,c,?_,gz H k m f,?_⟩,?_,?_,?_⟩
     ·rw[j,y]
      congr 1<;>simp
     ·simp only[NQ]at h |-;omega
     ·exact qe
     ·exact qe
     simp only;omega
  ·match s,n,q,m,h,g,j,c,z with
   | b::a::s,n,q,m,h,g,j,c,z=>
     have hb:=m b (by simp);have M:=m a (by simp);have f2:=V o a b s.reverse (by rw[Oj];simp only[NQ]at h;omega) ⟨u,C⟩ M hb;have f:eA w o (b::a::s)=if (kX o.kind a b).2 then some ((kX o.kind a b).1::s) else none:=by unfold eA;rw[Mv (by omega),Mv (by omega)]
     rw[f]at c;have A:s.reverse++[(kX o.kind a b).1]=((kX o.kind a b).1::s).reverse:=by simp
     have L:s.reverse++[a,b]=(b::a::s).reverse:=by simp
     rw[A,L]at f2;cases G:(kX o.kind a b).2 with
     | true=>
       rw[G]at f2 f c;simp only[Nn]at f c;have F:=i0 UA r t J;repeat refine ff f2 ?_
       refine⟨(i+1,(kX o.kind a b).1::s),⟨l,c,?_,gz H k m f,?_⟩,?_,?_,?_⟩
       ·rw[j,y]
        congr 1
        simp only[NQ];omega
       ·simp only[NQ]at h |-;omega
       ·exact qe
       ·exact qe
       simp only;omega
     | false=>
       rw[G]at f2 c;simp only[NW,OB]at c;have S:=run_stuck c;rw[p,Qw]at S;rw[S];show fq _ _ _ _ _ _;unfold jh;have F:=ii UA r t J Y;exact ns f2 f9
 obtain rfl:i=e.length:=by omega
 have t:=nl e.length;have B:=t8 (ND _) q;rw[E]at B;rw[NS,p]at n;obtain⟨v,G,rfl⟩:=OK.1 n;rw[G];unfold jh;have F:=i0 UB t @Rs.{0} @List.reverse_nil.{0};exact fc
def Ih(env:cf)(g h i:Addr)(n:gb env g i)(l:env 1=some (bt h))(w:rx)(k:w.Ok)(j:w.vars.length<=1000000)(a:List mu)(m:a=[]\/bo a w.vars.length w.act.length=true)(b:Bool)(c:fh w a=some b):b8 prog env 231 [sv a, .agg (dv w)] (.tuple [B b,ik]):=by
 have f0:=kD env w k j;have f1:=AJ env [118,97,108,117,101,46,84,114,117,101];unfold fh at c;by_cases d:a=[]
 ·subst d;rw[Mw rfl]at c;cases c;unfold dv at f0 |-;refine qf func231 call231 ntmps231 results231 ?_;repeat refine sL f0 f1 ?_
  exact px
 rw[Mv d]at c;have f2:=CP env g h i n l w k j a (m.resolve_left d)
 have f:((a.length:Int)==0)=false:=by
  have:a.length≠0:=fun e=>d (OZ.1 e);simp;omega
 obtain⟨v,o,rfl⟩:=OK.1 c;rw[o]at f2;unfold jh at f2;unfold dv at f0 f2 |-;refine qf func231 call231 ntmps231 results231 ?_;have F:=f;exact ns f2 f1
def GM(env:cf)(g c h:Addr)(m:gb env g h)(k:env 1=some (bt c))(w:rx)(j:w.Ok)(i:w.vars.length<=1000000)(a:List mu)(l:a=[]\/bo a w.vars.length w.act.length=true)(b:fh w a=none):b8 prog env 231 [sv a, .agg (dv w)] (.tuple [B false,c0 (-1) (c0 (-1) (bt c))]):=by
 have f0:=kD env w j i;have f1:=eZ env [118,97,108,117,101,46,84,114,117,101] (-1) (bt c);unfold fh at b;by_cases d:a=[]
 ·rw[Mw d]at b;cases b
 rw[Mv d,Qw]at b;have f2:=CP env g c h m k w j i a (l.resolve_left d)
 have f:((a.length:Int)==0)=false:=by
  have:a.length≠0:=fun e=>d (OZ.1 e);simp;omega
 rw[b]at f2;unfold jh at f2;unfold dv at f0 f2 |-;refine qf func231 call231 ntmps231 results231 ?_;have F:=f;exact ns f2 f1
def fX(env:cf)(b:Bool):b8 prog env 282 [B b] (I (PA b)):=by
 cases b
 ·show b8 _ _ _ _ (I 0);refine qf func282 call282 ntmps282 results282 ?_;repeat refine nw ?_
  exact px
 show b8 _ _ _ _ (I 1);refine qf func282 call282 ntmps282 results282 ?_;repeat refine nw ?_
 exact px
def Kj(a b:Int):a-a.tdiv b*b=a.tmod b:=by
 rw[Int.tmod_def,Int.mul_comm]
def yM{a b:Int}(c:aJ a=true)(d:aJ b=true):Sx (a.tdiv b*b):=FO (l7 c) d
def D1(env:cf)(k a b:Int)(s:7<=k/\k<=19)(m:aJ a=true)(o:aJ b=true):b8 prog env 284 [I k,I a,I b] (.tuple [I (kX k a b).1,B (kX k a b).2]):=by
 have f:=(uS k m o).1;by_cases n:k=7
 ·subst n;have f0:=gF env (a*b);have c:IntKind.i64.wrap (a*b)=a*b:=gQ f;show b8 _ _ _ _ (.tuple [I (a*b),B (aJ (a*b))]);refine qf func284 call284 ntmps284 results284 ?_;have F:=c;exact kb f0
 by_cases g:k=8\/k=9
 ·by_cases e:b=0
  ·subst e;have c:kX k a 0=(0,false):=by rcases g with rfl|rfl<;>rfl
   rw[c];rcases g with rfl|rfl
   ·refine qf func284 call284 ntmps284 results284 ?_;repeat refine nw ?_
    exact px
   refine qf func284 call284 ntmps284 results284 ?_;repeat refine nw ?_
   exact px
  have p:(b==0)=false:=by simpa using e
  have d:=l6 (l7 (b:=b) m);rcases g with rfl|rfl
  ·have c:kX 8 a b=(a.tdiv b,true):=by simp[kX,e]
   rw[c];refine qf func284 call284 ntmps284 results284 ?_;have F:=gs p d e;exact fc
  have c:kX 9 a b=(a.tmod b,true):=by simp[kX,e]
  have q:=gQ (yM (b:=b) m o);have r:IntKind.i64.wrap (a-a.tdiv b*b)=a.tmod b:=by rw[Kj];exact l6 (wT m)
  rw[c];refine qf func284 call284 ntmps284 results284 ?_;have F:=ii p d q r e;exact fc
 by_cases h:k=10
 ·subst h;have f0:=gF env (a+b);have c:IntKind.i64.wrap (a+b)=a+b:=gQ f;show b8 _ _ _ _ (.tuple [I (a+b),B (aJ (a+b))]);refine qf func284 call284 ntmps284 results284 ?_;have F:=c;exact kb f0
 by_cases i:k=11
 ·subst i;have f0:=gF env (a-b);have c:IntKind.i64.wrap (a-b)=a-b:=gQ f;show b8 _ _ _ _ (.tuple [I (a-b),B (aJ (a-b))]);refine qf func284 call284 ntmps284 results284 ?_;have F:=c;exact kb f0
 by_cases j:k=18
 ·subst j;show b8 _ _ _ _ (.tuple [I (PA (a != 0&&b != 0)),B true]);have f0:=fX env (a != 0);have f1:=fX env (b != 0);have c:IntKind.i64.wrap (PA (a != 0)*PA (b != 0))=PA (a != 0&&b != 0):=by cases (a != 0)<;>cases (b != 0)<;>rfl
  generalize (a != 0&&b != 0)=t at*;refine qf func284 call284 ntmps284 results284 ?_;have F:=c;exact ns f0 f1
 by_cases l:k=19
 ·subst l;show b8 _ _ _ _ (.tuple [I (PA (a != 0||b != 0)),B true]);have f0:=fX env (a != 0||b != 0);cases e:(a != 0)
  ·rw[e]at f0;refine qf func284 call284 ntmps284 results284 ?_;have F:=e;exact kb f0
  rw[e]at f0;refine qf func284 call284 ntmps284 results284 ?_;have F:=e;exact kb f0
 have c:kX k a b=(PA (F' k a b),true):=by
  unfold kX;rw[Mv n,Mv (by omega),Mv (by omega),Mv h,Mv i,Mv j,Mv l]
 rw[c];have f1:=fX env (F' k a b);obtain rfl|rfl|rfl|rfl|rfl|rfl:k=12\/k=13\/k=14\/k=15\/k=16\/k=17:=by omega
 ·have d:F' 12 a b=decide (a<b):=rfl;rw[d]at f1 |-;refine qf func284 call284 ntmps284 results284 ?_;repeat refine jG f1 ?_
  exact px
 ·have d:F' 13 a b=decide (b<a):=rfl;rw[d]at f1 |-;refine qf func284 call284 ntmps284 results284 ?_;repeat refine jG f1 ?_
  exact px
 ·have d:F' 14 a b= !decide (b<a):=by show decide (a<=b)=_;rw[N8];simp[SQ]
  rw[d]at f1 |-;refine qf func284 call284 ntmps284 results284 ?_;repeat refine jG f1 ?_
  exact px
 ·have d:F' 15 a b= !decide (a<b):=by show decide (b<=a)=_;rw[N8];simp[SQ]
  rw[d]at f1 |-;refine qf func284 call284 ntmps284 results284 ?_;repeat refine jG f1 ?_
  exact px
 ·have d:F' 16 a b=(a==b):=rfl;rw[d]at f1 |-;refine qf func284 call284 ntmps284 results284 ?_;repeat refine jG f1 ?_
  exact px
 have d:F' 17 a b=(a != b):=rfl;rw[d]at f1 |-;refine qf func284 call284 ntmps284 results284 ?_;repeat refine jG f1 ?_
 exact px
def Gj(env:cf)(a:List mu)(n:Nat)(y:n<=a.length)(w:a.length<=32):b8 prog env 283 [sv a,I ((n:Int)-1)] (I (gv a n 1:Nat)):=by
 refine qf func283 call283 ntmps283 results283 ?_;repeat refine nw ?_
 refine TW (D:=Nat×Int) (fun d _=>[(0,sv a),(5,I d.2),(6,I ((d.1:Int)-1))]) (fun _ _=>[]) (fun d _ _=>d.1<=n/\gv a d.1 d.2=gv a n 1/\d.2+(d.1:Int)<=1+(n:Int)/\1-2*(n:Int)<=d.2-2*(d.1:Int)) (fun d=>d.1) (n,1) ⟨ND _,rfl,by simp only;omega,by simp only;omega⟩ ?_;rintro⟨j,b⟩ z v ⟨i,c,e,f⟩;simp only at i c e f
 match j,i,c,e,f with
 | 0,i,c,e,f=>
   have g: ¬(0:Int)<=((0:Nat):Int)-1:=by omega
   rw[<-c];show fq _ _ _ _ _ _;have u:(gv a 0 b:Nat)=0:=rfl;rw[u];have F:=g;exact fc
 | j+1,i,c,e,f=>
   obtain⟨o,l,_⟩:=aS (show j<a.length by omega);have x:=jy o.kind;have f0:=dn env o.kind;have p:((j+1:Nat):Int)-1=(j:Int):=by omega
   have g:(0:Int)<=(j:Int):=by omega
   have q:(j:Int)< (a.length:Int):=by omega
   have r:IntKind.i64.wrap (b-1)=b-1:=aX (by omega) (by omega);have s:IntKind.i64.wrap (b-1+aF o.kind)=b-1+aF o.kind:=aX (by omega) (by omega);have t:IntKind.i64.wrap ((j:Int)-1)=(j:Int)-1:=aX (by omega) (by omega)
   have m:gv a (j+1) b=if b-1+aF o.kind=0 then j else gv a j (b-1+aF o.kind):=by
    conv=>lhs;unfold gv
    rw[l]
   rw[m]at c;by_cases h:b-1+aF o.kind=0
   ·rw[Mw h]at c;rw[<-c];have k:(b-1+aF o.kind==0)=true:=by simpa using h
    have F:=qs UA l p g q r s t k;exact kb f0
   rw[Mv h]at c;have k:(b-1+aF o.kind==0)=false:=by simpa using h
   have F:=qs UA l p g q r s t k;repeat refine ff f0 ?_
   exact qn (j,b-1+aF o.kind) ⟨by simp only;omega,c,by simp only;omega,by simp only;omega⟩
def Ae(env:cf)(w:rx)(f:w.Ok)(h:w.vars.length<=1000000):b8 prog env 80 [.agg (dv w)] (B true):=by
 have f0:=gF env w.data;rw[f.data]at f0
 have f1: ∀x∈w.vars,b8 prog env 15 [I x] (B true):=fun x b=>by
  have:=gF env x;rwa [f.vars x b]at this
 unfold dv;generalize List.map Bk w.act=X at*;refine qf func80 call80 ntmps80 results80 ?_;repeat refine nw ?_
 refine Q' w.vars.length (by omega) (fun j e=>[(1, .loc 1 (e 1) 0 0),(3,I j)]) (fun _ _=>[(1,⟨3,[[bs w.vars,I w.data, .seq 1 X]],165,false⟩)]) (fun _ _ _=>True) trivial ?_ ?_
 ·rintro j e c a d g _;obtain⟨x,b⟩:=gE a;have f2:=f1 x (My b);have F:=i0 UB d g b;repeat refine ff f2 ?_
  exact qn (j+1) ⟨a,trivial⟩
 rintro e c d _;have F:=d;exact kb f0
def li(env:cf)(w:rx)(x:w.Ok): ∀(f:Nat)(a:List mu),a.length<=f->a.length<=32->sh w.vars.length w.act.length a 0=some 1->b8 prog env 251 [sv a, .agg (dv w)] (.tuple [I (g9 w f a).1,B (g9 w f a).2])
 | 0,a,hf,_,h=>by
   obtain rfl:a=[]:=OZ.1 (by omega);simp[sh]at h
 | f+1,a,hf,M,h=>by
   obtain⟨l,o,e,N,v⟩:=vC h;have Y:a.length=l.length+1:=by rw[e];simp
   have d:a[l.length]? =some o:=by rw[e];simp
   have s:a.take l.length=l:=by rw[e];simp
   have b:g9 w (f+1) a=g9 w (f+1) (l++[o]):=by rw[e]
   have c:=Eg N;have g:IntKind.i64.wrap ((a.length:Int)-1)=(l.length:Int):=(aX (by omega) (by omega)).trans (by omega);have i:(l.length:Int)< (a.length:Int):=by omega
   have C:(l.length:Int)<=(a.length:Int):=by omega
   rw[ck]at b;obtain⟨k,n⟩:=o;simp only at N v b;rcases nF N with⟨q,y,r⟩|⟨q,r,_⟩|⟨q,y,r,_⟩
   ·simp only at q y r;rw[Mw y]at b;rw[b];unfold nP at c;simp only at c;obtain rfl|rfl|rfl|rfl:k=1\/k=2\/k=3\/k=4:=by omega
    ·show b8 _ _ _ _ (.tuple [I n,B true]);refine qf func251 call251 ntmps251 results251 ?_;have F:=ii UA UM d g i;exact fc
    ·have c:0<=n/\n<w.vars.length:=by simpa using c
     obtain⟨m,rfl⟩:=fg c.1;have j:(m:Int)< (w.vars.length:Int):=c.2;have u:w.vars[m]? =some (w.vars.getD m 0):=by rw[N3,Ms (by omega)];rfl
     show b8 _ _ _ _ (.tuple [I (w.vars.getD ((m:Int).toNat) 0),B true]);rw[OP];refine qf func251 call251 ntmps251 results251 ?_;have F:=qr UA UM UB d g i j u;exact fc
    ·show b8 _ _ _ _ (.tuple [I w.data,B true]);refine qf func251 call251 ntmps251 results251 ?_;have F:=ii UA UM d g i;exact fc
    have c:0<=n/\n<w.act.length:=by simpa using c
    obtain⟨m,rfl⟩:=fg c.1;have j:(m:Int)< (w.act.length:Int):=c.2;have u:w.act[m]? =some (w.act.getD m false):=by rw[N3,Ms (by omega)];rfl
    show b8 _ _ _ _ (.tuple [I (PA (w.act.getD ((m:Int).toNat) false)),B true]);rw[OP];have f0:=fX env (w.act.getD m false);generalize w.act.getD m false=t at*;refine qf func251 call251 ntmps251 results251 ?_;have F:=qr UA UM Bk.eq_1 d g i j u;exact kb f0
   ·simp only at q r;rw[r]at v;have A:l.length<=f:=by omega
    have f0:=li env w x f l A (by omega) v;have z:=(i8 x f l A v).1;generalize g9 w f l=T at*;unfold dv at f0 |-;rcases q with rfl|rfl
    ·rw[Mv (by omega),Mw rfl]at b;rw[b];have j:IntKind.i64.wrap (0-T.1)=0-T.1:=gQ (by unfold Sx at z |-;omega);refine qf func251 call251 ntmps251 results251 ?_;have F:=qr P9 UA d s g i C j;exact kb f0
    rw[Mv (by omega),Mv (by omega),Mw rfl]at b;rw[b];have f1:=fX env (T.1==0);refine qf func251 call251 ntmps251 results251 ?_;have F:=m7 P9 UA d s g i C;exact ns f0 f1
   ·simp only at q y r;rw[r]at v;obtain⟨W,X,h3⟩:=uu v;rw[Mv (by omega),Mv (by omega),Mv (by omega)]at b;have D:=Gj env a l.length (by omega) M;have ea:gv a l.length 1=gv l l.length 1:=by rw[e];exact nV l _ _ _ (ND _)
    rw[ea]at D;generalize gv l l.length 1=p at*;have f0:=li env w x f (l.take p) (by rw[NK];omega) (by rw[NK];omega) W;have f1:=li env w x f (l.drop p) (by rw[O7];omega) (by rw[O7];omega) X;have U:=i8 x f (l.take p) (by rw[NK];omega) W;have V:=i8 x f (l.drop p) (by rw[O7];omega) X;have j:IntKind.i64.wrap ((l.length:Int)-1)=(l.length:Int)-1:=aX (by omega) (by omega);have u:a.take p=l.take p:=by rw[e,Og (R8 h3)]
    have O:(a.drop p).take (l.length-p)=l.drop p:=by rw[<-List.drop_take,s]
    have P:(p:Int)<=(a.length:Int):=by omega
    have Q:(p:Int)<=(l.length:Int):=by omega
    generalize g9 w f (l.take p)=Z at*;generalize g9 w f (l.drop p)=Tb at*;unfold dv at f0 f1 |-;have E:(k==1)=false:=by simp;omega
    have G:(k==2)=false:=by simp;omega
    have H:(k==3)=false:=by simp;omega
    have J:(k==4)=false:=by simp;omega
    have K:(k==5)=false:=by simp;omega
    have L:(k==6)=false:=by simp;omega
    rcases Z with⟨S,ab⟩;rcases Tb with⟨bv,bb⟩;simp only at U V f0 f1 b;cases ab with
    | false=>
      rw[b];show b8 _ _ _ _ (.tuple [I 0,B false]);refine qf func251 call251 ntmps251 results251 ?_;have F:=ed P9 UA d j u O P Q g i C<|kv E G H J K L;exact D0 D f0 f1
    | true=>
      cases bb with
      | false=>
        rw[b];show b8 _ _ _ _ (.tuple [I 0,B false]);refine qf func251 call251 ntmps251 results251 ?_;have F:=ed P9 UA d j u O P Q g i C<|kv E G H J K L;exact D0 D f0 f1
      | true=>
        have f2:=D1 env k S bv ⟨q,y⟩ (U.2 rfl) (V.2 rfl);rw[b];simp only[Bool.and_self,Nn];generalize kX k S bv=R at*;refine qf func251 call251 ntmps251 results251 ?_;have F:=ed P9 UA d j u O P Q g i C<|kv E G H J K L;exact TV D f0 f1 f2
def EA:Option Int->AV
 |some v=> .tuple [I v,I 0]
 |none=> .tuple [I 0,I 2]
def wh(env:cf)(w:rx)(e:w.Ok)(i:w.vars.length<=1000000)(a:List mu)(d:bo a w.vars.length w.act.length=true):b8 prog env 222 [sv a, .agg (dv w)] (EA (ki w a)):=by
 obtain⟨h,c⟩:=pG d;have g:iY a w.vars.length w.act.length=0:=by unfold bo at d;simpa using d
 have f0:=Ae env w e i;have f1:=kp env a w.vars.length w.act.length;rw[g]at f1;have f2:=li env w e a.length a (ND _) c h;have f:(w.act.map Bk).length=w.act.length:=NT ..;unfold ki;generalize g9 w a.length a=T at*;obtain⟨v,b⟩:=T;unfold dv at f0 f2 |-;cases b with
 | true=>
   show b8 _ _ _ _ (.tuple [I v,I 0]);refine qf func222 call222 ntmps222 results222 ?_;have F:=f;exact D0 f0 f1 f2
 | false=>
   show b8 _ _ _ _ (.tuple [I 0,I 2]);refine qf func222 call222 ntmps222 results222 ?_;have F:=f;exact D0 f0 f1 f2
end
end Go.Proofs.YtfhkmjbjafeckaaGreatDoor
