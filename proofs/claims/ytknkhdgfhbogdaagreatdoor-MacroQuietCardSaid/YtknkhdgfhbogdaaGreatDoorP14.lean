/- Walking without memory: states that stand for others; rows in lists. No program is named here. -/
import Derived.Test.YtknkhdgfhbogdaaGreatDoorP13
set_option maxRecDepth 100000
set_option maxHeartbeats 8000000
set_option linter.unusedSimpArgs false
set_option linter.defProp false
namespace Go.Proofs.YtknkhdgfhbogdaaGreatDoor
open Go.Proofs.Tryz
section
open Go.RowKit
def al(c:aq)(i:Int):Bool:=match at_ c i with
 |some s=>s.kind==1
 |none=>false
def kG(c:aq)(i:Int):Int:=match at_ c i with
 |some s=>s.initial
 |none=> -1
def aE(c:aq)(k i:Int):Bool:=(i' c i).contains k
def rA(c:aq)(a i:Int):Bool:=decide (i<0)||(al c i&&aE c i a)
def nb(c:aq)(a b:Int):Int:=((i' c a).find? (rA c b)).getD (-1)
def gy{a:Type}{p:a->Bool}{l:List a}{j:Nat}{x:a}(h:l[j]? =some x):(l.drop j).find? p=if p x=true then some x else(l.drop (j+1)).find? p:=by
 obtain⟨b,rfl⟩:=Ld.1 h;rw[N1 b,List.find?_cons];cases p l[j]<;>rfl
abbrev gv(c:aq)(i:Int):List Int:=zL (av c i true)
def bO{c:aq}(h:Right c){i k:Int}(d:k∈gv c i):ed c k=true/\aP c k=i/\i<k:=by
 obtain⟨j,b,rfl⟩:=Lp.1 d;obtain⟨s,a,e,_⟩:=y8 b;refine⟨aV.2 (Ld.1 a).1,by rw[eA a,e],?_⟩;have:=h.par j s a;omega
def sM(c:aq)(i:Int):(gv c i).Nodup:=by
 unfold gv zL;exact List.Pairwise.map _ (fun a b d e=>d (by omega)) (bU c i true)
/-! What comes with a state -/
def od(c:aq)(l:List Int)(i:Int):List Int:=
 if al c i=true then(if (gv c i).any (fun k=>l.contains k)=true then [] else if 0<=kG c i then [kG c i] else []) else gv c i
def jJ(c:aq)(l:List Int)(i:Int):List Int:=(od c l i).filter fun k=> !l.contains k
def iq(c:aq):Nat->List Int->List Int->List Int
 |0,l,_=>l
 |_+1,l,[]=>l
 |f+1,l,i::r=>iq c f (l++jJ c l i) (r++jJ c l i)
def nr(c:aq)(l:List Int):Nat:=((List.range c.Z9.length).filter fun k:Nat=> !l.contains (k:Int)).length
def oj(c:aq)(l:List Int):List Int:=iq c (nr c l+l.length) l l
inductive Gr(c:aq)(l:List Int):Int->Prop
 |base {x:Int} (h:x∈l):Gr c l x
 |ini {p:Int} (h:Gr c l p) (hp:al c p=true) (hn: ∀k∈gv c p,k∉l) (h0:0<=kG c p):Gr c l (kG c p)
 |par {p k:Int} (h:Gr c l p) (hp:al c p=false) (hk:k∈gv c p):Gr c l k
def iX{c:aq}(h:b8 c){p:Int}(b:al c p=true)(d:0<=kG c p):kG c p∈gv c p:=by
 unfold al at b;unfold kG at d |-;cases a:at_ c p with
 |none=>rw[a]at b;cases b
 | some s=>
   rw[a]at b d;simp only at b d |-
   have l:0<=p:=by
    unfold at_ at a;split at a
    ·assumption
    cases a
   obtain⟨k,rfl⟩: ∃k:Nat,p=k:=⟨p.toNat,by omega⟩;rw[bL]at a;have i:s.kind=1:=by simpa using b
   rcases h.cases a with⟨_,g|⟨j,f,e⟩⟩|⟨e,_⟩|⟨e,_⟩|⟨e|e,_⟩
   ·omega
   ·rw[e];exact Lp.2 ⟨j,f,rfl⟩
   all_goals omega
def A5{c:aq}(h:b8 c){l:List Int}{i k:Int}(a:k∈od c l i):k∈gv c i:=by
 unfold od at a;split at a
 ·rename_i d;split at a
  ·cases a
  split at a
  ·rename_i b;rw[MA.1 a];exact iX h d b
  cases a
 exact a
def eo{c:aq}(h:b8 c){l:List Int}{i k:Int}(d:k∈jJ c l i):k∉l/\ed c k=true/\aP c k=i:=by
 obtain⟨a,b⟩:=Lq.1 d;obtain⟨e,f,_⟩:=bO h.toRight (A5 h a);exact⟨by simpa using b,e,f⟩
def ry(c:aq)(l:List Int)(i:Int):(od c l i).Nodup:=by
 unfold od;split
 ·split
  ·exact Q5
  split
  ·simp
  exact Q5
 exact sM c i
def fV(c:aq)(l:List Int)(i:Int):(jJ c l i).Nodup:=(ry c l i).sublist My
def sa{a:Type}(p q:a->Bool): ∀l:List a,(l.filter fun x=>p x&& !q x).length+(l.filter fun x=>p x&&q x).length=(l.filter p).length
 |[]=>rfl
 | x::l=>by
   have:=sa p q l;simp only[Na];cases p x<;>cases q x<;>simp<;>omega
def ku{c:aq}{l a:List Int}(i:a.Nodup)(d: ∀k∈a,k∉l/\ed c k=true):nr c (l++a)+a.length<=nr c l:=by
 have e:=sa (fun k:Nat=> !l.contains (k:Int)) (fun k:Nat=>a.contains (k:Int)) (List.range c.Z9.length)
 have h:nr c (l++a)=((List.range c.Z9.length).filter fun k:Nat=> !l.contains (k:Int)&& !a.contains (k:Int)).length:=by
  unfold nr
  congr 1
  apply NR;intro k _;simp[List.contains_eq_mem]
 have o:a.length<=((List.range c.Z9.length).filter fun k:Nat=> !l.contains (k:Int)&&a.contains (k:Int)).length:=by
  have:(a.map Int.toNat).Nodup:=by
   refine List.Pairwise.map (R:=fun x y=>x≠y/\0<=x/\0<=y) _ (fun x y j=>by omega) ?_;refine PU ?_ i;intro x y g b f;exact⟨f,(aI.1 (d x g).2).1,(aI.1 (d y b).2).1⟩
  have:=this.length_le_of_subset (l₂:=(List.range c.Z9.length).filter fun k:Nat=> !l.contains (k:Int)&&a.contains (k:Int)) fun x g=>by
   obtain⟨y,b,rfl⟩:=Lp.1 g;obtain⟨m,n⟩:=d y b;have p:=aI.1 n;rw[Lq,MK];have e:((y.toNat:Nat):Int)=y:=by omega
   refine⟨by omega,?_⟩;rw[e];simp[m,b]
  simpa using this
 unfold nr at h |-;omega
structure Grown(c:aq)(l0 l t:List Int):Prop where
 sub: ∀x∈l0,x∈l
 todo: ∀x∈t,x∈l
 nd:t.Nodup
 gr: ∀x∈l,Gr c l0 x
 par: ∀x∈l,x∉l0->aP c x∈l/\aP c x∉t
 done: ∀p∈l,p∉t->(al c p=true->(∀k∈gv c p,k∉l0)->0<=kG c p->kG c p∈l)/\(al c p=false-> ∀k∈gv c p,k∈l)
def Grown.step{c:aq}(h:b8 c){A l r:List Int}{i:Int}(g:Grown c A l (i::r)):Grown c A (l++jJ c l i) (r++jJ c l i):=by
 have z:=g.todo i (by simp);obtain⟨L,M⟩:=Nm.1 g.nd
 have H: ∀k∈gv c i,k∈l->k∈A:=fun k m o=>Ns fun D=>by
  have:=(g.par k o D).2;rw[(bO h.toRight m).2.1]at this;exact this (by simp)
 have C: ∀x∈jJ c l i,Gr c A x:=fun x f=>by
  obtain⟨n,O⟩:=Lq.1 f;have J:=n;unfold od at n;split at n
  ·rename_i hp;split at n
   ·cases n
   rename_i s;split at n
   ·rename_i B;rw[MA.1 n];refine .ini (g.gr i z) hp (fun k m o=>s ?_) B;rw[Ml];exact⟨k,m,by simpa using g.sub k o⟩
   cases n
  rename_i hp;exact .par (g.gr i z) (by simpa using hp) n
 refine⟨fun x f=>Ma _ (g.sub x f),fun x f=> ?_,?_,fun x f=> ?_,fun x f D=> ?_,fun p hp t=> ?_⟩
 ·rcases ML.1 f with f|f
  ·exact Ma _ (g.todo x (NJ _ f))
  exact Nj _ f
 ·rw[Nc];refine⟨M,fV c l i,fun x f y K e=> ?_⟩;subst e;exact(eo h K).1 (g.todo x (NJ _ f))
 ·rcases ML.1 f with f|f
  ·exact g.gr x f
  exact C x f
 ·rcases ML.1 f with f|f
  ·obtain⟨w,I⟩:=g.par x f D;refine⟨Ma _ w,fun j=> ?_⟩;rcases ML.1 j with j|j
   ·exact I (NJ _ j)
   exact(eo h j).1 w
  obtain⟨w,_,N⟩:=eo h f;rw[N];refine⟨Ma _ z,fun j=> ?_⟩;rcases ML.1 j with j|j
  ·exact L j
  exact(eo h j).1 z
 have G:p∈l:=by
  rcases ML.1 hp with hp|hp
  ·exact hp
  exact absurd (Nj _ hp) t
 by_cases e:p=i
 ·subst e
  have v: ∀k∈od c l p,k∈l++jJ c l p:=fun k m=>by
   by_cases o:k∈l
   ·exact Ma _ o
   exact Nj _ (Lq.2 ⟨m,by simpa using o⟩)
  refine⟨fun q E B=>v _ ?_,fun q k m=>v k ?_⟩
  ·unfold od;rw[Lj q,Lf ?_,Lj B]
   ·simp
   rw[Ml];rintro⟨k,m,o⟩;exact E k m (H k m (by simpa using o))
  unfold od;rw[Lf (by rw[q];simp)];exact m
 have u:p∉i::r:=fun j=>by
  rcases MI.1 j with rfl|j
  ·exact e rfl
  exact t (Ma _ j)
 obtain⟨w,I⟩:=g.done p G u;exact⟨fun a b d=>Ma _ (w a b d),fun a k m=>Ma _ (I a k m)⟩
def Grown.all{c:aq}{d l:List Int}(g:Grown c d l []){x:Int} :x∈l↔Gr c d x:=by
 refine⟨g.gr x,fun h=> ?_⟩
 induction h with
 |base h=>exact g.sub _ h
 |ini _ a i e b=>exact(g.done _ b (by simp)).1 a i e
 |par _ a f b=>exact(g.done _ b (by simp)).2 a _ f
def Grown.grow{c:aq}(h:b8 c){d:List Int} : ∀(f:Nat)(l t:List Int),Grown c d l t->nr c l+t.length<=f->Grown c d (iq c f l t) []
 | 0,l,t,g,a=>by
   have:t=[]:=M7 (by omega);subst this;exact g
 |f+1,l,[],g,a=>g
 | f+1,l,i::r,g,a=>by
   unfold iq;refine Grown.grow h f _ _ (g.step h) ?_;have:=ku (c:=c) (l:=l) (fV c l i) fun k b=>⟨(eo h b).1,(eo h b).2.1⟩;simp only[Ll,MB]at a |-;omega
def wE{c:aq}(h:b8 c){j:List Int} : ∀ {f g:Nat}{l t:List Int},Grown c j l t->nr c l+t.length<=f->nr c l+t.length<=g->iq c f l t=iq c g l t
 |0,0,_,_,_,_,_=>rfl
 | 0,g+1,l,t,_,a,_=>by
   have:t=[]:=M7 (by omega);subst this;rfl
 | f+1,0,l,t,_,_,b=>by
   have:t=[]:=M7 (by omega);subst this;rfl
 |f+1,g+1,l,[],_,_,_=>rfl
 | f+1,g+1,l,i::r,e,a,b=>by
   have:=ku (c:=c) (l:=l) (fV c l i) fun k d=>⟨(eo h d).1,(eo h d).2.1⟩;simp only[MB]at a b;unfold iq;exact wE h (e.step h) (by rw[Ll];omega) (by rw[Ll];omega)
def qG{c:aq}{l:List Int}(b:l.Nodup):Grown c l l l:=⟨fun _ h=>h,fun _ h=>h,b,fun _ h=> .base h,fun _ h a=>absurd h a,fun _ h a=>absurd h a⟩
def eV{c:aq}(h:b8 c){l:List Int}(a:l.Nodup){x:Int} :x∈oj c l↔Gr c l x:=((qG a).grow h _ _ _ (Lr _)).all
def Gr.real{c:aq}(h:b8 c){l:List Int}{x:Int}(g:Gr c l x):x∈l\/(x∈gv c (aP c x)/\Gr c l (aP c x)/\(al c (aP c x)=true->x=kG c (aP c x)/\ ∀k∈gv c (aP c x),k∉l)):=by
 cases g with
 |base h=>exact .inl h
 | ini g b i f=>
   rename_i p;have a:=iX h b f;have e:=(bO h.toRight a).2.1;rw[e];exact .inr ⟨a,g,fun _=>⟨rfl,i⟩⟩
 | par g b a=>
   have e:=(bO h.toRight a).2.1;rw[e];exact .inr ⟨a,g,fun d=>by rw[b]at d;cases d⟩
def Gr.in{c:aq}(h:b8 c){l:List Int}(b: ∀x∈l,ed c x=true){x:Int}(g:Gr c l x):ed c x=true:=by
 rcases g.real h with a|⟨a,_⟩
 ·exact b x a
 exact(bO h.toRight a).1
def Gr.congr{c:aq}{l e:List Int}(h: ∀x,x∈l↔x∈e){x:Int}(g:Gr c l x):Gr c e x:=by
 induction g with
 |base m=>exact .base ((h _).1 m)
 |ini _ b j f d=>exact .ini d b (fun k a i=>j k a ((h k).2 i)) f
 |par _ b a d=>exact .par d b a
def Bh{c:aq}{l d:List Int}(h: ∀x,x∈l↔x∈d):bt c l=bt c d:=by
 have e:l.all (ed c)=d.all (ed c):=by
  rw[MP,Lm,Lm];exact⟨fun a x b=>a x ((h x).2 b),fun a x b=>a x ((h x).1 b)⟩
 unfold bt;rw[e];split
 ·apply NR;intro k _;rw[MP,Lk,Lk];exact h k
 rfl
/-! As the document says -/
def j4(c:aq)(l:List Int)(i:Nat):Option Int:=match c.Z9[i]? with
 |some s=>if l.contains (i:Int)=true then
  (if s.kind=1/\av c i true≠[]/\bx l (av c i true)=0 then some s.initial
   else if s.kind=2 then(gv c i).find? (fun k=> !l.contains k) else none)
   else none
 |none=>none
def eS(c:aq)(l:List Int)(j:Nat):Option Int:=((List.range c.Z9.length).drop j).findSome? (j4 c l)
def Pc(c:aq)(l:List Int):Int:=(eS c l 0).getD (-1)
def mA(c:aq):Nat->List Int->List Int
 |0,l=>l
 |f+1,l=>if Pc c l<0 then l else mA c f (l++[Pc c l])
def gw{l:List Int}{ks:List Nat} :bx l ks=0↔ ∀k∈zL ks,k∉l:=by
 unfold bx;rw[NE,Nr];constructor
 ·intro h k a;obtain⟨j,b,rfl⟩:=Lp.1 a;simpa using h j b
 intro h k a;simpa using h k (Lp.2 ⟨k,a,rfl⟩)
def GD{c:aq}(h:b8 c){p l:List Int}(v: ∀x∈l,Gr c p x)(y: ∀x∈p,x∈l){x:Int}(a:eS c l 0=some x):Gr c p x/\x∉l/\ed c x=true:=by
 unfold eS at a;rw[List.drop_zero]at a;obtain⟨i,f,a⟩:=List.exists_of_findSome?_eq_some a;unfold j4 at a;have f:=MK.1 f;rw[Lc f]at a;have d:at_ c (i:Int)=some c.Z9[i]:=by rw[bL];exact Lc f
 simp only at a;split at a
 ·rename_i n;have s:=v _ (Lk.1 n);split at a
  ·rename_i t;obtain⟨z,o,A⟩:=t;cases a;have m:al c (i:Int)=true:=by unfold al;rw[d];simp[z]
   have r:kG c (i:Int)=c.Z9[i].initial:=by unfold kG;rw[d]
   have q:0<=kG c (i:Int):=by
    rw[r];rcases h.cases (Lc f) with⟨_,⟨e,_⟩|⟨j,_,e⟩⟩|⟨e,_⟩|⟨e,_⟩|⟨e|e,_⟩
    ·exact absurd e o
    all_goals omega
   have g:=gw.1 A;have b:=iX h m q;rw[<-r];exact⟨.ini s m (fun k b u=>g k b (y k u)) q,g _ b,(bO h.toRight b).1⟩
  split at a
  ·rename_i o;have b:=N2 a;have w:=Oq a;have m:al c (i:Int)=false:=by unfold al;rw[d];simp[o]
   exact⟨.par s m b,by simpa using w,(bO h.toRight b).1⟩
  cases a
 cases a
def GE{c:aq}(h:b8 c){t l:List Int}(D: ∀x∈l,Gr c t x)(J: ∀x∈t,x∈l)(C: ∀x∈t,ed c x=true)(A:eS c l 0=none){x:Int} :x∈l↔Gr c t x:=by
 refine⟨D x,fun g=> ?_⟩
 have r: ∀i,i<c.Z9.length->j4 c l i=none:=fun i v=>by
  unfold eS at A;rw[List.drop_zero,List.findSome?_eq_none_iff]at A;exact A i (MK.2 v)
 induction g with
 |base h=>exact J _ h
 | ini g f I v B=>
   rename_i p;obtain⟨k,s,rfl,a,u⟩:=cO (g.in h C);have:=r k (Ld.1 a).1;unfold j4 at this;rw[a]at this;simp only at this;rw[Lj (Lk.2 B)]at this;have d:s.kind=1:=by unfold al at f;rw[u]at f;simpa using f
   have m:=iX h f v;split at this
   ·cases this
   rename_i G;have z:av c k true≠[]:=fun e=>by rw[gv,e]at m;simp at m
   have E:bx l (av c k true)≠0:=fun e=>G ⟨d,z,e⟩;rw[Ne,gw]at E;obtain⟨j,H⟩:=Classical.not_forall.1 E;obtain⟨n,b⟩:=Classical.not_imp.1 H;have b:=Ow.1 b;rcases (D j b).real h with q|⟨_,_,q⟩
   ·exact absurd q (I j n)
   rw[(bO h.toRight n).2.1]at q;rw[<-(q f).1];exact b
 | par g f w B=>
   rename_i p x;obtain⟨k,s,rfl,a,u⟩:=cO (g.in h C);have:=r k (Ld.1 a).1;unfold j4 at this;rw[a]at this;simp only at this;rw[Lj (Lk.2 B)]at this;have d:s.kind≠1:=by unfold al at f;rw[u]at f;simpa using f
   have o:av c k true≠[]:=fun e=>by rw[gv,e]at w;simp at w
   have y:s.kind=2:=by
    rcases h.cases a with⟨e,_⟩|⟨e,_⟩|⟨_,e,_⟩|⟨_,e,_⟩
    ·exact absurd e d
    ·exact e
    ·exact absurd (ll e) o
    exact absurd (ll e) o
   rw[Lf (fun e=>d e.1),Lj y,O1]at this;simpa using this x w
def wF{c:aq}(h:b8 c){i:List Int}(j: ∀x∈i,ed c x=true): ∀(f:Nat)(l:List Int),(∀x∈l,Gr c i x)->(∀x∈i,x∈l)->nr c l<f-> ∀ {x:Int},x∈mA c f l↔Gr c i x
 |0,l,d,e,n=>by omega
 | f+1,l,d,e,n=>by
   unfold mA Pc;cases m:eS c l 0 with
   | none=>
     simp only[Ni];rw[Lj (by omega)];exact GE h d e j m
   | some y=>
     obtain⟨g,p,b⟩:=GD h d e m;simp only[Mn];rw[Lf (by have:=aI.1 b;omega)];refine wF h j f _ (fun z b=> ?_) (fun z b=>Ma _ (e z b)) ?_
     ·rcases ML.1 b with b|b
      ·exact d z b
      rw[MA.1 b];exact g
     have:=ku (c:=c) (l:=l) (a:=[y]) (by simp) fun k o=>by rw[MA.1 o];exact⟨p,b⟩
     simp only[MX]at this;omega
def EA(c:aq)(l:List Int):nr c l<=c.Z9.length:=by
 unfold nr;exact Ly (MF ..) (by simp)
def y5(c:aq)(l:List Int):List Int:=mA c (c.Z9.length+1) l
def sU{c:aq}(h:b8 c){l:List Int}(b: ∀x∈l,ed c x=true){x:Int} :x∈y5 c l↔Gr c l x:=wF h b _ l (fun _ a=> .base a) (fun _ a=>a) (by have:=EA c l;omega)
/-! The ways up of some states -/
def I'(o:List Int)(i:Int):List Int:=if o.contains i=true then o else o++[i]
def w6(c:aq)(d:Int)(o U:List Int)(m:Nat):List Int:=(U.take m).foldl (fun o k=>if 0<=k/\aE c d k=true then I' o k else o) o
def rv(c:aq)(d:Int)(l:List Int)(j:Nat):List Int:=(l.take j).foldl (fun o i=>w6 c d (I' o i) (i' c i) (i' c i).length) []
def mw(c:aq)(l:List Int)(d:Int):List Int:=rv c d l l.length
def bX{a c:Type}(f:c->a->c)(b:c){l:List a}{j:Nat}{x:a}(h:l[j]? =some x):(l.take (j+1)).foldl f b=f ((l.take j).foldl f b) x:=by
 rw[MM,h,QJ];rfl
def uY{o:List Int}{i x:Int} :x∈I' o i↔x∈o\/x=i:=by
 unfold I';split
 ·rename_i h;have h:=Lk.1 h;exact⟨.inl,fun a=>a.elim id fun e=>e ▸ h⟩
 rw[ML,MA]
def nD{o:List Int}(h:o.Nodup)(i:Int):(I' o i).Nodup:=by
 unfold I';split
 ·exact h
 rename_i a;rw[Nc];refine⟨h,by simp,fun x b y c e=> ?_⟩;rw[MA.1 c]at e;subst e;exact a (Lk.2 b)
def xc{c:aq}{d:Int}{U:List Int} : ∀(m:Nat){o:List Int},m<=U.length->o.Nodup->(w6 c d o U m).Nodup/\ ∀x,x∈w6 c d o U m↔x∈o\/(x∈U.take m/\0<=x/\aE c d x=true)
 |0,o,_,g=>⟨g,fun x=>by simp[w6]⟩
 | m+1,o,n,g=>by
   obtain⟨k,i⟩: ∃k,U[m]? =some k:=⟨U[m],Lc (by omega)⟩;obtain⟨j,l⟩:=xc (c:=c) (d:=d) (U:=U) m (o:=o) (by omega) g;have e:w6 c d o U (m+1)=if 0<=k/\aE c d k=true then I' (w6 c d o U m) k else w6 c d o U m:=bX _ _ i
   have h: ∀x,x∈U.take (m+1)↔x∈U.take m\/x=k:=fun x=>by rw[MM,i];simp
   rw[e];split
   ·rename_i f;refine⟨nD j k,fun x=> ?_⟩;rw[uY,l,h];constructor
    ·rintro((a|⟨a,b⟩)|rfl)
     ·exact .inl a
     ·exact .inr ⟨.inl a,b⟩
     exact .inr ⟨.inr rfl,f⟩
    rintro(a|⟨a|rfl,b⟩)
    ·exact .inl (.inl a)
    ·exact .inl (.inr ⟨a,b⟩)
    exact .inr rfl
   rename_i f;refine⟨j,fun x=> ?_⟩;rw[l,h];constructor
   ·rintro(a|⟨a,b⟩)
    ·exact .inl a
    exact .inr ⟨.inl a,b⟩
   rintro(a|⟨a|rfl,b⟩)
   ·exact .inl a
   ·exact .inr ⟨a,b⟩
   exact absurd b f
def tY{c:aq}{d:Int}{l:List Int} : ∀(j:Nat),j<=l.length->(rv c d l j).Nodup/\ ∀x,x∈rv c d l j↔x∈l.take j\/ ∃i∈l.take j,x∈i' c i/\0<=x/\aE c d x=true
 |0,_=>⟨Q5,fun x=>by simp[rv]⟩
 | j+1,p=>by
   obtain⟨k,f⟩: ∃k,l[j]? =some k:=⟨l[j],Lc (by omega)⟩;obtain⟨n,o⟩:=tY (c:=c) (d:=d) (l:=l) j (by omega);have e:rv c d l (j+1)=w6 c d (I' (rv c d l j) k) (i' c k) (i' c k).length:=bX _ _ f;have g: ∀x,x∈l.take (j+1)↔x∈l.take j\/x=k:=fun x=>by rw[MM,f];simp
   obtain⟨h,m⟩:=xc (c:=c) (d:=d) (U:=i' c k) _ (Lr _) (nD n k);rw[e];refine⟨h,fun x=> ?_⟩;rw[m,uY,o,MC];simp only[g];constructor
   ·rintro(((a|⟨i,a,b⟩)|rfl)|b)
    ·exact .inl (.inl a)
    ·exact .inr ⟨i, .inl a,b⟩
    ·exact .inl (.inr rfl)
    exact .inr ⟨k, .inr rfl,b⟩
   rintro((a|rfl)|⟨i,a|rfl,b⟩)
   ·exact .inl (.inl (.inl a))
   ·exact .inl (.inr rfl)
   ·exact .inl (.inl (.inr ⟨i,a,b⟩))
   exact .inr b
def gf{c:aq}{d:Int}{l:List Int} :(mw c l d).Nodup/\ ∀x,x∈mw c l d↔x∈l\/ ∃i∈l,x∈i' c i/\0<=x/\aE c d x=true:=by
 have:=tY (c:=c) (d:=d) (l:=l) _ (Lr _);rw[MC]at this;exact this
def qY(c:aq)(l:List Int)(d:Int)(i:Nat):Bool:=l.contains (i:Int)||l.any fun k=>aE c (i:Int) k&&aE c d (i:Int)
def rt(c:aq)(l:List Int)(d:Int):List Nat:=(List.range c.Z9.length).filter (qY c l d)
def gP{c:aq}(h:Right c){k i:Int}(a:k∈i' c i)(b:0<=k):ed c k=true/\k<i:=by
 have:=jp h 40 i k a
 have e:ed c i=true:=by
  cases d:ed c i with
  |true=>rfl
  |false=>rw[cW d]at a;simp at a
 have:=aI.1 e;exact⟨aI.2 ⟨b,by omega⟩,by omega⟩
def kq{c:aq}(h:Right c){l:List Int}(p: ∀x∈l,ed c x=true){d x:Int} :x∈zL (rt c l d)↔x∈mw c l d:=by
 rw[gf.2];constructor
 ·intro b;obtain⟨i,n,rfl⟩:=Lp.1 b;obtain⟨_,a⟩:=Lq.1 n;unfold qY at a;rw[Mx,Ml]at a;rcases a with a|⟨k,o,a⟩
  ·exact .inl (by simpa using a)
  rw[Li]at a;exact .inr ⟨k,o,by simpa[aE]using a.1,by omega,a.2⟩
 intro b
 have q:ed c x=true:=by
  rcases b with b|⟨i,_,f,g,_⟩
  ·exact p x b
  exact(gP h f g).1
 have r:=aI.1 q;refine Lp.2 ⟨x.toNat,Lq.2 ⟨MK.2 (by omega),?_⟩,by omega⟩;have e:((x.toNat:Nat):Int)=x:=by omega
 unfold qY;rw[e,Mx,Ml];rcases b with b|⟨i,j,f,g,m⟩
 ·exact .inl (by simpa using b)
 exact .inr ⟨i,j,by rw[Li];exact⟨by simpa[aE]using f,m⟩⟩
def yn{c:aq}(h:b8 c){l:List Int}(a: ∀x∈l,ed c x=true)(d:Int):bt c (oj c (mw c l d))=bt c (y5 c (zL (rt c l d))):=by
 apply Bh;intro x
 have e: ∀x∈zL (rt c l d),ed c x=true:=fun x f=>by
  obtain⟨i,b,rfl⟩:=Lp.1 f;exact aV.2 (MK.1 (Lq.1 b).1)
 rw[eV h gf.1,sU h e];exact⟨.congr fun x=>(kq h.toRight a).symm, .congr fun x=>kq h.toRight a⟩
/-! Rising lists -/
def Rw(l:List Int)(j:Nat):Bool:=(j==0)||decide (l.getD (j-1) 0<l.getD j 0)
def jG(l:List Int)(j:Nat):Bool:=(j==0)||decide (¬l.getD j 0<l.getD (j-1) 0)
def gG(l:List Int):Bool:= !l.isEmpty&&(List.range l.length).all (Rw l)
def jD(l:List Int):Bool:=(List.range l.length).all (jG l)
def Ag(l:List Int)(j:Nat)(b:j<l.length):Lib.keeps l.toArray j=((j==0)||decide (l.getD j 0≠l.getD (j-1) 0)):=by
 unfold Lib.keeps
 have e: ∀k,k<l.length->l.toArray[k]! =l.getD k 0:=fun k a=>by
  rw[OQ _ k (by simpa using a),MJ,Lc a];simp
 rw[e j b,e (j-1) (by omega)];by_cases h:j=0<;>simp[h]
def zi(l:List Int):(Lib.compact l).length=l.length↔ ∀j,j<l.length->Lib.keeps l.toArray j=true:=by
 unfold Lib.compact Lib.compactUpTo;rw[ME]
 conv=>lhs;rhs;rw[<-OT (n:=l.length)]
 rw[O8];simp
def J7(l:List Int):(!l.isEmpty&&jD l&&decide ((Lib.compact l).length=l.length))=gG l:=by
 unfold gG jD;rw[QG]
 congr 1
 rw[MP,Li,Lt,zi,Lm,Lm];simp only[MK];constructor
 ·rintro⟨e,f⟩ j d;have a:=e j d;have b:=f j d;rw[Ag l j d]at b;unfold Rw;unfold jG at a;by_cases c:j=0
  ·simp[c]
  simp[c]at a b |-;omega
 intro h;refine⟨fun j d=> ?_,fun j d=> ?_⟩
 ·have a:=h j d;unfold Rw at a;unfold jG;by_cases c:j=0
  ·simp[c]
  simp[c]at a |-;omega
 have a:=h j d;rw[Ag l j d];unfold Rw at a;by_cases c:j=0
 ·simp[c]
 simp[c]at a |-;omega
def jv{l:List Int}(h:gG l=true):l.Nodup:=by
 unfold gG at h;rw[Li,Lm]at h
 have a: ∀i d,i+d+1<l.length->l.getD i 0<l.getD (i+d+1) 0:=fun i d=>by
  induction d with
  | zero=>
    intro b;have:=h.2 (i+1) (MK.2 (by omega));unfold Rw at this;simpa using this
  | succ d k=>
    intro b;have m:=k (by omega);have:=h.2 (i+d+1+1) (MK.2 (by omega));unfold Rw at this;have n:l.getD (i+d+1) 0<l.getD (i+d+1+1) 0:=by simpa using this
    rw[show i+(d+1)+1=i+d+1+1 by omega];omega
 rw[NU,M6];intro i j c g f e;have:=a i (j-i-1) (by omega);rw[show i+(j-i-1)+1=j by omega]at this;simp[MJ,Lc c,Lc g,e]at this
/-! Deep memories -/
def cZ(c:aq)(l:List Int)(i:Int):Bool:=match at_ c i with
 |some s=> !(((s.kind==1)&&decide (1<bx l (av c i true)))||((s.kind==4)||(s.kind==5)))
 |none=>false
def dv(c:aq)(a i:Int):Bool:=aE c a i&&(av c i true).isEmpty
def ii(c:aq)(a:Int)(l:List Int):List Int:=mw c l a++[a]
def BY(c:aq)(a:Int)(l:List Int):Bool:=gG l&&l.all (dv c a)&&decide ((oj c (ii c a l)).length=(ii c a l).length)&&(oj c (ii c a l)).all (cZ c (oj c (ii c a l)))
def cz(c:aq)(a i:Int):Bool:=aE c a i&&(match at_ c i with|some s=> !aU s|none=>false)&&(av c i true).isEmpty
def dA(c:aq)(l:List Int)(i:Int):Bool:=match at_ c i with
 |some s=> !(((s.kind==1)&&decide (bx l (av c i true)≠min (av c i true).length 1))||((s.kind==2)&&decide (bx l (av c i true)≠(av c i true).length)))
 |none=>false
def md(c:aq)(a:Int)(l:List Int):List Int:=zL (rt c l a)++[a]
def so(c:aq)(a:Int)(l:List Int):Bool:=gG l&&l.all (cz c a)&&(md c a l).all (dA c (md c a l))
def wG(c:aq): ∀(f:Nat)(l t:List Int),∃a,iq c f l t=l++a
 |0,l,t=>⟨[],by simp[iq]⟩
 |f+1,l,[]=>⟨[],by simp[iq]⟩
 | f+1,l,i::r=>by
   obtain⟨a,e⟩:=wG c f (l++jJ c l i) (r++jJ c l i);exact⟨jJ c l i++a,by unfold iq;rw[e,M4]⟩
def kZ(c:aq): ∀(f:Nat)(l t:List Int),l.Nodup->(iq c f l t).Nodup
 |0,l,t,h=>h
 |f+1,l,[],h=>h
 | f+1,l,i::r,h=>by
   unfold iq;refine kZ c f _ _ ?_;rw[Nc];refine⟨h,fV c l i,fun x a y b e=> ?_⟩;subst e;have:=(Lq.1 b).2;simp[a]at this
def GT{c:aq}(h:b8 c){l:List Int}(d:l.Nodup):(oj c l).length=l.length↔ ∀x,Gr c l x->x∈l:=by
 obtain⟨a,e⟩:=wG c (nr c l+l.length) l l;have e:oj c l=l++a:=e;constructor
 ·intro i x f;have:a=[]:=M7 (by rw[e,Ll]at i;omega);rw[this,Mw]at e;rw[<-e];exact(eV h d).2 f
 intro f;have b:=(kZ c (nr c l+l.length) l l d).length_le_of_subset (l₂:=l) fun x g=>f x ((eV h d).1 g);have b:(oj c l).length<=l.length:=b;rw[e,Ll]at b |-;omega
def iF{l a:List Int}(h: ∀x,x∈l↔x∈a)(ks:List Nat):bx l ks=bx a ks:=by
 unfold bx
 congr 1
 apply NR;intro k _;rw[MP,Lk,Lk];exact h _
def rK{c:aq}(h:b8 c): ∀(n:Nat)(i k:Int),i<n->k∈i' c i->0<=k->ax c k=true
 | 0,i,k,f,hk,b=>by
   cases a:ed c i with
   |true=>have:=aI.1 a;omega
   |false=>rw[cW a]at hk;simp at hk
 | n+1,i,k,f,hk,b=>by
   cases a:ed c i with
   |false=>rw[cW a]at hk;simp at hk
   | true=>
     rw[cn h.toRight a]at hk;have g:=dV h.toRight a;rcases hk with rfl|hk
     ·obtain⟨j,s,rfl,d,_⟩:=cO a;have:=h.st j s d;simp only[cJ,Li]at this;have:=this.1.1.1.2;rw[eA d]at b |-;simp only[dB,Mx,Li,Mh]at this;rcases this with e|⟨_,e⟩
      ·omega
      exact e
     exact rK h n _ k (by omega) hk b
def gn{c:aq}{i:Int}(h:ax c i=true): ∃s,at_ c i=some s/\(s.kind=1\/s.kind=2):=by
 unfold ax at h;split at h
 ·rename_i s a;refine⟨s,a,?_⟩;unfold eK at h;simpa using h
 cases h
def lC{c:aq}(h:b8 c){i:Int}{s:na}(b:at_ c i=some s):(s.kind=1/\(av c i true=[]\/(0<=kG c i/\kG c i∈gv c i)))\/(s.kind=2/\av c i true≠[])\/(s.kind=3/\av c i true=[])\/((s.kind=4\/s.kind=5)/\av c i true=[]):=by
 have g:0<=i:=by
  unfold at_ at b;split at b
  ·assumption
  cases b
 obtain⟨k,rfl⟩: ∃k:Nat,i=k:=⟨i.toNat,by omega⟩;have d:kG c (k:Int)=s.initial:=by unfold kG;rw[b]
 rw[bL]at b;rcases h.cases b with⟨e,⟨a,_⟩|⟨j,f,a⟩⟩|⟨e,_,a,_⟩|⟨e,a,_⟩|⟨e,a,_⟩
 ·exact .inl ⟨e, .inl a⟩
 ·exact .inl ⟨e, .inr (by rw[d,a];exact⟨by omega,Lp.2 ⟨j,f,rfl⟩⟩)⟩
 ·exact .inr (.inl ⟨e,a⟩)
 ·exact .inr (.inr (.inl ⟨e,ll a⟩))
 exact .inr (.inr (.inr ⟨e,ll a⟩))
def br{c:aq}{i:Int}{s:na}(a:at_ c i=some s):al c i=(s.kind==1):=by unfold al;rw[a]
def jj{l:List Int}{ks:List Nat} :bx l ks=ks.length↔ ∀k∈zL ks,k∈l:=by
 unfold bx;rw[O8];constructor
 ·intro h k a;obtain⟨j,b,rfl⟩:=Lp.1 a;simpa using h j b
 intro h k a;simpa using h k (Lp.2 ⟨k,a,rfl⟩)
def pT{c:aq}(h:b8 c){a:Int}(W:ax c a=true)(l:List Int):BY c a l=so c a l:=by
 unfold BY so;cases hr:gG l with
 |false=>rfl
 |true=>
 simp only[M5];by_cases f:l.all (dv c a)=true
 ·rw[f,M5]
  have N: ∀x∈l,aE c a x=true/\av c x true=[]/\ed c x=true:=fun x b=>by
   have:=Lm.1 f x b;unfold dv at this;rw[Li]at this;refine⟨this.1,by simpa using this.2,?_⟩;cases t:ed c x with
   |true=>rfl
   | false=>
     have:=this.1;unfold aE at this;rw[cW t]at this;simp at this
  obtain⟨sp,D,V⟩:=gn W
  have hp0:0<=a:=by
   unfold at_ at D;split at D
   ·assumption
   cases D
  obtain⟨un,U⟩:=gf (c:=c) (d:=a) (l:=l)
  have w: ∀x∈mw c l a,aE c a x=true:=fun x b=>by
   rcases (U x).1 b with b|⟨_,_,_,_,b⟩
   ·exact(N x b).1
   exact b
  have S:a∉mw c l a:=fun t=>by
   have:=w _ t;unfold aE at this;have:=(jp h.toRight 40 a a (Lk.1 this)).2;omega
  have C:(ii c a l).Nodup:=by
   unfold ii;rw[Nc];refine⟨un,by simp,fun x b y hy e=> ?_⟩;rw[MA.1 hy]at e;rw[e]at b;exact S b
  have o: ∀x,x∈md c a l↔x∈ii c a l:=fun x=>by
   unfold md ii;rw[ML,ML,kq h.toRight fun x b=>(N x b).2.2]
  have I: ∀x∈ii c a l,x∈l\/ax c x=true:=fun x b=>by
   rcases ML.1 b with b|b
   ·rcases (U x).1 b with b|⟨i,_,j,Y,_⟩
    ·exact .inl b
    exact .inr (rK h 40 i x (by
     cases t:ed c i with
     |true=>have:=aI.1 t;have:=h.Z6;omega
     |false=>rw[cW t]at j;simp at j) j Y)
   rw[MA.1 b];exact .inr W
  have J: ∀x∈l,x∈ii c a l:=fun x b=>Ma _ ((U x).2 (.inl b))
  have n: ∀x∈ii c a l,∃s,at_ c x=some s:=fun x b=>by
   rcases I x b with b|b
   ·obtain⟨_,s,_,_,e⟩:=cO (N x b).2.2;exact⟨s,e⟩
   obtain⟨s,e,_⟩:=gn b;exact⟨s,e⟩
  rw[MP,Li,Lt,GT h C,Li];constructor
  ·rintro⟨Q,z⟩
   have E: ∀x,x∈oj c (ii c a l)↔x∈ii c a l:=fun x=>by
    rw[eV h C];exact⟨Q x, .base⟩
   have z: ∀x∈ii c a l,cZ c (ii c a l) x=true:=fun x b=>by
    have:=Lm.1 z x ((E x).2 b);unfold cZ at this |-;obtain⟨s,m⟩:=n x b;rw[m]at this |-;rw[iF E]at this;exact this
   refine⟨Lm.2 fun x b=> ?_,Lm.2 fun x b=> ?_⟩
   ·have:=z x (J x b);unfold cZ at this;unfold cz;obtain⟨s,m⟩:=n x (J x b);rw[m]at this |-;simp only at this |-;rw[(N x b).1,(N x b).2.1];unfold aU;simp only[Bool.not_or,Li]at this;simp[this.2.1,this.2.2]at*
   have b:=(o x).1 b;obtain⟨s,m⟩:=n x b;have j:=z x b;unfold cZ at j;unfold dA;rw[m]at j |-;simp only at j |-;rw[iF o];rcases lC h m with⟨e,v⟩|⟨e,v⟩|⟨e,v⟩|⟨e,v⟩
   ·have K:bx (ii c a l) (av c x true)<=1:=by
     rw[e]at j;simp at j;exact j
    have:bx (ii c a l) (av c x true)=min (av c x true).length 1:=by
     rcases v with v|⟨v,P⟩
     ·rw[v];rfl
     have L:0< (av c x true).length:=by
      cases T:av c x true with
      |nil=>rw[gv,T]at P;simp at P
      |cons=>simp
     have X:bx (ii c a l) (av c x true)≠0:=fun G=>by
      have M:=gw.1 G;exact M _ P (Q _ (.ini (.base b) (by rw[br m,e];rfl) M v))
     omega
    simp[e,this]
   ·have:bx (ii c a l) (av c x true)=(av c x true).length:=jj.2 fun k u=>Q k (.par (.base b) (by rw[br m,e];rfl) u);simp[e,this]
   ·simp[e]
   rcases e with e|e<;>simp[e]
  rintro⟨R,r⟩
  have r: ∀x∈ii c a l,dA c (ii c a l) x=true:=fun x b=>by
   have:=Lm.1 r x ((o x).2 b);unfold dA at this |-;obtain⟨s,m⟩:=n x b;rw[m]at this |-;rw[iF o]at this;exact this
  have H: ∀x,Gr c (ii c a l) x->x∈ii c a l:=fun x g=>by
   induction g with
   |base h=>exact h
   | ini g q Z G O=>
     rename_i p
     exfalso
     obtain⟨s,m⟩:=n p O;have j:=r p O;unfold dA at j;rw[m]at j;rw[br m]at q;have u:s.kind=1:=by simpa using q
     have A:=iX h (by rw[br m,u];rfl) G
     have L:0< (av c p true).length:=by
      cases T:av c p true with
      |nil=>rw[gv,T]at A;simp at A
      |cons=>simp
     have G:=gw.2 Z;simp only[u,G]at j;simp at j;omega
   | par g q u O=>
     rename_i p k;obtain⟨s,m⟩:=n p O;have j:=r p O;unfold dA at j;rw[m]at j;rw[br m]at q;rcases lC h m with⟨e,_⟩|⟨e,_⟩|⟨_,e⟩|⟨_,e⟩
     ·rw[e]at q;cases q
     ·simp[e]at j;exact jj.1 j k u
     ·rw[gv,e]at u;simp at u
     rw[gv,e]at u;simp at u
  have E: ∀x,x∈oj c (ii c a l)↔x∈ii c a l:=fun x=>by
   rw[eV h C];exact⟨H x, .base⟩
  refine⟨H,Lm.2 fun x b=> ?_⟩;have b:=(E x).1 b;obtain⟨s,m⟩:=n x b;have j:=r x b;unfold dA at j;unfold cZ;rw[m]at j |-;simp only at j |-;rw[iF E]
  have B:s.kind≠4/\s.kind≠5:=by
   rcases I x b with b|b
   ·have:=Lm.1 R x b;unfold cz at this;rw[m]at this;simp only[aU,Li,Bool.not_or]at this;have:=this.1.2;exact⟨by simpa using this.1,by simpa using this.2⟩
   obtain⟨s',e,v⟩:=gn b;rw[m]at e;cases e;omega
  have K:s.kind=1->bx (ii c a l) (av c x true)<=1:=fun e=>by
   simp[e]at j;omega
  by_cases e:s.kind=1
  ·have:=K e;simp[e];omega
  simp[e,B.1,B.2]
 have f:l.all (dv c a)=false:=by simpa using f
 rw[f]
 have:l.all (cz c a)=false:=by
  rw[Nu]at f |-;obtain⟨x,b,e⟩:=f;refine⟨x,b,fun t=>e ?_⟩;unfold cz at t;unfold dv;simp only[Li]at t |-;exact⟨t.1.1,t.2⟩
 rw[this];rfl
/-! Memories -/
abbrev dg:=Int×List Int
def kx(c:aq)(m:dg):Bool:=match at_ c m.1 with
 |some s=>if s.kind=4 then decide (m.2.length=1)&&(gv c s.parent).contains (m.2.getD 0 0) else(s.kind==5)&&BY c s.parent m.2
 |none=>false
def ma(c:aq)(l:List dg)(j:Nat):Bool:=match l[j]? with
 |some m=>kx c m&&((j==0)||decide ((l.getD (j-1) (0,[])).1<m.1))
 |none=>true
def bZ(c:aq)(l:List dg):Bool:=(List.range l.length).all (ma c l)
end
section
open Go.RowKit Go.ChangeShapes Go.WideShapes Go.ChangeAt
def eg(m:dg):List AV:=[I m.1, .seq 1 (m.2.map aa)]
def S6:=@eg.eq_1
def Kp(m:dg):Prop:=m.2.length<=maxLen
def Db:prog.cellsOf 27=1:=by kernel_rfl
def KZ:prog.cellsOf 122=2:=by kernel_rfl
section
variable {H:Type} {enc:TypeId×Value->H} {w:World} {base:Nat} {spare:Nat->Bool} {held:Bool}
theorem L'(m:Nat)(cs:List Value)(y:DataW H×List MemPlace)(h:DataW.trod enc prog w base spare held m 3 cs=some y): ∃a:Int,RE w aa (fun _=>True) cs a:=by
 obtain⟨n,rfl, -, -⟩:=NK Tryz.underlying3 h;exact⟨n,⟨⟨rfl, .lit _⟩,trivial⟩,trivial⟩
theorem Qx.app{S:Nat->Nat->Prop}{w:World} : ∀ {vs c:List Value}{cs a:List AV},Qx S w vs cs->Qx S w c a->Qx S w (vs++c) (cs++a)
 |[],_,[],_,_,h=>h
 |_::_,_,_::_,_,b,d=>⟨b.1,Qx.app b.2 d⟩
end
end
section
open Go.RowKit
def L3(a b:Nat)(h:b<=a)(c:a<9223372036854775808):IntKind.i64.wrap ((a:Int)-(b:Int))=((a-b:Nat):Int):=by rw[aW (by omega) (by omega)];omega
abbrev b0(l:List Int):AV:= .seq 1 (l.map aa)
def cR(t:List UInt8×Int):List AV:=[Sg t.1,I t.2]
def S5:=@cR.eq_1
def i8(r:Rc):List AV:=[b0 r.Z4,b0 r.vars, .seq 2 (r.mem.map eg), .seq 2 (r.timers.map cR),B r.over]
def S8:=@i8.eq_1
def eD{a:Type}{l:List a}{i:Nat}{x d:a}(h:l[i]? =some x):l.getD i d=x:=by rw[MJ,h];rfl
def Kh{a:Type}{l:List a}{i:Nat}{x:a}(h:l[i]? =some x):x∈l:=Lh h
def tO{i:Nat}{f:Nat->Bool}(a: ∀j,j<i->f j=true)(h:f i=true): ∀j,j<i+1->f j=true:=fun j b=>by
 by_cases e:j=i
 ·rw[e];exact h
 exact a j (by omega)
def pH: ∀a b:List UInt8,Op.bytesLess b a= !(Op.bytesLess a b||a==b)
 |[],[]=>rfl
 |[],_::_=>rfl
 |_::_,[]=>rfl
 | x::a,y::b=>by
   have i:=pH a b;simp only[Op.bytesLess,List.cons_beq_cons,i];by_cases h:x=y
   ·subst h;simp
   have g: ¬y=x:=fun e=>h e.symm;have c:(x==y)=false:=by simpa using h
   have d:(y==x)=false:=by simpa using g
   have f:decide (y<x)= !decide (x<y):=by
    rw[MP];simp[UInt8.lt_iff_toNat_lt];have:x.toNat≠y.toNat:=fun e=>h (UInt8.toNat_inj.1 e);omega
   simp[c,d,f]
def cU(s c:St):Prop:= ∀(x:o1)(a:Act)(w:World)(m:k6),dj x s a w m-> ∃b,dj x c a w b
def cU.refl(s:St):cU s s:=fun _ _ _ m h=>⟨m,h⟩
def cU.trans{s b c:St}(h:cU s b)(k:cU b c):cU s c:=fun x a w m e=>by
 obtain⟨f,d⟩:=h x a w m e;exact k x a w f d
def cU.less{s a:St}(h:Qv s a):cU s a:=fun _ _ _ m b=>⟨m,b.less h⟩
def cU.ren{s:St}(r r2:Nat)(row:Row)(a:r2≠r)(f:s.rows r=some row)(b:s.rows r2=none)(c:row.sz≠0)(e:row.pure=true):cU s (eJ s r r2 row):=fun _ _ _ _ d=>⟨_,d.ren r r2 row a f b c e⟩
def cU.sees{s:St}(L:List (Nat×Nat×AV))(a:qt s L):cU s (j0 s L):=fun _ _ _ m b=>by
 obtain⟨c,k⟩:=b.sees L a;exact⟨_,k⟩
def cU.mapSee{s:St}(r:Nat)(row:Row)(d:s.rows r=some row)(a:row.sz=0)(b:row.es.all (·.all AV.bare)=true):cU s (yY s r (.fmap row.es)):=fun _ _ _ m c=>by
 obtain⟨e,k⟩:=c.mapSee r row d a b;exact⟨_,k⟩
def cU.head{s:St}{F:List (Nat×AV)}{R:List (Nat×Row)}(a:cP s F)(b:bp s R):cU s (Go.Proofs.YtknkhdgfhbogdaaGreatDoor.head F R s.vs s.esc):= .less (dN a b)
section
variable {P:Program} {env:b6} {nt:Nat} {Q:Exit->St->Prop} {s:St}
theorem dq{c:Code}(h:fk P env nt c (fun e p=> ∃b,cU p b/\Q e b) s):fk P env nt c Q s:=fun o x k l a w m j=>by
 refine Nv (h o x k l a w m j) ?_;rintro e q u ⟨t,r,⟨b,d,f⟩,g⟩;obtain⟨n,i⟩:=d _ _ _ _ g;exact⟨b,n,f,i⟩
theorem eh{c:Code}{b:St}(i:cU s b)(h:fk P env nt c Q b):fk P env nt c Q s:=fun k x f g a w m e=>by
 obtain⟨j,d⟩:=i _ _ _ _ e;exact h k x f g a w j d
end
def jw:Nat->List Row->List (Nat×Row)
 |_,[]=>[]
 |b,r::l=>(b,r)::jw (b+1) l
def nM{t:Nat} : ∀ {l:List Row}{b:Nat},ao (jw b l) t=if b<=t then l[t-b]? else none
 |[],b=>by simp[jw,ao]
 | r::l,b=>by
   simp only[jw,ao,nM (l:=l)];by_cases h:t=b
   ·subst h;simp
   rw[Lf h];by_cases a:b<=t
   ·rw[Lj a,Lj (by omega),show t-b=(t-(b+1))+1 by omega,NW]
   rw[Lf a,Lf (by omega)]
def px{s:St} : ∀ {l:List Row}{b:Nat},(∀q r,l[q]? =some r->s.rows (q+b)=some r)->bp s (jw b l)
 |[],b,h=>trivial
 | r::l,b,h=>⟨by have:=h 0 r rfl; rwa [Mt] at this,px fun q c a=>by
    have:=h (q+1) c (by simpa using a)
    rwa [show q+1+b=q+(b+1) by omega]at this⟩
def mU{p:Nat×Row} : ∀ {l:List Row}{b:Nat},p∈jw b l-> ∃q,l[q]? =some p.2/\p.1=q+b
 |[],b,h=>by simp[jw]at h
 | r::l,b,h=>by
   simp only[jw,MI]at h;rcases h with rfl|h
   ·exact⟨0,rfl,by simp⟩
   obtain⟨q,a,c⟩:=mU h;exact⟨q+1,by simpa using a,by omega⟩
end
end Go.Proofs.YtknkhdgfhbogdaaGreatDoor
