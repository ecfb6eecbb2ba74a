/- Ways up and growing, as the program does them. -/
import Derived.Test.YtknkhdgfhbogdaaGreatDoorP18
set_option maxRecDepth 100000
set_option maxHeartbeats 16000000
set_option linter.unusedSimpArgs false
set_option linter.defProp false
namespace Go.Proofs.YtknkhdgfhbogdaaGreatDoor
open Go.Proofs.Tryz
open Go.RowKit
section
/-! Legal states -/
def Hg{l:List Int}(h: ∀j,0<j->j<l.length->l.getD (j-1) 0<l.getD j 0):l.Pairwise (· < ·):=by
 rw[M6];intro i j f k g
 have a: ∀d,i+d+1<l.length->l.getD i 0<l.getD (i+d+1) 0:=fun d=>by
  induction d with
  |zero=>intro c;simpa using h (i+1) (by omega) (by omega)
  | succ d m=>
    intro c;have n:=m (by omega);have b:=h (i+d+1+1) (by omega) (by omega);have e:i+(d+1)+1=i+d+1+1:=by omega
    rw[e];simp only[OG]at b;omega
 have:=a (j-i-1) (by omega);rw[show i+(j-i-1)+1=j by omega]at this;simpa[MJ,Lc f,Lc k]using this
structure Lg(c:aq)(act:List Int):Prop where
 ZZ:act.Pairwise (· < ·)
 fit: ∀x∈act,∃s,at_ c x=some s/\qx c act x.toNat s=true
 top:bx act (av c (-1) true)=1
def cr{c:aq}{act:List Int}(h:rx c act=true):Lg c act:=by
 obtain⟨e,f⟩:=yZ.1 h
 have d: ∀j (a:j<act.length),(j==0||decide (act.getD (j-1) 0<act[j]))=true/\uk c act act[j]=true:=fun j a=>by
  have:=e j a;unfold uh at this;rw[Lc a]at this;simpa only[Li]using this
 refine⟨Hg fun j k a=> ?_,fun x i=> ?_,f⟩
 ·have:=(d j a).1;have b:(j==0)=false:=by simp;omega
  rw[b,NY,Lt]at this;simpa[MJ,Lc a]using this
 obtain⟨j,a,rfl⟩:=O9.1 i;have:=(d j a).2;unfold uk at this;split at this
 ·rename_i s g;exact⟨s,g,this⟩
 cases this
def Lg.of{c:aq}{act:List Int}(h:Lg c act){x:Int}(j:x∈act): ∃s,at_ c x=some s/\ed c x=true/\aU s=false/\(aP c x<0\/aP c x∈act)/\(s.kind=1->av c x true≠[]->bx act (av c x true)=1)/\(s.kind=2->bx act (av c x true)=(av c x true).length):=by
 obtain⟨s,a,b⟩:=h.fit x j
 have f:0<=x/\c.Z9[x.toNat]? =some s:=by
  unfold at_ at a;split at a
  ·exact⟨by assumption,a⟩
  cases a
 obtain⟨k,rfl⟩: ∃k:Nat,x=k:=⟨x.toNat,by omega⟩;have g:=(Ld.1 f.2).1;have i:aP c (k:Int)=s.parent:=by unfold aP;rw[a]
 unfold qx at b;rw[Mz,Li,Li]at b;obtain⟨⟨f1,f2⟩,f3⟩:=b;refine⟨s,a,aI.2 ⟨by omega,by simpa using g⟩,by simpa using f1,?_,fun e d=> ?_,fun e=> ?_⟩
 ·rw[i];rw[Mx,Lt]at f2;exact f2.imp id fun f2=>by simpa using f2
 ·rw[Lj ⟨e,d⟩]at f3;simpa using f3
 rw[Lf (fun q=>by omega),Lj e]at f3;simpa using f3
def Lg.real{c:aq}{act:List Int}(h:Lg c act){x:Int}(d:x∈act){s:na}(b:at_ c x=some s):s.kind≠4/\s.kind≠5:=by
 obtain⟨f,e,_,a,_⟩:=h.of d;rw[b]at e;cases e;unfold aU at a;simpa using a
def Lg.nodup{c:aq}{act:List Int}(h:Lg c act):act.Nodup:=h.ZZ.imp fun h=>by omega
def Lg.up{c:aq}(b:Right c){act:List Int}(h:Lg c act): ∀(n:Nat)(x k:Int),x<n->x∈act->k∈i' c x->0<=k->k∈act
 | 0,x,k,f,d,hk,e=>by
   obtain⟨_,_,a,_⟩:=h.of d;have:=aI.1 a;omega
 | n+1,x,k,f,d,hk,e=>by
   obtain⟨_,_,a,_,hp,_⟩:=h.of d;rw[cn b a]at hk;have:=dV b a;rcases hk with rfl|hk
   ·exact hp.resolve_left (by omega)
   rcases hp with hp|hp
   ·rw[cW (by unfold ed;rw[MU (by omega),M0])]at hk;simp at hk
   exact Lg.up b h n _ k (by omega) hp hk e
def gh{c:aq}(g:Right c){l:List Int}(b: ∀x∈l,ed c x=true){x:Int} :x∈zL (bt c l)↔x∈l:=by
 have d:l.all (ed c)=true:=Lm.2 b;unfold bt;rw[Lj d];constructor
 ·intro a;obtain⟨k,f,rfl⟩:=Lp.1 a;simpa using (Lq.1 f).2
 intro a;have h:=aI.1 (b x a);refine Lp.2 ⟨x.toNat,Lq.2 ⟨?_,?_⟩,by omega⟩
 ·exact(gJ g _).2 (by omega)
 have e:((x.toNat:Nat):Int)=x:=by omega
 rw[e];simpa using a
/-! Memories in their order -/
def kp:List dg->dg->List dg
 |[],m=>[m]
 |x::r,m=>if x.1<m.1 then x::kp r m else if x.1=m.1 then m::r else m::x::r
abbrev Qf(l:List dg):Prop:=l.Pairwise fun a b=>a.1<b.1
def nu{m p:dg} : ∀ {l:List dg},Qf l->(p∈kp l m↔p=m\/(p∈l/\p.1≠m.1))
 |[],_=>by simp[kp]
 | x::r,h=>by
   obtain⟨c,e⟩:=NT.1 h;unfold kp;split
   ·rename_i f;rw[MI,nu e,MI];constructor
    ·rintro(rfl|rfl|⟨a,b⟩)
     ·exact .inr ⟨.inl rfl,by omega⟩
     ·exact .inl rfl
     exact .inr ⟨.inr a,b⟩
    rintro(rfl|⟨rfl|a,b⟩)
    ·exact .inr (.inl rfl)
    ·exact .inl rfl
    exact .inr (.inr ⟨a,b⟩)
   split
   ·rename_i d;rw[MI,MI];constructor
    ·rintro(rfl|a)
     ·exact .inl rfl
     exact .inr ⟨.inr a,by have:=c p a;omega⟩
    rintro(rfl|⟨rfl|a,b⟩)
    ·exact .inl rfl
    ·exact absurd d b
    exact .inr a
   rename_i g d;rw[MI,MI];constructor
   ·rintro(rfl|rfl|a)
    ·exact .inl rfl
    ·exact .inr ⟨.inl rfl,by omega⟩
    exact .inr ⟨.inr a,by have:=c p a;omega⟩
   rintro(rfl|⟨rfl|a,b⟩)
   ·exact .inl rfl
   ·exact .inr (.inl rfl)
   exact .inr (.inr a)
def tm{m:dg} : ∀ {l:List dg},Qf l->Qf (kp l m)
 |[],_=>by simp[kp,Qf]
 | x::r,h=>by
   obtain⟨b,c⟩:=NT.1 h;unfold kp;split
   ·rename_i d;refine NT.2 ⟨fun p hp=> ?_,tm c⟩;rcases (nu c).1 hp with rfl|⟨a,_⟩
    ·exact d
    exact b p a
   split
   ·rename_i e;exact NT.2 ⟨fun p hp=>by have:=b p hp;omega,c⟩
   refine NT.2 ⟨fun p hp=> ?_,h⟩;rcases MI.1 hp with rfl|hp
   ·omega
   have:=b p hp;omega
def J4{a b:List dg}(c:Qf a)(d:Qf b)(h: ∀p,p∈a↔p∈b):a=b:=by
 have f:a.Nodup:=c.imp fun h e=>by rw[e]at h;omega
 have g:b.Nodup:=d.imp fun h e=>by rw[e]at h;omega
 exact PV (fun x y _ _ i j=>by omega) c d ((List.perm_ext_iff_of_nodup f g).2 h)
/-! What is remembered -/
def fi(c:aq)(l:List Int)(i:Int):List Int:=l.filter (aE c i)
def n4(c:aq)(l:List Int)(i:Int):Bool:= !(gv c i).any fun k=>l.contains k
def kk(c:aq)(l:List Int):List Int:=bQ (l.filter (n4 c l))
def lv(c:aq)(act:List Int)(i:Int):List Int:=match ((gv c i).filter fun k=>act.contains k).getLast? with
 |some k=>[k]
 |none=>[]
def ru(c:aq)(act:List Int)(i:Int)(h:Nat):List Int:=match c.Z9[h]? with
 |some s=>if s.kind=5 then kk c (fi c act i) else lv c act i
 |none=>[]
def py(c:aq)(act:List Int)(i:Int)(o:List dg)(M:List Nat)(m:Nat):List dg:=(M.take m).foldl (fun o (h:Nat)=>kp o ((h:Int),ru c act i h)) o
def ta(c:aq)(act gone:List Int)(o:List dg)(j:Nat):List dg:=(gone.take j).foldl (fun o i=>if al c i=true then py c act i o (va c i) (va c i).length else o) o
def m7(c:aq)(act gone:List Int)(mem:List dg):List dg:=ta c act gone mem gone.length
def vn{c:aq}{act:List Int}{i:Int}{M:List Nat} : ∀(m:Nat){o:List dg},m<=M.length->Qf o->Qf (py c act i o M m)/\ ∀p,p∈py c act i o M m↔(∃h∈M.take m,p=((h:Int),ru c act i h))\/(p∈o/\ ∀h∈M.take m,p.1≠(h:Int))
 |0,o,_,g=>⟨g,fun p=>by simp[py]⟩
 | m+1,o,r,g=>by
   obtain⟨k,j⟩: ∃k,M[m]? =some k:=⟨M[m],Lc (by omega)⟩;obtain⟨l,q⟩:=vn (c:=c) (act:=act) (i:=i) (M:=M) m (o:=o) (by omega) g;have e:py c act i o M (m+1)=kp (py c act i o M m) ((k:Int),ru c act i k):=bX _ _ j;have n: ∀x,x∈M.take (m+1)↔x∈M.take m\/x=k:=fun x=>by rw[MM,j];simp
   rw[e];refine⟨tm l,fun p=> ?_⟩;rw[nu l,q];simp only[n];constructor
   ·rintro(rfl|⟨⟨h,a,rfl⟩|⟨a,b⟩,d⟩)
    ·exact .inl ⟨k, .inr rfl,rfl⟩
    ·exact .inl ⟨h, .inl a,rfl⟩
    exact .inr ⟨a,fun h f=>f.elim (b h) fun e=>by rw[e];exact d⟩
   rintro(⟨h,a|rfl,rfl⟩|⟨a,b⟩)
   ·by_cases e:h=k
    ·exact .inl (by rw[e])
    exact .inr ⟨.inl ⟨h,a,rfl⟩,by simp;omega⟩
   ·exact .inl rfl
   exact .inr ⟨.inr ⟨a,fun h f=>b h (.inl f)⟩,b k (.inr rfl)⟩
def gL{c:aq}{i:Int}{k:Nat} :k∈va c i↔ ∃s,c.Z9[k]? =some s/\ed c i=true/\s.parent=i/\aU s=true:=by
 unfold va Jm;rw[Lq,MK];constructor
 ·rintro⟨b,a⟩;rw[Lc b]at a |-;simp only[Li,Mh]at a;exact⟨_,rfl,a.1,a.2.1,a.2.2⟩
 rintro⟨s,d,b,a,e⟩;refine⟨(Ld.1 d).1,?_⟩;rw[d];simp[b,a,e]
def Ra(c:aq)(gone:List Int)(h:Int):Prop:= ∃i∈gone,al c i=true/\ ∃k∈va c i,h=(k:Int)
def AN{c:aq}{act gone:List Int}{o:List dg}(u:Qf o): ∀(j:Nat),j<=gone.length->Qf (ta c act gone o j)/\ ∀p,p∈ta c act gone o j↔(∃i∈gone.take j,al c i=true/\ ∃k∈va c i,p=((k:Int),ru c act i k))\/(p∈o/\ ¬Ra c (gone.take j) p.1)
 |0,_=>⟨u,fun p=>by simp[ta,Ra]⟩
 | j+1,H=>by
   obtain⟨i,z⟩: ∃i,gone[j]? =some i:=⟨gone[j],Lc (by omega)⟩;obtain⟨A,B⟩:=AN (c:=c) (act:=act) (gone:=gone) u j (by omega);have e:ta c act gone o (j+1)=if al c i=true then py c act i (ta c act gone o j) (va c i) (va c i).length else ta c act gone o j:=bX _ _ z
   have y: ∀x,x∈gone.take (j+1)↔x∈gone.take j\/x=i:=fun x=>by rw[MM,z];simp
   rw[e];split
   ·rename_i n;obtain⟨E,G⟩:=vn (c:=c) (act:=act) (i:=i) (M:=va c i) _ (Lr _) A;refine⟨E,fun p=> ?_⟩;rw[G,B,MC];unfold Ra;simp only[y];constructor
    ·rintro(⟨h,a,rfl⟩|⟨⟨f,a,b,k,t,rfl⟩|⟨a,b⟩,d⟩)
     ·exact .inl ⟨i, .inr rfl,n,h,a,rfl⟩
     ·exact .inl ⟨f, .inl a,b,k,t,rfl⟩
     refine .inr ⟨a,?_⟩;rintro⟨f,l | rfl,g,k,t,w⟩
     ·exact b ⟨f,l,g,k,t,w⟩
     exact d k t w
    rintro(⟨f,a|rfl,b,k,d,rfl⟩|⟨a,b⟩)
    ·by_cases e:f=i
     ·subst e;exact .inl ⟨k,d,rfl⟩
     refine .inr ⟨.inl ⟨f,a,b,k,d,rfl⟩,fun h v m=>e ?_⟩;have m:((k:Nat):Int)=h:=m;have m:k=h:=by omega
     subst m;obtain⟨s,u,_,C,_⟩:=gL.1 d;obtain⟨I,q,_,D,_⟩:=gL.1 v;rw[u]at q;cases q;rw[<-C, <-D]
    ·exact .inl ⟨k,d,rfl⟩
    refine .inr ⟨.inr ⟨a,fun⟨f,l,g,r⟩=>b ⟨f, .inl l,g,r⟩⟩,fun h v m=>b ⟨i, .inr rfl,n,h,v,m⟩⟩
   rename_i n;refine⟨A,fun p=> ?_⟩;rw[B];unfold Ra;simp only[y];constructor
   ·rintro(⟨f,a,b,r⟩|⟨a,b⟩)
    ·exact .inl ⟨f, .inl a,b,r⟩
    refine .inr ⟨a,?_⟩;rintro⟨f,l | rfl,g,r⟩
    ·exact b ⟨f,l,g,r⟩
    exact n g
   rintro(⟨f,a|rfl,b,r⟩|⟨a,b⟩)
   ·exact .inl ⟨f,a,b,r⟩
   ·exact absurd b n
   exact .inr ⟨a,fun⟨f,l,g,r⟩=>b ⟨f, .inl l,g,r⟩⟩
def Kb{c:aq}{act gone:List Int}{o:List dg}(a:Qf o):Qf (m7 c act gone o)/\ ∀p,p∈m7 c act gone o↔(∃i∈gone,al c i=true/\ ∃k∈va c i,p=((k:Int),ru c act i k))\/(p∈o/\ ¬Ra c gone p.1):=by
 have:=AN (c:=c) (act:=act) (gone:=gone) a _ (Lr _);rw[MC]at this;exact this
/-! As the document says -/
def Su(mem:List dg)(h:Int):List Int:=match mem.find? (fun m=>m.1==h) with
 |some m=>m.2
 |none=>[]
def Iq(c:aq)(l:List Int):List Nat:=(List.range c.Z9.length).filter fun i:Nat=>l.contains (i:Int)&&(bx l (av c i true)==0)
def lc(c:aq)(l:List Int)(i:Int):List Int:=(zL (bt c l)).filter (aE c i)
def A'(c:aq)(act gone:List Int)(mem:List dg)(h:Nat):List Int:=match c.Z9[h]? with
 |some s=>if aU s=true then(if gone.contains s.parent=true then(if s.kind=5 then zL (Iq c (lc c act s.parent)) else(gv c s.parent).filter fun k=>act.contains k) else Su mem h) else []
 |none=>[]
def eP(c:aq)(act gone:List Int)(mem:List dg)(j:Nat):List dg:=((List.range j).filter fun h=> !(A' c act gone mem h).isEmpty).map fun h:Nat=>((h:Int),A' c act gone mem h)
def Bs(c:aq)(act gone:List Int)(mem:List dg):List dg:=eP c act gone mem c.Z9.length
def Dy{mem:List dg}(g:Qf mem){p:dg}(f:p∈mem):Su mem p.1=p.2:=by
 unfold Su;cases c:mem.find? (fun m=>m.1==p.1) with
 | none=>
   rw[O1]at c;exact absurd (QO p.1) (c p f)
 | some q=>
   have i:=Oq c;have j:=N2 c;simp only[Mh]at i
   have k:q=p:=by
    obtain⟨a,d,rfl⟩:=O9.1 j;obtain⟨b,e,rfl⟩:=O9.1 f;rcases O2 a b with h|h|h
    ·have:=M6.1 g a b d e h;omega
    ·subst h;rfl
    have:=M6.1 g b a e d h;omega
   rw[k]
def oe{c:aq}{mem:List dg}(h:bZ c mem=true):Qf mem/\ ∀m∈mem,kx c m=true:=by
 have g: ∀j (f:j<mem.length),kx c mem[j]=true/\(j=0\/(mem.getD (j-1) (0,[])).1<mem[j].1):=fun j f=>by
  have:=Lm.1 h j (MK.2 f);unfold ma at this;rw[Lc f,Li,Mx,Lt]at this;exact⟨this.1,this.2.imp (by simp) id⟩
 refine⟨M6.2 ?_,fun m p=> ?_⟩
 ·intro i j n f o
  have l: ∀d (k:i+d+1<mem.length),mem[i].1<mem[i+d+1].1:=fun d=>by
   induction d with
   | zero=>
     intro k;have:=(g (i+1) k).2.resolve_left (by omega);simpa[MJ,Lc n]using this
   | succ d q=>
     intro k;have a:=q (by omega);have b:=(g (i+d+1+1) (by omega)).2.resolve_left (by omega);simp only[OG,MJ,Lc (show i+d+1<mem.length by omega),Mn]at b;have e:i+(d+1)+1=i+d+1+1:=by omega
     simp only[e];omega
  have:=l (j-i-1) (by omega);simpa[show i+(j-i-1)+1=j by omega]using this
 obtain⟨j,f,rfl⟩:=O9.1 p;exact(g j f).1
def Jl{c:aq}{mem:List dg}(e:Qf mem)(d: ∀m∈mem,kx c m=true):bZ c mem=true:=by
 refine Lm.2 fun j a=> ?_;have a:=MK.1 a;unfold ma;rw[Lc a];simp only;rw[d _ (N4 a),M5];by_cases b:j=0
 ·simp[b]
 have:=M6.1 e (j-1) j (by omega) a (by omega);simp[MJ,Lc (show j-1<mem.length by omega),this]
def xh{l:List Int}(h:gG l=true):l≠[]:=by
 unfold gG at h;rw[Li]at h;intro e;rw[e]at h;simp at h
def EC{c:aq}{m:dg}(h:kx c m=true): ∃(k:Nat) (s:na),m.1=(k:Int)/\c.Z9[k]? =some s/\aU s=true/\m.2≠[]:=by
 unfold kx at h;split at h
 ·rename_i s a
  have b:0<=m.1/\c.Z9[m.1.toNat]? =some s:=by
   unfold at_ at a;split at a
   ·exact⟨by assumption,a⟩
   cases a
  refine⟨m.1.toNat,s,by omega,b.2,?_,?_⟩
  ·unfold aU;split at h
   ·rename_i e;simp[e]
   rw[Li]at h;rw[h.1];simp
  split at h
  ·rw[Li,Lt]at h;intro e;rw[e]at h;simp at h
  unfold BY at h;simp only[Li]at h;exact xh h.2.1.1.1
 cases h
def Ho{l:List Int}{ks:List Nat} :bx l ks=0↔((zL ks).any fun k=>l.contains k)=false:=by
 rw[gw,Oy];simp
def lh{a b:List Int}(c:a.Pairwise (· < ·))(d:b.Pairwise (· < ·))(h: ∀x,x∈a↔x∈b):a=b:=by
 have e:a.Nodup:=c.imp fun h=>by omega
 have f:b.Nodup:=d.imp fun h=>by omega
 exact PV (fun x y _ _ g i=>by omega) c d ((List.perm_ext_iff_of_nodup e f).2 h)
def mR{l:List Int}(f:l.Nodup):(bQ l).Pairwise (· < ·)/\ ∀x,x∈bQ l↔x∈l:=by
 have g:(bQ l).Pairwise (fun x y:Int=>decide (x<=y)=true):=P4 (fun a b c=>by simp;omega) (fun a b=>by simp;omega) _;have e:(bQ l).Perm l:=PQ ..;have d:(bQ l).Nodup:=e.nodup_iff.2 f;refine⟨(List.pairwise_and_iff.2 ⟨g,d⟩).imp fun⟨a,b⟩=> ?_,fun x=>e.mem_iff⟩;have a:=of_decide_eq_true a;omega
def xa{p:Nat->Bool}{n:Nat} :(zL ((List.range n).filter p)).Pairwise (· < ·):=by
 unfold zL;rw[Oz];exact(Bn (p:=p) (n:=n)).imp fun h=>by omega
def C9{c:aq}(n:Right c){act:List Int}(f:Lg c act)(i:Int):kk c (fi c act i)=zL (Iq c (lc c act i)):=by
 have g: ∀x∈act,ed c x=true:=fun x b=>by obtain⟨_,_,h,_⟩:=f.of b;exact h
 have d: ∀x,x∈lc c act i↔x∈fi c act i:=fun x=>by
  unfold lc fi;rw[Lq,Lq,gh n g]
 have m:((fi c act i).filter (n4 c (fi c act i))).Nodup:=(f.nodup.sublist My).sublist My;obtain⟨o,p⟩:=mR m;refine lh o xa fun x=> ?_;unfold kk;rw[p,Lq]
 have a: ∀k:Nat,n4 c (fi c act i) k=(bx (lc c act i) (av c k true)==0):=fun k=>by
  rw[iF d,MP];unfold n4;rw[Mo,Mh,Ho]
 constructor
 ·rintro⟨e,j⟩;have b:x∈act:=(Lq.1 e).1;have:=aI.1 (g x b);obtain⟨k,rfl⟩: ∃k:Nat,x=k:=⟨x.toNat,by omega⟩;refine Lp.2 ⟨k,Lq.2 ⟨MK.2 (by omega),?_⟩,rfl⟩;rw[Li,Lk, <-a];exact⟨(d _).2 e,j⟩
 intro b;obtain⟨k,l,rfl⟩:=Lp.1 b;have:=(Lq.1 l).2;rw[Li,Lk, <-a]at this;exact⟨(d _).1 this.1,this.2⟩
def RH{l:List Int}{x:Int}(h:l=[x]):l.getLast? =some x:=by rw[h];rfl
def qB(act:List Int)(ks:List Nat):((zL ks).filter fun k=>act.contains k).length=bx act ks:=by
 unfold bx zL;rw[List.filter_map,ME];rfl
def uA{c:aq}{act:List Int}{i:Int}(h:bx act (av c i true)=1): ∃k,k∈gv c i/\k∈act/\lv c act i=[k]/\((gv c i).filter fun k=>act.contains k)=[k]:=by
 rw[<-qB]at h;obtain⟨k,a⟩:=OY.1 h;have e:k∈(gv c i).filter fun k=>act.contains k:=by rw[a];simp
 obtain⟨b,d⟩:=Lq.1 e;refine⟨k,b,by simpa using d,?_,a⟩;unfold lv;rw[RH a]
def pL{c:aq}(f:Right c){act:List Int}(i:Int): ∀(n:Nat)(x:Int),(c.Z9.length:Int)<=x+n->x∈fi c act i-> ∃y∈kk c (fi c act i),y=x\/x∈i' c y
 | 0,x,o,g=>by
   have h:i∈i' c x:=by simpa[aE]using (Lq.1 g).2
   cases b:ed c x with
   |true=>have:=aI.1 b;omega
   |false=>rw[cW b]at h;simp at h
 | n+1,x,o,g=>by
   have l:=Lq.1 g;have h:i∈i' c x:=by simpa[aE]using l.2
   by_cases d:n4 c (fi c act i) x=true
   ·refine⟨x,?_, .inl rfl⟩;unfold kk;exact(PQ ..).mem_iff.2 (Lq.2 ⟨g,d⟩)
   have d:((gv c x).any fun k=>(fi c act i).contains k)=true:=by
    unfold n4 at d;simpa using d
   obtain⟨k,m,j⟩:=Ml.1 d;obtain⟨q,r,s⟩:=bO f m;obtain⟨y,p,a⟩:=pL f i n k (by omega) (by simpa using j);have e:x∈i' c k:=(cn f q).2 (.inl r.symm);refine⟨y,p, .inr ?_⟩;rcases a with rfl|a
   ·exact e
   exact iP f ((c.Z9.length+1)) y k x (by
    cases b:ed c y with
    |true=>have:=aI.1 b;omega
    |false=>rw[cW b]at a;simp at a) a e
def ae{c:aq}(a:Right c){p x:Int}(b:ed c x=true):aE c p x=true↔aP c x=p\/aE c p (aP c x)=true:=by
 unfold aE;rw[Lk,Lk,cn a b];exact⟨fun h=>h.imp Eq.symm id,fun h=>h.imp Eq.symm id⟩
def IW{c:aq}(h:b8 c){act:List Int}(t:Lg c act){p:Int}(R:p∈act)(E:al c p=true)(q:av c p true≠[]):so c p (kk c (fi c act p))=true:=by
 have A:=h.toRight;have H: ∀x∈act,ed c x=true:=fun x l=>by obtain⟨_,_,h,_⟩:=t.of l;exact h
 have f: ∀x∈fi c act p,x∈act/\aE c p x=true:=fun x l=>Lq.1 l;have Z:((fi c act p).filter (n4 c (fi c act p))).Nodup:=(t.nodup.sublist My).sublist My;obtain⟨r1,r2⟩:=mR Z;have m: ∀x,x∈kk c (fi c act p)↔x∈fi c act p/\n4 c (fi c act p) x=true:=fun x=>by unfold kk;rw[r2,Lq]
 have n: ∀x k,(x=p\/x∈fi c act p)->k∈gv c x->(k∈fi c act p↔k∈act):=fun x k l q=>by
  obtain⟨V,J,_⟩:=bO A q;refine⟨fun o=>(f k o).1,fun o=>Lq.2 ⟨o,(ae A V).2 ?_⟩⟩;rw[J];exact l.imp id fun l=>(f x l).2
 have T:=t.of R;obtain⟨sp,U,hzp,_,_,S,_⟩:=T;have N:sp.kind=1:=by rw[br U]at E;simpa using E
 obtain⟨I,V,J,_,_⟩:=uA (S N q);have M:I∈fi c act p:=(n p I (.inl rfl) V).2 J;obtain⟨y0,G,_⟩:=pL A p (c.Z9.length+1) I (by have:=aI.1 (H I J);omega) M;have g:kk c (fi c act p)≠[]:=fun e=>by rw[e]at G;simp at G
 have w:gG (kk c (fi c act p))=true:=by
  unfold gG;rw[Li,Lm];refine⟨by simpa using g,fun j D=> ?_⟩;have D:=MK.1 D;unfold Rw;by_cases L:j=0
  ·simp[L]
  have:=M6.1 r1 (j-1) j (by unfold kk at D;omega) D (by omega);rw[Mx,Lt];right;rw[MJ,MJ,Lc D,Lc (show j-1< (kk c (fi c act p)).length by omega)];exact this
 have u: ∀x∈kk c (fi c act p),av c x true=[]:=fun x l=>by
  obtain⟨K,W⟩:=(m x).1 l;have z:=(f x K).1;obtain⟨s,B,_,P,_,f1,f2⟩:=t.of z
  have Q: ∀k∈gv c x,k∉act:=fun k q o=>by
   unfold n4 at W;have:((gv c x).any fun k=>(fi c act p).contains k)=true:=Ml.2 ⟨k,q,by simpa using (n x k (.inr K) q).2 o⟩;rw[this]at W;cases W
  have L:=gw.2 Q;apply Ns;intro g;rcases lC h B with⟨e,_⟩|⟨e,_⟩|⟨_,e⟩|⟨_,e⟩
  ·have:=f1 e g;omega
  ·have:=f2 e;rw[L]at this;exact g (M7 this.symm)
  ·exact g e
  exact g e
 have r: ∀x,x∈md c p (kk c (fi c act p))↔x∈fi c act p\/x=p:=fun x=>by
  unfold md;rw[ML,MA,kq A fun x l=>H x (f x ((m x).1 l).1).1,gf.2];constructor
  ·rintro((a|⟨i,a,b,d,e⟩)|a)
   ·exact .inl ((m x).1 a).1
   ·have C:=(f i ((m i).1 a).1).1;exact .inl (Lq.2 ⟨t.up A (c.Z9.length+1) i x (by have:=aI.1 (H i C);omega) C b d,e⟩)
   exact .inr a
  rintro(a|a)
  ·obtain⟨y,Y,e|e⟩:=pL A p (c.Z9.length+1) x (by have:=aI.1 (H x (f x a).1);omega) a
   ·exact .inl (.inl (by rw[<-e];exact Y))
   exact .inl (.inr ⟨y,Y,e,(aI.1 (H x (f x a).1)).1,(f x a).2⟩)
  exact .inr a
 unfold so;rw[w,M5,Li,Lm,Lm];refine⟨fun x l=> ?_,fun x l=> ?_⟩
 ·obtain⟨K,_⟩:=(m x).1 l;obtain⟨q3,q4⟩:=f x K;obtain⟨s,B,_,P,_⟩:=t.of q3;unfold cz;rw[q4,B,u x l];simp[P]
 have l:=(r x).1 l;have z:x∈act:=l.elim (fun a=>(f x a).1) fun a=>by rw[a];exact R
 obtain⟨s,B,_,P,_,f1,f2⟩:=t.of z
 have v:bx (md c p (kk c (fi c act p))) (av c x true)=bx act (av c x true):=by
  unfold bx
  congr 1
  apply NR;intro k q;have O:(k:Int)∈gv c x:=Lp.2 ⟨k,q,rfl⟩;rw[MP,Lk,Lk,r];refine⟨fun o=>o.elim (fun a=>(f _ a).1) fun a=>by rw[a];exact R,fun o=> .inl ((n x k ?_ O).2 o)⟩;exact l.symm
 unfold dA;rw[B];simp only;rw[v];rcases lC h B with⟨e,_⟩|⟨e,_⟩|⟨e,_⟩|⟨e,_⟩
 ·by_cases g:av c x true=[]
  ·simp[e,g,bx]
  have:=f1 e g;have X:0< (av c x true).length:=NG.2 g;simp[e,this];omega
 ·simp[e,f2 e]
 ·simp[e]
 rcases e with e|e<;>simp[e]
def ol{c:aq}(h:b8 c){k:Nat}{s:na}(j:c.Z9[k]? =some s)(f:aU s=true):al c s.parent=true/\ax c s.parent=true/\av c s.parent true≠[]/\ed c s.parent=true/\(s.kind=4\/s.kind=5):=by
 have i:s.kind=4\/s.kind=5:=by unfold aU at f;simpa using f
 rcases h.cases j with⟨e,_⟩|⟨e,_⟩|⟨e,_⟩|⟨_,_,b,d⟩
 ·omega
 ·omega
 ·omega
 unfold cq at b;split at b
 ·rename_i q a;refine⟨by unfold al;rw[a];exact b,?_,fun e=> ?_,?_,i⟩
  ·unfold ax eK;rw[a];simp only[b,P7]
  ·rw[e]at d;simp[DH]at d
  unfold at_ at a;split at a
  ·rename_i g;have:=(Ld.1 a).1;exact aI.2 ⟨g,by omega⟩
  cases a
 cases b
def A4{c:aq}(h:b8 c){act:List Int}(f:Lg c act){k:Nat}{s:na}(i:c.Z9[k]? =some s)(p:aU s=true)(n:s.parent∈act):
 ru c act s.parent k=(if s.kind=5 then zL (Iq c (lc c act s.parent)) else(gv c s.parent).filter fun k=>act.contains k)/\kx c ((k:Int),ru c act s.parent k)=true:=by
 obtain⟨b,o,l,w,x⟩:=ol h i p;have d:at_ c (k:Int)=some s:=by rw[bL];exact i
 have a:ru c act s.parent k=if s.kind=5 then kk c (fi c act s.parent) else lv c act s.parent:=by
  unfold ru;rw[i]
 have m: ∀v,kx c ((k:Int),v)=if s.kind=4 then decide (v.length=1)&&(gv c s.parent).contains (v.getD 0 0) else(s.kind==5)&&BY c s.parent v:=fun v=>by
  unfold kx;simp only[d]
 by_cases e:s.kind=5
 ·rw[Lj e]at a;rw[a,m,Lj e,Lf (by omega)];refine⟨C9 h.toRight f _,?_⟩;rw[pT h o,IW h f n b l,e];rfl
 rw[Lf e]at a;rw[a,m,Lf e,Lj (by omega)];obtain⟨sp,j,_,_,_,f1,_⟩:=f.of n;have g:sp.kind=1:=by rw[br j]at b;simpa using b
 obtain⟨q,r,y,t,u⟩:=uA (f1 g l);rw[t,u];refine⟨rfl,?_⟩;rw[Li];exact⟨rfl,Lk.2 r⟩
def iz{c:aq}(h:b8 c){act gone:List Int}{mem:List dg}(S:rx c act=true)(T:bZ c mem=true)(y: ∀x∈gone,x∈act):m7 c act gone mem=Bs c act gone mem/\bZ c (m7 c act gone mem)=true:=by
 have M:=cr S;obtain⟨u,G⟩:=oe T;obtain⟨O,L⟩:=Kb (c:=c) (act:=act) (gone:=gone) u
 have l: ∀p∈m7 c act gone mem,kx c p=true:=fun p w=>by
  rcases (L p).1 w with⟨i,r,I,k,z,rfl⟩|⟨w,_⟩
  ·obtain⟨s,u,_,rfl,d⟩:=gL.1 z;exact(A4 h M u d (y _ r)).2
  exact G p w
 refine⟨J4 O ?_ fun p=> ?_,Jl O l⟩
 ·unfold Bs eP Qf;rw[Oz];exact(Bn (p:=fun h=> !(A' c act gone mem h).isEmpty) (n:=c.Z9.length)).imp fun h=>by simp only;omega
 have t: ∀ {k:Nat}{s:na},c.Z9[k]? =some s->aU s=true->A' c act gone mem k=if gone.contains s.parent=true then ru c act s.parent k else Su mem k:=fun {k s} u d=>by
  unfold A';rw[u];simp only;rw[Lj d];split
  ·rename_i o;exact((A4 h M u d (y _ (Lk.1 o))).1).symm
  rfl
 have Q:p∈Bs c act gone mem↔ ∃k:Nat,k<c.Z9.length/\A' c act gone mem k≠[]/\p=((k:Int),A' c act gone mem k):=by
  unfold Bs eP;rw[Lp];constructor
  ·rintro⟨k,z,rfl⟩;obtain⟨a,b⟩:=Lq.1 z;exact⟨k,MK.1 a,by simpa using b,rfl⟩
  rintro⟨k,a,b,rfl⟩;exact⟨k,Lq.2 ⟨MK.2 a,by simpa using b⟩,rfl⟩
 rw[Q];constructor
 ·intro w;obtain⟨k,s,C,f,d,g⟩:=EC (l p w)
  have N:A' c act gone mem k=p.2:=by
   rw[t f d];rcases (L p).1 w with⟨i,r,I,B,v,rfl⟩|⟨J,H⟩
   ·obtain⟨U,j,_,D,_⟩:=gL.1 v;have P:((B:Nat):Int)=k:=C;have:B=k:=by omega
    subst this;rw[f]at j;cases j;rw[Lj (by rw[D];exact Lk.2 r),D]
   rw[Lf, <-C,Dy u J];intro o;have r:=Lk.1 o;obtain⟨K,_,_,p4,_⟩:=ol h f d;exact H ⟨s.parent,r,K,k,gL.2 ⟨s,f,p4,rfl,d⟩,C⟩
  refine⟨k,(Ld.1 f).1,by rw[N];exact g,?_⟩;rw[N, <-C]
 rintro⟨k,z,g,rfl⟩;obtain⟨s,f⟩: ∃s,c.Z9[k]? =some s:=⟨_,Lc z⟩
 have d:aU s=true:=by
  cases R:aU s with
  |true=>rfl
  | false=>
    unfold A' at g;rw[f]at g;simp[R]at g
 obtain⟨K,_,_,p4,_⟩:=ol h f d;rw[t f d]at g |-;rw[L];split
 ·rename_i o;exact .inl ⟨s.parent,Lk.1 o,K,k,gL.2 ⟨s,f,p4,rfl,d⟩,rfl⟩
 rename_i o;rw[Lf o]at g;refine .inr ⟨?_,?_⟩
 ·apply Ns;intro A;cases E:mem.find? (fun m=>m.1==(k:Int)) with
  |none=>unfold Su at g;rw[E]at g;exact g rfl
  | some q=>
    have a:=Oq E;have b:=N2 E;simp only[Mh]at a;have:=Dy u b;rw[a]at this;rw[this, <-a]at A;exact A b
 rintro⟨i,r,_,B,v,e⟩;have V:((k:Nat):Int)=B:=e;have e:k=B:=by omega
 subst e;obtain⟨U,j,_,D,_⟩:=gL.1 v;rw[f]at j;cases j;rw[<-D]at r;exact o (Lk.2 r)
/-! Moves -/
end
section
def F'(c:aq)(act:List Int)(i:Int):List Int:=(zL (bt c act)).filter (aE c i)
def gV(c:aq)(l:List Int)(i:Int)(j:Nat):List Int:=(l.take j).filter (aE c i)
def mM{c:aq}{l:List Int}{i:Int}{j:Nat}{x:Int}(h:l[j]? =some x):gV c l i (j+1)=if aE c i x then gV c l i j++[x] else gV c l i j:=by
 unfold gV;rw[MM,h,MR];cases a:aE c i x<;>simp[a]
def ox(c:aq)(l:List Int)(i:Int)(j:Nat):(gV c l i j).length<=l.length:=by
 unfold gV;exact Ly (MF ..) (by rw[Lw];omega)
def cQ{c:aq}(a:Right c)(act:List Int):(bt c act).length<=32:=by
 unfold bt;split
 ·exact Ly (MF ..) (tX a (by omega))
 simp
def Ac(env:b6)(c:aq)(m:Right c)(act:List Int)(t:act.length<=1000000)(d:Int):b7 prog env 235 [aH c, .seq 1 (act.map aa),I d] (.own 3 1 ((F' c act d).reverse.map aa)):=by
 have f1:=bP env c;have f2:=fY env c m act t;have f:=cQ m act;rw[<-b9]at f2;unfold F';have f:(zL (bt c act)).length<=32:=by rw[ak];exact f
 generalize zL (bt c act)=L at*;unfold aH aQ at f1;unfold aQ at f2;unfold aH;refine qf func235 call235 ntmps235 results235 ?_;repeat refine zy f1 f2 ?_
 refine am 7 7 3 1 ?_;refine PA L.length (by omega) (fun j q=>[(0, .ref 9 [ca c] 0 0),(2,I d),(7, .row 7 (q 7)),(13, .row 13 (q 13)),(14,I L.length),(15,I j)]) (fun j _=>[(7,⟨1,(gV c L d j).map aa,3,true⟩),(13,⟨1,L.map aa,3,true⟩)]) (fun j _ b=>b 7=false) rfl ?_ ?_
 ·rintro j u b e l p a;obtain⟨x,n⟩:=gE e;have f3:=fG env c m d x;unfold aQ at f3;have s:=ox c L d j;have o:cI ((gV c L d j).length+1) 8:=aC (by omega) (by omega);have k:=mM (c:=c) (i:=d) n;cases h:aE c d x with
  | true=>
    rw[h]at f3;rw[h,Lj rfl]at k;have F:=g7 l p n o a;repeat refine vb f1 f3 ?_
    refine⟨j+1,⟨e,by simp only[go_sem,a]⟩,?_,?_,by omega⟩
    ·exact qe
    have F:=ai k @Ln.{0,0};exact qe
  | false=>
    rw[h]at f3;rw[h,Lf MW]at k;have F:=g7 l p n o a;repeat refine vb f1 f3 ?_
    refine⟨j+1,⟨e,by simp only[go_sem,a]⟩,?_,?_,by omega⟩
    ·exact qe
    have F:=ai k @Ln.{0,0};exact qe
 rintro u b l a;have g:gV c L d L.length=L.filter (aE c d):=by unfold gV;rw[MC]
 rw[g];have r:(L.filter (aE c d)).length<=32:=Ly (MF ..) f;generalize L.filter (aE c d)=U at*;have f4:=rX U (by omega);have F:=ai l a;repeat refine st ?_
 refine ng 7 rfl (row:=⟨1,U.map aa,3,true⟩) f4 (MZ 0) rfl (bu _).symm (by simp only[go_sem,a];exact iR) (by simp only[go_sem,a];exact iR) (by simp only[go_sem,a];exact iR) (by simp only[go_sem,a];exact iR) ?_;rw[bu];exact dT
def Cf(env:b6)(a b:Addr)(d:fq env a b)(s:List UInt8):b7 prog env 140 [Sg s] (fc (-1) (cf a)):=by
 have c:=iH d.e1;have f0:=bh env s a;refine qf func140 call140 ntmps140 results140 ?_;have F:=c;exact g9 f0
def fe(c:aq)(act:List Int)(t:sh):List Int:=if t.target<0 then [] else(F' c act (nb c t.src t.target)).reverse
def wy(env:b6)(d e:Addr)(j:fq env d e)(c:aq)(h:b8 c)(b:g6 c)(act:List Int)(f:act.length<=1000000)(k:Nat)(t:sh)(g:c.trans[k]? =some t)(i:rx c act=true):b7 prog env 200 [aH c, .seq 1 (act.map aa),I k] (.tuple [.seq 1 ((fe c act t).map aa),h8]):=by
 have f0:=cd env d e j c h b act f;have f1:=ni env c b k t g;have f2:=mq env c h.toRight b t (h.src g).1;have f3:=Ac env c h.toRight act f (nb c t.src t.target);unfold vA at f0;rw[i]at f0;simp only[Mb]at f0;unfold fe;unfold an at f1 f2;unfold aH at f0 f1 f2 f3 |-;by_cases a:t.target<0
 ·rw[Lj a];refine qw func200 call200 ntmps200 results200 ?_;have F:=a;repeat refine SP f0 f1 f2 f3 ?_
  (refine aM ?_;refine⟨_,(by show (ag _ _ _).run _=some _;simp only[go_sem,F];rfl),?_⟩)
  exact .of (.tuple (.cons (.nil 1) (.cons (.refl _) .nil))) (fun _ _ _ h=>by cases h) (fun _ _ _ h=>by cases h)
 rw[Lf a];refine qf func200 call200 ntmps200 results200 ?_;have F:=a;exact RG f0 f1 f2 f3
def Gy{l:List Int}(h: ∀x∈l,0<=x):l=zL (l.map Int.toNat):=by
 unfold zL;rw[OE]
 conv=>lhs;rw[<-Q2 l]
 refine NO fun x a=> ?_;have:=h x a;simp only[id_eq,Function.comp];omega
def r8(env:b6)(c:aq)(a:Right c)(act:List Int)(b:act.length<=1000000)(d: ∀x∈act,0<=x):b7 prog env 128 [.agg (aA c), .seq 1 (act.map aa)] (.own 3 1 ((bt c act).map aB)):=by
 have f:=lM env c a (act.map Int.toNat) (by rw[ME];exact b);rw[<-b9, <-Gy d]at f;exact f
def nJ(env:b6)(c:aq)(l:Right c)(act:List Int)(r:act.length<=1000000)(s: ∀x∈act,0<=x)(i:Int):b7 prog env 184 [.agg (aA c), .seq 1 (act.map aa),I i] (.own 3 1 ((F' c act i).map aa)):=by
 have f2:=r8 env c l act r s;have f:=cQ l act;rw[<-b9]at f2;unfold F';have f:(zL (bt c act)).length<=32:=by rw[ak];exact f
 generalize zL (bt c act)=L at*;unfold aA at f2;refine qf func184 call184 ntmps184 results184 ?_;have F:=aA.eq_1;repeat refine ef f2 ?_
 have F:=aA.eq_1;refine lq L.length (by omega) (fun j n=>[(2,I i),(3, .loc 3 (n 3) 0 0),(7, .row 10 (n 10)),(8, .row 13 (n 13)),(9,I j)]) (fun j _=>[(3,⟨5,[aA c],26,false⟩),(10,⟨1,(gV c L i j).map aa,3,true⟩),(13,⟨1,L.map aa,3,true⟩)]) (fun j _ a=>a 10=false) rfl ?_ ?_
 ·rintro j t a b k p d;obtain⟨x,m⟩:=gE b;have f3:=eM env c l i x;unfold aA at f3;have q:=ox c L i j;have o:cI ((gV c L i j).length+1) 8:=aC (by omega) (by omega);have h:=mM (c:=c) (i:=i) m;cases g:aE c i x with
  | true=>
    rw[g]at f3;rw[g,Lj rfl]at h;have F:=ip SR k p m o d;repeat refine ef f3 ?_
    refine⟨j+1,⟨b,by simp only[go_sem,d]⟩,?_,?_,by omega⟩
    ·exact qe
    have F:=fI SR h @Ln.{0,0};exact qe
  | false=>
    rw[g]at f3;rw[g,Lf MW]at h;have F:=ip SR k p m o d;repeat refine ef f3 ?_
    refine⟨j+1,⟨b,by simp only[go_sem,d]⟩,?_,?_,by omega⟩
    ·exact qe
    have F:=fI SR h @Ln.{0,0};exact qe
 rintro t a k d;have e:gV c L i L.length=L.filter (aE c i):=by unfold gV;rw[MC]
 rw[e];have F:=ai k d;exact dT
def mW(l:List Int)(m:Nat):List Int:=(l.drop (l.length-m)).reverse
def Bo{l:List Int}{m:Nat}{x:Int}(b:m<l.length)(h:l[l.length-m-1]? =some x):mW l (m+1)=mW l m++[x]:=by
 unfold mW;rw[show l.length-(m+1)=l.length-m-1 by omega];obtain⟨a,rfl⟩:=Ld.1 h;rw[N1 a,QL]
 congr 3
 omega
def lj(env:b6)(l:List Int)(q:l.length<=1000000):b7 prog env 127 [.seq 1 (l.map aa)] (.own 3 1 (l.reverse.map aa)):=by
 have g:IntKind.i64.wrap ((l.length:Int)-1)=(l.length:Int)-1-((0:Nat):Int):=by rw[aW (by omega) (by omega)];omega
 refine qf func127 call127 ntmps127 results127 ?_;have F:=g;repeat refine st ?_
 refine aG (D:=Nat) (fun m p=>[(0, .seq 1 (l.map aa)),(3, .row 5 (p 5)),(4,I ((l.length:Int)-1-(m:Int)))]) (fun m _=>[(5,⟨1,(mW l m).map aa,3,true⟩)]) (fun m _ a=>m<=l.length/\a 5=false) (fun m=>l.length-m) 0 ?_ ?_ ?_ ?_
 ·exact⟨Lx _,rfl⟩
 ·exact qe
 ·have:mW l 0=[]:=by unfold mW;simp
  rw[this]
  (simp only[go_sem,F])
  try rfl
 rintro m s a ⟨r,d⟩;have j:(mW l m).length=m:=by unfold mW;rw[NZ,NP];omega
 by_cases c:m<l.length
 ·obtain⟨x,f⟩: ∃x,l[l.length-m-1]? =some x:=⟨l[l.length-m-1]'(by omega),Lc _⟩;have k:(l.length:Int)-1-(m:Int)=((l.length-m-1:Nat):Int):=by omega
  have e:(0:Int)<=((l.length-m-1:Nat):Int):=by omega
  have n:IntKind.i64.wrap (((l.length-m-1:Nat):Int)-1)=(l.length:Int)-1-((m+1:Nat):Int):=by rw[aW (by omega) (by omega)];omega
  have o:((l.length-m-1:Nat):Int)< (l.length:Int):=by omega
  have h:cI ((mW l m).length+1) 8:=⟨by omega,by omega⟩;have i:=Bo c f;rw[k];have F:=ip f e n o h d;repeat refine st ?_
  refine⟨m+1,⟨c,by simp only[go_sem,d]⟩,?_,?_,by omega⟩
  ·exact qe
  have F:=ai i @Ln.{0,0};exact qe
 obtain rfl:m=l.length:=by omega
 have e: ¬(0:Int)<=(l.length:Int)-1-(l.length:Int):=by omega
 have b:mW l l.length=l.reverse:=by unfold mW;simp
 rw[b];have F:=ai e d;exact dT
def jf(env:b6)(c:aq)(h:b8 c)(act:List Int)(b:act.length<=1000000)(f: ∀x∈act,0<=x)(k:Nat)(t:sh)(d:c.trans[k]? =some t):b7 prog env 126 [.agg (aA c), .seq 1 (act.map aa), .agg (an t)] (.own 3 1 ((fe c act t).map aa)):=by
 have f1:=lk env c h.toRight t (h.src d).1;have f2:=nJ env c h.toRight act b f (nb c t.src t.target);have e:(F' c act (nb c t.src t.target)).length<=32:=Ly (MF ..) (by rw[ak];exact cQ h.toRight act);have f3:=lj env (F' c act (nb c t.src t.target)) (by omega);unfold fe;unfold an at f1;unfold aA at f1 f2;by_cases a:t.target<0
 ·rw[Lj a];refine qw func126 call126 ntmps126 results126 ?_;have F:=fI SV SR a;repeat refine Qs f1 f2 f3 ?_
  (refine aM ?_;refine⟨_,(by show (ag _ _ _).run _=some _;simp only[go_sem,F];rfl),?_⟩)
  exact fX.own_nil _ _ (by decide)
 rw[Lf a];refine qf func126 call126 ntmps126 results126 ?_;have F:=fI SV SR a;exact x5 f1 f2 f3
end
section
def HJ:List Int->Int->Nat->Option Nat
 |[],_,_=>none
 |x::l,k,n=>if k=x then some n else HJ l k (n+1)
def lS{k:Int} : ∀ {l:List Int}{n:Nat},k∉l->HJ l k n=none
 |[],_,_=>rfl
 | x::l,n,h=>by
   unfold HJ;rw[Lf (fun e=>h (by rw[e];exact Om ..)),lS (fun a=>h (NJ _ a))]
def pM{k:Int} : ∀ {l:List Int}{n:Nat},k∈l-> ∃i,HJ l k n=some (n+i)/\l[i]? =some k
 |[],n,h=>by cases h
 | x::l,n,h=>by
   unfold HJ;by_cases e:k=x
   ·exact⟨0,by rw[Lj e];rfl,by rw[e];rfl⟩
   obtain⟨i,a,b⟩:=pM (n:=n+1) ((MI.1 h).resolve_left e);exact⟨i+1,by rw[Lf e,a];congr 1;omega,by simpa using b⟩
def gH(l:List Int):List (List AV):=l.map fun k=>[I k,I 1]
def lr(k:Int): ∀(l:List Int)(n:Nat),qr prog 3 (I k) (gH l) n=some (HJ l k n)
 |[],n=>rfl
 | x::l,n=>by
   have b:=lr k l (n+1);unfold gH at b |-;unfold HJ;by_cases e:k=x
   ·have a:(k==x)=true:=by simp[e]
    simp only[go_sem,cK,cY,M1,a,Lj e]
   have a:(k==x)=false:=by simpa using e
   simp only[go_sem,cK,cY,M1,a,Lf e,b]
def vM(env:b6)(o:List Int)(i:Int)(h:o.length<=4000)(f:TypeId):hU prog env 258 [1000,1001] (fun k=>k==1001) (fun vs=>[I i, .loc 1000 (vs 1000) 0 0]) (fun vs=>[(1000,⟨1,[[.row 1001 (vs 1001)]],f,false⟩),(1001,⟨1,o.map aa,3,true⟩)]) (fun vs=>[(1000,⟨1,[[.row 1001 (vs 1001)]],f,false⟩),(1001,⟨1,(I' o i).map aa,3,true⟩)]) (fun _=> .lit (.tuple #[])):=by
 have f0:=(bJ env o i (by omega)).lend rfl;unfold I';cases e:o.contains i with
 | true=>
   rw[e]at f0;simp only[Mb];refine qi func258 call258 ntmps258 results258 ?_;intro vs d a;obtain⟨b,c⟩:=OF a;have F:=ai b c;repeat refine st ?_
   refine lL f0 ?_;repeat refine st ?_
   exact rN
 | false=>
   rw[e]at f0;have g:cI (o.length+1) 8:=aC (by omega) (by omega);simp only[MH,Mi,Ln];refine qi func258 call258 ntmps258 results258 ?_;intro vs d a;obtain⟨b,c⟩:=OF a;have F:=fI b c g;repeat refine st ?_
   refine lL f0 ?_;repeat refine st ?_
   exact rN
def gz{c:aq}{a:List Int}(d:a.Nodup)(e: ∀x∈a,ed c x=true):a.length<=c.Z9.length:=by
 have:=ku (c:=c) (l:=[]) d fun k b=>⟨by simp,e k b⟩;have:=EA c [];omega
def Et{c:aq}{d:Int}{o U:List Int}{m:Nat}{k:Int}(h:U[m]? =some k):w6 c d o U (m+1)=if 0<=k/\aE c d k=true then I' (w6 c d o U m) k else w6 c d o U m:=bX _ _ h
def B0{c:aq}{d:Int}{l:List Int}{j:Nat}{k:Int}(h:l[j]? =some k):rv c d l (j+1)=w6 c d (I' (rv c d l j) k) (i' c k) (i' c k).length:=bX _ _ h
def Er{c:aq}(e:Right c){d:Int}{l:List Int}(m: ∀x∈l,ed c x=true){j:Nat}(g:j<=l.length):(rv c d l j).Nodup/\(∀x∈rv c d l j,ed c x=true)/\(rv c d l j).length<=32:=by
 obtain⟨a,f⟩:=tY (c:=c) (d:=d) (l:=l) j g
 have b: ∀x∈rv c d l j,ed c x=true:=fun x k=>by
  rcases (f x).1 k with h|⟨i,h,n,o,_⟩
  ·exact m x (N6 h)
  exact(gP e n o).1
 exact⟨a,b,Ly (gz a b) e.Z6⟩
def HQ{c:aq}(e:Right c){d i:Int}{o:List Int}(j:o.Nodup)(l: ∀x∈o,ed c x=true){m:Nat}(g:m<=(i' c i).length):(w6 c d o (i' c i) m).Nodup/\(∀x∈w6 c d o (i' c i) m,ed c x=true)/\(w6 c d o (i' c i) m).length<=32:=by
 obtain⟨a,f⟩:=xc (c:=c) (d:=d) (U:=i' c i) m g j
 have b: ∀x∈w6 c d o (i' c i) m,ed c x=true:=fun x k=>by
  rcases (f x).1 k with h|⟨h,n,_⟩
  ·exact l x h
  exact(gP e (N6 h) n).1
 exact⟨a,b,Ly (gz a b) e.Z6⟩
def Il(env:b6)(c:aq)(u:Right c)(l:List Int)(hl:l.length<=1000000)(M: ∀x∈l,ed c x=true)(d:Int):b7 prog env 229 [aH c, .seq 1 (l.map aa),I d] (.own 3 1 ((mw c l d).map aa)):=by
 have L:=u.Z6;have f1:=bP env c;unfold aH aQ at f1;unfold aH;refine qf func229 call229 ntmps229 results229 ?_;repeat refine m8 ?_
 refine R3 7 9000 0 0 3 1 ?_;refine PA l.length (by omega) (fun j p=>[(0, .ref 9 [ca c] 0 0),(2,I d),(7, .loc 7 (p 7) 0 0),(8, .clo 258 [.loc 7 (p 7) 0 0]),(14, .seq 1 (l.map aa)),(15,I l.length),(16,I j)]) (fun j p=>[(7,⟨1,[[.row 9000 (p 9000)]],27,false⟩),(9000,⟨1,(rv c d l j).map aa,3,true⟩)]) (fun j _ f=>f 7=false/\f 9000=false) ⟨rfl,rfl⟩ ?_ ?_
 ·rintro j Y f s K N ⟨g,k⟩;have R:=QV s;obtain⟨x,E⟩:=gE s;obtain⟨W,X,n3⟩:=Er u (d:=d) M R;have G:=M x (Lh E);have S:=B0 (c:=c) (d:=d) E;have O:=vM env (rv c d l j) x (by omega) 27;have f2:=xe env c u x;unfold aQ at f2;have T:=nD W x;have V: ∀y∈I' (rv c d l j) x,ed c y=true:=fun y r=>(uY.1 r).elim (X y) fun e=>by rw[e];exact G
  have z:=fun m C=>HQ u (d:=d) (i:=x) T V (m:=m) C;have Q:(i' c x).length<=40:=kJ 40 x
  have B: ∀y∈i' c x,y<0\/ed c y=true:=fun y r=>by
   rcases P6 y 0 with h|h
   ·exact .inl h
   exact .inr (gP u r h).1
  generalize I' (rv c d l j) x=o at*;generalize i' c x=U at*;have Z:w6 c d o U 0=o:=rfl;have F:=g7 E K N g k;repeat refine st ?_
  refine i6 [(1000,7),(1001,9000)] (cH rfl (by simp only[go_sem,F];exact iR)) (O) (by decide) (by decide) (by simp only[go_sem,F]<;>rfl) (by simp only[go_sem,F,Ls]<;>trivial) (by simp only[go_sem,F,Ls]<;>trivial) (by intro o;simp only[go_sem,F,g4,Ls]<;>trivial) (by intro o;simp only[go_sem,F]<;>rfl) (by simp only[go_sem,F,g4];exact iR) (by simp only[go_sem,F,g4];exact iR) ?_;repeat refine vb f1 f2 ?_
  refine aG (D:=Nat) (fun m p=>[(0, .ref 9 [ca c] 0 0),(2,I d),(7, .loc 7 (p 7) 0 0),(8, .clo 258 [.loc 7 (p 7) 0 0]),(14, .seq 1 (l.map aa)),(15,I l.length),(16,I j),(26, .row 26 (p 26)),(27,I U.length),(28,I m)]) (fun m p=>[(7,⟨1,[[.row 9000 (p 9000)]],27,false⟩),(9000,⟨1,(w6 c d o U m).map aa,3,true⟩),(26,⟨1,U.map aa,3,true⟩)]) (fun m _ f=>m<=U.length/\f 7=false/\f 9000=false) (fun m=>U.length-m) 0 ?_ ?_ ?_ ?_
  ·exact⟨Lx _,by simp only[go_sem,g],by simp only[go_sem,k]⟩
  ·(simp only[go_sem,F])
   try rfl
  ·have F:=Z
   (simp only[go_sem,F])
   try rfl
  try clear g k
  rintro m p es ⟨C,g,k⟩;obtain⟨k1,k2,k3⟩:=z m C;by_cases n:m<U.length
  ·obtain⟨y,r⟩:=gE n;have A:=h9 n;have J:=aD n (by omega);have b:=Et (c:=c) (d:=d) (o:=o) r;have P:=vM env (w6 c d o U m) y (by omega) 27;have f3:=fG env c u d y;unfold aQ at f3;rcases B y (Lh r) with h0|H
   ·have t: ¬0<=y:=by omega
    rw[Lf (fun q=>t q.1)]at b;have F:=ip r A J t g k;repeat refine vb f1 f3 ?_
    refine⟨m+1,⟨n,by simp only[go_sem,g],by simp only[go_sem,k]⟩,?_,?_,by omega⟩
    ·exact qe
    have F:=b;exact qe
   ·have t:=(aI.1 H).1;cases v:aE c d y with
    | false=>
      rw[v]at f3 b;rw[Lf (by simp)]at b;have F:=ip r A J t g k;repeat refine vb f1 f3 ?_
      refine⟨m+1,⟨n,by simp only[go_sem,g],by simp only[go_sem,k]⟩,?_,?_,by omega⟩
      ·exact qe
      have F:=b;exact qe
    | true=>
      rw[v]at f3 b;rw[Lj ⟨t,rfl⟩]at b;generalize w6 c d o U m=a at*;have F:=ip r A J t g k;repeat refine vb f1 f3 ?_
      refine i6 [(1000,7),(1001,9000)] (cH rfl (by simp only[go_sem,F];exact iR)) (P) (by decide) (by decide) (by simp only[go_sem,F]<;>rfl) (by simp only[go_sem,F,Ls]<;>trivial) (by simp only[go_sem,F,Ls]<;>trivial) (by intro o;simp only[go_sem,F,g4,Ls]<;>trivial) (by intro o;simp only[go_sem,F]<;>rfl) (by simp only[go_sem,F,g4];exact iR) (by simp only[go_sem,F,g4];exact iR) ?_;repeat refine st ?_
      refine⟨m+1,⟨n,by simp only[go_sem,g],by simp only[go_sem,k]⟩,?_,?_,by omega⟩
      ·exact qe
      have F:=b;exact qe
  obtain rfl:m=U.length:=by omega
  have A:=nl U.length;have F:=hH A N g k;repeat refine st ?_
  refine⟨j+1,⟨s,by simp only[go_sem,g],by simp only[go_sem,k]⟩,?_,?_,by omega⟩
  ·exact qe
  have F:=S;exact qe
 rintro Y f K ⟨g,k⟩;show fk _ _ _ _ _ _;have w:rv c d l l.length=mw c l d:=rfl;rw[w];have F:=fI K g k;exact dT
end
end Go.Proofs.YtknkhdgfhbogdaaGreatDoor
