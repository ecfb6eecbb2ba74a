/- Ways up and growing, as the program does them. -/
import Derived.Test.YtfhkmjbjafeckaaGreatDoorQ18
set_option maxRecDepth 100000
set_option maxHeartbeats 16000000
set_option linter.unusedSimpArgs false
set_option linter.defProp false
namespace Go.Proofs.YtfhkmjbjafeckaaGreatDoor
open Go.Proofs.Tryz
open Go.RowKit
section
/-! Legal states -/
def JH{l:List Int}(h: ∀j,0<j->j<l.length->l.getD (j-1) 0<l.getD j 0):l.Pairwise (· < ·):=by
 rw[Nk];intro i j f k g
 have a: ∀d,i+d+1<l.length->l.getD i 0<l.getD (i+d+1) 0:=fun d=>by
  induction d with
  |zero=>intro c;simpa using h (i+1) (by omega) (by omega)
  | succ d m=>
    intro c;have n:=m (by omega);have b:=h (i+d+1+1) (by omega) (by omega);have e:i+(d+1)+1=i+d+1+1:=by omega
    rw[e];simp only[Pu]at b;omega
 have:=a (j-i-1) (by omega);rw[show i+(j-i-1)+1=j by omega]at this;simpa[N3,Ms f,Ms k]using this
structure Lg(c:aq)(act:List Int):Prop where
 ZZ:act.Pairwise (· < ·)
 fit: ∀x∈act,∃s,at_ c x=some s/\zO c act x.toNat s=true
 top:ch act (av c (-1) true)=1
def cx{c:aq}{act:List Int}(h:tU c act=true):Lg c act:=by
 obtain⟨e,f⟩:=zp.1 h
 have d: ∀j (a:j<act.length),(j==0||decide (act.getD (j-1) 0<act[j]))=true/\vn c act act[j]=true:=fun j a=>by
  have:=e j a;unfold zG at this;rw[Ms a]at this;simpa only[Mx]using this
 refine⟨JH fun j k a=> ?_,fun x i=> ?_,f⟩
 ·have:=(d j a).1;have b:(j==0)=false:=by simp;omega
  rw[b,PF,NI]at this;simpa[N3,Ms a]using this
 obtain⟨j,a,rfl⟩:=QF.1 i;have:=(d j a).2;unfold vn at this;split at this
 ·rename_i s g;exact⟨s,g,this⟩
 cases this
def Lg.of{c:aq}{act:List Int}(h:Lg c act){x:Int}(j:x∈act): ∃s,at_ c x=some s/\fi c x=true/\aU s=false/\(aP c x<0\/aP c x∈act)/\(s.kind=1->av c x true≠[]->ch act (av c x true)=1)/\(s.kind=2->ch act (av c x true)=(av c x true).length):=by
 obtain⟨s,a,b⟩:=h.fit x j
 have f:0<=x/\c.Z9[x.toNat]? =some s:=by
  unfold at_ at a;split at a
  ·exact⟨by assumption,a⟩
  cases a
 obtain⟨k,rfl⟩: ∃k:Nat,x=k:=⟨x.toNat,by omega⟩;have g:=(Mt.1 f.2).1;have i:aP c (k:Int)=s.parent:=by unfold aP;rw[a]
 unfold zO at b;rw[OP,Mx,Mx]at b;obtain⟨⟨f1,f2⟩,f3⟩:=b;refine⟨s,a,aI.2 ⟨by omega,by simpa using g⟩,by simpa using f1,?_,fun e d=> ?_,fun e=> ?_⟩
 ·rw[i];rw[OO,NI]at f2;exact f2.imp id fun f2=>by simpa using f2
 ·rw[Mw ⟨e,d⟩]at f3;simpa using f3
 rw[Mv (fun q=>by omega),Mw e]at f3;simpa using f3
def Lg.real{c:aq}{act:List Int}(h:Lg c act){x:Int}(d:x∈act){s:n4}(b:at_ c x=some s):s.kind≠4/\s.kind≠5:=by
 obtain⟨f,e,_,a,_⟩:=h.of d;rw[b]at e;cases e;unfold aU at a;simpa using a
def Lg.nodup{c:aq}{act:List Int}(h:Lg c act):act.Nodup:=h.ZZ.imp fun h=>by omega
def Lg.up{c:aq}(b:Right c){act:List Int}(h:Lg c act): ∀(n:Nat)(x k:Int),x<n->x∈act->k∈kf c x->0<=k->k∈act
 | 0,x,k,f,d,hk,e=>by
   obtain⟨_,_,a,_⟩:=h.of d;have:=aI.1 a;omega
 | n+1,x,k,f,d,hk,e=>by
   obtain⟨_,_,a,_,hp,_⟩:=h.of d;rw[cv b a]at hk;have:=dZ b a;rcases hk with rfl|hk
   ·exact hp.resolve_left (by omega)
   rcases hp with hp|hp
   ·rw[cX (by unfold fi;rw[Nm (by omega),Nt])]at hk;simp at hk
   exact Lg.up b h n _ k (by omega) hp hk e
def iA{c:aq}(g:Right c){l:List Int}(b: ∀x∈l,fi c x=true){x:Int} :x∈zL (b7 c l)↔x∈l:=by
 have d:l.all (fi c)=true:=NB.2 b;unfold b7;rw[Mw d];constructor
 ·intro a;obtain⟨k,f,rfl⟩:=NG.1 a;simpa using (NF.1 f).2
 intro a;have h:=aI.1 (b x a);refine NG.2 ⟨x.toNat,NF.2 ⟨?_,?_⟩,by omega⟩
 ·exact(gS g _).2 (by omega)
 have e:((x.toNat:Nat):Int)=x:=by omega
 rw[e];simpa using a
/-! Memories in their order -/
def lR:List eg->eg->List eg
 |[],m=>[m]
 |x::r,m=>if x.1<m.1 then x::lR r m else if x.1=m.1 then m::r else m::x::r
abbrev R'(l:List eg):Prop:=l.Pairwise fun a b=>a.1<b.1
def oo{m p:eg} : ∀ {l:List eg},R' l->(p∈lR l m↔p=m\/(p∈l/\p.1≠m.1))
 |[],_=>by simp[lR]
 | x::r,h=>by
   obtain⟨c,e⟩:=Ob.1 h;unfold lR;split
   ·rename_i f;rw[NX,oo e,NX];constructor
    ·rintro(rfl|rfl|⟨a,b⟩)
     ·exact .inr ⟨.inl rfl,by omega⟩
     ·exact .inl rfl
     exact .inr ⟨.inr a,b⟩
    rintro(rfl|⟨rfl|a,b⟩)
    ·exact .inr (.inl rfl)
    ·exact .inl rfl
    exact .inr (.inr ⟨a,b⟩)
   split
   ·rename_i d;rw[NX,NX];constructor
    ·rintro(rfl|a)
     ·exact .inl rfl
     exact .inr ⟨.inr a,by have:=c p a;omega⟩
    rintro(rfl|⟨rfl|a,b⟩)
    ·exact .inl rfl
    ·exact absurd d b
    exact .inr a
   rename_i g d;rw[NX,NX];constructor
   ·rintro(rfl|rfl|a)
    ·exact .inl rfl
    ·exact .inr ⟨.inl rfl,by omega⟩
    exact .inr ⟨.inr a,by have:=c p a;omega⟩
   rintro(rfl|⟨rfl|a,b⟩)
   ·exact .inl rfl
   ·exact .inr (.inl rfl)
   exact .inr (.inr a)
def ui{m:eg} : ∀ {l:List eg},R' l->R' (lR l m)
 |[],_=>by simp[lR,R']
 | x::r,h=>by
   obtain⟨b,c⟩:=Ob.1 h;unfold lR;split
   ·rename_i d;refine Ob.2 ⟨fun p hp=> ?_,ui c⟩;rcases (oo c).1 hp with rfl|⟨a,_⟩
    ·exact d
    exact b p a
   split
   ·rename_i e;exact Ob.2 ⟨fun p hp=>by have:=b p hp;omega,c⟩
   refine Ob.2 ⟨fun p hp=> ?_,h⟩;rcases NX.1 hp with rfl|hp
   ·omega
   have:=b p hp;omega
def Kl{a b:List eg}(c:R' a)(d:R' b)(h: ∀p,p∈a↔p∈b):a=b:=by
 have f:a.Nodup:=c.imp fun h e=>by rw[e]at h;omega
 have g:b.Nodup:=d.imp fun h e=>by rw[e]at h;omega
 exact Qi (fun x y _ _ i j=>by omega) c d ((List.perm_ext_iff_of_nodup f g).2 h)
/-! What is remembered -/
def fA(c:aq)(l:List Int)(i:Int):List Int:=l.filter (b4 c i)
def pc(c:aq)(l:List Int)(i:Int):Bool:= !(hH c i).any fun k=>l.contains k
def lE(c:aq)(l:List Int):List Int:=bQ (l.filter (pc c l))
def mT(c:aq)(act:List Int)(i:Int):List Int:=match ((hH c i).filter fun k=>act.contains k).getLast? with
 |some k=>[k]
 |none=>[]
def tC(c:aq)(act:List Int)(i:Int)(h:Nat):List Int:=match c.Z9[h]? with
 |some s=>if s.kind=5 then lE c (fA c act i) else mT c act i
 |none=>[]
def rn(c:aq)(act:List Int)(i:Int)(o:List eg)(M:List Nat)(m:Nat):List eg:=(M.take m).foldl (fun o (h:Nat)=>lR o ((h:Int),tC c act i h)) o
def u'(c:aq)(act gone:List Int)(o:List eg)(j:Nat):List eg:=(gone.take j).foldl (fun o i=>if an c i=true then rn c act i o (x5 c i) (x5 c i).length else o) o
def nr(c:aq)(act gone:List Int)(mem:List eg):List eg:=u' c act gone mem gone.length
def xB{c:aq}{act:List Int}{i:Int}{M:List Nat} : ∀(m:Nat){o:List eg},m<=M.length->R' o->R' (rn c act i o M m)/\ ∀p,p∈rn c act i o M m↔(∃h∈M.take m,p=((h:Int),tC c act i h))\/(p∈o/\ ∀h∈M.take m,p.1≠(h:Int))
 |0,o,_,g=>⟨g,fun p=>by simp[rn]⟩
 | m+1,o,r,g=>by
   obtain⟨k,j⟩: ∃k,M[m]? =some k:=⟨M[m],Ms (by omega)⟩;obtain⟨l,q⟩:=xB (c:=c) (act:=act) (i:=i) (M:=M) m (o:=o) (by omega) g;have e:rn c act i o M (m+1)=lR (rn c act i o M m) ((k:Int),tC c act i k):=bY _ _ j;have n: ∀x,x∈M.take (m+1)↔x∈M.take m\/x=k:=fun x=>by rw[N4,j];simp
   rw[e];refine⟨ui l,fun p=> ?_⟩;rw[oo l,q];simp only[n];constructor
   ·rintro(rfl|⟨⟨h,a,rfl⟩|⟨a,b⟩,d⟩)
    ·exact .inl ⟨k, .inr rfl,rfl⟩
    ·exact .inl ⟨h, .inl a,rfl⟩
    exact .inr ⟨a,fun h f=>f.elim (b h) fun e=>by rw[e];exact d⟩
   rintro(⟨h,a|rfl,rfl⟩|⟨a,b⟩)
   ·by_cases e:h=k
    ·exact .inl (by rw[e])
    exact .inr ⟨.inl ⟨h,a,rfl⟩,by simp;omega⟩
   ·exact .inl rfl
   exact .inr ⟨.inr ⟨a,fun h f=>b h (.inl f)⟩,b k (.inr rfl)⟩
def gV{c:aq}{i:Int}{k:Nat} :k∈x5 c i↔ ∃s,c.Z9[k]? =some s/\fi c i=true/\s.parent=i/\aU s=true:=by
 unfold x5 LB;rw[NF,NZ];constructor
 ·rintro⟨b,a⟩;rw[Ms b]at a |-;simp only[Mx,OQ]at a;exact⟨_,rfl,a.1,a.2.1,a.2.2⟩
 rintro⟨s,d,b,a,e⟩;refine⟨(Mt.1 d).1,?_⟩;rw[d];simp[b,a,e]
def Sv(c:aq)(gone:List Int)(h:Int):Prop:= ∃i∈gone,an c i=true/\ ∃k∈x5 c i,h=(k:Int)
def B8{c:aq}{act gone:List Int}{o:List eg}(u:R' o): ∀(j:Nat),j<=gone.length->R' (u' c act gone o j)/\ ∀p,p∈u' c act gone o j↔(∃i∈gone.take j,an c i=true/\ ∃k∈x5 c i,p=((k:Int),tC c act i k))\/(p∈o/\ ¬Sv c (gone.take j) p.1)
 |0,_=>⟨u,fun p=>by simp[u',Sv]⟩
 | j+1,H=>by
   obtain⟨i,z⟩: ∃i,gone[j]? =some i:=⟨gone[j],Ms (by omega)⟩;obtain⟨A,B⟩:=B8 (c:=c) (act:=act) (gone:=gone) u j (by omega);have e:u' c act gone o (j+1)=if an c i=true then rn c act i (u' c act gone o j) (x5 c i) (x5 c i).length else u' c act gone o j:=bY _ _ z
   have y: ∀x,x∈gone.take (j+1)↔x∈gone.take j\/x=i:=fun x=>by rw[N4,z];simp
   rw[e];split
   ·rename_i n;obtain⟨E,G⟩:=xB (c:=c) (act:=act) (i:=i) (M:=x5 c i) _ (ND _) A;refine⟨E,fun p=> ?_⟩;rw[G,B,NS];unfold Sv;simp only[y];constructor
    ·rintro(⟨h,a,rfl⟩|⟨⟨f,a,b,k,t,rfl⟩|⟨a,b⟩,d⟩)
     ·exact .inl ⟨i, .inr rfl,n,h,a,rfl⟩
     ·exact .inl ⟨f, .inl a,b,k,t,rfl⟩
     refine .inr ⟨a,?_⟩;rintro⟨f,l | rfl,g,k,t,w⟩
     ·exact b ⟨f,l,g,k,t,w⟩
     exact d k t w
    rintro(⟨f,a|rfl,b,k,d,rfl⟩|⟨a,b⟩)
    ·by_cases e:f=i
     ·subst e;exact .inl ⟨k,d,rfl⟩
     refine .inr ⟨.inl ⟨f,a,b,k,d,rfl⟩,fun h v m=>e ?_⟩;have m:((k:Nat):Int)=h:=m;have m:k=h:=by omega
     subst m;obtain⟨s,u,_,C,_⟩:=gV.1 d;obtain⟨I,q,_,D,_⟩:=gV.1 v;rw[u]at q;cases q;rw[<-C, <-D]
    ·exact .inl ⟨k,d,rfl⟩
    refine .inr ⟨.inr ⟨a,fun⟨f,l,g,r⟩=>b ⟨f, .inl l,g,r⟩⟩,fun h v m=>b ⟨i, .inr rfl,n,h,v,m⟩⟩
   rename_i n;refine⟨A,fun p=> ?_⟩;rw[B];unfold Sv;simp only[y];constructor
   ·rintro(⟨f,a,b,r⟩|⟨a,b⟩)
    ·exact .inl ⟨f, .inl a,b,r⟩
    refine .inr ⟨a,?_⟩;rintro⟨f,l | rfl,g,r⟩
    ·exact b ⟨f,l,g,r⟩
    exact n g
   rintro(⟨f,a|rfl,b,r⟩|⟨a,b⟩)
   ·exact .inl ⟨f,a,b,r⟩
   ·exact absurd b n
   exact .inr ⟨a,fun⟨f,l,g,r⟩=>b ⟨f, .inl l,g,r⟩⟩
def MD{c:aq}{act gone:List Int}{o:List eg}(a:R' o):R' (nr c act gone o)/\ ∀p,p∈nr c act gone o↔(∃i∈gone,an c i=true/\ ∃k∈x5 c i,p=((k:Int),tC c act i k))\/(p∈o/\ ¬Sv c gone p.1):=by
 have:=B8 (c:=c) (act:=act) (gone:=gone) a _ (ND _);rw[NS]at this;exact this
/-! As the document says -/
def T6(mem:List eg)(h:Int):List Int:=match mem.find? (fun m=>m.1==h) with
 |some m=>m.2
 |none=>[]
def KG(c:aq)(l:List Int):List Nat:=(List.range c.Z9.length).filter fun i:Nat=>l.contains (i:Int)&&(ch l (av c i true)==0)
def mJ(c:aq)(l:List Int)(i:Int):List Int:=(zL (b7 c l)).filter (b4 c i)
def BY(c:aq)(act gone:List Int)(mem:List eg)(h:Nat):List Int:=match c.Z9[h]? with
 |some s=>if aU s=true then(if gone.contains s.parent=true then(if s.kind=5 then zL (KG c (mJ c act s.parent)) else(hH c s.parent).filter fun k=>act.contains k) else T6 mem h) else []
 |none=>[]
def eU(c:aq)(act gone:List Int)(mem:List eg)(j:Nat):List eg:=((List.range j).filter fun h=> !(BY c act gone mem h).isEmpty).map fun h:Nat=>((h:Int),BY c act gone mem h)
def DL(c:aq)(act gone:List Int)(mem:List eg):List eg:=eU c act gone mem c.Z9.length
def FN{mem:List eg}(g:R' mem){p:eg}(f:p∈mem):T6 mem p.1=p.2:=by
 unfold T6;cases c:mem.find? (fun m=>m.1==p.1) with
 | none=>
   rw[Pt]at c;exact absurd (Rv p.1) (c p f)
 | some q=>
   have i:=QU c;have j:=Om c;simp only[OQ]at i
   have k:q=p:=by
    obtain⟨a,d,rfl⟩:=QF.1 j;obtain⟨b,e,rfl⟩:=QF.1 f;rcases Py a b with h|h|h
    ·have:=Nk.1 g a b d e h;omega
    ·subst h;rfl
    have:=Nk.1 g b a e d h;omega
   rw[k]
def pU{c:aq}{mem:List eg}(h:bm c mem=true):R' mem/\ ∀m∈mem,pV c m=true:=by
 have g: ∀j (f:j<mem.length),pV c mem[j]=true/\(j=0\/(mem.getD (j-1) (0,[])).1<mem[j].1):=fun j f=>by
  have:=NB.1 h j (NZ.2 f);unfold tH at this;rw[Ms f,Mx,OO,NI]at this;exact⟨this.1,this.2.imp (by simp) id⟩
 refine⟨Nk.2 ?_,fun m p=> ?_⟩
 ·intro i j n f o
  have l: ∀d (k:i+d+1<mem.length),mem[i].1<mem[i+d+1].1:=fun d=>by
   induction d with
   | zero=>
     intro k;have:=(g (i+1) k).2.resolve_left (by omega);simpa[N3,Ms n]using this
   | succ d q=>
     intro k;have a:=q (by omega);have b:=(g (i+d+1+1) (by omega)).2.resolve_left (by omega);simp only[Pu,N3,Ms (show i+d+1<mem.length by omega),OJ]at b;have e:i+(d+1)+1=i+d+1+1:=by omega
     simp only[e];omega
  have:=l (j-i-1) (by omega);simpa[show i+(j-i-1)+1=j by omega]using this
 obtain⟨j,f,rfl⟩:=QF.1 p;exact(g j f).1
def LA{c:aq}{mem:List eg}(e:R' mem)(d: ∀m∈mem,pV c m=true):bm c mem=true:=by
 refine NB.2 fun j a=> ?_;have a:=NZ.1 a;unfold tH;rw[Ms a];simp only;rw[d _ (Oo a),Np];by_cases b:j=0
 ·simp[b]
 have:=Nk.1 e (j-1) j (by omega) a (by omega);simp[N3,Ms (show j-1<mem.length by omega),this]
def yr{l:List Int}(h:k7 l=true):l≠[]:=by
 unfold k7 at h;rw[Mx]at h;intro e;rw[e]at h;simp at h
def FU{c:aq}{m:eg}(h:pV c m=true): ∃(k:Nat) (s:n4),m.1=(k:Int)/\c.Z9[k]? =some s/\aU s=true/\m.2≠[]:=by
 unfold pV at h;split at h
 ·rename_i s a
  have b:0<=m.1/\c.Z9[m.1.toNat]? =some s:=by
   unfold at_ at a;split at a
   ·exact⟨by assumption,a⟩
   cases a
  refine⟨m.1.toNat,s,by omega,b.2,?_,?_⟩
  ·unfold aU;split at h
   ·rename_i e;simp[e]
   rw[Mx]at h;rw[h.1];simp
  split at h
  ·rw[Mx,NI]at h;intro e;rw[e]at h;simp at h
  unfold Fm at h;simp only[Mx]at h;exact yr h.2.1.1.1
 cases h
def JP{l:List Int}{ks:List Nat} :ch l ks=0↔((zL ks).any fun k=>l.contains k)=false:=by
 rw[iF,Q0];simp
def mL{a b:List Int}(c:a.Pairwise (· < ·))(d:b.Pairwise (· < ·))(h: ∀x,x∈a↔x∈b):a=b:=by
 have e:a.Nodup:=c.imp fun h=>by omega
 have f:b.Nodup:=d.imp fun h=>by omega
 exact Qi (fun x y _ _ g i=>by omega) c d ((List.perm_ext_iff_of_nodup e f).2 h)
def nG{l:List Int}(f:l.Nodup):(bQ l).Pairwise (· < ·)/\ ∀x,x∈bQ l↔x∈l:=by
 have g:(bQ l).Pairwise (fun x y:Int=>decide (x<=y)=true):=Qr (fun a b c=>by simp;omega) (fun a b=>by simp;omega) _;have e:(bQ l).Perm l:=Qe ..;have d:(bQ l).Nodup:=e.nodup_iff.2 f;refine⟨(List.pairwise_and_iff.2 ⟨g,d⟩).imp fun⟨a,b⟩=> ?_,fun x=>e.mem_iff⟩;have a:=Rr a;omega
def yk{p:Nat->Bool}{n:Nat} :(zL ((List.range n).filter p)).Pairwise (· < ·):=by
 unfold zL;rw[Q1];exact(DF (p:=p) (n:=n)).imp fun h=>by omega
def Dp{c:aq}(n:Right c){act:List Int}(f:Lg c act)(i:Int):lE c (fA c act i)=zL (KG c (mJ c act i)):=by
 have g: ∀x∈act,fi c x=true:=fun x b=>by obtain⟨_,_,h,_⟩:=f.of b;exact h
 have d: ∀x,x∈mJ c act i↔x∈fA c act i:=fun x=>by
  unfold mJ fA;rw[NF,NF,iA n g]
 have m:((fA c act i).filter (pc c (fA c act i))).Nodup:=(f.nodup.sublist OT).sublist OT;obtain⟨o,p⟩:=nG m;refine mL o yk fun x=> ?_;unfold lE;rw[p,NF]
 have a: ∀k:Nat,pc c (fA c act i) k=(ch (mJ c act i) (av c k true)==0):=fun k=>by
  rw[iQ d,N8];unfold pc;rw[OA,OQ,JP]
 constructor
 ·rintro⟨e,j⟩;have b:x∈act:=(NF.1 e).1;have:=aI.1 (g x b);obtain⟨k,rfl⟩: ∃k:Nat,x=k:=⟨x.toNat,by omega⟩;refine NG.2 ⟨k,NF.2 ⟨NZ.2 (by omega),?_⟩,rfl⟩;rw[Mx,Mz, <-a];exact⟨(d _).2 e,j⟩
 intro b;obtain⟨k,l,rfl⟩:=NG.1 b;have:=(NF.1 l).2;rw[Mx,Mz, <-a]at this;exact⟨(d _).1 this.1,this.2⟩
def Tt{l:List Int}{x:Int}(h:l=[x]):l.getLast? =some x:=by rw[h];rfl
def qp(act:List Int)(ks:List Nat):((zL ks).filter fun k=>act.contains k).length=ch act ks:=by
 unfold ch zL;rw[List.filter_map,NT];rfl
def uv{c:aq}{act:List Int}{i:Int}(h:ch act (av c i true)=1): ∃k,k∈hH c i/\k∈act/\mT c act i=[k]/\((hH c i).filter fun k=>act.contains k)=[k]:=by
 rw[<-qp]at h;obtain⟨k,a⟩:=QR.1 h;have e:k∈(hH c i).filter fun k=>act.contains k:=by rw[a];simp
 obtain⟨b,d⟩:=NF.1 e;refine⟨k,b,by simpa using d,?_,a⟩;unfold mT;rw[Tt a]
def qF{c:aq}(f:Right c){act:List Int}(i:Int): ∀(n:Nat)(x:Int),(c.Z9.length:Int)<=x+n->x∈fA c act i-> ∃y∈lE c (fA c act i),y=x\/x∈kf c y
 | 0,x,o,g=>by
   have h:i∈kf c x:=by simpa[b4]using (NF.1 g).2
   cases b:fi c x with
   |true=>have:=aI.1 b;omega
   |false=>rw[cX b]at h;simp at h
 | n+1,x,o,g=>by
   have l:=NF.1 g;have h:i∈kf c x:=by simpa[b4]using l.2
   by_cases d:pc c (fA c act i) x=true
   ·refine⟨x,?_, .inl rfl⟩;unfold lE;exact(Qe ..).mem_iff.2 (NF.2 ⟨g,d⟩)
   have d:((hH c x).any fun k=>(fA c act i).contains k)=true:=by
    unfold pc at d;simpa using d
   obtain⟨k,m,j⟩:=OG.1 d;obtain⟨q,r,s⟩:=bN f m;obtain⟨y,p,a⟩:=qF f i n k (by omega) (by simpa using j);have e:x∈kf c k:=(cv f q).2 (.inl r.symm);refine⟨y,p, .inr ?_⟩;rcases a with rfl|a
   ·exact e
   exact i7 f ((c.Z9.length+1)) y k x (by
    cases b:fi c y with
    |true=>have:=aI.1 b;omega
    |false=>rw[cX b]at a;simp at a) a e
def aj{c:aq}(a:Right c){p x:Int}(b:fi c x=true):b4 c p x=true↔aP c x=p\/b4 c p (aP c x)=true:=by
 unfold b4;rw[Mz,Mz,cv a b];exact⟨fun h=>h.imp Eq.symm id,fun h=>h.imp Eq.symm id⟩
def Jh{c:aq}(h:ct c){act:List Int}(t:Lg c act){p:Int}(R:p∈act)(E:an c p=true)(q:av c p true≠[]):AB c p (lE c (fA c act p))=true:=by
 have A:=h.toRight;have H: ∀x∈act,fi c x=true:=fun x l=>by obtain⟨_,_,h,_⟩:=t.of l;exact h
 have f: ∀x∈fA c act p,x∈act/\b4 c p x=true:=fun x l=>NF.1 l;have Z:((fA c act p).filter (pc c (fA c act p))).Nodup:=(t.nodup.sublist OT).sublist OT;obtain⟨r1,r2⟩:=nG Z;have m: ∀x,x∈lE c (fA c act p)↔x∈fA c act p/\pc c (fA c act p) x=true:=fun x=>by unfold lE;rw[r2,NF]
 have n: ∀x k,(x=p\/x∈fA c act p)->k∈hH c x->(k∈fA c act p↔k∈act):=fun x k l q=>by
  obtain⟨V,J,_⟩:=bN A q;refine⟨fun o=>(f k o).1,fun o=>NF.2 ⟨o,(aj A V).2 ?_⟩⟩;rw[J];exact l.imp id fun l=>(f x l).2
 have T:=t.of R;obtain⟨sp,U,hzp,_,_,S,_⟩:=T;have N:sp.kind=1:=by rw[bw U]at E;simpa using E
 obtain⟨I,V,J,_,_⟩:=uv (S N q);have M:I∈fA c act p:=(n p I (.inl rfl) V).2 J;obtain⟨y0,G,_⟩:=qF A p (c.Z9.length+1) I (by have:=aI.1 (H I J);omega) M;have g:lE c (fA c act p)≠[]:=fun e=>by rw[e]at G;simp at G
 have w:k7 (lE c (fA c act p))=true:=by
  unfold k7;rw[Mx,NB];refine⟨by simpa using g,fun j D=> ?_⟩;have D:=NZ.1 D;unfold T0;by_cases L:j=0
  ·simp[L]
  have:=Nk.1 r1 (j-1) j (by unfold lE at D;omega) D (by omega);rw[OO,NI];right;rw[N3,N3,Ms D,Ms (show j-1< (lE c (fA c act p)).length by omega)];exact this
 have u: ∀x∈lE c (fA c act p),av c x true=[]:=fun x l=>by
  obtain⟨K,W⟩:=(m x).1 l;have z:=(f x K).1;obtain⟨s,B,_,P,_,f1,f2⟩:=t.of z
  have Q: ∀k∈hH c x,k∉act:=fun k q o=>by
   unfold pc at W;have:((hH c x).any fun k=>(fA c act p).contains k)=true:=OG.2 ⟨k,q,by simpa using (n x k (.inr K) q).2 o⟩;rw[this]at W;cases W
  have L:=iF.2 Q;apply Pw;intro g;rcases lZ h B with⟨e,_⟩|⟨e,_⟩|⟨_,e⟩|⟨_,e⟩
  ·have:=f1 e g;omega
  ·have:=f2 e;rw[L]at this;exact g (Nl this.symm)
  ·exact g e
  exact g e
 have r: ∀x,x∈iI c p (lE c (fA c act p))↔x∈fA c act p\/x=p:=fun x=>by
  unfold iI;rw[N1,NP,lS A fun x l=>H x (f x ((m x).1 l).1).1,gy.2];constructor
  ·rintro((a|⟨i,a,b,d,e⟩)|a)
   ·exact .inl ((m x).1 a).1
   ·have C:=(f i ((m i).1 a).1).1;exact .inl (NF.2 ⟨t.up A (c.Z9.length+1) i x (by have:=aI.1 (H i C);omega) C b d,e⟩)
   exact .inr a
  rintro(a|a)
  ·obtain⟨y,Y,e|e⟩:=qF A p (c.Z9.length+1) x (by have:=aI.1 (H x (f x a).1);omega) a
   ·exact .inl (.inl (by rw[<-e];exact Y))
   exact .inl (.inr ⟨y,Y,e,(aI.1 (H x (f x a).1)).1,(f x a).2⟩)
  exact .inr a
 unfold AB;rw[w,Np,Mx,NB,NB];refine⟨fun x l=> ?_,fun x l=> ?_⟩
 ·obtain⟨K,_⟩:=(m x).1 l;obtain⟨q3,q4⟩:=f x K;obtain⟨s,B,_,P,_⟩:=t.of q3;unfold kT;rw[q4,B,u x l];simp[P]
 have l:=(r x).1 l;have z:x∈act:=l.elim (fun a=>(f x a).1) fun a=>by rw[a];exact R
 obtain⟨s,B,_,P,_,f1,f2⟩:=t.of z
 have v:ch (iI c p (lE c (fA c act p))) (av c x true)=ch act (av c x true):=by
  unfold ch
  congr 1
  apply O9;intro k q;have O:(k:Int)∈hH c x:=NG.2 ⟨k,q,rfl⟩;rw[N8,Mz,Mz,r];refine⟨fun o=>o.elim (fun a=>(f _ a).1) fun a=>by rw[a];exact R,fun o=> .inl ((n x k ?_ O).2 o)⟩;exact l.symm
 unfold iN;rw[B];simp only;rw[v];rcases lZ h B with⟨e,_⟩|⟨e,_⟩|⟨e,_⟩|⟨e,_⟩
 ·by_cases g:av c x true=[]
  ·simp[e,g,ch]
  have:=f1 e g;have X:0< (av c x true).length:=Oi.2 g;simp[e,this];omega
 ·simp[e,f2 e]
 ·simp[e]
 rcases e with e|e<;>simp[e]
def pZ{c:aq}(h:ct c){k:Nat}{s:n4}(j:c.Z9[k]? =some s)(f:aU s=true):an c s.parent=true/\az c s.parent=true/\av c s.parent true≠[]/\fi c s.parent=true/\(s.kind=4\/s.kind=5):=by
 have i:s.kind=4\/s.kind=5:=by unfold aU at f;simpa using f
 rcases h.cases j with⟨e,_⟩|⟨e,_⟩|⟨e,_⟩|⟨_,_,b,d⟩
 ·omega
 ·omega
 ·omega
 unfold cw at b;split at b
 ·rename_i q a;refine⟨by unfold an;rw[a];exact b,?_,fun e=> ?_,?_,i⟩
  ·unfold az eQ;rw[a];simp only[b,SV]
  ·rw[e]at d;simp[D']at d
  unfold at_ at a;split at a
  ·rename_i g;have:=(Mt.1 a).1;exact aI.2 ⟨g,by omega⟩
  cases a
 cases b
def Bg{c:aq}(h:ct c){act:List Int}(f:Lg c act){k:Nat}{s:n4}(i:c.Z9[k]? =some s)(p:aU s=true)(n:s.parent∈act):
 tC c act s.parent k=(if s.kind=5 then zL (KG c (mJ c act s.parent)) else(hH c s.parent).filter fun k=>act.contains k)/\pV c ((k:Int),tC c act s.parent k)=true:=by
 obtain⟨b,o,l,w,x⟩:=pZ h i p;have d:at_ c (k:Int)=some s:=by rw[bK];exact i
 have a:tC c act s.parent k=if s.kind=5 then lE c (fA c act s.parent) else mT c act s.parent:=by
  unfold tC;rw[i]
 have m: ∀v,pV c ((k:Int),v)=if s.kind=4 then decide (v.length=1)&&(hH c s.parent).contains (v.getD 0 0) else(s.kind==5)&&Fm c s.parent v:=fun v=>by
  unfold pV;simp only[d]
 by_cases e:s.kind=5
 ·rw[Mw e]at a;rw[a,m,Mw e,Mv (by omega)];refine⟨Dp h.toRight f _,?_⟩;rw[xu h o,Jh h f n b l,e];rfl
 rw[Mv e]at a;rw[a,m,Mv e,Mw (by omega)];obtain⟨sp,j,_,_,_,f1,_⟩:=f.of n;have g:sp.kind=1:=by rw[bw j]at b;simpa using b
 obtain⟨q,r,y,t,u⟩:=uv (f1 g l);rw[t,u];refine⟨rfl,?_⟩;rw[Mx];exact⟨rfl,Mz.2 r⟩
def jI{c:aq}(h:ct c){act gone:List Int}{mem:List eg}(S:tU c act=true)(T:bm c mem=true)(y: ∀x∈gone,x∈act):nr c act gone mem=DL c act gone mem/\bm c (nr c act gone mem)=true:=by
 have M:=cx S;obtain⟨u,G⟩:=pU T;obtain⟨O,L⟩:=MD (c:=c) (act:=act) (gone:=gone) u
 have l: ∀p∈nr c act gone mem,pV c p=true:=fun p w=>by
  rcases (L p).1 w with⟨i,r,I,k,z,rfl⟩|⟨w,_⟩
  ·obtain⟨s,u,_,rfl,d⟩:=gV.1 z;exact(Bg h M u d (y _ r)).2
  exact G p w
 refine⟨Kl O ?_ fun p=> ?_,LA O l⟩
 ·unfold DL eU R';rw[Q1];exact(DF (p:=fun h=> !(BY c act gone mem h).isEmpty) (n:=c.Z9.length)).imp fun h=>by simp only;omega
 have t: ∀ {k:Nat}{s:n4},c.Z9[k]? =some s->aU s=true->BY c act gone mem k=if gone.contains s.parent=true then tC c act s.parent k else T6 mem k:=fun {k s} u d=>by
  unfold BY;rw[u];simp only;rw[Mw d];split
  ·rename_i o;exact((Bg h M u d (y _ (Mz.1 o))).1).symm
  rfl
 have Q:p∈DL c act gone mem↔ ∃k:Nat,k<c.Z9.length/\BY c act gone mem k≠[]/\p=((k:Int),BY c act gone mem k):=by
  unfold DL eU;rw[NG];constructor
  ·rintro⟨k,z,rfl⟩;obtain⟨a,b⟩:=NF.1 z;exact⟨k,NZ.1 a,by simpa using b,rfl⟩
  rintro⟨k,a,b,rfl⟩;exact⟨k,NF.2 ⟨NZ.2 a,by simpa using b⟩,rfl⟩
 rw[Q];constructor
 ·intro w;obtain⟨k,s,C,f,d,g⟩:=FU (l p w)
  have N:BY c act gone mem k=p.2:=by
   rw[t f d];rcases (L p).1 w with⟨i,r,I,B,v,rfl⟩|⟨J,H⟩
   ·obtain⟨U,j,_,D,_⟩:=gV.1 v;have P:((B:Nat):Int)=k:=C;have:B=k:=by omega
    subst this;rw[f]at j;cases j;rw[Mw (by rw[D];exact Mz.2 r),D]
   rw[Mv, <-C,FN u J];intro o;have r:=Mz.1 o;obtain⟨K,_,_,p4,_⟩:=pZ h f d;exact H ⟨s.parent,r,K,k,gV.2 ⟨s,f,p4,rfl,d⟩,C⟩
  refine⟨k,(Mt.1 f).1,by rw[N];exact g,?_⟩;rw[N, <-C]
 rintro⟨k,z,g,rfl⟩;obtain⟨s,f⟩: ∃s,c.Z9[k]? =some s:=⟨_,Ms z⟩
 have d:aU s=true:=by
  cases R:aU s with
  |true=>rfl
  | false=>
    unfold BY at g;rw[f]at g;simp[R]at g
 obtain⟨K,_,_,p4,_⟩:=pZ h f d;rw[t f d]at g |-;rw[L];split
 ·rename_i o;exact .inl ⟨s.parent,Mz.1 o,K,k,gV.2 ⟨s,f,p4,rfl,d⟩,rfl⟩
 rename_i o;rw[Mv o]at g;refine .inr ⟨?_,?_⟩
 ·apply Pw;intro A;cases E:mem.find? (fun m=>m.1==(k:Int)) with
  |none=>unfold T6 at g;rw[E]at g;exact g rfl
  | some q=>
    have a:=QU E;have b:=Om E;simp only[OQ]at a;have:=FN u b;rw[a]at this;rw[this, <-a]at A;exact A b
 rintro⟨i,r,_,B,v,e⟩;have V:((k:Nat):Int)=B:=e;have e:k=B:=by omega
 subst e;obtain⟨U,j,_,D,_⟩:=gV.1 v;rw[f]at j;cases j;rw[<-D]at r;exact o (Mz.2 r)
/-! Moves -/
end
section
def IN(c:aq)(act:List Int)(i:Int):List Int:=(zL (b7 c act)).filter (b4 c i)
def gd(c:aq)(l:List Int)(i:Int)(j:Nat):List Int:=(l.take j).filter (b4 c i)
def nA{c:aq}{l:List Int}{i:Int}{j:Nat}{x:Int}(h:l[j]? =some x):gd c l i (j+1)=if b4 c i x then gd c l i j++[x] else gd c l i j:=by
 unfold gd;rw[N4,h,N6];cases a:b4 c i x<;>simp[a]
def pm(c:aq)(l:List Int)(i:Int)(j:Nat):(gd c l i j).length<=l.length:=by
 unfold gd;exact NN (NV ..) (by rw[NK];omega)
def cQ{c:aq}(a:Right c)(act:List Int):(b7 c act).length<=32:=by
 unfold b7;split
 ·exact NN (NV ..) (u6 a (by omega))
 simp
def Bq(env:cf)(c:aq)(m:Right c)(act:List Int)(t:act.length<=1000000)(d:Int):b8 prog env 271 [aG c, .seq 1 (act.map aa),I d] (.own 3 1 ((IN c act d).reverse.map aa)):=by
 have f1:=bP env c;have f2:=gB env c m act t;have f:=cQ m act;rw[<-bl]at f2;unfold IN;have f:(zL (b7 c act)).length<=32:=by rw[ar];exact f
 generalize zL (b7 c act)=L at*;unfold aG aQ at f1;unfold aQ at f2;unfold aG;refine qf func271 call271 ntmps271 results271 ?_;repeat refine sL f1 f2 ?_
 refine ap 7 7 3 1 ?_;refine Q' L.length (by omega) (fun j q=>[(0, .ref 9 [cy c] 0 0),(2,I d),(7, .row 7 (q 7)),(13, .row 13 (q 13)),(14,I L.length),(15,I j)]) (fun j _=>[(7,⟨1,(gd c L d j).map aa,3,true⟩),(13,⟨1,L.map aa,3,true⟩)]) (fun j _ b=>b 7=false) rfl ?_ ?_
 ·rintro j u b e l p a;obtain⟨x,n⟩:=gE e;have f3:=fQ env c m d x;unfold aQ at f3;have s:=pm c L d j;have o:dd ((gd c L d j).length+1) 8:=aC (by omega) (by omega);have k:=nA (c:=c) (i:=d) n;cases h:b4 c d x with
  | true=>
    rw[h]at f3;rw[h,Mw rfl]at k;have F:=ii l p n o a;repeat refine y3 f1 f3 ?_
    refine⟨j+1,⟨e,by simp only[go_sem,a]⟩,?_,?_,by omega⟩
    ·exact qe
    have F:=ai k @NC.{0,0};exact qe
  | false=>
    rw[h]at f3;rw[h,Mv Nb]at k;have F:=ii l p n o a;repeat refine y3 f1 f3 ?_
    refine⟨j+1,⟨e,by simp only[go_sem,a]⟩,?_,?_,by omega⟩
    ·exact qe
    have F:=ai k @NC.{0,0};exact qe
 rintro u b l a;have g:gd c L d L.length=L.filter (b4 c d):=by unfold gd;rw[NS]
 rw[g];have r:(L.filter (b4 c d)).length<=32:=NN (NV ..) f;generalize L.filter (b4 c d)=U at*;have f4:=sY U (by omega);have F:=ai l a;repeat refine st ?_
 refine oc 7 rfl (row:=⟨1,U.map aa,3,true⟩) f4 (Ng 0) rfl (bz _).symm (by simp only[go_sem,a];exact iR) (by simp only[go_sem,a];exact iR) (by simp only[go_sem,a];exact iR) (by simp only[go_sem,a];exact iR) ?_;rw[bz];exact fc
def Dx(env:cf)(a b:Addr)(d:gb env a b)(s:List UInt8):b8 prog env 187 [Sg s] (c0 (-1) (bt a)):=by
 have c:=gg d.e1;have f0:=b9 env s a;refine qf func187 call187 ntmps187 results187 ?_;have F:=c;exact kb f0
def fy(c:aq)(act:List Int)(t:tS):List Int:=if t.target<0 then [] else(IN c act (n5 c t.src t.target)).reverse
def yK(env:cf)(d e:Addr)(j:gb env d e)(c:aq)(h:ct c)(b:hP c)(act:List Int)(f:act.length<=1000000)(k:Nat)(t:tS)(g:c.trans[k]? =some t)(i:tU c act=true):b8 prog env 235 [aG c, .seq 1 (act.map aa),I k] (.tuple [.seq 1 ((fy c act t).map aa),ik]):=by
 have f0:=cj env d e j c h b act f;have f1:=oe env c b k t g;have f2:=ng env c h.toRight b t (h.src g).1;have f3:=Bq env c h.toRight act f (n5 c t.src t.target);unfold wC at f0;rw[i]at f0;simp only[Nn]at f0;unfold fy;unfold ax at f1 f2;unfold aG at f0 f1 f2 f3 |-;by_cases a:t.target<0
 ·rw[Mw a];refine qw func235 call235 ntmps235 results235 ?_;have F:=a;repeat refine Uq f0 f1 f2 f3 ?_
  (refine aM ?_;refine⟨_,(by show (ag _ _ _).run _=some _;simp only[go_sem,F];rfl),?_⟩)
  exact .of (.tuple (.cons (.nil 1) (.cons (.refl _) .nil))) (fun _ _ _ h=>by cases h) (fun _ _ _ h=>by cases h)
 rw[Mv a];refine qf func235 call235 ntmps235 results235 ?_;have F:=a;exact TV f0 f1 f2 f3
def IU{l:List Int}(h: ∀x∈l,0<=x):l=zL (l.map Int.toNat):=by
 unfold zL;rw[P4]
 conv=>lhs;rw[<-SG l]
 refine O6 fun x a=> ?_;have:=h x a;simp only[id_eq,Function.comp];omega
def se(env:cf)(c:aq)(a:Right c)(act:List Int)(b:act.length<=1000000)(d: ∀x∈act,0<=x):b8 prog env 111 [.agg (aA c), .seq 1 (act.map aa)] (.own 3 1 ((b7 c act).map aB)):=by
 have f:=jY env c a (act.map Int.toNat) (by rw[NT];exact b);rw[<-bl, <-IU d]at f;exact f
def oF(env:cf)(c:aq)(l:Right c)(act:List Int)(r:act.length<=1000000)(s: ∀x∈act,0<=x)(i:Int):b8 prog env 168 [.agg (aA c), .seq 1 (act.map aa),I i] (.own 3 1 ((IN c act i).map aa)):=by
 have f2:=se env c l act r s;have f:=cQ l act;rw[<-bl]at f2;unfold IN;have f:(zL (b7 c act)).length<=32:=by rw[ar];exact f
 generalize zL (b7 c act)=L at*;unfold aA at f2;refine qf func168 call168 ntmps168 results168 ?_;have F:=aA.eq_1;repeat refine ff f2 ?_
 have F:=aA.eq_1;refine lq L.length (by omega) (fun j n=>[(2,I i),(3, .loc 3 (n 3) 0 0),(7, .row 10 (n 10)),(8, .row 13 (n 13)),(9,I j)]) (fun j _=>[(3,⟨5,[aA c],26,false⟩),(10,⟨1,(gd c L i j).map aa,3,true⟩),(13,⟨1,L.map aa,3,true⟩)]) (fun j _ a=>a 10=false) rfl ?_ ?_
 ·rintro j t a b k p d;obtain⟨x,m⟩:=gE b;have f3:=gf env c l i x;unfold aA at f3;have q:=pm c L i j;have o:dd ((gd c L i j).length+1) 8:=aC (by omega) (by omega);have h:=nA (c:=c) (i:=i) m;cases g:b4 c i x with
  | true=>
    rw[g]at f3;rw[g,Mw rfl]at h;have F:=kv Us k p m o d;repeat refine ff f3 ?_
    refine⟨j+1,⟨b,by simp only[go_sem,d]⟩,?_,?_,by omega⟩
    ·exact qe
    have F:=gs Us h @NC.{0,0};exact qe
  | false=>
    rw[g]at f3;rw[g,Mv Nb]at h;have F:=kv Us k p m o d;repeat refine ff f3 ?_
    refine⟨j+1,⟨b,by simp only[go_sem,d]⟩,?_,?_,by omega⟩
    ·exact qe
    have F:=gs Us h @NC.{0,0};exact qe
 rintro t a k d;have e:gd c L i L.length=L.filter (b4 c i):=by unfold gd;rw[NS]
 rw[e];have F:=ai k d;exact fc
def nM(l:List Int)(m:Nat):List Int:=(l.drop (l.length-m)).reverse
def DG{l:List Int}{m:Nat}{x:Int}(b:m<l.length)(h:l[l.length-m-1]? =some x):nM l (m+1)=nM l m++[x]:=by
 unfold nM;rw[show l.length-(m+1)=l.length-m-1 by omega];obtain⟨a,rfl⟩:=Mt.1 h;rw[Ol a,Rs]
 congr 3
 omega
def mM(env:cf)(l:List Int)(q:l.length<=1000000):b8 prog env 117 [.seq 1 (l.map aa)] (.own 3 1 (l.reverse.map aa)):=by
 have g:IntKind.i64.wrap ((l.length:Int)-1)=(l.length:Int)-1-((0:Nat):Int):=by rw[aX (by omega) (by omega)];omega
 refine qf func117 call117 ntmps117 results117 ?_;have F:=g;repeat refine st ?_
 refine aH (D:=Nat) (fun m p=>[(0, .seq 1 (l.map aa)),(3, .row 5 (p 5)),(4,I ((l.length:Int)-1-(m:Int)))]) (fun m _=>[(5,⟨1,(nM l m).map aa,3,true⟩)]) (fun m _ a=>m<=l.length/\a 5=false) (fun m=>l.length-m) 0 ?_ ?_ ?_ ?_
 ·exact⟨NJ _,rfl⟩
 ·exact qe
 ·have:nM l 0=[]:=by unfold nM;simp
  rw[this]
  (simp only[go_sem,F])
  try rfl
 rintro m s a ⟨r,d⟩;have j:(nM l m).length=m:=by unfold nM;rw[Oj,O7];omega
 by_cases c:m<l.length
 ·obtain⟨x,f⟩: ∃x,l[l.length-m-1]? =some x:=⟨l[l.length-m-1]'(by omega),Ms _⟩;have k:(l.length:Int)-1-(m:Int)=((l.length-m-1:Nat):Int):=by omega
  have e:(0:Int)<=((l.length-m-1:Nat):Int):=by omega
  have n:IntKind.i64.wrap (((l.length-m-1:Nat):Int)-1)=(l.length:Int)-1-((m+1:Nat):Int):=by rw[aX (by omega) (by omega)];omega
  have o:((l.length-m-1:Nat):Int)< (l.length:Int):=by omega
  have h:dd ((nM l m).length+1) 8:=⟨by omega,by omega⟩;have i:=DG c f;rw[k];have F:=kv f e n o h d;repeat refine st ?_
  refine⟨m+1,⟨c,by simp only[go_sem,d]⟩,?_,?_,by omega⟩
  ·exact qe
  have F:=ai i @NC.{0,0};exact qe
 obtain rfl:m=l.length:=by omega
 have e: ¬(0:Int)<=(l.length:Int)-1-(l.length:Int):=by omega
 have b:nM l l.length=l.reverse:=by unfold nM;simp
 rw[b];have F:=ai e d;exact fc
def ju(env:cf)(c:aq)(h:ct c)(act:List Int)(b:act.length<=1000000)(f: ∀x∈act,0<=x)(k:Nat)(t:tS)(d:c.trans[k]? =some t):b8 prog env 116 [.agg (aA c), .seq 1 (act.map aa), .agg (ax t)] (.own 3 1 ((fy c act t).map aa)):=by
 have f1:=mN env c h.toRight t (h.src d).1;have f2:=oF env c h.toRight act b f (n5 c t.src t.target);have e:(IN c act (n5 c t.src t.target)).length<=32:=NN (NV ..) (by rw[ar];exact cQ h.toRight act);have f3:=mM env (IN c act (n5 c t.src t.target)) (by omega);unfold fy;unfold ax at f1;unfold aA at f1 f2;by_cases a:t.target<0
 ·rw[Mw a];refine qw func116 call116 ntmps116 results116 ?_;have F:=gs Uv Us a;repeat refine Sw f1 f2 f3 ?_
  (refine aM ?_;refine⟨_,(by show (ag _ _ _).run _=some _;simp only[go_sem,F];rfl),?_⟩)
  exact fN.own_nil _ _ (by decide)
 rw[Mv a];refine qf func116 call116 ntmps116 results116 ?_;have F:=gs Uv Us a;exact D0 f1 f2 f3
end
section
def I4:List Int->Int->Nat->Option Nat
 |[],_,_=>none
 |x::l,k,n=>if k=x then some n else I4 l k (n+1)
def lr{k:Int} : ∀ {l:List Int}{n:Nat},k∉l->I4 l k n=none
 |[],_,_=>rfl
 | x::l,n,h=>by
   unfold I4;rw[Mv (fun e=>h (by rw[e];exact QQ ..)),lr (fun a=>h (O2 _ a))]
def qG{k:Int} : ∀ {l:List Int}{n:Nat},k∈l-> ∃i,I4 l k n=some (n+i)/\l[i]? =some k
 |[],n,h=>by cases h
 | x::l,n,h=>by
   unfold I4;by_cases e:k=x
   ·exact⟨0,by rw[Mw e];rfl,by rw[e];rfl⟩
   obtain⟨i,a,b⟩:=qG (n:=n+1) ((NX.1 h).resolve_left e);exact⟨i+1,by rw[Mv e,a];congr 1;omega,by simpa using b⟩
def gP(l:List Int):List (List AV):=l.map fun k=>[I k,I 1]
def mQ(k:Int): ∀(l:List Int)(n:Nat),sm prog 3 (I k) (gP l) n=some (I4 l k n)
 |[],n=>rfl
 | x::l,n=>by
   have b:=mQ k l (n+1);unfold gP at b |-;unfold I4;by_cases e:k=x
   ·have a:(k==x)=true:=by simp[e]
    simp only[go_sem,cM,cZ,Nh,a,Mw e]
   have a:(k==x)=false:=by simpa using e
   simp only[go_sem,cM,cZ,Nh,a,Mv e,b]
def wP(env:cf)(o:List Int)(i:Int)(h:o.length<=4000)(f:TypeId):i9 prog env 294 [1000,1001] (fun k=>k==1001) (fun vs=>[I i, .loc 1000 (vs 1000) 0 0]) (fun vs=>[(1000,⟨1,[[.row 1001 (vs 1001)]],f,false⟩),(1001,⟨1,o.map aa,3,true⟩)]) (fun vs=>[(1000,⟨1,[[.row 1001 (vs 1001)]],f,false⟩),(1001,⟨1,(KK o i).map aa,3,true⟩)]) (fun _=> .lit (.tuple #[])):=by
 have f0:=(bI env o i (by omega)).lend rfl;unfold KK;cases e:o.contains i with
 | true=>
   rw[e]at f0;simp only[Nn];refine qi func294 call294 ntmps294 results294 ?_;intro vs d a;obtain⟨b,c⟩:=OF a;have F:=ai b c;repeat refine st ?_
   refine lL f0 ?_;repeat refine st ?_
   exact rN
 | false=>
   rw[e]at f0;have g:dd (o.length+1) 8:=aC (by omega) (by omega);simp only[NW,OB,NC];refine qi func294 call294 ntmps294 results294 ?_;intro vs d a;obtain⟨b,c⟩:=OF a;have F:=gs b c g;repeat refine st ?_
   refine lL f0 ?_;repeat refine st ?_
   exact rN
def jK{c:aq}{a:List Int}(d:a.Nodup)(e: ∀x∈a,fi c x=true):a.length<=c.Z9.length:=by
 have:=lT (c:=c) (l:=[]) d fun k b=>⟨by simp,e k b⟩;have:=FQ c [];omega
def GK{c:aq}{d:Int}{o U:List Int}{m:Nat}{k:Int}(h:U[m]? =some k):y' c d o U (m+1)=if 0<=k/\b4 c d k=true then KK (y' c d o U m) k else y' c d o U m:=bY _ _ h
def Ch{c:aq}{d:Int}{l:List Int}{j:Nat}{k:Int}(h:l[j]? =some k):th c d l (j+1)=y' c d (KK (th c d l j) k) (kf c k) (kf c k).length:=bY _ _ h
def GJ{c:aq}(e:Right c){d:Int}{l:List Int}(m: ∀x∈l,fi c x=true){j:Nat}(g:j<=l.length):(th c d l j).Nodup/\(∀x∈th c d l j,fi c x=true)/\(th c d l j).length<=32:=by
 obtain⟨a,f⟩:=u7 (c:=c) (d:=d) (l:=l) j g
 have b: ∀x∈th c d l j,fi c x=true:=fun x k=>by
  rcases (f x).1 k with h|⟨i,h,n,o,_⟩
  ·exact m x (Ot h)
  exact(gX e n o).1
 exact⟨a,b,NN (jK a b) e.Z6⟩
def Ie{c:aq}(e:Right c){d i:Int}{o:List Int}(j:o.Nodup)(l: ∀x∈o,fi c x=true){m:Nat}(g:m<=(kf c i).length):(y' c d o (kf c i) m).Nodup/\(∀x∈y' c d o (kf c i) m,fi c x=true)/\(y' c d o (kf c i) m).length<=32:=by
 obtain⟨a,f⟩:=ym (c:=c) (d:=d) (U:=kf c i) m g j
 have b: ∀x∈y' c d o (kf c i) m,fi c x=true:=fun x k=>by
  rcases (f x).1 k with h|⟨h,n,_⟩
  ·exact l x h
  exact(gX e (Ot h) n).1
 exact⟨a,b,NN (jK a b) e.Z6⟩
def KC(env:cf)(c:aq)(u:Right c)(l:List Int)(hl:l.length<=1000000)(M: ∀x∈l,fi c x=true)(d:Int):b8 prog env 266 [aG c, .seq 1 (l.map aa),I d] (.own 3 1 ((na c l d).map aa)):=by
 have L:=u.Z6;have f1:=bP env c;unfold aG aQ at f1;unfold aG;refine qf func266 call266 ntmps266 results266 ?_;repeat refine nw ?_
 refine Tz 7 9000 0 0 3 1 ?_;refine Q' l.length (by omega) (fun j p=>[(0, .ref 9 [cy c] 0 0),(2,I d),(7, .loc 7 (p 7) 0 0),(8, .clo 294 [.loc 7 (p 7) 0 0]),(14, .seq 1 (l.map aa)),(15,I l.length),(16,I j)]) (fun j p=>[(7,⟨1,[[.row 9000 (p 9000)]],33,false⟩),(9000,⟨1,(th c d l j).map aa,3,true⟩)]) (fun j _ f=>f 7=false/\f 9000=false) ⟨rfl,rfl⟩ ?_ ?_
 ·rintro j Y f s K N ⟨g,k⟩;have R:=R8 s;obtain⟨x,E⟩:=gE s;obtain⟨W,X,n3⟩:=GJ u (d:=d) M R;have G:=M x (My E);have S:=Ch (c:=c) (d:=d) E;have O:=wP env (th c d l j) x (by omega) 33;have f2:=yn env c u x;unfold aQ at f2;have T:=nu W x;have V: ∀y∈KK (th c d l j) x,fi c y=true:=fun y r=>(vY.1 r).elim (X y) fun e=>by rw[e];exact G
  have z:=fun m C=>Ie u (d:=d) (i:=x) T V (m:=m) C;have Q:(kf c x).length<=40:=kZ 40 x
  have B: ∀y∈kf c x,y<0\/fi c y=true:=fun y r=>by
   rcases Qu y 0 with h|h
   ·exact .inl h
   exact .inr (gX u r h).1
  generalize KK (th c d l j) x=o at*;generalize kf c x=U at*;have Z:y' c d o U 0=o:=rfl;have F:=ii E K N g k;repeat refine st ?_
  refine im [(1000,7),(1001,9000)] (cK rfl (by simp only[go_sem,F];exact iR)) (O) (by decide) (by decide) (by simp only[go_sem,F]<;>rfl) (by simp only[go_sem,F,NH]<;>trivial) (by simp only[go_sem,F,NH]<;>trivial) (by intro o;simp only[go_sem,F,hU,NH]<;>trivial) (by intro o;simp only[go_sem,F]<;>rfl) (by simp only[go_sem,F,hU];exact iR) (by simp only[go_sem,F,hU];exact iR) ?_;repeat refine y3 f1 f2 ?_
  refine aH (D:=Nat) (fun m p=>[(0, .ref 9 [cy c] 0 0),(2,I d),(7, .loc 7 (p 7) 0 0),(8, .clo 294 [.loc 7 (p 7) 0 0]),(14, .seq 1 (l.map aa)),(15,I l.length),(16,I j),(26, .row 26 (p 26)),(27,I U.length),(28,I m)]) (fun m p=>[(7,⟨1,[[.row 9000 (p 9000)]],33,false⟩),(9000,⟨1,(y' c d o U m).map aa,3,true⟩),(26,⟨1,U.map aa,3,true⟩)]) (fun m _ f=>m<=U.length/\f 7=false/\f 9000=false) (fun m=>U.length-m) 0 ?_ ?_ ?_ ?_
  ·exact⟨NJ _,by simp only[go_sem,g],by simp only[go_sem,k]⟩
  ·(simp only[go_sem,F])
   try rfl
  ·have F:=Z
   (simp only[go_sem,F])
   try rfl
  try clear g k
  rintro m p es ⟨C,g,k⟩;obtain⟨k1,k2,k3⟩:=z m C;by_cases n:m<U.length
  ·obtain⟨y,r⟩:=gE n;have A:=ip n;have J:=aD n (by omega);have b:=GK (c:=c) (d:=d) (o:=o) r;have P:=wP env (y' c d o U m) y (by omega) 33;have f3:=fQ env c u d y;unfold aQ at f3;rcases B y (My r) with h0|H
   ·have t: ¬0<=y:=by omega
    rw[Mv (fun q=>t q.1)]at b;have F:=kv r A J t g k;repeat refine y3 f1 f3 ?_
    refine⟨m+1,⟨n,by simp only[go_sem,g],by simp only[go_sem,k]⟩,?_,?_,by omega⟩
    ·exact qe
    have F:=b;exact qe
   ·have t:=(aI.1 H).1;cases v:b4 c d y with
    | false=>
      rw[v]at f3 b;rw[Mv (by simp)]at b;have F:=kv r A J t g k;repeat refine y3 f1 f3 ?_
      refine⟨m+1,⟨n,by simp only[go_sem,g],by simp only[go_sem,k]⟩,?_,?_,by omega⟩
      ·exact qe
      have F:=b;exact qe
    | true=>
      rw[v]at f3 b;rw[Mw ⟨t,rfl⟩]at b;generalize y' c d o U m=a at*;have F:=kv r A J t g k;repeat refine y3 f1 f3 ?_
      refine im [(1000,7),(1001,9000)] (cK rfl (by simp only[go_sem,F];exact iR)) (P) (by decide) (by decide) (by simp only[go_sem,F]<;>rfl) (by simp only[go_sem,F,NH]<;>trivial) (by simp only[go_sem,F,NH]<;>trivial) (by intro o;simp only[go_sem,F,hU,NH]<;>trivial) (by intro o;simp only[go_sem,F]<;>rfl) (by simp only[go_sem,F,hU];exact iR) (by simp only[go_sem,F,hU];exact iR) ?_;repeat refine st ?_
      refine⟨m+1,⟨n,by simp only[go_sem,g],by simp only[go_sem,k]⟩,?_,?_,by omega⟩
      ·exact qe
      have F:=b;exact qe
  obtain rfl:m=U.length:=by omega
  have A:=nl U.length;have F:=i0 A N g k;repeat refine st ?_
  refine⟨j+1,⟨s,by simp only[go_sem,g],by simp only[go_sem,k]⟩,?_,?_,by omega⟩
  ·exact qe
  have F:=S;exact qe
 rintro Y f K ⟨g,k⟩;show fq _ _ _ _ _ _;have w:th c d l l.length=na c l d:=rfl;rw[w];have F:=gs K g k;exact fc
end
end Go.Proofs.YtfhkmjbjafeckaaGreatDoor
