/- Ways up and growing, as the program does them. -/
import Derived.Test.YtfhkmjbjafeckaaGreatDoorP18
set_option maxRecDepth 100000
set_option maxHeartbeats 16000000
set_option linter.unusedSimpArgs false
set_option linter.defProp false
namespace Go.Proofs.YtfhkmjbjafeckaaGreatDoor
open Go.Proofs.Tryz
open Go.RowKit
section
/-! Legal states -/
def JB{l:List Int}(h: ∀j,0<j->j<l.length->l.getD (j-1) 0<l.getD j 0):l.Pairwise (· < ·):=by
 rw[Nn];intro i j f k g
 have a: ∀d,i+d+1<l.length->l.getD i 0<l.getD (i+d+1) 0:=fun d=>by
  induction d with
  |zero=>intro c;simpa using h (i+1) (by omega) (by omega)
  | succ d m=>
    intro c;have n:=m (by omega);have b:=h (i+d+1+1) (by omega) (by omega);have e:i+(d+1)+1=i+d+1+1:=by omega
    rw[e];simp only[P6]at b;omega
 have:=a (j-i-1) (by omega);rw[show i+(j-i-1)+1=j by omega]at this;simpa[NW,Mq f,Mq k]using this
structure Lg(c:aq)(act:List Int):Prop where
 ZZ:act.Pairwise (· < ·)
 fit: ∀x∈act,∃s,at_ c x=some s/\rj c act x.toNat s=true
 top:b6 act (av c (-1) true)=1
def cx{c:aq}{act:List Int}(h:tI c act=true):Lg c act:=by
 obtain⟨e,f⟩:=zf.1 h
 have d: ∀j (a:j<act.length),(j==0||decide (act.getD (j-1) 0<act[j]))=true/\vk c act act[j]=true:=fun j a=>by
  have:=e j a;unfold vh at this;rw[Mq a]at this;simpa only[Mu]using this
 refine⟨JB fun j k a=> ?_,fun x i=> ?_,f⟩
 ·have:=(d j a).1;have b:(j==0)=false:=by simp;omega
  rw[b,Oj,NF]at this;simpa[NW,Mq a]using this
 obtain⟨j,a,rfl⟩:=QE.1 i;have:=(d j a).2;unfold vk at this;split at this
 ·rename_i s g;exact⟨s,g,this⟩
 cases this
def Lg.of{c:aq}{act:List Int}(h:Lg c act){x:Int}(j:x∈act): ∃s,at_ c x=some s/\fb c x=true/\aU s=false/\(aP c x<0\/aP c x∈act)/\(s.kind=1->av c x true≠[]->b6 act (av c x true)=1)/\(s.kind=2->b6 act (av c x true)=(av c x true).length):=by
 obtain⟨s,a,b⟩:=h.fit x j
 have f:0<=x/\c.Z9[x.toNat]? =some s:=by
  unfold at_ at a;split at a
  ·exact⟨by assumption,a⟩
  cases a
 obtain⟨k,rfl⟩: ∃k:Nat,x=k:=⟨x.toNat,by omega⟩;have g:=(Mr.1 f.2).1;have i:aP c (k:Int)=s.parent:=by unfold aP;rw[a]
 unfold rj at b;rw[OS,Mu,Mu]at b;obtain⟨⟨f1,f2⟩,f3⟩:=b;refine⟨s,a,aI.2 ⟨by omega,by simpa using g⟩,by simpa using f1,?_,fun e d=> ?_,fun e=> ?_⟩
 ·rw[i];rw[OQ,NF]at f2;exact f2.imp id fun f2=>by simpa using f2
 ·rw[Mw ⟨e,d⟩]at f3;simpa using f3
 rw[Mt (fun q=>by omega),Mw e]at f3;simpa using f3
def Lg.real{c:aq}{act:List Int}(h:Lg c act){x:Int}(d:x∈act){s:nr}(b:at_ c x=some s):s.kind≠4/\s.kind≠5:=by
 obtain⟨f,e,_,a,_⟩:=h.of d;rw[b]at e;cases e;unfold aU at a;simpa using a
def Lg.nodup{c:aq}{act:List Int}(h:Lg c act):act.Nodup:=h.ZZ.imp fun h=>by omega
def Lg.up{c:aq}(b:Right c){act:List Int}(h:Lg c act): ∀(n:Nat)(x k:Int),x<n->x∈act->k∈j0 c x->0<=k->k∈act
 | 0,x,k,f,d,hk,e=>by
   obtain⟨_,_,a,_⟩:=h.of d;have:=aI.1 a;omega
 | n+1,x,k,f,d,hk,e=>by
   obtain⟨_,_,a,_,hp,_⟩:=h.of d;rw[cv b a]at hk;have:=d4 b a;rcases hk with rfl|hk
   ·exact hp.resolve_left (by omega)
   rcases hp with hp|hp
   ·rw[cc (by unfold fb;rw[N7 (by omega),Ng])]at hk;simp at hk
   exact Lg.up b h n _ k (by omega) hp hk e
def iB{c:aq}(g:Right c){l:List Int}(b: ∀x∈l,fb c x=true){x:Int} :x∈zL (bt c l)↔x∈l:=by
 have d:l.all (fb c)=true:=Mz.2 b;unfold bt;rw[Mw d];constructor
 ·intro a;obtain⟨k,f,rfl⟩:=NE.1 a;simpa using (ND.1 f).2
 intro a;have h:=aI.1 (b x a);refine NE.2 ⟨x.toNat,ND.2 ⟨?_,?_⟩,by omega⟩
 ·exact(gU g _).2 (by omega)
 have e:((x.toNat:Nat):Int)=x:=by omega
 rw[e];simpa using a
/-! Memories in their order -/
def lK:List ds->ds->List ds
 |[],m=>[m]
 |x::r,m=>if x.1<m.1 then x::lK r m else if x.1=m.1 then m::r else m::x::r
abbrev Sj(l:List ds):Prop:=l.Pairwise fun a b=>a.1<b.1
def oc{m p:ds} : ∀ {l:List ds},Sj l->(p∈lK l m↔p=m\/(p∈l/\p.1≠m.1))
 |[],_=>by simp[lK]
 | x::r,h=>by
   obtain⟨c,e⟩:=Od.1 h;unfold lK;split
   ·rename_i f;rw[NV,oc e,NV];constructor
    ·rintro(rfl|rfl|⟨a,b⟩)
     ·exact .inr ⟨.inl rfl,by omega⟩
     ·exact .inl rfl
     exact .inr ⟨.inr a,b⟩
    rintro(rfl|⟨rfl|a,b⟩)
    ·exact .inr (.inl rfl)
    ·exact .inl rfl
    exact .inr (.inr ⟨a,b⟩)
   split
   ·rename_i d;rw[NV,NV];constructor
    ·rintro(rfl|a)
     ·exact .inl rfl
     exact .inr ⟨.inr a,by have:=c p a;omega⟩
    rintro(rfl|⟨rfl|a,b⟩)
    ·exact .inl rfl
    ·exact absurd d b
    exact .inr a
   rename_i g d;rw[NV,NV];constructor
   ·rintro(rfl|rfl|a)
    ·exact .inl rfl
    ·exact .inr ⟨.inl rfl,by omega⟩
    exact .inr ⟨.inr a,by have:=c p a;omega⟩
   rintro(rfl|⟨rfl|a,b⟩)
   ·exact .inl rfl
   ·exact .inr (.inl rfl)
   exact .inr (.inr a)
def ua{m:ds} : ∀ {l:List ds},Sj l->Sj (lK l m)
 |[],_=>by simp[lK,Sj]
 | x::r,h=>by
   obtain⟨b,c⟩:=Od.1 h;unfold lK;split
   ·rename_i d;refine Od.2 ⟨fun p hp=> ?_,ua c⟩;rcases (oc c).1 hp with rfl|⟨a,_⟩
    ·exact d
    exact b p a
   split
   ·rename_i e;exact Od.2 ⟨fun p hp=>by have:=b p hp;omega,c⟩
   refine Od.2 ⟨fun p hp=> ?_,h⟩;rcases NV.1 hp with rfl|hp
   ·omega
   have:=b p hp;omega
def Kc{a b:List ds}(c:Sj a)(d:Sj b)(h: ∀p,p∈a↔p∈b):a=b:=by
 have f:a.Nodup:=c.imp fun h e=>by rw[e]at h;omega
 have g:b.Nodup:=d.imp fun h e=>by rw[e]at h;omega
 exact Qj (fun x y _ _ i j=>by omega) c d ((List.perm_ext_iff_of_nodup f g).2 h)
/-! What is remembered -/
def fl(c:aq)(l:List Int)(i:Int):List Int:=l.filter (a7 c i)
def o'(c:aq)(l:List Int)(i:Int):Bool:= !(g6 c i).any fun k=>l.contains k
def k5(c:aq)(l:List Int):List Int:=bR (l.filter (o' c l))
def mO(c:aq)(act:List Int)(i:Int):List Int:=match ((g6 c i).filter fun k=>act.contains k).getLast? with
 |some k=>[k]
 |none=>[]
def sl(c:aq)(act:List Int)(i:Int)(h:Nat):List Int:=match c.Z9[h]? with
 |some s=>if s.kind=5 then k5 c (fl c act i) else mO c act i
 |none=>[]
def rn(c:aq)(act:List Int)(i:Int)(o:List ds)(M:List Nat)(m:Nat):List ds:=(M.take m).foldl (fun o (h:Nat)=>lK o ((h:Int),sl c act i h)) o
def u0(c:aq)(act gone:List Int)(o:List ds)(j:Nat):List ds:=(gone.take j).foldl (fun o i=>if an c i=true then rn c act i o (y' c i) (y' c i).length else o) o
def na(c:aq)(act gone:List Int)(mem:List ds):List ds:=u0 c act gone mem gone.length
def wv{c:aq}{act:List Int}{i:Int}{M:List Nat} : ∀(m:Nat){o:List ds},m<=M.length->Sj o->Sj (rn c act i o M m)/\ ∀p,p∈rn c act i o M m↔(∃h∈M.take m,p=((h:Int),sl c act i h))\/(p∈o/\ ∀h∈M.take m,p.1≠(h:Int))
 |0,o,_,g=>⟨g,fun p=>by simp[rn]⟩
 | m+1,o,r,g=>by
   obtain⟨k,j⟩: ∃k,M[m]? =some k:=⟨M[m],Mq (by omega)⟩;obtain⟨l,q⟩:=wv (c:=c) (act:=act) (i:=i) (M:=M) m (o:=o) (by omega) g;have e:rn c act i o M (m+1)=lK (rn c act i o M m) ((k:Int),sl c act i k):=bZ _ _ j;have n: ∀x,x∈M.take (m+1)↔x∈M.take m\/x=k:=fun x=>by rw[N1,j];simp
   rw[e];refine⟨ua l,fun p=> ?_⟩;rw[oc l,q];simp only[n];constructor
   ·rintro(rfl|⟨⟨h,a,rfl⟩|⟨a,b⟩,d⟩)
    ·exact .inl ⟨k, .inr rfl,rfl⟩
    ·exact .inl ⟨h, .inl a,rfl⟩
    exact .inr ⟨a,fun h f=>f.elim (b h) fun e=>by rw[e];exact d⟩
   rintro(⟨h,a|rfl,rfl⟩|⟨a,b⟩)
   ·by_cases e:h=k
    ·exact .inl (by rw[e])
    exact .inr ⟨.inl ⟨h,a,rfl⟩,by simp;omega⟩
   ·exact .inl rfl
   exact .inr ⟨.inr ⟨a,fun h f=>b h (.inl f)⟩,b k (.inr rfl)⟩
def gW{c:aq}{i:Int}{k:Nat} :k∈y' c i↔ ∃s,c.Z9[k]? =some s/\fb c i=true/\s.parent=i/\aU s=true:=by
 unfold y' Kx;rw[ND,NX];constructor
 ·rintro⟨b,a⟩;rw[Mq b]at a |-;simp only[Mu,Nz]at a;exact⟨_,rfl,a.1,a.2.1,a.2.2⟩
 rintro⟨s,d,b,a,e⟩;refine⟨(Mr.1 d).1,?_⟩;rw[d];simp[b,a,e]
def SZ(c:aq)(gone:List Int)(h:Int):Prop:= ∃i∈gone,an c i=true/\ ∃k∈y' c i,h=(k:Int)
def BS{c:aq}{act gone:List Int}{o:List ds}(u:Sj o): ∀(j:Nat),j<=gone.length->Sj (u0 c act gone o j)/\ ∀p,p∈u0 c act gone o j↔(∃i∈gone.take j,an c i=true/\ ∃k∈y' c i,p=((k:Int),sl c act i k))\/(p∈o/\ ¬SZ c (gone.take j) p.1)
 |0,_=>⟨u,fun p=>by simp[u0,SZ]⟩
 | j+1,H=>by
   obtain⟨i,z⟩: ∃i,gone[j]? =some i:=⟨gone[j],Mq (by omega)⟩;obtain⟨A,B⟩:=BS (c:=c) (act:=act) (gone:=gone) u j (by omega);have e:u0 c act gone o (j+1)=if an c i=true then rn c act i (u0 c act gone o j) (y' c i) (y' c i).length else u0 c act gone o j:=bZ _ _ z
   have y: ∀x,x∈gone.take (j+1)↔x∈gone.take j\/x=i:=fun x=>by rw[N1,z];simp
   rw[e];split
   ·rename_i n;obtain⟨E,G⟩:=wv (c:=c) (act:=act) (i:=i) (M:=y' c i) _ (NC _) A;refine⟨E,fun p=> ?_⟩;rw[G,B,NR];unfold SZ;simp only[y];constructor
    ·rintro(⟨h,a,rfl⟩|⟨⟨f,a,b,k,t,rfl⟩|⟨a,b⟩,d⟩)
     ·exact .inl ⟨i, .inr rfl,n,h,a,rfl⟩
     ·exact .inl ⟨f, .inl a,b,k,t,rfl⟩
     refine .inr ⟨a,?_⟩;rintro⟨f,l | rfl,g,k,t,w⟩
     ·exact b ⟨f,l,g,k,t,w⟩
     exact d k t w
    rintro(⟨f,a|rfl,b,k,d,rfl⟩|⟨a,b⟩)
    ·by_cases e:f=i
     ·subst e;exact .inl ⟨k,d,rfl⟩
     refine .inr ⟨.inl ⟨f,a,b,k,d,rfl⟩,fun h v m=>e ?_⟩;have m:((k:Nat):Int)=h:=m;have m:k=h:=by omega
     subst m;obtain⟨s,u,_,C,_⟩:=gW.1 d;obtain⟨I,q,_,D,_⟩:=gW.1 v;rw[u]at q;cases q;rw[<-C, <-D]
    ·exact .inl ⟨k,d,rfl⟩
    refine .inr ⟨.inr ⟨a,fun⟨f,l,g,r⟩=>b ⟨f, .inl l,g,r⟩⟩,fun h v m=>b ⟨i, .inr rfl,n,h,v,m⟩⟩
   rename_i n;refine⟨A,fun p=> ?_⟩;rw[B];unfold SZ;simp only[y];constructor
   ·rintro(⟨f,a,b,r⟩|⟨a,b⟩)
    ·exact .inl ⟨f, .inl a,b,r⟩
    refine .inr ⟨a,?_⟩;rintro⟨f,l | rfl,g,r⟩
    ·exact b ⟨f,l,g,r⟩
    exact n g
   rintro(⟨f,a|rfl,b,r⟩|⟨a,b⟩)
   ·exact .inl ⟨f,a,b,r⟩
   ·exact absurd b n
   exact .inr ⟨a,fun⟨f,l,g,r⟩=>b ⟨f, .inl l,g,r⟩⟩
def Ls{c:aq}{act gone:List Int}{o:List ds}(a:Sj o):Sj (na c act gone o)/\ ∀p,p∈na c act gone o↔(∃i∈gone,an c i=true/\ ∃k∈y' c i,p=((k:Int),sl c act i k))\/(p∈o/\ ¬SZ c gone p.1):=by
 have:=BS (c:=c) (act:=act) (gone:=gone) a _ (NC _);rw[NR]at this;exact this
/-! As the document says -/
def Ua(mem:List ds)(h:Int):List Int:=match mem.find? (fun m=>m.1==h) with
 |some m=>m.2
 |none=>[]
def Jz(c:aq)(l:List Int):List Nat:=(List.range c.Z9.length).filter fun i:Nat=>l.contains (i:Int)&&(b6 l (av c i true)==0)
def mC(c:aq)(l:List Int)(i:Int):List Int:=(zL (bt c l)).filter (a7 c i)
def DE(c:aq)(act gone:List Int)(mem:List ds)(h:Nat):List Int:=match c.Z9[h]? with
 |some s=>if aU s=true then(if gone.contains s.parent=true then(if s.kind=5 then zL (Jz c (mC c act s.parent)) else(g6 c s.parent).filter fun k=>act.contains k) else Ua mem h) else []
 |none=>[]
def eW(c:aq)(act gone:List Int)(mem:List ds)(j:Nat):List ds:=((List.range j).filter fun h=> !(DE c act gone mem h).isEmpty).map fun h:Nat=>((h:Int),DE c act gone mem h)
def DG(c:aq)(act gone:List Int)(mem:List ds):List ds:=eW c act gone mem c.Z9.length
def FH{mem:List ds}(g:Sj mem){p:ds}(f:p∈mem):Ua mem p.1=p.2:=by
 unfold Ua;cases c:mem.find? (fun m=>m.1==p.1) with
 | none=>
   rw[Pv]at c;exact absurd (Ru p.1) (c p f)
 | some q=>
   have i:=QU c;have j:=On c;simp only[Nz]at i
   have k:q=p:=by
    obtain⟨a,d,rfl⟩:=QE.1 j;obtain⟨b,e,rfl⟩:=QE.1 f;rcases Px a b with h|h|h
    ·have:=Nn.1 g a b d e h;omega
    ·subst h;rfl
    have:=Nn.1 g b a e d h;omega
   rw[k]
def pO{c:aq}{mem:List ds}(h:bc c mem=true):Sj mem/\ ∀m∈mem,lQ c m=true:=by
 have g: ∀j (f:j<mem.length),lQ c mem[j]=true/\(j=0\/(mem.getD (j-1) (0,[])).1<mem[j].1):=fun j f=>by
  have:=Mz.1 h j (NX.2 f);unfold nH at this;rw[Mq f,Mu,OQ,NF]at this;exact⟨this.1,this.2.imp (by simp) id⟩
 refine⟨Nn.2 ?_,fun m p=> ?_⟩
 ·intro i j n f o
  have l: ∀d (k:i+d+1<mem.length),mem[i].1<mem[i+d+1].1:=fun d=>by
   induction d with
   | zero=>
     intro k;have:=(g (i+1) k).2.resolve_left (by omega);simpa[NW,Mq n]using this
   | succ d q=>
     intro k;have a:=q (by omega);have b:=(g (i+d+1+1) (by omega)).2.resolve_left (by omega);simp only[P6,NW,Mq (show i+d+1<mem.length by omega),OH]at b;have e:i+(d+1)+1=i+d+1+1:=by omega
     simp only[e];omega
  have:=l (j-i-1) (by omega);simpa[show i+(j-i-1)+1=j by omega]using this
 obtain⟨j,f,rfl⟩:=QE.1 p;exact(g j f).1
def Kw{c:aq}{mem:List ds}(e:Sj mem)(d: ∀m∈mem,lQ c m=true):bc c mem=true:=by
 refine Mz.2 fun j a=> ?_;have a:=NX.1 a;unfold nH;rw[Mq a];simp only;rw[d _ (Oq a),Nj];by_cases b:j=0
 ·simp[b]
 have:=Nn.1 e (j-1) j (by omega) a (by omega);simp[NW,Mq (show j-1<mem.length by omega),this]
def yj{l:List Int}(h:gP l=true):l≠[]:=by
 unfold gP at h;rw[Mu]at h;intro e;rw[e]at h;simp at h
def FM{c:aq}{m:ds}(h:lQ c m=true): ∃(k:Nat) (s:nr),m.1=(k:Int)/\c.Z9[k]? =some s/\aU s=true/\m.2≠[]:=by
 unfold lQ at h;split at h
 ·rename_i s a
  have b:0<=m.1/\c.Z9[m.1.toNat]? =some s:=by
   unfold at_ at a;split at a
   ·exact⟨by assumption,a⟩
   cases a
  refine⟨m.1.toNat,s,by omega,b.2,?_,?_⟩
  ·unfold aU;split at h
   ·rename_i e;simp[e]
   rw[Mu]at h;rw[h.1];simp
  split at h
  ·rw[Mu,NF]at h;intro e;rw[e]at h;simp at h
  unfold D' at h;simp only[Mu]at h;exact yj h.2.1.1.1
 cases h
def JJ{l:List Int}{ks:List Nat} :b6 l ks=0↔((zL ks).any fun k=>l.contains k)=false:=by
 rw[iG,Q1];simp
def mD{a b:List Int}(c:a.Pairwise (· < ·))(d:b.Pairwise (· < ·))(h: ∀x,x∈a↔x∈b):a=b:=by
 have e:a.Nodup:=c.imp fun h=>by omega
 have f:b.Nodup:=d.imp fun h=>by omega
 exact Qj (fun x y _ _ g i=>by omega) c d ((List.perm_ext_iff_of_nodup e f).2 h)
def mn{l:List Int}(f:l.Nodup):(bR l).Pairwise (· < ·)/\ ∀x,x∈bR l↔x∈l:=by
 have g:(bR l).Pairwise (fun x y:Int=>decide (x<=y)=true):=Qt (fun a b c=>by simp;omega) (fun a b=>by simp;omega) _;have e:(bR l).Perm l:=Qf ..;have d:(bR l).Nodup:=e.nodup_iff.2 f;refine⟨(List.pairwise_and_iff.2 ⟨g,d⟩).imp fun⟨a,b⟩=> ?_,fun x=>e.mem_iff⟩;have a:=Rq a;omega
def yc{p:Nat->Bool}{n:Nat} :(zL ((List.range n).filter p)).Pairwise (· < ·):=by
 unfold zL;rw[Q2];exact(Cy (p:=p) (n:=n)).imp fun h=>by omega
def Dn{c:aq}(n:Right c){act:List Int}(f:Lg c act)(i:Int):k5 c (fl c act i)=zL (Jz c (mC c act i)):=by
 have g: ∀x∈act,fb c x=true:=fun x b=>by obtain⟨_,_,h,_⟩:=f.of b;exact h
 have d: ∀x,x∈mC c act i↔x∈fl c act i:=fun x=>by
  unfold mC fl;rw[ND,ND,iB n g]
 have m:((fl c act i).filter (o' c (fl c act i))).Nodup:=(f.nodup.sublist OR).sublist OR;obtain⟨o,p⟩:=mn m;refine mD o yc fun x=> ?_;unfold k5;rw[p,ND]
 have a: ∀k:Nat,o' c (fl c act i) k=(b6 (mC c act i) (av c k true)==0):=fun k=>by
  rw[iP d,N4];unfold o';rw[Nx,Nz,JJ]
 constructor
 ·rintro⟨e,j⟩;have b:x∈act:=(ND.1 e).1;have:=aI.1 (g x b);obtain⟨k,rfl⟩: ∃k:Nat,x=k:=⟨x.toNat,by omega⟩;refine NE.2 ⟨k,ND.2 ⟨NX.2 (by omega),?_⟩,rfl⟩;rw[Mu,Mx, <-a];exact⟨(d _).2 e,j⟩
 intro b;obtain⟨k,l,rfl⟩:=NE.1 b;have:=(ND.1 l).2;rw[Mu,Mx, <-a]at this;exact⟨(d _).1 this.1,this.2⟩
def Tv{l:List Int}{x:Int}(h:l=[x]):l.getLast? =some x:=by rw[h];rfl
def qo(act:List Int)(ks:List Nat):((zL ks).filter fun k=>act.contains k).length=b6 act ks:=by
 unfold b6 zL;rw[List.filter_map,NQ];rfl
def ui{c:aq}{act:List Int}{i:Int}(h:b6 act (av c i true)=1): ∃k,k∈g6 c i/\k∈act/\mO c act i=[k]/\((g6 c i).filter fun k=>act.contains k)=[k]:=by
 rw[<-qo]at h;obtain⟨k,a⟩:=Ps.1 h;have e:k∈(g6 c i).filter fun k=>act.contains k:=by rw[a];simp
 obtain⟨b,d⟩:=ND.1 e;refine⟨k,b,by simpa using d,?_,a⟩;unfold mO;rw[Tv a]
def qB{c:aq}(f:Right c){act:List Int}(i:Int): ∀(n:Nat)(x:Int),(c.Z9.length:Int)<=x+n->x∈fl c act i-> ∃y∈k5 c (fl c act i),y=x\/x∈j0 c y
 | 0,x,o,g=>by
   have h:i∈j0 c x:=by simpa[a7]using (ND.1 g).2
   cases b:fb c x with
   |true=>have:=aI.1 b;omega
   |false=>rw[cc b]at h;simp at h
 | n+1,x,o,g=>by
   have l:=ND.1 g;have h:i∈j0 c x:=by simpa[a7]using l.2
   by_cases d:o' c (fl c act i) x=true
   ·refine⟨x,?_, .inl rfl⟩;unfold k5;exact(Qf ..).mem_iff.2 (ND.2 ⟨g,d⟩)
   have d:((g6 c x).any fun k=>(fl c act i).contains k)=true:=by
    unfold o' at d;simpa using d
   obtain⟨k,m,j⟩:=OE.1 d;obtain⟨q,r,s⟩:=bP f m;obtain⟨y,p,a⟩:=qB f i n k (by omega) (by simpa using j);have e:x∈j0 c k:=(cv f q).2 (.inl r.symm);refine⟨y,p, .inr ?_⟩;rcases a with rfl|a
   ·exact e
   exact i8 f ((c.Z9.length+1)) y k x (by
    cases b:fb c y with
    |true=>have:=aI.1 b;omega
    |false=>rw[cc b]at a;simp at a) a e
def ah{c:aq}(a:Right c){p x:Int}(b:fb c x=true):a7 c p x=true↔aP c x=p\/a7 c p (aP c x)=true:=by
 unfold a7;rw[Mx,Mx,cv a b];exact⟨fun h=>h.imp Eq.symm id,fun h=>h.imp Eq.symm id⟩
def Ja{c:aq}(h:ch c){act:List Int}(t:Lg c act){p:Int}(R:p∈act)(E:an c p=true)(q:av c p true≠[]):tx c p (k5 c (fl c act p))=true:=by
 have A:=h.toRight;have H: ∀x∈act,fb c x=true:=fun x l=>by obtain⟨_,_,h,_⟩:=t.of l;exact h
 have f: ∀x∈fl c act p,x∈act/\a7 c p x=true:=fun x l=>ND.1 l;have Z:((fl c act p).filter (o' c (fl c act p))).Nodup:=(t.nodup.sublist OR).sublist OR;obtain⟨r1,r2⟩:=mn Z;have m: ∀x,x∈k5 c (fl c act p)↔x∈fl c act p/\o' c (fl c act p) x=true:=fun x=>by unfold k5;rw[r2,ND]
 have n: ∀x k,(x=p\/x∈fl c act p)->k∈g6 c x->(k∈fl c act p↔k∈act):=fun x k l q=>by
  obtain⟨V,J,_⟩:=bP A q;refine⟨fun o=>(f k o).1,fun o=>ND.2 ⟨o,(ah A V).2 ?_⟩⟩;rw[J];exact l.imp id fun l=>(f x l).2
 have T:=t.of R;obtain⟨sp,U,hzp,_,_,S,_⟩:=T;have N:sp.kind=1:=by rw[cA U]at E;simpa using E
 obtain⟨I,V,J,_,_⟩:=ui (S N q);have M:I∈fl c act p:=(n p I (.inl rfl) V).2 J;obtain⟨y0,G,_⟩:=qB A p (c.Z9.length+1) I (by have:=aI.1 (H I J);omega) M;have g:k5 c (fl c act p)≠[]:=fun e=>by rw[e]at G;simp at G
 have w:gP (k5 c (fl c act p))=true:=by
  unfold gP;rw[Mu,Mz];refine⟨by simpa using g,fun j D=> ?_⟩;have D:=NX.1 D;unfold Tn;by_cases L:j=0
  ·simp[L]
  have:=Nn.1 r1 (j-1) j (by unfold k5 at D;omega) D (by omega);rw[OQ,NF];right;rw[NW,NW,Mq D,Mq (show j-1< (k5 c (fl c act p)).length by omega)];exact this
 have u: ∀x∈k5 c (fl c act p),av c x true=[]:=fun x l=>by
  obtain⟨K,W⟩:=(m x).1 l;have z:=(f x K).1;obtain⟨s,B,_,P,_,f1,f2⟩:=t.of z
  have Q: ∀k∈g6 c x,k∉act:=fun k q o=>by
   unfold o' at W;have:((g6 c x).any fun k=>(fl c act p).contains k)=true:=OE.2 ⟨k,q,by simpa using (n x k (.inr K) q).2 o⟩;rw[this]at W;cases W
  have L:=iG.2 Q;apply PQ;intro g;rcases lV h B with⟨e,_⟩|⟨e,_⟩|⟨_,e⟩|⟨_,e⟩
  ·have:=f1 e g;omega
  ·have:=f2 e;rw[L]at this;exact g (Np this.symm)
  ·exact g e
  exact g e
 have r: ∀x,x∈mv c p (k5 c (fl c act p))↔x∈fl c act p\/x=p:=fun x=>by
  unfold mv;rw[NY,NO,lM A fun x l=>H x (f x ((m x).1 l).1).1,gz.2];constructor
  ·rintro((a|⟨i,a,b,d,e⟩)|a)
   ·exact .inl ((m x).1 a).1
   ·have C:=(f i ((m i).1 a).1).1;exact .inl (ND.2 ⟨t.up A (c.Z9.length+1) i x (by have:=aI.1 (H i C);omega) C b d,e⟩)
   exact .inr a
  rintro(a|a)
  ·obtain⟨y,Y,e|e⟩:=qB A p (c.Z9.length+1) x (by have:=aI.1 (H x (f x a).1);omega) a
   ·exact .inl (.inl (by rw[<-e];exact Y))
   exact .inl (.inr ⟨y,Y,e,(aI.1 (H x (f x a).1)).1,(f x a).2⟩)
  exact .inr a
 unfold tx;rw[w,Nj,Mu,Mz,Mz];refine⟨fun x l=> ?_,fun x l=> ?_⟩
 ·obtain⟨K,_⟩:=(m x).1 l;obtain⟨q3,q4⟩:=f x K;obtain⟨s,B,_,P,_⟩:=t.of q3;unfold dD;rw[q4,B,u x l];simp[P]
 have l:=(r x).1 l;have z:x∈act:=l.elim (fun a=>(f x a).1) fun a=>by rw[a];exact R
 obtain⟨s,B,_,P,_,f1,f2⟩:=t.of z
 have v:b6 (mv c p (k5 c (fl c act p))) (av c x true)=b6 act (av c x true):=by
  unfold b6
  congr 1
  apply Ob;intro k q;have O:(k:Int)∈g6 c x:=NE.2 ⟨k,q,rfl⟩;rw[N4,Mx,Mx,r];refine⟨fun o=>o.elim (fun a=>(f _ a).1) fun a=>by rw[a];exact R,fun o=> .inl ((n x k ?_ O).2 o)⟩;exact l.symm
 unfold dE;rw[B];simp only;rw[v];rcases lV h B with⟨e,_⟩|⟨e,_⟩|⟨e,_⟩|⟨e,_⟩
 ·by_cases g:av c x true=[]
  ·simp[e,g,b6]
  have:=f1 e g;have X:0< (av c x true).length:=O2.2 g;simp[e,this];omega
 ·simp[e,f2 e]
 ·simp[e]
 rcases e with e|e<;>simp[e]
def pR{c:aq}(h:ch c){k:Nat}{s:nr}(j:c.Z9[k]? =some s)(f:aU s=true):an c s.parent=true/\az c s.parent=true/\av c s.parent true≠[]/\fb c s.parent=true/\(s.kind=4\/s.kind=5):=by
 have i:s.kind=4\/s.kind=5:=by unfold aU at f;simpa using f
 rcases h.cases j with⟨e,_⟩|⟨e,_⟩|⟨e,_⟩|⟨_,_,b,d⟩
 ·omega
 ·omega
 ·omega
 unfold cw at b;split at b
 ·rename_i q a;refine⟨by unfold an;rw[a];exact b,?_,fun e=> ?_,?_,i⟩
  ·unfold az eR;rw[a];simp only[b,QF]
  ·rw[e]at d;simp[GS]at d
  unfold at_ at a;split at a
  ·rename_i g;have:=(Mr.1 a).1;exact aI.2 ⟨g,by omega⟩
  cases a
 cases b
def Ba{c:aq}(h:ch c){act:List Int}(f:Lg c act){k:Nat}{s:nr}(i:c.Z9[k]? =some s)(p:aU s=true)(n:s.parent∈act):
 sl c act s.parent k=(if s.kind=5 then zL (Jz c (mC c act s.parent)) else(g6 c s.parent).filter fun k=>act.contains k)/\lQ c ((k:Int),sl c act s.parent k)=true:=by
 obtain⟨b,o,l,w,x⟩:=pR h i p;have d:at_ c (k:Int)=some s:=by rw[bN];exact i
 have a:sl c act s.parent k=if s.kind=5 then k5 c (fl c act s.parent) else mO c act s.parent:=by
  unfold sl;rw[i]
 have m: ∀v,lQ c ((k:Int),v)=if s.kind=4 then decide (v.length=1)&&(g6 c s.parent).contains (v.getD 0 0) else(s.kind==5)&&D' c s.parent v:=fun v=>by
  unfold lQ;simp only[d]
 by_cases e:s.kind=5
 ·rw[Mw e]at a;rw[a,m,Mw e,Mt (by omega)];refine⟨Dn h.toRight f _,?_⟩;rw[qJ h o,Ja h f n b l,e];rfl
 rw[Mt e]at a;rw[a,m,Mt e,Mw (by omega)];obtain⟨sp,j,_,_,_,f1,_⟩:=f.of n;have g:sp.kind=1:=by rw[cA j]at b;simpa using b
 obtain⟨q,r,y,t,u⟩:=ui (f1 g l);rw[t,u];refine⟨rfl,?_⟩;rw[Mu];exact⟨rfl,Mx.2 r⟩
def jL{c:aq}(h:ch c){act gone:List Int}{mem:List ds}(S:tI c act=true)(T:bc c mem=true)(y: ∀x∈gone,x∈act):na c act gone mem=DG c act gone mem/\bc c (na c act gone mem)=true:=by
 have M:=cx S;obtain⟨u,G⟩:=pO T;obtain⟨O,L⟩:=Ls (c:=c) (act:=act) (gone:=gone) u
 have l: ∀p∈na c act gone mem,lQ c p=true:=fun p w=>by
  rcases (L p).1 w with⟨i,r,I,k,z,rfl⟩|⟨w,_⟩
  ·obtain⟨s,u,_,rfl,d⟩:=gW.1 z;exact(Ba h M u d (y _ r)).2
  exact G p w
 refine⟨Kc O ?_ fun p=> ?_,Kw O l⟩
 ·unfold DG eW Sj;rw[Q2];exact(Cy (p:=fun h=> !(DE c act gone mem h).isEmpty) (n:=c.Z9.length)).imp fun h=>by simp only;omega
 have t: ∀ {k:Nat}{s:nr},c.Z9[k]? =some s->aU s=true->DE c act gone mem k=if gone.contains s.parent=true then sl c act s.parent k else Ua mem k:=fun {k s} u d=>by
  unfold DE;rw[u];simp only;rw[Mw d];split
  ·rename_i o;exact((Ba h M u d (y _ (Mx.1 o))).1).symm
  rfl
 have Q:p∈DG c act gone mem↔ ∃k:Nat,k<c.Z9.length/\DE c act gone mem k≠[]/\p=((k:Int),DE c act gone mem k):=by
  unfold DG eW;rw[NE];constructor
  ·rintro⟨k,z,rfl⟩;obtain⟨a,b⟩:=ND.1 z;exact⟨k,NX.1 a,by simpa using b,rfl⟩
  rintro⟨k,a,b,rfl⟩;exact⟨k,ND.2 ⟨NX.2 a,by simpa using b⟩,rfl⟩
 rw[Q];constructor
 ·intro w;obtain⟨k,s,C,f,d,g⟩:=FM (l p w)
  have N:DE c act gone mem k=p.2:=by
   rw[t f d];rcases (L p).1 w with⟨i,r,I,B,v,rfl⟩|⟨J,H⟩
   ·obtain⟨U,j,_,D,_⟩:=gW.1 v;have P:((B:Nat):Int)=k:=C;have:B=k:=by omega
    subst this;rw[f]at j;cases j;rw[Mw (by rw[D];exact Mx.2 r),D]
   rw[Mt, <-C,FH u J];intro o;have r:=Mx.1 o;obtain⟨K,_,_,p4,_⟩:=pR h f d;exact H ⟨s.parent,r,K,k,gW.2 ⟨s,f,p4,rfl,d⟩,C⟩
  refine⟨k,(Mr.1 f).1,by rw[N];exact g,?_⟩;rw[N, <-C]
 rintro⟨k,z,g,rfl⟩;obtain⟨s,f⟩: ∃s,c.Z9[k]? =some s:=⟨_,Mq z⟩
 have d:aU s=true:=by
  cases R:aU s with
  |true=>rfl
  | false=>
    unfold DE at g;rw[f]at g;simp[R]at g
 obtain⟨K,_,_,p4,_⟩:=pR h f d;rw[t f d]at g |-;rw[L];split
 ·rename_i o;exact .inl ⟨s.parent,Mx.1 o,K,k,gW.2 ⟨s,f,p4,rfl,d⟩,rfl⟩
 rename_i o;rw[Mt o]at g;refine .inr ⟨?_,?_⟩
 ·apply PQ;intro A;cases E:mem.find? (fun m=>m.1==(k:Int)) with
  |none=>unfold Ua at g;rw[E]at g;exact g rfl
  | some q=>
    have a:=QU E;have b:=On E;simp only[Nz]at a;have:=FH u b;rw[a]at this;rw[this, <-a]at A;exact A b
 rintro⟨i,r,_,B,v,e⟩;have V:((k:Nat):Int)=B:=e;have e:k=B:=by omega
 subst e;obtain⟨U,j,_,D,_⟩:=gW.1 v;rw[f]at j;cases j;rw[<-D]at r;exact o (Mx.2 r)
/-! Moves -/
end
section
def L7(c:aq)(act:List Int)(i:Int):List Int:=(zL (bt c act)).filter (a7 c i)
def ge(c:aq)(l:List Int)(i:Int)(j:Nat):List Int:=(l.take j).filter (a7 c i)
def mg{c:aq}{l:List Int}{i:Int}{j:Nat}{x:Int}(h:l[j]? =some x):ge c l i (j+1)=if a7 c i x then ge c l i j++[x] else ge c l i j:=by
 unfold ge;rw[N1,h,N5];cases a:a7 c i x<;>simp[a]
def pa(c:aq)(l:List Int)(i:Int)(j:Nat):(ge c l i j).length<=l.length:=by
 unfold ge;exact NK (NS ..) (by rw[NJ];omega)
def cW{c:aq}(a:Right c)(act:List Int):(bt c act).length<=32:=by
 unfold bt;split
 ·exact NK (NS ..) (uV a (by omega))
 simp
def Bi(env:b8)(c:aq)(m:Right c)(act:List Int)(t:act.length<=1000000)(d:Int):b7 prog env 271 [aG c, .seq 1 (act.map aa),I d] (.own 3 1 ((L7 c act d).reverse.map aa)):=by
 have f1:=bQ env c;have f2:=gB env c m act t;have f:=cW m act;rw[<-bd]at f2;unfold L7;have f:(zL (bt c act)).length<=32:=by rw[am];exact f
 generalize zL (bt c act)=L at*;unfold aG aQ at f1;unfold aQ at f2;unfold aG;refine qf func271 call271 ntmps271 results271 ?_;repeat refine vP f1 f2 ?_
 refine ao 7 7 3 1 ?_;refine RK L.length (by omega) (fun j q=>[(0, .ref 9 [ct c] 0 0),(2,I d),(7, .row 7 (q 7)),(13, .row 13 (q 13)),(14,I L.length),(15,I j)]) (fun j _=>[(7,⟨1,(ge c L d j).map aa,3,true⟩),(13,⟨1,L.map aa,3,true⟩)]) (fun j _ b=>b 7=false) rfl ?_ ?_
 ·rintro j u b e l p a;obtain⟨x,n⟩:=gE e;have f3:=fV env c m d x;unfold aQ at f3;have s:=pa c L d j;have o:cU ((ge c L d j).length+1) 8:=aC (by omega) (by omega);have k:=mg (c:=c) (i:=d) n;cases h:a7 c d x with
  | true=>
    rw[h]at f3;rw[h,Mw rfl]at k;have F:=g9 l p n o a;repeat refine wc f1 f3 ?_
    refine⟨j+1,⟨e,by simp only[go_sem,a]⟩,?_,?_,by omega⟩
    ·exact qe
    have F:=ai k @NA.{0,0};exact qe
  | false=>
    rw[h]at f3;rw[h,Mt Nc]at k;have F:=g9 l p n o a;repeat refine wc f1 f3 ?_
    refine⟨j+1,⟨e,by simp only[go_sem,a]⟩,?_,?_,by omega⟩
    ·exact qe
    have F:=ai k @NA.{0,0};exact qe
 rintro u b l a;have g:ge c L d L.length=L.filter (a7 c d):=by unfold ge;rw[NR]
 rw[g];have r:(L.filter (a7 c d)).length<=32:=NK (NS ..) f;generalize L.filter (a7 c d)=U at*;have f4:=sP U (by omega);have F:=ai l a;repeat refine st ?_
 refine oW 7 rfl (row:=⟨1,U.map aa,3,true⟩) f4 (Nf 0) rfl (cB _).symm (by simp only[go_sem,a];exact iR) (by simp only[go_sem,a];exact iR) (by simp only[go_sem,a];exact iR) (by simp only[go_sem,a];exact iR) ?_;rw[cB];exact ek
def Du(env:b8)(a b:Addr)(d:fU env a b)(s:List UInt8):b7 prog env 187 [Sg s] (dt (-1) (bx a)):=by
 have c:=iT d.e1;have f0:=bl env s a;refine qf func187 call187 ntmps187 results187 ?_;have F:=c;exact hH f0
def fj(c:aq)(act:List Int)(t:tR):List Int:=if t.target<0 then [] else(L7 c act (ns c t.src t.target)).reverse
def xz(env:b8)(d e:Addr)(j:fU env d e)(c:aq)(h:ch c)(b:g7 c)(act:List Int)(f:act.length<=1000000)(k:Nat)(t:tR)(g:c.trans[k]? =some t)(i:tI c act=true):b7 prog env 235 [aG c, .seq 1 (act.map aa),I k] (.tuple [.seq 1 ((fj c act t).map aa),h9]):=by
 have f0:=ck env d e j c h b act f;have f1:=o6 env c b k t g;have f2:=nU env c h.toRight b t (h.src g).1;have f3:=Bi env c h.toRight act f (ns c t.src t.target);unfold vx at f0;rw[i]at f0;simp only[Nt]at f0;unfold fj;unfold ax at f1 f2;unfold aG at f0 f1 f2 f3 |-;by_cases a:t.target<0
 ·rw[Mw a];refine qw func235 call235 ntmps235 results235 ?_;have F:=a;repeat refine Ut f0 f1 f2 f3 ?_
  (refine aM ?_;refine⟨_,(by show (aj _ _ _).run _=some _;simp only[go_sem,F];rfl),?_⟩)
  exact .of (.tuple (.cons (.nil 1) (.cons (.refl _) .nil))) (fun _ _ _ h=>by cases h) (fun _ _ _ h=>by cases h)
 rw[Mt a];refine qf func235 call235 ntmps235 results235 ?_;have F:=a;exact TB f0 f1 f2 f3
def IR{l:List Int}(h: ∀x∈l,0<=x):l=zL (l.map Int.toNat):=by
 unfold zL;rw[P5]
 conv=>lhs;rw[<-SG l]
 refine O9 fun x a=> ?_;have:=h x a;simp only[id_eq,Function.comp];omega
def sV(env:b8)(c:aq)(a:Right c)(act:List Int)(b:act.length<=1000000)(d: ∀x∈act,0<=x):b7 prog env 111 [.agg (aA c), .seq 1 (act.map aa)] (.own 3 1 ((bt c act).map aB)):=by
 have f:=lc env c a (act.map Int.toNat) (by rw[NQ];exact b);rw[<-bd, <-IR d]at f;exact f
def np(env:b8)(c:aq)(l:Right c)(act:List Int)(r:act.length<=1000000)(s: ∀x∈act,0<=x)(i:Int):b7 prog env 168 [.agg (aA c), .seq 1 (act.map aa),I i] (.own 3 1 ((L7 c act i).map aa)):=by
 have f2:=sV env c l act r s;have f:=cW l act;rw[<-bd]at f2;unfold L7;have f:(zL (bt c act)).length<=32:=by rw[am];exact f
 generalize zL (bt c act)=L at*;unfold aA at f2;refine qf func168 call168 ntmps168 results168 ?_;have F:=aA.eq_1;repeat refine fc f2 ?_
 have F:=aA.eq_1;refine lq L.length (by omega) (fun j n=>[(2,I i),(3, .loc 3 (n 3) 0 0),(7, .row 10 (n 10)),(8, .row 13 (n 13)),(9,I j)]) (fun j _=>[(3,⟨5,[aA c],26,false⟩),(10,⟨1,(ge c L i j).map aa,3,true⟩),(13,⟨1,L.map aa,3,true⟩)]) (fun j _ a=>a 10=false) rfl ?_ ?_
 ·rintro j t a b k p d;obtain⟨x,m⟩:=gE b;have f3:=eT env c l i x;unfold aA at f3;have q:=pa c L i j;have o:cU ((ge c L i j).length+1) 8:=aC (by omega) (by omega);have h:=mg (c:=c) (i:=i) m;cases g:a7 c i x with
  | true=>
    rw[g]at f3;rw[g,Mw rfl]at h;have F:=i' Uv k p m o d;repeat refine fc f3 ?_
    refine⟨j+1,⟨b,by simp only[go_sem,d]⟩,?_,?_,by omega⟩
    ·exact qe
    have F:=gb Uv h @NA.{0,0};exact qe
  | false=>
    rw[g]at f3;rw[g,Mt Nc]at h;have F:=i' Uv k p m o d;repeat refine fc f3 ?_
    refine⟨j+1,⟨b,by simp only[go_sem,d]⟩,?_,?_,by omega⟩
    ·exact qe
    have F:=gb Uv h @NA.{0,0};exact qe
 rintro t a k d;have e:ge c L i L.length=L.filter (a7 c i):=by unfold ge;rw[NR]
 rw[e];have F:=ai k d;exact ek
def nB(l:List Int)(m:Nat):List Int:=(l.drop (l.length-m)).reverse
def Cz{l:List Int}{m:Nat}{x:Int}(b:m<l.length)(h:l[l.length-m-1]? =some x):nB l (m+1)=nB l m++[x]:=by
 unfold nB;rw[show l.length-(m+1)=l.length-m-1 by omega];obtain⟨a,rfl⟩:=Mr.1 h;rw[Om a,Rr]
 congr 3
 omega
def mF(env:b8)(l:List Int)(q:l.length<=1000000):b7 prog env 117 [.seq 1 (l.map aa)] (.own 3 1 (l.reverse.map aa)):=by
 have g:IntKind.i64.wrap ((l.length:Int)-1)=(l.length:Int)-1-((0:Nat):Int):=by rw[aW (by omega) (by omega)];omega
 refine qf func117 call117 ntmps117 results117 ?_;have F:=g;repeat refine st ?_
 refine aH (D:=Nat) (fun m p=>[(0, .seq 1 (l.map aa)),(3, .row 5 (p 5)),(4,I ((l.length:Int)-1-(m:Int)))]) (fun m _=>[(5,⟨1,(nB l m).map aa,3,true⟩)]) (fun m _ a=>m<=l.length/\a 5=false) (fun m=>l.length-m) 0 ?_ ?_ ?_ ?_
 ·exact⟨NG _,rfl⟩
 ·exact qe
 ·have:nB l 0=[]:=by unfold nB;simp
  rw[this]
  (simp only[go_sem,F])
  try rfl
 rintro m s a ⟨r,d⟩;have j:(nB l m).length=m:=by unfold nB;rw[Ol,Oa];omega
 by_cases c:m<l.length
 ·obtain⟨x,f⟩: ∃x,l[l.length-m-1]? =some x:=⟨l[l.length-m-1]'(by omega),Mq _⟩;have k:(l.length:Int)-1-(m:Int)=((l.length-m-1:Nat):Int):=by omega
  have e:(0:Int)<=((l.length-m-1:Nat):Int):=by omega
  have n:IntKind.i64.wrap (((l.length-m-1:Nat):Int)-1)=(l.length:Int)-1-((m+1:Nat):Int):=by rw[aW (by omega) (by omega)];omega
  have o:((l.length-m-1:Nat):Int)< (l.length:Int):=by omega
  have h:cU ((nB l m).length+1) 8:=⟨by omega,by omega⟩;have i:=Cz c f;rw[k];have F:=i' f e n o h d;repeat refine st ?_
  refine⟨m+1,⟨c,by simp only[go_sem,d]⟩,?_,?_,by omega⟩
  ·exact qe
  have F:=ai i @NA.{0,0};exact qe
 obtain rfl:m=l.length:=by omega
 have e: ¬(0:Int)<=(l.length:Int)-1-(l.length:Int):=by omega
 have b:nB l l.length=l.reverse:=by unfold nB;simp
 rw[b];have F:=ai e d;exact ek
def jr(env:b8)(c:aq)(h:ch c)(act:List Int)(b:act.length<=1000000)(f: ∀x∈act,0<=x)(k:Nat)(t:tR)(d:c.trans[k]? =some t):b7 prog env 116 [.agg (aA c), .seq 1 (act.map aa), .agg (ax t)] (.own 3 1 ((fj c act t).map aa)):=by
 have f1:=mG env c h.toRight t (h.src d).1;have f2:=np env c h.toRight act b f (ns c t.src t.target);have e:(L7 c act (ns c t.src t.target)).length<=32:=NK (NS ..) (by rw[am];exact cW h.toRight act);have f3:=mF env (L7 c act (ns c t.src t.target)) (by omega);unfold fj;unfold ax at f1;unfold aA at f1 f2;by_cases a:t.target<0
 ·rw[Mw a];refine qw func116 call116 ntmps116 results116 ?_;have F:=gb Uy Uv a;repeat refine Sx f1 f2 f3 ?_
  (refine aM ?_;refine⟨_,(by show (aj _ _ _).run _=some _;simp only[go_sem,F];rfl),?_⟩)
  exact gA.own_nil _ _ (by decide)
 rw[Mt a];refine qf func116 call116 ntmps116 results116 ?_;have F:=gb Uy Uv a;exact An f1 f2 f3
end
section
def I2:List Int->Int->Nat->Option Nat
 |[],_,_=>none
 |x::l,k,n=>if k=x then some n else I2 l k (n+1)
def ll{k:Int} : ∀ {l:List Int}{n:Nat},k∉l->I2 l k n=none
 |[],_,_=>rfl
 | x::l,n,h=>by
   unfold I2;rw[Mt (fun e=>h (by rw[e];exact QR ..)),ll (fun a=>h (O3 _ a))]
def qC{k:Int} : ∀ {l:List Int}{n:Nat},k∈l-> ∃i,I2 l k n=some (n+i)/\l[i]? =some k
 |[],n,h=>by cases h
 | x::l,n,h=>by
   unfold I2;by_cases e:k=x
   ·exact⟨0,by rw[Mw e];rfl,by rw[e];rfl⟩
   obtain⟨i,a,b⟩:=qC (n:=n+1) ((NV.1 h).resolve_left e);exact⟨i+1,by rw[Mt e,a];congr 1;omega,by simpa using b⟩
def gQ(l:List Int):List (List AV):=l.map fun k=>[I k,I 1]
def mM(k:Int): ∀(l:List Int)(n:Nat),sv prog 3 (I k) (gQ l) n=some (I2 l k n)
 |[],n=>rfl
 | x::l,n=>by
   have b:=mM k l (n+1);unfold gQ at b |-;unfold I2;by_cases e:k=x
   ·have a:(k==x)=true:=by simp[e]
    simp only[go_sem,cO,ce,Nh,a,Mw e]
   have a:(k==x)=false:=by simpa using e
   simp only[go_sem,cO,ce,Nh,a,Mt e,b]
def wL(env:b8)(o:List Int)(i:Int)(h:o.length<=4000)(f:TypeId):ip prog env 294 [1000,1001] (fun k=>k==1001) (fun vs=>[I i, .loc 1000 (vs 1000) 0 0]) (fun vs=>[(1000,⟨1,[[.row 1001 (vs 1001)]],f,false⟩),(1001,⟨1,o.map aa,3,true⟩)]) (fun vs=>[(1000,⟨1,[[.row 1001 (vs 1001)]],f,false⟩),(1001,⟨1,(OF o i).map aa,3,true⟩)]) (fun _=> .lit (.tuple #[])):=by
 have f0:=(bL env o i (by omega)).lend rfl;unfold OF;cases e:o.contains i with
 | true=>
   rw[e]at f0;simp only[Nt];refine qi func294 call294 ntmps294 results294 ?_;intro vs d a;obtain⟨b,c⟩:=RC a;have F:=ai b c;repeat refine st ?_
   refine lL f0 ?_;repeat refine st ?_
   exact rN
 | false=>
   rw[e]at f0;have g:cU (o.length+1) 8:=aC (by omega) (by omega);simp only[NU,OA,NA];refine qi func294 call294 ntmps294 results294 ?_;intro vs d a;obtain⟨b,c⟩:=RC a;have F:=gb b c g;repeat refine st ?_
   refine lL f0 ?_;repeat refine st ?_
   exact rN
def iI{c:aq}{a:List Int}(d:a.Nodup)(e: ∀x∈a,fb c x=true):a.length<=c.Z9.length:=by
 have:=lN (c:=c) (l:=[]) d fun k b=>⟨by simp,e k b⟩;have:=FJ c [];omega
def GG{c:aq}{d:Int}{o U:List Int}{m:Nat}{k:Int}(h:U[m]? =some k):AS c d o U (m+1)=if 0<=k/\a7 c d k=true then OF (AS c d o U m) k else AS c d o U m:=bZ _ _ h
def Cc{c:aq}{d:Int}{l:List Int}{j:Nat}{k:Int}(h:l[j]? =some k):tn c d l (j+1)=AS c d (OF (tn c d l j) k) (j0 c k) (j0 c k).length:=bZ _ _ h
def GF{c:aq}(e:Right c){d:Int}{l:List Int}(m: ∀x∈l,fb c x=true){j:Nat}(g:j<=l.length):(tn c d l j).Nodup/\(∀x∈tn c d l j,fb c x=true)/\(tn c d l j).length<=32:=by
 obtain⟨a,f⟩:=uX (c:=c) (d:=d) (l:=l) j g
 have b: ∀x∈tn c d l j,fb c x=true:=fun x k=>by
  rcases (f x).1 k with h|⟨i,h,n,o,_⟩
  ·exact m x (Ou h)
  exact(gY e n o).1
 exact⟨a,b,NK (iI a b) e.Z6⟩
def I8{c:aq}(e:Right c){d i:Int}{o:List Int}(j:o.Nodup)(l: ∀x∈o,fb c x=true){m:Nat}(g:m<=(j0 c i).length):(AS c d o (j0 c i) m).Nodup/\(∀x∈AS c d o (j0 c i) m,fb c x=true)/\(AS c d o (j0 c i) m).length<=32:=by
 obtain⟨a,f⟩:=ye (c:=c) (d:=d) (U:=j0 c i) m g j
 have b: ∀x∈AS c d o (j0 c i) m,fb c x=true:=fun x k=>by
  rcases (f x).1 k with h|⟨h,n,_⟩
  ·exact l x h
  exact(gY e (Ou h) n).1
 exact⟨a,b,NK (iI a b) e.Z6⟩
def Jv(env:b8)(c:aq)(u:Right c)(l:List Int)(hl:l.length<=1000000)(M: ∀x∈l,fb c x=true)(d:Int):b7 prog env 266 [aG c, .seq 1 (l.map aa),I d] (.own 3 1 ((m7 c l d).map aa)):=by
 have L:=u.Z6;have f1:=bQ env c;unfold aG aQ at f1;unfold aG;refine qf func266 call266 ntmps266 results266 ?_;repeat refine m9 ?_
 refine TI 7 9000 0 0 3 1 ?_;refine RK l.length (by omega) (fun j p=>[(0, .ref 9 [ct c] 0 0),(2,I d),(7, .loc 7 (p 7) 0 0),(8, .clo 294 [.loc 7 (p 7) 0 0]),(14, .seq 1 (l.map aa)),(15,I l.length),(16,I j)]) (fun j p=>[(7,⟨1,[[.row 9000 (p 9000)]],33,false⟩),(9000,⟨1,(tn c d l j).map aa,3,true⟩)]) (fun j _ f=>f 7=false/\f 9000=false) ⟨rfl,rfl⟩ ?_ ?_
 ·rintro j Y f s K N ⟨g,k⟩;have R:=Rz s;obtain⟨x,E⟩:=gE s;obtain⟨W,X,n3⟩:=GF u (d:=d) M R;have G:=M x (Mv E);have S:=Cc (c:=c) (d:=d) E;have O:=wL env (tn c d l j) x (by omega) 33;have f2:=yg env c u x;unfold aQ at f2;have T:=nf W x;have V: ∀y∈OF (tn c d l j) x,fb c y=true:=fun y r=>(vO.1 r).elim (X y) fun e=>by rw[e];exact G
  have z:=fun m C=>I8 u (d:=d) (i:=x) T V (m:=m) C;have Q:(j0 c x).length<=40:=kV 40 x
  have B: ∀y∈j0 c x,y<0\/fb c y=true:=fun y r=>by
   rcases Qw y 0 with h|h
   ·exact .inl h
   exact .inr (gY u r h).1
  generalize OF (tn c d l j) x=o at*;generalize j0 c x=U at*;have Z:AS c d o U 0=o:=rfl;have F:=g9 E K N g k;repeat refine st ?_
  refine iq [(1000,7),(1001,9000)] (cM rfl (by simp only[go_sem,F];exact iR)) (O) (by decide) (by decide) (by simp only[go_sem,F]<;>rfl) (by simp only[go_sem,F,NH]<;>trivial) (by simp only[go_sem,F,NH]<;>trivial) (by intro o;simp only[go_sem,F,g8,NH]<;>trivial) (by intro o;simp only[go_sem,F]<;>rfl) (by simp only[go_sem,F,g8];exact iR) (by simp only[go_sem,F,g8];exact iR) ?_;repeat refine wc f1 f2 ?_
  refine aH (D:=Nat) (fun m p=>[(0, .ref 9 [ct c] 0 0),(2,I d),(7, .loc 7 (p 7) 0 0),(8, .clo 294 [.loc 7 (p 7) 0 0]),(14, .seq 1 (l.map aa)),(15,I l.length),(16,I j),(26, .row 26 (p 26)),(27,I U.length),(28,I m)]) (fun m p=>[(7,⟨1,[[.row 9000 (p 9000)]],33,false⟩),(9000,⟨1,(AS c d o U m).map aa,3,true⟩),(26,⟨1,U.map aa,3,true⟩)]) (fun m _ f=>m<=U.length/\f 7=false/\f 9000=false) (fun m=>U.length-m) 0 ?_ ?_ ?_ ?_
  ·exact⟨NG _,by simp only[go_sem,g],by simp only[go_sem,k]⟩
  ·(simp only[go_sem,F])
   try rfl
  ·have F:=Z
   (simp only[go_sem,F])
   try rfl
  try clear g k
  rintro m p es ⟨C,g,k⟩;obtain⟨k1,k2,k3⟩:=z m C;by_cases n:m<U.length
  ·obtain⟨y,r⟩:=gE n;have A:=it n;have J:=aD n (by omega);have b:=GG (c:=c) (d:=d) (o:=o) r;have P:=wL env (AS c d o U m) y (by omega) 33;have f3:=fV env c u d y;unfold aQ at f3;rcases B y (Mv r) with h0|H
   ·have t: ¬0<=y:=by omega
    rw[Mt (fun q=>t q.1)]at b;have F:=i' r A J t g k;repeat refine wc f1 f3 ?_
    refine⟨m+1,⟨n,by simp only[go_sem,g],by simp only[go_sem,k]⟩,?_,?_,by omega⟩
    ·exact qe
    have F:=b;exact qe
   ·have t:=(aI.1 H).1;cases v:a7 c d y with
    | false=>
      rw[v]at f3 b;rw[Mt (by simp)]at b;have F:=i' r A J t g k;repeat refine wc f1 f3 ?_
      refine⟨m+1,⟨n,by simp only[go_sem,g],by simp only[go_sem,k]⟩,?_,?_,by omega⟩
      ·exact qe
      have F:=b;exact qe
    | true=>
      rw[v]at f3 b;rw[Mw ⟨t,rfl⟩]at b;generalize AS c d o U m=a at*;have F:=i' r A J t g k;repeat refine wc f1 f3 ?_
      refine iq [(1000,7),(1001,9000)] (cM rfl (by simp only[go_sem,F];exact iR)) (P) (by decide) (by decide) (by simp only[go_sem,F]<;>rfl) (by simp only[go_sem,F,NH]<;>trivial) (by simp only[go_sem,F,NH]<;>trivial) (by intro o;simp only[go_sem,F,g8,NH]<;>trivial) (by intro o;simp only[go_sem,F]<;>rfl) (by simp only[go_sem,F,g8];exact iR) (by simp only[go_sem,F,g8];exact iR) ?_;repeat refine st ?_
      refine⟨m+1,⟨n,by simp only[go_sem,g],by simp only[go_sem,k]⟩,?_,?_,by omega⟩
      ·exact qe
      have F:=b;exact qe
  obtain rfl:m=U.length:=by omega
  have A:=nl U.length;have F:=hU A N g k;repeat refine st ?_
  refine⟨j+1,⟨s,by simp only[go_sem,g],by simp only[go_sem,k]⟩,?_,?_,by omega⟩
  ·exact qe
  have F:=S;exact qe
 rintro Y f K ⟨g,k⟩;show fp _ _ _ _ _ _;have w:tn c d l l.length=m7 c l d:=rfl;rw[w];have F:=gb K g k;exact ek
end
end Go.Proofs.YtfhkmjbjafeckaaGreatDoor
