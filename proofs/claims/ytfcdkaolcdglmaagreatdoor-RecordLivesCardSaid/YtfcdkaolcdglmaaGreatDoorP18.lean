/- Ways up and growing, as the program does them. -/
import Derived.Shelf.Slices.Reverse
import Derived.Shelf.Slices.CompactI
import Derived.Test.YtfcdkaolcdglmaaGreatDoorP17
set_option linter.unusedSimpArgs false
set_option linter.defProp false
namespace Go.Proofs
def Tryz.revI_ren:Go.Shelf.Ren:=⟨fun|112=>228|n=>n,fun|28=>35|3=>3|4=>4|0=>0|n=>n,fun|n=>n⟩
def Tryz.revI:Go.Proofs.Lays.n112 prog Tryz.revI_ren:={
 mixed:=by kernel_rfl
 f112:=func228.trans (congrArg some (by kernel_rfl))
 t0:=Tryz.underlying0
 a0:=Tryz.isAgg0
 z0:=Tryz.sizeOf0
 v0:=Tryz.zeroValue0
 t3:=Tryz.underlying3
 a3:=Tryz.isAgg3
 z3:=Tryz.sizeOf3
 v3:=Tryz.zeroValue3
 t4:=Tryz.underlying4
 a4:=Tryz.isAgg4
 z4:=Tryz.sizeOf4
 v4:=Tryz.zeroValue4
 t28:=Tryz.underlying35
 a28:=Tryz.isAgg35
 z28:=Tryz.sizeOf35
 v28:=Tryz.zeroValue35 }
def Tryz.compI_ren:Go.Shelf.Ren:=⟨fun|20=>187|n=>n,fun|22=>35|3=>3|4=>4|0=>0|n=>n,fun|n=>n⟩
def Tryz.compI:Go.Proofs.Lays2.n20 prog Tryz.compI_ren:={
 mixed:=by kernel_rfl
 f20:=func187.trans (congrArg some (by kernel_rfl))
 t0:=Tryz.underlying0
 a0:=Tryz.isAgg0
 z0:=Tryz.sizeOf0
 v0:=Tryz.zeroValue0
 t3:=Tryz.underlying3
 a3:=Tryz.isAgg3
 z3:=Tryz.sizeOf3
 v3:=Tryz.zeroValue3
 t4:=Tryz.underlying4
 a4:=Tryz.isAgg4
 z4:=Tryz.sizeOf4
 v4:=Tryz.zeroValue4
 t22:=Tryz.underlying35
 a22:=Tryz.isAgg35
 z22:=Tryz.sizeOf35
 v22:=Tryz.zeroValue35
 i3:=by kernel_rfl }
end Go.Proofs
namespace Go.Proofs.YtfcdkaolcdglmaaGreatDoor
open Go.Proofs.Tryz
open Go.RowKit Go.Sort Go.Shelf Go.Lib
def Tryz.revIEnter: ∀(args:Array Value)(w:World),(callFunc 228 args).run prog w= .ok (.enter 228 args) w:=Sv func228 (by kernel_rfl) rfl
def Tryz.compIEnter: ∀(args:Array Value)(w:World),(callFunc 187 args).run prog w= .ok (.enter 187 args) w:=Sv func187 (by kernel_rfl) rfl
def sN(l:List Int)(f:l.length<=9223372036854775807):K' prog 228 [] 3 1 (l.map tA) (l.reverse.map tA):=by
 by_cases e:l=[]
 ·subst e;exact ma Tryz.revIEnter fun p a w=>Any.slices_Reverse_int_empty Tryz.revI p a w
 refine kJ (by rw[O4];exact QD.2 e) Tryz.revIEnter (by simp) (fun x d=> ?_) (fun x d=> ?_) fun w g a b j=> ?_
 ·obtain⟨y,_,rfl⟩:=OW.1 d;rfl
 ·obtain⟨y,_,rfl⟩:=OW.1 d;exact⟨rfl,fun u h=>by rw[O2.1 h];rfl⟩
 have b:Holds id w g 0 (l.map (Value.int .i64)).toArray:=by rw[<-d8];exact b
 have:=Any.slices_Reverse_int Tryz.revI g 0 a l w (tC b) f;rw[O4];refine(show Calls prog 228 #[.slice (some ⟨g,0,none⟩) l.length a] w _ from this).mono ?_;rintro i k ⟨rfl,n,rfl⟩;refine⟨rfl,n, #[],?_⟩;have c: ∀W:World,grow W #[]=W:=fun W=>by simp[grow]
 rw[c,j3,show (l.reverse.map tA).flatten=l.reverse.map (Value.int .i64) from d8 (Value.int .i64) _];simp
def Dm(l:List Int)(J:l.length<=9223372036854775807):VI prog 187 3 1 (l.map tA) ((Lib.compact l).map tA):=by
 refine⟨Tryz.compIEnter,fun x M=> ?_,fun w o v e=> ?_⟩
 ·obtain⟨y,_,rfl⟩:=OW.1 M;exact⟨rfl,fun u L=>by rw[O2.1 L];rfl⟩
 rw[show (l.map tA).flatten=l.map (Value.int .i64) from d8 (Value.int .i64) _,O4]at e;rw[show ((Lib.compact l).map tA).flatten=(Lib.compact l).map (Value.int .i64) from d8 (Value.int .i64) _,O4];by_cases z:l=[]
 ·subst z
  obtain⟨p,a,rfl⟩: ∃p a,v= .slice p 0 a:=by
   rcases e.2 with⟨rfl,_⟩|⟨g,a,b,rfl,_⟩
   ·exact⟨_,_,rfl⟩
   exact⟨_,_,rfl⟩
  refine(show Calls prog 187 #[.slice p 0 a] w _ from Any.slices_Compact_int_empty Tryz.compI p a w).mono ?_;rintro E N ⟨rfl,rfl⟩;exact⟨_,rfl,rfl,⟨rfl,rfl,rfl,OO _,fun _ _ _=>rfl⟩,fun _ h=>h,e⟩
 rcases e.2 with⟨_,h⟩|⟨g,a,b,rfl,c,d,A,G,B,H⟩
 ·exact absurd (Ox h) z
 have O:g<w.heap.size:=(Od.1 d).1
 have I:Holds (Value.int .i64) w g 0 l.toArray:=fun j D=>by
  have m:j<l.length:=by simpa using D
  have r:(b.toList.take (l.length*1))[j]? =(l.map (Value.int .i64))[j]? :=by rw[H]
  rw[Q9 (by omega),OS,OE m]at r;refine⟨?_,by simp[World.frozen?,d]⟩;simp only[World.cell?,d,PR,TC,On,P8];rw[<-Qo,r,Qr _ j D];rfl
 have i:(Lib.compact l).length<=l.length:=by
  unfold Lib.compact Lib.compactUpTo;rw[O4];exact O3 (Ol ..) (by simp)
 refine(show Calls prog 187 #[.slice (some ⟨g,0,none⟩) l.length a] w _ from Any.slices_Compact_int Tryz.compI g 0 a l w I J A).mono ?_;rintro E N ⟨rfl,q,rfl⟩;rw[j3];generalize C:((Lib.compact l++List.replicate (l.length-(Lib.compact l).length) 0).toArray.map (Value.int .i64))=F;have f:F.size=l.length:=by rw[<-C];simp;omega
 have k: ∀W:World,grow W #[]=W:=fun W=>by simp[grow]
 have s:=Uv (n:=q) (os:= #[]) F d;have t:=lB (w:=w) (g:=g) (n:=q) (os:= #[]) F;rw[k]at s t;refine⟨_,rfl,rfl,t,fun _ h=>h,⟨by rw[O4,RJ], .inr ⟨g,a,_,rfl,c,s,O3 i A,G,by simp[putCells,B],?_⟩⟩⟩;have K:=tx b F (by rw[f,B];omega);rw[RJ]
 have:((putCells id 0 F b).toList.take (Lib.compact l).length)=(F.toList).take (Lib.compact l).length:=by
  rw[<-K,Sz,Qd (by omega)]
 rw[this, <-C];simp
end Go.Proofs.YtfcdkaolcdglmaaGreatDoor
namespace Go.Proofs.YtfcdkaolcdglmaaGreatDoor
open Go.Proofs.Tryz
open Go.RowKit
/-! Legal states -/
def JU{l:List Int}(h: ∀j,0<j->j<l.length->l.getD (j-1) 0<l.getD j 0):l.Pairwise (· < ·):=by
 rw[Ow];intro i j f k g
 have a: ∀d,i+d+1<l.length->l.getD i 0<l.getD (i+d+1) 0:=fun d=>by
  induction d with
  |zero=>intro c;simpa using h (i+1) (by omega) (by omega)
  | succ d m=>
    intro c;have n:=m (by omega);have b:=h (i+d+1+1) (by omega) (by omega);have e:i+(d+1)+1=i+d+1+1:=by omega
    rw[e];simp only[QX]at b;omega
 have:=a (j-i-1) (by omega);rw[show i+(j-i-1)+1=j by omega]at this;simpa[Oe,OE f,OE k]using this
structure Lg(c:aq)(act:List Int):Prop where
 ZY:act.Pairwise (· < ·)
 fit: ∀x∈act,∃s,at_ c x=some s/\yX c act x.toNat s=true
 top:cR act (aw c (-1) true)=1
def eW{c:aq}{act:List Int}(h:F' c act=true):Lg c act:=by
 obtain⟨e,f⟩:=zB.1 h
 have d: ∀j (a:j<act.length),(j==0||decide (act.getD (j-1) 0<act[j]))=true/\vA c act act[j]=true:=fun j a=>by
  have:=e j a;unfold yO at this;rw[OE a]at this;simpa only[OJ]using this
 refine⟨JU fun j k a=> ?_,fun x i=> ?_,f⟩
 ·have:=(d j a).1;have b:(j==0)=false:=by simp;omega
  rw[b,Qq,OR]at this;simpa[Oe,OE a]using this
 obtain⟨j,a,rfl⟩:=RS.1 i;have:=(d j a).2;unfold vA at this;split at this
 ·rename_i s g;exact⟨s,g,this⟩
 cases this
def Lg.of{c:aq}{act:List Int}(h:Lg c act){x:Int}(j:x∈act): ∃s,at_ c x=some s/\fe c x=true/\ab s=false/\(aQ c x<0\/aQ c x∈act)/\(s.kind=1->aw c x true≠[]->cR act (aw c x true)=1)/\(s.kind=2->cR act (aw c x true)=(aw c x true).length):=by
 obtain⟨s,a,b⟩:=h.fit x j
 have f:0<=x/\c.Z9[x.toNat]? =some s:=by
  unfold at_ at a;split at a
  ·exact⟨by assumption,a⟩
  cases a
 obtain⟨k,rfl⟩: ∃k:Nat,x=k:=⟨x.toNat,by omega⟩;have g:=(OG.1 f.2).1;have i:aQ c (k:Int)=s.parent:=by unfold aQ;rw[a]
 unfold yX at b;rw[Pd,OJ,OJ]at b;obtain⟨⟨f1,f2⟩,f3⟩:=b;refine⟨s,a,aJ.2 ⟨by omega,by simpa using g⟩,by simpa using f1,?_,fun e d=> ?_,fun e=> ?_⟩
 ·rw[i];rw[PS,OR]at f2;exact f2.imp id fun f2=>by simpa using f2
 ·rw[OL ⟨e,d⟩]at f3;simpa using f3
 rw[OK (fun q=>by omega),OL e]at f3;simpa using f3
def Lg.real{c:aq}{act:List Int}(h:Lg c act){x:Int}(d:x∈act){s:pc}(b:at_ c x=some s):s.kind≠4/\s.kind≠5:=by
 obtain⟨f,e,_,a,_⟩:=h.of d;rw[b]at e;cases e;unfold ab at a;simpa using a
def Lg.nodup{c:aq}{act:List Int}(h:Lg c act):act.Nodup:=h.ZY.imp fun h=>by omega
def Lg.up{c:aq}(b:Right c){act:List Int}(h:Lg c act): ∀(n:Nat)(x k:Int),x<n->x∈act->k∈mu c x->0<=k->k∈act
 | 0,x,k,f,d,hk,e=>by
   obtain⟨_,_,a,_⟩:=h.of d;have:=aJ.1 a;omega
 | n+1,x,k,f,d,hk,e=>by
   obtain⟨_,_,a,_,hp,_⟩:=h.of d;rw[cr b a]at hk;have:=dn b a;rcases hk with rfl|hk
   ·exact hp.resolve_left (by omega)
   rcases hp with hp|hp
   ·rw[cq (by unfold fe;rw[Oi (by omega),PU])]at hk;simp at hk
   exact Lg.up b h n _ k (by omega) hp hk e
def jY{c:aq}(g:Right c){l:List Int}(b: ∀x∈l,fe c x=true){x:Int} :x∈zL (ca c l)↔x∈l:=by
 have d:l.all (fe c)=true:=OP.2 b;unfold ca;rw[OL d];constructor
 ·intro a;obtain⟨k,f,rfl⟩:=OW.1 a;simpa using (OY.1 f).2
 intro a;have h:=aJ.1 (b x a);refine OW.2 ⟨x.toNat,OY.2 ⟨?_,?_⟩,by omega⟩
 ·exact(jc g _).2 (by omega)
 have e:((x.toNat:Nat):Int)=x:=by omega
 rw[e];simpa using a
/-! Memories in their order -/
def lN:List ed->ed->List ed
 |[],m=>[m]
 |x::r,m=>if x.1<m.1 then x::lN r m else if x.1=m.1 then m::r else m::x::r
abbrev UI(l:List ed):Prop:=l.Pairwise fun a b=>a.1<b.1
def oc{m p:ed} : ∀ {l:List ed},UI l->(p∈lN l m↔p=m\/(p∈l/\p.1≠m.1))
 |[],_=>by simp[lN]
 | x::r,h=>by
   obtain⟨c,e⟩:=Ps.1 h;unfold lN;split
   ·rename_i f;rw[O7,oc e,O7];constructor
    ·rintro(rfl|rfl|⟨a,b⟩)
     ·exact .inr ⟨.inl rfl,by omega⟩
     ·exact .inl rfl
     exact .inr ⟨.inr a,b⟩
    rintro(rfl|⟨rfl|a,b⟩)
    ·exact .inr (.inl rfl)
    ·exact .inl rfl
    exact .inr (.inr ⟨a,b⟩)
   split
   ·rename_i d;rw[O7,O7];constructor
    ·rintro(rfl|a)
     ·exact .inl rfl
     exact .inr ⟨.inr a,by have:=c p a;omega⟩
    rintro(rfl|⟨rfl|a,b⟩)
    ·exact .inl rfl
    ·exact absurd d b
    exact .inr a
   rename_i g d;rw[O7,O7];constructor
   ·rintro(rfl|rfl|a)
    ·exact .inl rfl
    ·exact .inr ⟨.inl rfl,by omega⟩
    exact .inr ⟨.inr a,by have:=c p a;omega⟩
   rintro(rfl|⟨rfl|a,b⟩)
   ·exact .inl rfl
   ·exact .inr (.inl rfl)
   exact .inr (.inr a)
def uD{m:ed} : ∀ {l:List ed},UI l->UI (lN l m)
 |[],_=>by simp[lN,UI]
 | x::r,h=>by
   obtain⟨b,c⟩:=Ps.1 h;unfold lN;split
   ·rename_i d;refine Ps.2 ⟨fun p hp=> ?_,uD c⟩;rcases (oc c).1 hp with rfl|⟨a,_⟩
    ·exact d
    exact b p a
   split
   ·rename_i e;exact Ps.2 ⟨fun p hp=>by have:=b p hp;omega,c⟩
   refine Ps.2 ⟨fun p hp=> ?_,h⟩;rcases O7.1 hp with rfl|hp
   ·omega
   have:=b p hp;omega
def Lb{a b:List ed}(c:UI a)(d:UI b)(h: ∀p,p∈a↔p∈b):a=b:=by
 have f:a.Nodup:=c.imp fun h e=>by rw[e]at h;omega
 have g:b.Nodup:=d.imp fun h e=>by rw[e]at h;omega
 exact SF (fun x y _ _ i j=>by omega) c d ((List.perm_ext_iff_of_nodup f g).2 h)
/-! What is remembered -/
def fc(c:aq)(l:List Int)(i:Int):List Int:=l.filter (bx c i)
def qa(c:aq)(l:List Int)(i:Int):Bool:= !(hU c i).any fun k=>l.contains k
def kE(c:aq)(l:List Int):List Int:=bi (l.filter (qa c l))
def mF(c:aq)(act:List Int)(i:Int):List Int:=match ((hU c i).filter fun k=>act.contains k).getLast? with
 |some k=>[k]
 |none=>[]
def sb(c:aq)(act:List Int)(i:Int)(h:Nat):List Int:=match c.Z9[h]? with
 |some s=>if s.kind=5 then kE c (fc c act i) else mF c act i
 |none=>[]
def tg(c:aq)(act:List Int)(i:Int)(o:List ed)(M:List Nat)(m:Nat):List ed:=(M.take m).foldl (fun o (h:Nat)=>lN o ((h:Int),sb c act i h)) o
def CA(c:aq)(act gone:List Int)(o:List ed)(j:Nat):List ed:=(gone.take j).foldl (fun o i=>if bD c i=true then tg c act i o (D' c i) (D' c i).length else o) o
def u5(c:aq)(act gone:List Int)(mem:List ed):List ed:=CA c act gone mem gone.length
def wI{c:aq}{act:List Int}{i:Int}{M:List Nat} : ∀(m:Nat){o:List ed},m<=M.length->UI o->UI (tg c act i o M m)/\ ∀p,p∈tg c act i o M m↔(∃h∈M.take m,p=((h:Int),sb c act i h))\/(p∈o/\ ∀h∈M.take m,p.1≠(h:Int))
 |0,o,_,g=>⟨g,fun p=>by simp[tg]⟩
 | m+1,o,r,g=>by
   obtain⟨k,j⟩: ∃k,M[m]? =some k:=⟨M[m],OE (by omega)⟩;obtain⟨l,q⟩:=wI (c:=c) (act:=act) (i:=i) (M:=M) m (o:=o) (by omega) g;have e:tg c act i o M (m+1)=lN (tg c act i o M m) ((k:Int),sb c act i k):=bz _ _ j;have n: ∀x,x∈M.take (m+1)↔x∈M.take m\/x=k:=fun x=>by rw[Ot,j];simp
   rw[e];refine⟨uD l,fun p=> ?_⟩;rw[oc l,q];simp only[n];constructor
   ·rintro(rfl|⟨⟨h,a,rfl⟩|⟨a,b⟩,d⟩)
    ·exact .inl ⟨k, .inr rfl,rfl⟩
    ·exact .inl ⟨h, .inl a,rfl⟩
    exact .inr ⟨a,fun h f=>f.elim (b h) fun e=>by rw[e];exact d⟩
   rintro(⟨h,a|rfl,rfl⟩|⟨a,b⟩)
   ·by_cases e:h=k
    ·exact .inl (by rw[e])
    exact .inr ⟨.inl ⟨h,a,rfl⟩,by simp;omega⟩
   ·exact .inl rfl
   exact .inr ⟨.inr ⟨a,fun h f=>b h (.inl f)⟩,b k (.inr rfl)⟩
def gG{c:aq}{i:Int}{k:Nat} :k∈D' c i↔ ∃s,c.Z9[k]? =some s/\fe c i=true/\s.parent=i/\ab s=true:=by
 unfold D' Lt;rw[OY,Oh];constructor
 ·rintro⟨b,a⟩;rw[OE b]at a |-;simp only[OJ,P4]at a;exact⟨_,rfl,a.1,a.2.1,a.2.2⟩
 rintro⟨s,d,b,a,e⟩;refine⟨(OG.1 d).1,?_⟩;rw[d];simp[b,a,e]
def U5(c:aq)(gone:List Int)(h:Int):Prop:= ∃i∈gone,bD c i=true/\ ∃k∈D' c i,h=(k:Int)
def BB{c:aq}{act gone:List Int}{o:List ed}(u:UI o): ∀(j:Nat),j<=gone.length->UI (CA c act gone o j)/\ ∀p,p∈CA c act gone o j↔(∃i∈gone.take j,bD c i=true/\ ∃k∈D' c i,p=((k:Int),sb c act i k))\/(p∈o/\ ¬U5 c (gone.take j) p.1)
 |0,_=>⟨u,fun p=>by simp[CA,U5]⟩
 | j+1,H=>by
   obtain⟨i,z⟩: ∃i,gone[j]? =some i:=⟨gone[j],OE (by omega)⟩;obtain⟨A,B⟩:=BB (c:=c) (act:=act) (gone:=gone) u j (by omega);have e:CA c act gone o (j+1)=if bD c i=true then tg c act i (CA c act gone o j) (D' c i) (D' c i).length else CA c act gone o j:=bz _ _ z
   have y: ∀x,x∈gone.take (j+1)↔x∈gone.take j\/x=i:=fun x=>by rw[Ot,z];simp
   rw[e];split
   ·rename_i n;obtain⟨E,G⟩:=wI (c:=c) (act:=act) (i:=i) (M:=D' c i) _ (OO _) A;refine⟨E,fun p=> ?_⟩;rw[G,B,Ob];unfold U5;simp only[y];constructor
    ·rintro(⟨h,a,rfl⟩|⟨⟨f,a,b,k,t,rfl⟩|⟨a,b⟩,d⟩)
     ·exact .inl ⟨i, .inr rfl,n,h,a,rfl⟩
     ·exact .inl ⟨f, .inl a,b,k,t,rfl⟩
     refine .inr ⟨a,?_⟩;rintro⟨f,l | rfl,g,k,t,w⟩
     ·exact b ⟨f,l,g,k,t,w⟩
     exact d k t w
    rintro(⟨f,a|rfl,b,k,d,rfl⟩|⟨a,b⟩)
    ·by_cases e:f=i
     ·subst e;exact .inl ⟨k,d,rfl⟩
     refine .inr ⟨.inl ⟨f,a,b,k,d,rfl⟩,fun h v m=>e ?_⟩;have m:((k:Nat):Int)=h:=m;have m:k=h:=by omega
     subst m;obtain⟨s,u,_,C,_⟩:=gG.1 d;obtain⟨I,q,_,D,_⟩:=gG.1 v;rw[u]at q;cases q;rw[<-C, <-D]
    ·exact .inl ⟨k,d,rfl⟩
    refine .inr ⟨.inr ⟨a,fun⟨f,l,g,r⟩=>b ⟨f, .inl l,g,r⟩⟩,fun h v m=>b ⟨i, .inr rfl,n,h,v,m⟩⟩
   rename_i n;refine⟨A,fun p=> ?_⟩;rw[B];unfold U5;simp only[y];constructor
   ·rintro(⟨f,a,b,r⟩|⟨a,b⟩)
    ·exact .inl ⟨f, .inl a,b,r⟩
    refine .inr ⟨a,?_⟩;rintro⟨f,l | rfl,g,r⟩
    ·exact b ⟨f,l,g,r⟩
    exact n g
   rintro(⟨f,a|rfl,b,r⟩|⟨a,b⟩)
   ·exact .inl ⟨f,a,b,r⟩
   ·exact absurd b n
   exact .inr ⟨a,fun⟨f,l,g,r⟩=>b ⟨f, .inl l,g,r⟩⟩
def ND{c:aq}{act gone:List Int}{o:List ed}(a:UI o):UI (u5 c act gone o)/\ ∀p,p∈u5 c act gone o↔(∃i∈gone,bD c i=true/\ ∃k∈D' c i,p=((k:Int),sb c act i k))\/(p∈o/\ ¬U5 c gone p.1):=by
 have:=BB (c:=c) (act:=act) (gone:=gone) a _ (OO _);rw[Ob]at this;exact this
/-! As the document says -/
def Wq(mem:List ed)(h:Int):List Int:=match mem.find? (fun m=>m.1==h) with
 |some m=>m.2
 |none=>[]
def Na(c:aq)(l:List Int):List Nat:=(List.range c.Z9.length).filter fun i:Nat=>l.contains (i:Int)&&(cR l (aw c i true)==0)
def ly(c:aq)(l:List Int)(i:Int):List Int:=(zL (ca c l)).filter (bx c i)
def Cg(c:aq)(act gone:List Int)(mem:List ed)(h:Nat):List Int:=match c.Z9[h]? with
 |some s=>if ab s=true then(if gone.contains s.parent=true then(if s.kind=5 then zL (Na c (ly c act s.parent)) else(hU c s.parent).filter fun k=>act.contains k) else Wq mem h) else []
 |none=>[]
def EL(c:aq)(act gone:List Int)(mem:List ed)(j:Nat):List ed:=((List.range j).filter fun h=> !(Cg c act gone mem h).isEmpty).map fun h:Nat=>((h:Int),Cg c act gone mem h)
def Mf(c:aq)(act gone:List Int)(mem:List ed):List ed:=EL c act gone mem c.Z9.length
def Et{mem:List ed}(g:UI mem){p:ed}(f:p∈mem):Wq mem p.1=p.2:=by
 unfold Wq;cases c:mem.find? (fun m=>m.1==p.1) with
 | none=>
   rw[SN]at c;exact absurd (TO p.1) (c p f)
 | some q=>
   have i:=So c;have j:=Qm c;simp only[P4]at i
   have k:q=p:=by
    obtain⟨a,d,rfl⟩:=RS.1 j;obtain⟨b,e,rfl⟩:=RS.1 f;rcases RF a b with h|h|h
    ·have:=Ow.1 g a b d e h;omega
    ·subst h;rfl
    have:=Ow.1 g b a e d h;omega
   rw[k]
def mD{c:aq}{mem:List ed}(h:bu c mem=true):UI mem/\ ∀m∈mem,mz c m=true:=by
 have g: ∀j (f:j<mem.length),mz c mem[j]=true/\(j=0\/(mem.getD (j-1) (0,[])).1<mem[j].1):=fun j f=>by
  have:=OP.1 h j (Oh.2 f);unfold se at this;rw[OE f,OJ,PS,OR]at this;exact⟨this.1,this.2.imp (by simp) id⟩
 refine⟨Ow.2 ?_,fun m p=> ?_⟩
 ·intro i j n f o
  have l: ∀d (k:i+d+1<mem.length),mem[i].1<mem[i+d+1].1:=fun d=>by
   induction d with
   | zero=>
     intro k;have:=(g (i+1) k).2.resolve_left (by omega);simpa[Oe,OE n]using this
   | succ d q=>
     intro k;have a:=q (by omega);have b:=(g (i+d+1+1) (by omega)).2.resolve_left (by omega);simp only[QX,Oe,OE (show i+d+1<mem.length by omega),Pk]at b;have e:i+(d+1)+1=i+d+1+1:=by omega
     simp only[e];omega
  have:=l (j-i-1) (by omega);simpa[show i+(j-i-1)+1=j by omega]using this
 obtain⟨j,f,rfl⟩:=RS.1 p;exact(g j f).1
def Ls{c:aq}{mem:List ed}(e:UI mem)(d: ∀m∈mem,mz c m=true):bu c mem=true:=by
 refine OP.2 fun j a=> ?_;have a:=Oh.1 a;unfold se;rw[OE a];simp only;rw[d _ (PV a),PQ];by_cases b:j=0
 ·simp[b]
 have:=Ow.1 e (j-1) j (by omega) a (by omega);simp[Oe,OE (show j-1<mem.length by omega),this]
def yB{l:List Int}(h:jR l=true):l≠[]:=by
 unfold jR at h;rw[OJ]at h;intro e;rw[e]at h;simp at h
def yK{c:aq}{m:ed}(h:mz c m=true): ∃(k:Nat) (s:pc),m.1=(k:Int)/\c.Z9[k]? =some s/\ab s=true/\m.2≠[]:=by
 unfold mz at h;split at h
 ·rename_i s a
  have b:0<=m.1/\c.Z9[m.1.toNat]? =some s:=by
   unfold at_ at a;split at a
   ·exact⟨by assumption,a⟩
   cases a
  refine⟨m.1.toNat,s,by omega,b.2,?_,?_⟩
  ·unfold ab;split at h
   ·rename_i e;simp[e]
   rw[OJ]at h;rw[h.1];simp
  split at h
  ·rw[OJ,OR]at h;intro e;rw[e]at h;simp at h
  unfold O' at h;simp only[OJ]at h;exact yB h.2.1.1.1
 cases h
def J3{l:List Int}{ks:List Nat} :cR l ks=0↔((zL ks).any fun k=>l.contains k)=false:=by
 rw[lZ,Rp];simp
def pK{a b:List Int}(c:a.Pairwise (· < ·))(d:b.Pairwise (· < ·))(h: ∀x,x∈a↔x∈b):a=b:=by
 have e:a.Nodup:=c.imp fun h=>by omega
 have f:b.Nodup:=d.imp fun h=>by omega
 exact SF (fun x y _ _ g i=>by omega) c d ((List.perm_ext_iff_of_nodup e f).2 h)
def mg{l:List Int}(f:l.Nodup):(bi l).Pairwise (· < ·)/\ ∀x,x∈bi l↔x∈l:=by
 have g:(bi l).Pairwise (fun x y:Int=>decide (x<=y)=true):=SP (fun a b c=>by simp;omega) (fun a b=>by simp;omega) _;have e:(bi l).Perm l:=SB ..;have d:(bi l).Nodup:=e.nodup_iff.2 f;refine⟨(List.pairwise_and_iff.2 ⟨g,d⟩).imp fun⟨a,b⟩=> ?_,fun x=>e.mem_iff⟩;have a:=SZ a;omega
def EY{p:Nat->Bool}{n:Nat} :(zL ((List.range n).filter p)).Pairwise (· < ·):=by
 unfold zL;rw[Rq];exact(Cc (p:=p) (n:=n)).imp fun h=>by omega
def D1{c:aq}(n:Right c){act:List Int}(f:Lg c act)(i:Int):kE c (fc c act i)=zL (Na c (ly c act i)):=by
 have g: ∀x∈act,fe c x=true:=fun x b=>by obtain⟨_,_,h,_⟩:=f.of b;exact h
 have d: ∀x,x∈ly c act i↔x∈fc c act i:=fun x=>by
  unfold ly fc;rw[OY,OY,jY n g]
 have m:((fc c act i).filter (qa c (fc c act i))).Nodup:=(f.nodup.sublist Pf).sublist Pf;obtain⟨o,p⟩:=mg m;refine pK o EY fun x=> ?_;unfold kE;rw[p,OY]
 have a: ∀k:Nat,qa c (fc c act i) k=(cR (ly c act i) (aw c k true)==0):=fun k=>by
  rw[iI d,PC];unfold qa;rw[PT,P4,J3]
 constructor
 ·rintro⟨e,j⟩;have b:x∈act:=(OY.1 e).1;have:=aJ.1 (g x b);obtain⟨k,rfl⟩: ∃k:Nat,x=k:=⟨x.toNat,by omega⟩;refine OW.2 ⟨k,OY.2 ⟨Oh.2 (by omega),?_⟩,rfl⟩;rw[OJ,OQ, <-a];exact⟨(d _).2 e,j⟩
 intro b;obtain⟨k,l,rfl⟩:=OW.1 b;have:=(OY.1 l).2;rw[OJ,OQ, <-a]at this;exact⟨(d _).1 this.1,this.2⟩
def VC{l:List Int}{x:Int}(h:l=[x]):l.getLast? =some x:=by rw[h];rfl
def qY(act:List Int)(ks:List Nat):((zL ks).filter fun k=>act.contains k).length=cR act ks:=by
 unfold cR zL;rw[List.filter_map,O4];rfl
def uP{c:aq}{act:List Int}{i:Int}(h:cR act (aw c i true)=1): ∃k,k∈hU c i/\k∈act/\mF c act i=[k]/\((hU c i).filter fun k=>act.contains k)=[k]:=by
 rw[<-qY]at h;obtain⟨k,a⟩:=Rl.1 h;have e:k∈(hU c i).filter fun k=>act.contains k:=by rw[a];simp
 obtain⟨b,d⟩:=OY.1 e;refine⟨k,b,by simpa using d,?_,a⟩;unfold mF;rw[VC a]
def pq{c:aq}(f:Right c){act:List Int}(i:Int): ∀(n:Nat)(x:Int),(c.Z9.length:Int)<=x+n->x∈fc c act i-> ∃y∈kE c (fc c act i),y=x\/x∈mu c y
 | 0,x,o,g=>by
   have h:i∈mu c x:=by simpa[bx]using (OY.1 g).2
   cases b:fe c x with
   |true=>have:=aJ.1 b;omega
   |false=>rw[cq b]at h;simp at h
 | n+1,x,o,g=>by
   have l:=OY.1 g;have h:i∈mu c x:=by simpa[bx]using l.2
   by_cases d:qa c (fc c act i) x=true
   ·refine⟨x,?_, .inl rfl⟩;unfold kE;exact(SB ..).mem_iff.2 (OY.2 ⟨g,d⟩)
   have d:((hU c x).any fun k=>(fc c act i).contains k)=true:=by
    unfold qa at d;simpa using d
   obtain⟨k,m,j⟩:=P1.1 d;obtain⟨q,r,s⟩:=bP f m;obtain⟨y,p,a⟩:=pq f i n k (by omega) (by simpa using j);have e:x∈mu c k:=(cr f q).2 (.inl r.symm);refine⟨y,p, .inr ?_⟩;rcases a with rfl|a
   ·exact e
   exact iO f ((c.Z9.length+1)) y k x (by
    cases b:fe c y with
    |true=>have:=aJ.1 b;omega
    |false=>rw[cq b]at a;simp at a) a e
def ag{c:aq}(a:Right c){p x:Int}(b:fe c x=true):bx c p x=true↔aQ c x=p\/bx c p (aQ c x)=true:=by
 unfold bx;rw[OQ,OQ,cr a b];exact⟨fun h=>h.imp Eq.symm id,fun h=>h.imp Eq.symm id⟩
def KI{c:aq}(h:cD c){act:List Int}(t:Lg c act){p:Int}(R:p∈act)(E:bD c p=true)(q:aw c p true≠[]):zO c p (kE c (fc c act p))=true:=by
 have A:=h.toRight;have H: ∀x∈act,fe c x=true:=fun x l=>by obtain⟨_,_,h,_⟩:=t.of l;exact h
 have f: ∀x∈fc c act p,x∈act/\bx c p x=true:=fun x l=>OY.1 l;have Z:((fc c act p).filter (qa c (fc c act p))).Nodup:=(t.nodup.sublist Pf).sublist Pf;obtain⟨r1,r2⟩:=mg Z;have m: ∀x,x∈kE c (fc c act p)↔x∈fc c act p/\qa c (fc c act p) x=true:=fun x=>by unfold kE;rw[r2,OY]
 have n: ∀x k,(x=p\/x∈fc c act p)->k∈hU c x->(k∈fc c act p↔k∈act):=fun x k l q=>by
  obtain⟨V,J,_⟩:=bP A q;refine⟨fun o=>(f k o).1,fun o=>OY.2 ⟨o,(ag A V).2 ?_⟩⟩;rw[J];exact l.imp id fun l=>(f x l).2
 have T:=t.of R;obtain⟨sp,U,hzp,_,_,S,_⟩:=T;have N:sp.kind=1:=by rw[bk U]at E;simpa using E
 obtain⟨I,V,J,_,_⟩:=uP (S N q);have M:I∈fc c act p:=(n p I (.inl rfl) V).2 J;obtain⟨y0,G,_⟩:=pq A p (c.Z9.length+1) I (by have:=aJ.1 (H I J);omega) M;have g:kE c (fc c act p)≠[]:=fun e=>by rw[e]at G;simp at G
 have w:jR (kE c (fc c act p))=true:=by
  unfold jR;rw[OJ,OP];refine⟨by simpa using g,fun j D=> ?_⟩;have D:=Oh.1 D;unfold V8;by_cases L:j=0
  ·simp[L]
  have:=Ow.1 r1 (j-1) j (by unfold kE at D;omega) D (by omega);rw[PS,OR];right;rw[Oe,Oe,OE D,OE (show j-1< (kE c (fc c act p)).length by omega)];exact this
 have u: ∀x∈kE c (fc c act p),aw c x true=[]:=fun x l=>by
  obtain⟨K,W⟩:=(m x).1 l;have z:=(f x K).1;obtain⟨s,B,_,P,_,f1,f2⟩:=t.of z
  have Q: ∀k∈hU c x,k∉act:=fun k q o=>by
   unfold qa at W;have:((hU c x).any fun k=>(fc c act p).contains k)=true:=P1.2 ⟨k,q,by simpa using (n x k (.inr K) q).2 o⟩;rw[this]at W;cases W
  have L:=lZ.2 Q;apply RD;intro g;rcases lT h B with⟨e,_⟩|⟨e,_⟩|⟨_,e⟩|⟨_,e⟩
  ·have:=f1 e g;omega
  ·have:=f2 e;rw[L]at this;exact g (Ox this.symm)
  ·exact g e
  exact g e
 have r: ∀x,x∈gy c p (kE c (fc c act p))↔x∈fc c act p\/x=p:=fun x=>by
  unfold gy;rw[Of,O2,uE A fun x l=>H x (f x ((m x).1 l).1).1,iy.2];constructor
  ·rintro((a|⟨i,a,b,d,e⟩)|a)
   ·exact .inl ((m x).1 a).1
   ·have C:=(f i ((m i).1 a).1).1;exact .inl (OY.2 ⟨t.up A (c.Z9.length+1) i x (by have:=aJ.1 (H i C);omega) C b d,e⟩)
   exact .inr a
  rintro(a|a)
  ·obtain⟨y,Y,e|e⟩:=pq A p (c.Z9.length+1) x (by have:=aJ.1 (H x (f x a).1);omega) a
   ·exact .inl (.inl (by rw[<-e];exact Y))
   exact .inl (.inr ⟨y,Y,e,(aJ.1 (H x (f x a).1)).1,(f x a).2⟩)
  exact .inr a
 unfold zO;rw[w,PQ,OJ,OP,OP];refine⟨fun x l=> ?_,fun x l=> ?_⟩
 ·obtain⟨K,_⟩:=(m x).1 l;obtain⟨q3,q4⟩:=f x K;obtain⟨s,B,_,P,_⟩:=t.of q3;unfold kW;rw[q4,B,u x l];simp[P]
 have l:=(r x).1 l;have z:x∈act:=l.elim (fun a=>(f x a).1) fun a=>by rw[a];exact R
 obtain⟨s,B,_,P,_,f1,f2⟩:=t.of z
 have v:cR (gy c p (kE c (fc c act p))) (aw c x true)=cR act (aw c x true):=by
  unfold cR
  congr 1
  apply QK;intro k q;have O:(k:Int)∈hU c x:=OW.2 ⟨k,q,rfl⟩;rw[PC,OQ,OQ,r];refine⟨fun o=>o.elim (fun a=>(f _ a).1) fun a=>by rw[a];exact R,fun o=> .inl ((n x k ?_ O).2 o)⟩;exact l.symm
 unfold iG;rw[B];simp only;rw[v];rcases lT h B with⟨e,_⟩|⟨e,_⟩|⟨e,_⟩|⟨e,_⟩
 ·by_cases g:aw c x true=[]
  ·simp[e,g,cR]
  have:=f1 e g;have X:0< (aw c x true).length:=QD.2 g;simp[e,this];omega
 ·simp[e,f2 e]
 ·simp[e]
 rcases e with e|e<;>simp[e]
def pO{c:aq}(h:cD c){k:Nat}{s:pc}(j:c.Z9[k]? =some s)(f:ab s=true):bD c s.parent=true/\ar c s.parent=true/\aw c s.parent true≠[]/\fe c s.parent=true/\(s.kind=4\/s.kind=5):=by
 have i:s.kind=4\/s.kind=5:=by unfold ab at f;simpa using f
 rcases h.cases j with⟨e,_⟩|⟨e,_⟩|⟨e,_⟩|⟨_,_,b,d⟩
 ·omega
 ·omega
 ·omega
 unfold cu at b;split at b
 ·rename_i q a;refine⟨by unfold bD;rw[a];exact b,?_,fun e=> ?_,?_,i⟩
  ·unfold ar eO;rw[a];simp only[b,Bool.true_or]
  ·rw[e]at d;simp[Uw]at d
  unfold at_ at a;split at a
  ·rename_i g;have:=(OG.1 a).1;exact aJ.2 ⟨g,by omega⟩
  cases a
 cases b
def BJ{c:aq}(h:cD c){act:List Int}(f:Lg c act){k:Nat}{s:pc}(i:c.Z9[k]? =some s)(p:ab s=true)(n:s.parent∈act):
 sb c act s.parent k=(if s.kind=5 then zL (Na c (ly c act s.parent)) else(hU c s.parent).filter fun k=>act.contains k)/\mz c ((k:Int),sb c act s.parent k)=true:=by
 obtain⟨b,o,l,w,x⟩:=pO h i p;have d:at_ c (k:Int)=some s:=by rw[bO];exact i
 have a:sb c act s.parent k=if s.kind=5 then kE c (fc c act s.parent) else mF c act s.parent:=by
  unfold sb;rw[i]
 have m: ∀v,mz c ((k:Int),v)=if s.kind=4 then decide (v.length=1)&&(hU c s.parent).contains (v.getD 0 0) else(s.kind==5)&&O' c s.parent v:=fun v=>by
  unfold mz;simp only[d]
 by_cases e:s.kind=5
 ·rw[OL e]at a;rw[a,m,OL e,OK (by omega)];refine⟨D1 h.toRight f _,?_⟩;rw[xC h o,KI h f n b l,e];rfl
 rw[OK e]at a;rw[a,m,OK e,OL (by omega)];obtain⟨sp,j,_,_,_,f1,_⟩:=f.of n;have g:sp.kind=1:=by rw[bk j]at b;simpa using b
 obtain⟨q,r,y,t,u⟩:=uP (f1 g l);rw[t,u];refine⟨rfl,?_⟩;rw[OJ];exact⟨rfl,OQ.2 r⟩
def lz{c:aq}(h:cD c){act gone:List Int}{mem:List ed}(S:F' c act=true)(T:bu c mem=true)(y: ∀x∈gone,x∈act):u5 c act gone mem=Mf c act gone mem/\bu c (u5 c act gone mem)=true:=by
 have M:=eW S;obtain⟨u,G⟩:=mD T;obtain⟨O,L⟩:=ND (c:=c) (act:=act) (gone:=gone) u
 have l: ∀p∈u5 c act gone mem,mz c p=true:=fun p w=>by
  rcases (L p).1 w with⟨i,r,I,k,z,rfl⟩|⟨w,_⟩
  ·obtain⟨s,u,_,rfl,d⟩:=gG.1 z;exact(BJ h M u d (y _ r)).2
  exact G p w
 refine⟨Lb O ?_ fun p=> ?_,Ls O l⟩
 ·unfold Mf EL UI;rw[Rq];exact(Cc (p:=fun h=> !(Cg c act gone mem h).isEmpty) (n:=c.Z9.length)).imp fun h=>by simp only;omega
 have t: ∀ {k:Nat}{s:pc},c.Z9[k]? =some s->ab s=true->Cg c act gone mem k=if gone.contains s.parent=true then sb c act s.parent k else Wq mem k:=fun {k s} u d=>by
  unfold Cg;rw[u];simp only;rw[OL d];split
  ·rename_i o;exact((BJ h M u d (y _ (OQ.1 o))).1).symm
  rfl
 have Q:p∈Mf c act gone mem↔ ∃k:Nat,k<c.Z9.length/\Cg c act gone mem k≠[]/\p=((k:Int),Cg c act gone mem k):=by
  unfold Mf EL;rw[OW];constructor
  ·rintro⟨k,z,rfl⟩;obtain⟨a,b⟩:=OY.1 z;exact⟨k,Oh.1 a,by simpa using b,rfl⟩
  rintro⟨k,a,b,rfl⟩;exact⟨k,OY.2 ⟨Oh.2 a,by simpa using b⟩,rfl⟩
 rw[Q];constructor
 ·intro w;obtain⟨k,s,C,f,d,g⟩:=yK (l p w)
  have N:Cg c act gone mem k=p.2:=by
   rw[t f d];rcases (L p).1 w with⟨i,r,I,B,v,rfl⟩|⟨J,H⟩
   ·obtain⟨U,j,_,D,_⟩:=gG.1 v;have P:((B:Nat):Int)=k:=C;have:B=k:=by omega
    subst this;rw[f]at j;cases j;rw[OL (by rw[D];exact OQ.2 r),D]
   rw[OK, <-C,Et u J];intro o;have r:=OQ.1 o;obtain⟨K,_,_,p4,_⟩:=pO h f d;exact H ⟨s.parent,r,K,k,gG.2 ⟨s,f,p4,rfl,d⟩,C⟩
  refine⟨k,(OG.1 f).1,by rw[N];exact g,?_⟩;rw[N, <-C]
 rintro⟨k,z,g,rfl⟩;obtain⟨s,f⟩: ∃s,c.Z9[k]? =some s:=⟨_,OE z⟩
 have d:ab s=true:=by
  cases R:ab s with
  |true=>rfl
  | false=>
    unfold Cg at g;rw[f]at g;simp[R]at g
 obtain⟨K,_,_,p4,_⟩:=pO h f d;rw[t f d]at g |-;rw[L];split
 ·rename_i o;exact .inl ⟨s.parent,OQ.1 o,K,k,gG.2 ⟨s,f,p4,rfl,d⟩,rfl⟩
 rename_i o;rw[OK o]at g;refine .inr ⟨?_,?_⟩
 ·apply RD;intro A;cases E:mem.find? (fun m=>m.1==(k:Int)) with
  |none=>unfold Wq at g;rw[E]at g;exact g rfl
  | some q=>
    have a:=So E;have b:=Qm E;simp only[P4]at a;have:=Et u b;rw[a]at this;rw[this, <-a]at A;exact A b
 rintro⟨i,r,_,B,v,e⟩;have V:((k:Nat):Int)=B:=e;have e:k=B:=by omega
 subst e;obtain⟨U,j,_,D,_⟩:=gG.1 v;rw[f]at j;cases j;rw[<-D]at r;exact o (OQ.2 r)
/-! Moves -/
end Go.Proofs.YtfcdkaolcdglmaaGreatDoor
set_option linter.unusedSimpArgs false
namespace Go.Proofs.YtfcdkaolcdglmaaGreatDoor
open Go.Proofs.Tryz
open Go.RowKit
set_option maxRecDepth 100000
set_option maxHeartbeats 8000000
def Vq(c:aq)(act:List Int)(i:Int):List Int:=(zL (ca c act)).filter (bx c i)
def kH(c:aq)(l:List Int)(i:Int)(j:Nat):List Int:=(l.take j).filter (bx c i)
def ry{c:aq}{l:List Int}{i:Int}{j:Nat}{x:Int}(h:l[j]? =some x):kH c l i (j+1)=if bx c i x then kH c l i j++[x] else kH c l i j:=by
 unfold kH;rw[Ot,h,PH];cases a:bx c i x<;>simp[a]
def ve(c:aq)(l:List Int)(i:Int)(j:Nat):(kH c l i j).length<=l.length:=by
 unfold kH;exact O3 (Ol ..) (by rw[OZ];omega)
def gd{c:aq}(a:Right c)(act:List Int):(ca c act).length<=32:=by
 unfold ca;split
 ·exact O3 (Ol ..) (Io a (by omega))
 simp
def BW(env:b7)(c:aq)(m:Right c)(act:List Int)(t:act.length<=1000000)(d:Int):cy prog env 223 [aH c, .seq 1 (act.map aa),I d] (.own 3 1 ((Vq c act d).reverse.map aa)):=by
 have f1:=bJ env c;have f2:=fZ env c m act t;have f:=gd m act;rw[<-gL]at f2;unfold Vq;have f:(zL (ca c act)).length<=32:=by rw[cQ];exact f
 generalize zL (ca c act)=L at*;unfold aH aS at f1;unfold aS at f2;unfold aH;refine qf func223 call223 ntmps223 results223 ?_;repeat refine E8 f1 f2 ?_
 refine am 7 7 3 1 ?_;refine UC L.length (by omega) (fun j q=>[(0, .ref 9 [aK c] 0 0),(2,I d),(7, .row 7 (q 7)),(13, .row 13 (q 13)),(14,I L.length),(15,I j)]) (fun j _=>[(7,⟨1,(kH c L d j).map aa,3,true⟩),(13,⟨1,L.map aa,3,true⟩)]) (fun j _ b=>b 7=false) rfl ?_ ?_
 ·rintro j u b e l p a;obtain⟨x,n⟩:=gE e;have f3:=fP env c m d x;unfold aS at f3;have s:=ve c L d j;have o:ek ((kH c L d j).length+1) 8:=aG (by omega) (by omega);have k:=ry (c:=c) (i:=d) n;cases h:bx c d x with
  | true=>
    rw[h]at f3;rw[h,OL rfl]at k;have F:=ld l p n o a;repeat refine PJ f1 f3 ?_
    refine⟨j+1,⟨e,by simp only[go_sem,a]⟩,?_,?_,by omega⟩
    ·exact qe
    have F:=ai k @Oa.{0,0};exact qe
  | false=>
    rw[h]at f3;rw[h,OK P3]at k;have F:=ld l p n o a;repeat refine PJ f1 f3 ?_
    refine⟨j+1,⟨e,by simp only[go_sem,a]⟩,?_,?_,by omega⟩
    ·exact qe
    have F:=ai k @Oa.{0,0};exact qe
 rintro u b l a;have g:kH c L d L.length=L.filter (bx c d):=by unfold kH;rw[Ob]
 rw[g];have r:(L.filter (bx c d)).length<=32:=O3 (Ol ..) f;generalize L.filter (bx c d)=U at*;have f4:=sN U (by omega);have F:=ai l a;repeat refine st ?_
 refine oU 7 rfl (row:=⟨1,U.map aa,3,true⟩) f4 (PD 0) rfl (bl _).symm (by simp only[go_sem,a];exact iR) (by simp only[go_sem,a];exact iR) (by simp only[go_sem,a];exact iR) (by simp only[go_sem,a];exact iR) ?_;rw[bl];exact fl
def D7(env:b7)(a b:Addr)(d:fk env a b)(s:List UInt8):cy prog env 127 [Sg s] (dj (-1) (b6 a)):=by
 have c:=gS d.e1;have f0:=bW env s a;refine qf func127 call127 ntmps127 results127 ?_;have F:=c;exact nb f0
def iS(c:aq)(act:List Int)(t:Fr):List Int:=if t.target<0 then [] else(Vq c act (DA c t.src t.target)).reverse
def xR(env:b7)(d e:Addr)(j:fk env d e)(c:aq)(h:cD c)(b:h9 c)(act:List Int)(f:act.length<=1000000)(k:Nat)(t:Fr)(g:c.trans[k]? =some t)(i:F' c act=true):cy prog env 202 [aH c, .seq 1 (act.map aa),I k] (.tuple [.seq 1 ((iS c act t).map aa),gc]):=by
 have f0:=cY env d e j c h b act f;have f1:=o5 env c b k t g;have f2:=nQ env c h.toRight b t (h.src g).1;have f3:=BW env c h.toRight act f (DA c t.src t.target);unfold vL at f0;rw[i]at f0;simp only[PW]at f0;unfold iS;unfold cN at f1 f2;unfold aH at f0 f1 f2 f3 |-;by_cases a:t.target<0
 ·rw[OL a];refine qw func202 call202 ntmps202 results202 ?_;have F:=a;repeat refine WF f0 f1 f2 f3 ?_
  (refine aO ?_;refine⟨_,(by show (au _ _ _).run _=some _;simp only[go_sem,F];rfl),?_⟩)
  exact .of (.tuple (.cons (.nil 1) (.cons (.refl _) .nil))) (fun _ _ _ h=>by cases h) (fun _ _ _ h=>by cases h)
 rw[OK a];refine qf func202 call202 ntmps202 results202 ?_;have F:=a;exact Wi f0 f1 f2 f3
end Go.Proofs.YtfcdkaolcdglmaaGreatDoor
set_option linter.unusedSimpArgs false
namespace Go.Proofs.YtfcdkaolcdglmaaGreatDoor
open Go.Proofs.Tryz
open Go.RowKit
set_option maxRecDepth 100000
set_option maxHeartbeats 16000000
def Ic:List Int->Int->Nat->Option Nat
 |[],_,_=>none
 |x::l,k,n=>if k=x then some n else Ic l k (n+1)
def lc{k:Int} : ∀ {l:List Int}{n:Nat},k∉l->Ic l k n=none
 |[],_,_=>rfl
 | x::l,n,h=>by
   unfold Ic;rw[OK (fun e=>h (by rw[e];exact Rh ..)),lc (fun a=>h (Pi _ a))]
def pr{k:Int} : ∀ {l:List Int}{n:Nat},k∈l-> ∃i,Ic l k n=some (n+i)/\l[i]? =some k
 |[],n,h=>by cases h
 | x::l,n,h=>by
   unfold Ic;by_cases e:k=x
   ·exact⟨0,by rw[OL e];rfl,by rw[e];rfl⟩
   obtain⟨i,a,b⟩:=pr (n:=n+1) ((O7.1 h).resolve_left e);exact⟨i+1,by rw[OK e,a];congr 1;omega,by simpa using b⟩
def gC(l:List Int):List (List AV):=l.map fun k=>[I k,I 1]
def mC(k:Int): ∀(l:List Int)(n:Nat),tR prog 3 (I k) (gC l) n=some (Ic l k n)
 |[],n=>rfl
 | x::l,n=>by
   have b:=mC k l (n+1);unfold gC at b |-;unfold Ic;by_cases e:k=x
   ·have a:(k==x)=true:=by simp[e]
    simp only[go_sem,cH,cT,PE,a,OL e]
   have a:(k==x)=false:=by simpa using e
   simp only[go_sem,cH,cT,PE,a,OK e,b]
def vZ(env:b7)(o:List Int)(i:Int)(h:o.length<=4000)(f:TypeId):g6 prog env 209 [1000,1001] (fun k=>k==1001) (fun vs=>[I i, .loc 1000 (vs 1000) 0 0]) (fun vs=>[(1000,⟨1,[[.row 1001 (vs 1001)]],f,false⟩),(1001,⟨1,o.map aa,3,true⟩)]) (fun vs=>[(1000,⟨1,[[.row 1001 (vs 1001)]],f,false⟩),(1001,⟨1,(Ua o i).map aa,3,true⟩)]) (fun _=> .lit (.tuple #[])):=by
 have f0:=(bG env o i (by omega)).lend rfl;unfold Ua;cases e:o.contains i with
 | true=>
   rw[e]at f0;simp only[PW];refine qi func209 call209 ntmps209 results209 ?_;intro vs d a;obtain⟨b,c⟩:=Us a;have F:=ai b c;repeat refine st ?_
   refine lL f0 ?_;repeat refine st ?_
   exact rN
 | false=>
   rw[e]at f0;have g:ek (o.length+1) 8:=aG (by omega) (by omega);simp only[On,P8,Oa];refine qi func209 call209 ntmps209 results209 ?_;intro vs d a;obtain⟨b,c⟩:=Us a;have F:=jw b c g;repeat refine st ?_
   refine lL f0 ?_;repeat refine st ?_
   exact rN
def jE{c:aq}{a:List Int}(d:a.Nodup)(e: ∀x∈a,fe c x=true):a.length<=c.Z9.length:=by
 have:=ol (c:=c) (l:=[]) d fun k b=>⟨by simp,e k b⟩;have:=Lr c [];omega
def Ft{c:aq}{d:Int}{o U:List Int}{m:Nat}{k:Int}(h:U[m]? =some k):H' c d o U (m+1)=if 0<=k/\bx c d k=true then Ua (H' c d o U m) k else H' c d o U m:=bz _ _ h
def CS{c:aq}{d:Int}{l:List Int}{j:Nat}{k:Int}(h:l[j]? =some k):u7 c d l (j+1)=H' c d (Ua (u7 c d l j) k) (mu c k) (mu c k).length:=bz _ _ h
def Fs{c:aq}(e:Right c){d:Int}{l:List Int}(m: ∀x∈l,fe c x=true){j:Nat}(g:j<=l.length):(u7 c d l j).Nodup/\(∀x∈u7 c d l j,fe c x=true)/\(u7 c d l j).length<=32:=by
 obtain⟨a,f⟩:=tv (c:=c) (d:=d) (l:=l) j g
 have b: ∀x∈u7 c d l j,fe c x=true:=fun x k=>by
  rcases (f x).1 k with h|⟨i,h,n,o,_⟩
  ·exact m x (Ph h)
  exact(iZ e n o).1
 exact⟨a,b,O3 (jE a b) e.Z6⟩
def Ip{c:aq}(e:Right c){d i:Int}{o:List Int}(j:o.Nodup)(l: ∀x∈o,fe c x=true){m:Nat}(g:m<=(mu c i).length):(H' c d o (mu c i) m).Nodup/\(∀x∈H' c d o (mu c i) m,fe c x=true)/\(H' c d o (mu c i) m).length<=32:=by
 obtain⟨a,f⟩:=xw (c:=c) (d:=d) (U:=mu c i) m g j
 have b: ∀x∈H' c d o (mu c i) m,fe c x=true:=fun x k=>by
  rcases (f x).1 k with h|⟨h,n,_⟩
  ·exact l x h
  exact(iZ e (Ph h) n).1
 exact⟨a,b,O3 (jE a b) e.Z6⟩
def Ke(env:b7)(c:aq)(u:Right c)(l:List Int)(hl:l.length<=1000000)(M: ∀x∈l,fe c x=true)(d:Int):cy prog env 188 [aH c, .seq 1 (l.map aa),I d] (.own 3 1 ((n7 c l d).map aa)):=by
 have L:=u.Z6;have f1:=bJ env c;unfold aH aS at f1;unfold aH;refine qf func188 call188 ntmps188 results188 ?_;repeat refine sm ?_
 refine VP 7 9000 0 0 3 1 ?_;refine UC l.length (by omega) (fun j p=>[(0, .ref 9 [aK c] 0 0),(2,I d),(7, .loc 7 (p 7) 0 0),(8, .clo 209 [.loc 7 (p 7) 0 0]),(14, .seq 1 (l.map aa)),(15,I l.length),(16,I j)]) (fun j p=>[(7,⟨1,[[.row 9000 (p 9000)]],35,false⟩),(9000,⟨1,(u7 c d l j).map aa,3,true⟩)]) (fun j _ f=>f 7=false/\f 9000=false) ⟨rfl,rfl⟩ ?_ ?_
 ·rintro j Y f s K N ⟨g,k⟩;have R:=Ss s;obtain⟨x,E⟩:=gE s;obtain⟨W,X,n3⟩:=Fs u (d:=d) M R;have G:=M x (OM E);have S:=CS (c:=c) (d:=d) E;have O:=vZ env (u7 c d l j) x (by omega) 35;have f2:=xy env c u x;unfold aS at f2;have T:=nX W x;have V: ∀y∈Ua (u7 c d l j) x,fe c y=true:=fun y r=>(uk.1 r).elim (X y) fun e=>by rw[e];exact G
  have z:=fun m C=>Ip u (d:=d) (i:=x) T V (m:=m) C;have Q:(mu c x).length<=40:=uo 40 x
  have B: ∀y∈mu c x,y<0\/fe c y=true:=fun y r=>by
   rcases Sq y 0 with h|h
   ·exact .inl h
   exact .inr (iZ u r h).1
  generalize Ua (u7 c d l j) x=o at*;generalize mu c x=U at*;have Z:H' c d o U 0=o:=rfl;have F:=ld E K N g k;repeat refine st ?_
  refine iY [(1000,7),(1001,9000)] (cB rfl (by simp only[go_sem,F];exact iR)) (O) (by decide) (by decide) (by simp only[go_sem,F]<;>rfl) (by simp only[go_sem,F,O8]<;>trivial) (by simp only[go_sem,F,O8]<;>trivial) (by intro o;simp only[go_sem,F,behind,O8]<;>trivial) (by intro o;simp only[go_sem,F]<;>rfl) (by simp only[go_sem,F,behind];exact iR) (by simp only[go_sem,F,behind];exact iR) ?_;repeat refine PJ f1 f2 ?_
  refine aN (D:=Nat) (fun m p=>[(0, .ref 9 [aK c] 0 0),(2,I d),(7, .loc 7 (p 7) 0 0),(8, .clo 209 [.loc 7 (p 7) 0 0]),(14, .seq 1 (l.map aa)),(15,I l.length),(16,I j),(26, .row 26 (p 26)),(27,I U.length),(28,I m)]) (fun m p=>[(7,⟨1,[[.row 9000 (p 9000)]],35,false⟩),(9000,⟨1,(H' c d o U m).map aa,3,true⟩),(26,⟨1,U.map aa,3,true⟩)]) (fun m _ f=>m<=U.length/\f 7=false/\f 9000=false) (fun m=>U.length-m) 0 ?_ ?_ ?_ ?_
  ·exact⟨O6 _,by simp only[go_sem,g],by simp only[go_sem,k]⟩
  ·(simp only[go_sem,F])
   try rfl
  ·have F:=Z
   (simp only[go_sem,F])
   try rfl
  try clear g k
  rintro m p es ⟨C,g,k⟩;obtain⟨k1,k2,k3⟩:=z m C;by_cases n:m<U.length
  ·obtain⟨y,r⟩:=gE n;have A:=mc n;have J:=aD n (by omega);have b:=Ft (c:=c) (d:=d) (o:=o) r;have P:=vZ env (H' c d o U m) y (by omega) 35;have f3:=fP env c u d y;unfold aS at f3;rcases B y (OM r) with h0|H
   ·have t: ¬0<=y:=by omega
    rw[OK (fun q=>t q.1)]at b;have F:=pf r A J t g k;repeat refine PJ f1 f3 ?_
    refine⟨m+1,⟨n,by simp only[go_sem,g],by simp only[go_sem,k]⟩,?_,?_,by omega⟩
    ·exact qe
    have F:=b;exact qe
   ·have t:=(aJ.1 H).1;cases v:bx c d y with
    | false=>
      rw[v]at f3 b;rw[OK (by simp)]at b;have F:=pf r A J t g k;repeat refine PJ f1 f3 ?_
      refine⟨m+1,⟨n,by simp only[go_sem,g],by simp only[go_sem,k]⟩,?_,?_,by omega⟩
      ·exact qe
      have F:=b;exact qe
    | true=>
      rw[v]at f3 b;rw[OL ⟨t,rfl⟩]at b;generalize H' c d o U m=a at*;have F:=pf r A J t g k;repeat refine PJ f1 f3 ?_
      refine iY [(1000,7),(1001,9000)] (cB rfl (by simp only[go_sem,F];exact iR)) (P) (by decide) (by decide) (by simp only[go_sem,F]<;>rfl) (by simp only[go_sem,F,O8]<;>trivial) (by simp only[go_sem,F,O8]<;>trivial) (by intro o;simp only[go_sem,F,behind,O8]<;>trivial) (by intro o;simp only[go_sem,F]<;>rfl) (by simp only[go_sem,F,behind];exact iR) (by simp only[go_sem,F,behind];exact iR) ?_;repeat refine st ?_
      refine⟨m+1,⟨n,by simp only[go_sem,g],by simp only[go_sem,k]⟩,?_,?_,by omega⟩
      ·exact qe
      have F:=b;exact qe
  obtain rfl:m=U.length:=by omega
  have A:=nl U.length;have F:=mX A N g k;repeat refine st ?_
  refine⟨j+1,⟨s,by simp only[go_sem,g],by simp only[go_sem,k]⟩,?_,?_,by omega⟩
  ·exact qe
  have F:=S;exact qe
 rintro Y f K ⟨g,k⟩;show gu _ _ _ _ _ _;have w:u7 c d l l.length=n7 c l d:=rfl;rw[w];have F:=jw K g k;exact fl
end Go.Proofs.YtfcdkaolcdglmaaGreatDoor
