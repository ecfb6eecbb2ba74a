/- Ways up and growing, as the program does them. -/
import Derived.Test.YtdpjgflalmnkdaaGreatDoorT18
set_option maxRecDepth 100000
set_option maxHeartbeats 16000000
set_option linter.unusedSimpArgs false
namespace Go.Proofs.YtdpjgflalmnkdaaGreatDoor
open Go.Proofs.Tryz
open Go.RowKit
section
/-! Legal states -/
theorem G9 {l:List Int} (h: ∀j,0<j->j<l.length->l.getD (j-1) 0<l.getD j 0):l.Pairwise (· < ·):=by
 rw[LQ];intro i j hi hj hij
 have key: ∀d,i+d+1<l.length->l.getD i 0<l.getD (i+d+1) 0:=fun d=>by
  induction d with
  |zero=>intro hd;simpa using h (i+1) (by omega) (by omega)
  | succ d ih=>
    intro hd;have h1:=ih (by omega);have h2:=h (i+d+1+1) (by omega) (by omega);have e:i+(d+1)+1=i+d+1+1:=by omega
    rw[e];simp only[NN]at h2;omega
 have:=key (j-i-1) (by omega);rw[show i+(j-i-1)+1=j by omega]at this;simpa[Kv,KZ hi,KZ hj]using this
structure Lg (c:ChD) (act:List Int):Prop where
 rise:act.Pairwise (· < ·)
 fit: ∀x∈act,∃s,at_ c x=some s/\qO c act x.toNat s=true
 top:manyI act (kidsL c (-1) true)=1
theorem cx {c:ChD} {act:List Int} (h:lgB c act=true):Lg c act:=by
 obtain⟨h1,h2⟩:=xc.1 h
 have h3: ∀j (hj:j<act.length),(j==0||decide (act.getD (j-1) 0<act[j]))=true/\uB c act act[j]=true:=fun j hj=>by
  have:=h1 j hj;unfold tx at this;rw[KZ hj]at this;simpa only[K3]using this
 refine⟨G9 fun j h0 hj=> ?_,fun x hx=> ?_,h2⟩
 ·have:=(h3 j hj).1;have hne:(j==0)=false:=by simp;omega
  rw[hne,M2,Kh]at this;simpa[Kv,KZ hj]using this
 ·obtain⟨j,hj,rfl⟩:=NV.1 hx;have:=(h3 j hj).2;unfold uB at this;split at this
  ·rename_i s hs;exact⟨s,hs,this⟩
  ·cases this
theorem Lg.of {c:ChD} {act:List Int} (h:Lg c act) {x:Int} (hx:x∈act): ∃s,at_ c x=some s/\inZ c x=true/\aT s=false/\(aO c x<0\/aO c x∈act)/\(s.kind=1->kidsL c x true≠[]->manyI act (kidsL c x true)=1)/\(s.kind=2->manyI act (kidsL c x true)=(kidsL c x true).length):=by
 obtain⟨s,hs,hf⟩:=h.fit x hx
 have h0:0<=x/\c.states[x.toNat]? =some s:=by
  unfold at_ at hs;split at hs
  ·exact⟨by assumption,hs⟩
  ·cases hs
 obtain⟨k,rfl⟩: ∃k:Nat,x=k:=⟨x.toNat,by omega⟩;have hk:=(K0.1 h0.2).1;have hp:aO c (k:Int)=s.parent:=by unfold aO;rw[hs]
 unfold qO at hf;rw[Ln,K3,K3]at hf;obtain⟨⟨f1,f2⟩,f3⟩:=hf;refine⟨s,hs,aH.2 ⟨by omega,by simpa using hk⟩,by simpa using f1,?_,fun e hne=> ?_,fun e=> ?_⟩
 ·rw[hp];rw[Ll,Kh]at f2;exact f2.imp id fun f2=>by simpa using f2
 ·rw[K5 ⟨e,hne⟩]at f3;simpa using f3
 ·rw[K2 (fun q=>by omega),K5 e]at f3;simpa using f3
theorem Lg.real {c:ChD} {act:List Int} (h:Lg c act) {x:Int} (hx:x∈act) {s:StD} (hs:at_ c x=some s):s.kind≠4/\s.kind≠5:=by
 obtain⟨s',e,_,hm,_⟩:=h.of hx;rw[hs]at e;cases e;unfold aT at hm;simpa using hm
theorem Lg.nodup {c:ChD} {act:List Int} (h:Lg c act):act.Nodup:=h.rise.imp fun h=>by omega
theorem Lg.up {c:ChD} (hr:Right c) {act:List Int} (h:Lg c act): ∀(n:Nat) (x k:Int),x<n->x∈act->k∈upL c x->0<=k->k∈act
 | 0,x,k,hn,hx,hk,h0=>by
   obtain⟨_,_,hz,_⟩:=h.of hx;have:=aH.1 hz;omega
 | n+1,x,k,hn,hx,hk,h0=>by
   obtain⟨_,_,hz,_,hp,_⟩:=h.of hx;rw[cZ hr hz]at hk;have:=dM hr hz;rcases hk with rfl|hk
   ·exact hp.resolve_left (by omega)
   ·rcases hp with hp|hp
    ·rw[cK (by unfold inZ;rw[LD (by omega),LJ])]at hk;simp at hk
    ·exact Lg.up hr h n _ k (by omega) hp hk h0
theorem jD {c:ChD} (hr:Right c) {l:List Int} (hl: ∀x∈l,inZ c x=true) {x:Int} :x∈zL (sortL c l)↔x∈l:=by
 have ha:l.all (inZ c)=true:=K7.2 hl;unfold sortL;rw[K5 ha];constructor
 ·intro hx;obtain⟨k,hk,rfl⟩:=Kb.1 hx;simpa using (Ke.1 hk).2
 ·intro hx;have hz:=aH.1 (hl x hx);refine Kb.2 ⟨x.toNat,Ke.2 ⟨?_,?_⟩,by omega⟩
  ·exact(iD hr _).2 (by omega)
  ·have e:((x.toNat:Nat):Int)=x:=by omega
   rw[e];simpa using hx
/-! Memories in their order -/
def kX:List MemD->MemD->List MemD
 |[],m=>[m]
 |x::r,m=>if x.1<m.1 then x::kX r m else if x.1=m.1 then m::r else m::x::r
abbrev Srt (l:List MemD):Prop:=l.Pairwise fun a b=>a.1<b.1
theorem nR {m p:MemD} : ∀ {l:List MemD},Srt l->(p∈kX l m↔p=m\/(p∈l/\p.1≠m.1))
 |[],_=>by simp[kX]
 | x::r,h=>by
   obtain⟨h1,h2⟩:=MI.1 h;unfold kX;split
   ·rename_i hlt;rw[Kr,nR h2,Kr];constructor
    ·rintro(rfl|rfl|⟨a,b⟩)
     ·exact .inr ⟨.inl rfl,by omega⟩
     ·exact .inl rfl
     ·exact .inr ⟨.inr a,b⟩
    ·rintro(rfl|⟨rfl|a,b⟩)
     ·exact .inr (.inl rfl)
     ·exact .inl rfl
     ·exact .inr (.inr ⟨a,b⟩)
   ·split
    ·rename_i he;rw[Kr,Kr];constructor
     ·rintro(rfl|a)
      ·exact .inl rfl
      ·exact .inr ⟨.inr a,by have:=h1 p a;omega⟩
     ·rintro(rfl|⟨rfl|a,b⟩)
      ·exact .inl rfl
      ·exact absurd he b
      ·exact .inr a
    ·rename_i hn he;rw[Kr,Kr];constructor
     ·rintro(rfl|rfl|a)
      ·exact .inl rfl
      ·exact .inr ⟨.inl rfl,by omega⟩
      ·exact .inr ⟨.inr a,by have:=h1 p a;omega⟩
     ·rintro(rfl|⟨rfl|a,b⟩)
      ·exact .inl rfl
      ·exact .inr (.inl rfl)
      ·exact .inr (.inr a)
theorem sj {m:MemD} : ∀ {l:List MemD},Srt l->Srt (kX l m)
 |[],_=>by simp[kX,Srt]
 | x::r,h=>by
   obtain⟨h1,h2⟩:=MI.1 h;unfold kX;split
   ·rename_i hlt;refine MI.2 ⟨fun p hp=> ?_,sj h2⟩;rcases (nR h2).1 hp with rfl|⟨a,_⟩
    ·exact hlt
    ·exact h1 p a
   ·split
    ·rename_i he;exact MI.2 ⟨fun p hp=>by have:=h1 p hp;omega,h2⟩
    ·refine MI.2 ⟨fun p hp=> ?_,h⟩;rcases Kr.1 hp with rfl|hp
     ·omega
     ·have:=h1 p hp;omega
theorem I4 {a b:List MemD} (ha:Srt a) (hb:Srt b) (h: ∀p,p∈a↔p∈b):a=b:=by
 have na:a.Nodup:=ha.imp fun h e=>by rw[e]at h;omega
 have nb:b.Nodup:=hb.imp fun h e=>by rw[e]at h;omega
 exact OD (fun x y _ _ h1 h2=>by omega) ha hb ((List.perm_ext_iff_of_nodup na nb).2 h)
/-! What is remembered -/
def underL (c:ChD) (l:List Int) (i:Int):List Int:=l.filter (aboveB c i)
def innerP (c:ChD) (l:List Int) (i:Int):Bool:= !(kidZ c i).any fun k=>l.contains k
def innerL (c:ChD) (l:List Int):List Int:=bN (l.filter (innerP c l))
def lX (c:ChD) (act:List Int) (i:Int):List Int:=match ((kidZ c i).filter fun k=>act.contains k).getLast? with
 |some k=>[k]
 |none=>[]
def rJ (c:ChD) (act:List Int) (i:Int) (h:Nat):List Int:=match c.states[h]? with
 |some s=>if s.kind=5 then innerL c (underL c act i) else lX c act i
 |none=>[]
def memTo_ (c:ChD) (act:List Int) (i:Int) (o:List MemD) (M:List Nat) (m:Nat):List MemD:=(M.take m).foldl (fun o (h:Nat)=>kX o ((h:Int),rJ c act i h)) o
def remTo (c:ChD) (act gone:List Int) (o:List MemD) (j:Nat):List MemD:=(gone.take j).foldl (fun o i=>if ah c i=true then memTo_ c act i o (memL c i) (memL c i).length else o) o
def remL (c:ChD) (act gone:List Int) (mem:List MemD):List MemD:=remTo c act gone mem gone.length
theorem uy {c:ChD} {act:List Int} {i:Int} {M:List Nat} : ∀(m:Nat) {o:List MemD},m<=M.length->Srt o->Srt (memTo_ c act i o M m)/\ ∀p,p∈memTo_ c act i o M m↔(∃h∈M.take m,p=((h:Int),rJ c act i h))\/(p∈o/\ ∀h∈M.take m,p.1≠(h:Int))
 |0,o,_,hs=>⟨hs,fun p=>by simp[memTo_]⟩
 | m+1,o,hm,hs=>by
   obtain⟨k,hk⟩: ∃k,M[m]? =some k:=⟨M[m],KZ (by omega)⟩;obtain⟨q1,q2⟩:=uy (c:=c) (act:=act) (i:=i) (M:=M) m (o:=o) (by omega) hs;have e:memTo_ c act i o M (m+1)=kX (memTo_ c act i o M m) ((k:Int),rJ c act i k):=bu _ _ hk;have e2: ∀x,x∈M.take (m+1)↔x∈M.take m\/x=k:=fun x=>by rw[Ky,hk];simp
   rw[e];refine⟨sj q1,fun p=> ?_⟩;rw[nR q1,q2];simp only[e2];constructor
   ·rintro(rfl|⟨⟨h,a,rfl⟩|⟨a,b⟩,d⟩)
    ·exact .inl ⟨k, .inr rfl,rfl⟩
    ·exact .inl ⟨h, .inl a,rfl⟩
    ·exact .inr ⟨a,fun h hh=>hh.elim (b h) fun e=>by rw[e];exact d⟩
   ·rintro(⟨h,a|rfl,rfl⟩|⟨a,b⟩)
    ·by_cases e:h=k
     ·exact .inl (by rw[e])
     ·exact .inr ⟨.inl ⟨h,a,rfl⟩,by simp;omega⟩
    ·exact .inl rfl
    ·exact .inr ⟨.inr ⟨a,fun h hh=>b h (.inl hh)⟩,b k (.inr rfl)⟩
theorem gC {c:ChD} {i:Int} {k:Nat} :k∈memL c i↔ ∃s,c.states[k]? =some s/\inZ c i=true/\s.parent=i/\aT s=true:=by
 unfold memL Io;rw[Ke,Kw];constructor
 ·rintro⟨h1,h2⟩;rw[KZ h1]at h2 |-;simp only[K3,L5]at h2;exact⟨_,rfl,h2.1,h2.2.1,h2.2.2⟩
 ·rintro⟨s,hs,h1,h2,h3⟩;refine⟨(K0.1 hs).1,?_⟩;rw[hs];simp[h1,h2,h3]
def touch (c:ChD) (gone:List Int) (h:Int):Prop:= ∃i∈gone,ah c i=true/\ ∃k∈memL c i,h=(k:Int)
theorem zN {c:ChD} {act gone:List Int} {o:List MemD} (hs:Srt o): ∀(j:Nat),j<=gone.length->Srt (remTo c act gone o j)/\ ∀p,p∈remTo c act gone o j↔(∃i∈gone.take j,ah c i=true/\ ∃k∈memL c i,p=((k:Int),rJ c act i k))\/(p∈o/\ ¬touch c (gone.take j) p.1)
 |0,_=>⟨hs,fun p=>by simp[remTo,touch]⟩
 | j+1,hj=>by
   obtain⟨i,hi⟩: ∃i,gone[j]? =some i:=⟨gone[j],KZ (by omega)⟩;obtain⟨q1,q2⟩:=zN (c:=c) (act:=act) (gone:=gone) hs j (by omega);have e:remTo c act gone o (j+1)=if ah c i=true then memTo_ c act i (remTo c act gone o j) (memL c i) (memL c i).length else remTo c act gone o j:=bu _ _ hi
   have e2: ∀x,x∈gone.take (j+1)↔x∈gone.take j\/x=i:=fun x=>by rw[Ky,hi];simp
   rw[e];split
   ·rename_i hp;obtain⟨p1,p2⟩:=uy (c:=c) (act:=act) (i:=i) (M:=memL c i) _ (Kc _) q1;refine⟨p1,fun p=> ?_⟩;rw[p2,q2,Kt];unfold touch;simp only[e2];constructor
    ·rintro(⟨h,a,rfl⟩|⟨⟨i',a,b,k,d',rfl⟩|⟨a,b⟩,d⟩)
     ·exact .inl ⟨i, .inr rfl,hp,h,a,rfl⟩
     ·exact .inl ⟨i', .inl a,b,k,d',rfl⟩
     ·refine .inr ⟨a,?_⟩;rintro⟨i',a' | rfl,b',k,d',e'⟩
      ·exact b ⟨i',a',b',k,d',e'⟩
      ·exact d k d' e'
    ·rintro(⟨i',a|rfl,b,k,d,rfl⟩|⟨a,b⟩)
     ·by_cases e:i'=i
      ·subst e;exact .inl ⟨k,d,rfl⟩
      ·refine .inr ⟨.inl ⟨i',a,b,k,d,rfl⟩,fun h hh he=>e ?_⟩;have he:((k:Nat):Int)=h:=he;have he:k=h:=by omega
       subst he;obtain⟨s,hs,_,h1,_⟩:=gC.1 d;obtain⟨s',hs',_,h2,_⟩:=gC.1 hh;rw[hs]at hs';cases hs';rw[<-h1, <-h2]
     ·exact .inl ⟨k,d,rfl⟩
     ·refine .inr ⟨.inr ⟨a,fun⟨i',a',b',r⟩=>b ⟨i', .inl a',b',r⟩⟩,fun h hh he=>b ⟨i, .inr rfl,hp,h,hh,he⟩⟩
   ·rename_i hp;refine⟨q1,fun p=> ?_⟩;rw[q2];unfold touch;simp only[e2];constructor
    ·rintro(⟨i',a,b,r⟩|⟨a,b⟩)
     ·exact .inl ⟨i', .inl a,b,r⟩
     ·refine .inr ⟨a,?_⟩;rintro⟨i',a' | rfl,b',r⟩
      ·exact b ⟨i',a',b',r⟩
      ·exact hp b'
    ·rintro(⟨i',a|rfl,b,r⟩|⟨a,b⟩)
     ·exact .inl ⟨i',a,b,r⟩
     ·exact absurd b hp
     ·exact .inr ⟨a,fun⟨i',a',b',r⟩=>b ⟨i', .inl a',b',r⟩⟩
theorem Ja {c:ChD} {act gone:List Int} {o:List MemD} (hs:Srt o):Srt (remL c act gone o)/\ ∀p,p∈remL c act gone o↔(∃i∈gone,ah c i=true/\ ∃k∈memL c i,p=((k:Int),rJ c act i k))\/(p∈o/\ ¬touch c gone p.1):=by
 have:=zN (c:=c) (act:=act) (gone:=gone) hs _ (Kc _);rw[Kt]at this;exact this
/-! As the document says -/
def ofM (mem:List MemD) (h:Int):List Int:=match mem.find? (fun m=>m.1==h) with
 |some m=>m.2
 |none=>[]
def Hq (c:ChD) (l:List Int):List Nat:=(List.range c.states.length).filter fun i:Nat=>l.contains (i:Int)&&(manyI l (kidsL c i true)==0)
def lO (c:ChD) (l:List Int) (i:Int):List Int:=(zL (sortL c l)).filter (aboveB c i)
def refV (c:ChD) (act gone:List Int) (mem:List MemD) (h:Nat):List Int:=match c.states[h]? with
 |some s=>if aT s=true then(if gone.contains s.parent=true then(if s.kind=5 then zL (Hq c (lO c act s.parent)) else(kidZ c s.parent).filter fun k=>act.contains k) else ofM mem h) else []
 |none=>[]
def eL (c:ChD) (act gone:List Int) (mem:List MemD) (j:Nat):List MemD:=((List.range j).filter fun h=> !(refV c act gone mem h).isEmpty).map fun h:Nat=>((h:Int),refV c act gone mem h)
def Av (c:ChD) (act gone:List Int) (mem:List MemD):List MemD:=eL c act gone mem c.states.length
theorem Ct {mem:List MemD} (hs:Srt mem) {p:MemD} (hp:p∈mem):ofM mem p.1=p.2:=by
 unfold ofM;cases hf:mem.find? (fun m=>m.1==p.1) with
 | none=>
   rw[NM]at hf;exact absurd (Ow p.1) (hf p hp)
 | some q=>
   have h1:=N8 hf;have h2:=MQ hf;simp only[L5]at h1
   have na:q=p:=by
    obtain⟨a,ha,rfl⟩:=NV.1 h2;obtain⟨b,hb,rfl⟩:=NV.1 hp;rcases NO a b with h|h|h
    ·have:=LQ.1 hs a b ha hb h;omega
    ·subst h;rfl
    ·have:=LQ.1 hs b a hb ha h;omega
   rw[na]
theorem oQ {c:ChD} {mem:List MemD} (h:bU c mem=true):Srt mem/\ ∀m∈mem,k8 c m=true:=by
 have h1: ∀j (hj:j<mem.length),k8 c mem[j]=true/\(j=0\/(mem.getD (j-1) (0,[])).1<mem[j].1):=fun j hj=>by
  have:=K7.1 h j (Kw.2 hj);unfold mG at this;rw[KZ hj,K3,Ll,Kh]at this;exact⟨this.1,this.2.imp (by simp) id⟩
 refine⟨LQ.2 ?_,fun m hm=> ?_⟩
 ·intro i j hi hj hij
  have key: ∀d (hd:i+d+1<mem.length),mem[i].1<mem[i+d+1].1:=fun d=>by
   induction d with
   | zero=>
     intro hd;have:=(h1 (i+1) hd).2.resolve_left (by omega);simpa[Kv,KZ hi]using this
   | succ d ih=>
     intro hd;have a:=ih (by omega);have b:=(h1 (i+d+1+1) (by omega)).2.resolve_left (by omega);simp only[NN,Kv,KZ (show i+d+1<mem.length by omega),Lb]at b;have e:i+(d+1)+1=i+d+1+1:=by omega
     simp only[e];omega
  have:=key (j-i-1) (by omega);simpa[show i+(j-i-1)+1=j by omega]using this
 ·obtain⟨j,hj,rfl⟩:=NV.1 hm;exact(h1 j hj).1
theorem Im {c:ChD} {mem:List MemD} (hs:Srt mem) (hm: ∀m∈mem,k8 c m=true):bU c mem=true:=by
 refine K7.2 fun j hj=> ?_;have hj:=Kw.1 hj;unfold mG;rw[KZ hj];simp only;rw[hm _ (MS hj),LN];by_cases h0:j=0
 ·simp[h0]
 ·have:=LQ.1 hs (j-1) j (by omega) hj (by omega);simp[Kv,KZ (show j-1<mem.length by omega),this]
theorem wo {l:List Int} (h:fq l=true):l≠[]:=by
 unfold fq at h;rw[K3]at h;intro e;rw[e]at h;simp at h
theorem Cx {c:ChD} {m:MemD} (h:k8 c m=true): ∃(k:Nat) (s:StD),m.1=(k:Int)/\c.states[k]? =some s/\aT s=true/\m.2≠[]:=by
 unfold k8 at h;split at h
 ·rename_i s hs
  have h0:0<=m.1/\c.states[m.1.toNat]? =some s:=by
   unfold at_ at hs;split at hs
   ·exact⟨by assumption,hs⟩
   ·cases hs
  refine⟨m.1.toNat,s,by omega,h0.2,?_,?_⟩
  ·unfold aT;split at h
   ·rename_i e;simp[e]
   ·rw[K3]at h;rw[h.1];simp
  ·split at h
   ·rw[K3,Kh]at h;intro e;rw[e]at h;simp at h
   ·unfold deepB at h;simp only[K3]at h;exact wo h.2.1.1.1
 ·cases h
theorem Gg {l:List Int} {ks:List Nat} :manyI l ks=0↔((zL ks).any fun k=>l.contains k)=false:=by
 rw[gd,Nh];simp
theorem oM {a b:List Int} (ha:a.Pairwise (· < ·)) (hb:b.Pairwise (· < ·)) (h: ∀x,x∈a↔x∈b):a=b:=by
 have na:a.Nodup:=ha.imp fun h=>by omega
 have nb:b.Nodup:=hb.imp fun h=>by omega
 exact OD (fun x y _ _ h1 h2=>by omega) ha hb ((List.perm_ext_iff_of_nodup na nb).2 h)
theorem ly {l:List Int} (hn:l.Nodup):(bN l).Pairwise (· < ·)/\ ∀x,x∈bN l↔x∈l:=by
 have hs:(bN l).Pairwise (fun x y:Int=>decide (x<=y)=true):=OO (fun a b c=>by simp;omega) (fun a b=>by simp;omega) _;have hp:(bN l).Perm l:=Nz ..;have hn2:(bN l).Nodup:=hp.nodup_iff.2 hn;refine⟨(List.pairwise_and_iff.2 ⟨hs,hn2⟩).imp fun⟨a,b⟩=> ?_,fun x=>hp.mem_iff⟩;have a:=of_decide_eq_true a;omega
theorem wa {p:Nat->Bool} {n:Nat} :(zL ((List.range n).filter p)).Pairwise (· < ·):=by
 unfold zL;rw[Ni];exact(Ao (p:=p) (n:=n)).imp fun h=>by omega
theorem B8 {c:ChD} (hr:Right c) {act:List Int} (hg:Lg c act) (i:Int):innerL c (underL c act i)=zL (Hq c (lO c act i)):=by
 have hz: ∀x∈act,inZ c x=true:=fun x hx=>by obtain⟨_,_,h,_⟩:=hg.of hx;exact h
 have hu: ∀x,x∈lO c act i↔x∈underL c act i:=fun x=>by
  unfold lO underL;rw[Ke,Ke,jD hr hz]
 have hn:((underL c act i).filter (innerP c (underL c act i))).Nodup:=(hg.nodup.sublist Lp).sublist Lp;obtain⟨r1,r2⟩:=ly hn;refine oM r1 wa fun x=> ?_;unfold innerL;rw[r2,Ke]
 have hmany: ∀k:Nat,innerP c (underL c act i) k=(manyI (lO c act i) (kidsL c k true)==0):=fun k=>by
  rw[gw hu,LC];unfold innerP;rw[Lm,L5,Gg]
 constructor
 ·rintro⟨h1,h2⟩;have hx:x∈act:=(Ke.1 h1).1;have:=aH.1 (hz x hx);obtain⟨k,rfl⟩: ∃k:Nat,x=k:=⟨x.toNat,by omega⟩;refine Kb.2 ⟨k,Ke.2 ⟨Kw.2 (by omega),?_⟩,rfl⟩;rw[K3,K6, <-hmany];exact⟨(hu _).2 h1,h2⟩
 ·intro hx;obtain⟨k,hk,rfl⟩:=Kb.1 hx;have:=(Ke.1 hk).2;rw[K3,K6, <-hmany]at this;exact⟨(hu _).1 this.1,this.2⟩
theorem last_one {l:List Int} {x:Int} (h:l=[x]):l.getLast? =some x:=by rw[h];rfl
theorem pS (act:List Int) (ks:List Nat):((zL ks).filter fun k=>act.contains k).length=manyI act ks:=by
 unfold manyI zL;rw[List.filter_map,Ko];rfl
theorem sx {c:ChD} {act:List Int} {i:Int} (h:manyI act (kidsL c i true)=1): ∃k,k∈kidZ c i/\k∈act/\lX c act i=[k]/\((kidZ c i).filter fun k=>act.contains k)=[k]:=by
 rw[<-pS]at h;obtain⟨k,hk⟩:=NJ.1 h;have hm:k∈(kidZ c i).filter fun k=>act.contains k:=by rw[hk];simp
 obtain⟨h1,h2⟩:=Ke.1 hm;refine⟨k,h1,by simpa using h2,?_,hk⟩;unfold lX;rw[last_one hk]
theorem ot {c:ChD} (hr:Right c) {act:List Int} (i:Int): ∀(n:Nat) (x:Int),(c.states.length:Int)<=x+n->x∈underL c act i-> ∃y∈innerL c (underL c act i),y=x\/x∈upL c y
 | 0,x,hn,hx=>by
   have ha:i∈upL c x:=by simpa[aboveB]using (Ke.1 hx).2
   cases hh:inZ c x with
   |true=>have:=aH.1 hh;omega
   |false=>rw[cK hh]at ha;simp at ha
 | n+1,x,hn,hx=>by
   have hxm:=Ke.1 hx;have ha:i∈upL c x:=by simpa[aboveB]using hxm.2
   by_cases hi:innerP c (underL c act i) x=true
   ·refine⟨x,?_, .inl rfl⟩;unfold innerL;exact(Nz ..).mem_iff.2 (Ke.2 ⟨hx,hi⟩)
   ·have hi:((kidZ c x).any fun k=>(underL c act i).contains k)=true:=by
     unfold innerP at hi;simpa using hi
    obtain⟨k,hk,hku⟩:=Lj.1 hi;obtain⟨k1,k2,k3⟩:=bK hr hk;obtain⟨y,hy,hyk⟩:=ot hr i n k (by omega) (by simpa using hku);have hxk:x∈upL c k:=(cZ hr k1).2 (.inl k2.symm);refine⟨y,hy, .inr ?_⟩;rcases hyk with rfl|hyk
    ·exact hxk
    ·exact iE hr ((c.states.length+1)) y k x (by
      cases hh:inZ c y with
      |true=>have:=aH.1 hh;omega
      |false=>rw[cK hh]at hyk;simp at hyk) hyk hxk
theorem aZ {c:ChD} (hr:Right c) {p x:Int} (hx:inZ c x=true):aboveB c p x=true↔aO c x=p\/aboveB c p (aO c x)=true:=by
 unfold aboveB;rw[K6,K6,cZ hr hx];exact⟨fun h=>h.imp Eq.symm id,fun h=>h.imp Eq.symm id⟩
theorem HX {c:ChD} (h:Full c) {act:List Int} (hg:Lg c act) {p:Int} (hp:p∈act) (hpl:ah c p=true) (hk:kidsL c p true≠[]):sB c p (innerL c (underL c act p))=true:=by
 have hr:=h.toRight;have hz: ∀x∈act,inZ c x=true:=fun x hx=>by obtain⟨_,_,h,_⟩:=hg.of hx;exact h
 have hub: ∀x∈underL c act p,x∈act/\aboveB c p x=true:=fun x hx=>Ke.1 hx;have hn:((underL c act p).filter (innerP c (underL c act p))).Nodup:=(hg.nodup.sublist Lp).sublist Lp;obtain⟨r1,r2⟩:=ly hn;have hin: ∀x,x∈innerL c (underL c act p)↔x∈underL c act p/\innerP c (underL c act p) x=true:=fun x=>by unfold innerL;rw[r2,Ke]
 have hkid: ∀x k,(x=p\/x∈underL c act p)->k∈kidZ c x->(k∈underL c act p↔k∈act):=fun x k hx hk=>by
  obtain⟨k1,k2,_⟩:=bK hr hk;refine⟨fun hh=>(hub k hh).1,fun hh=>Ke.2 ⟨hh,(aZ hr k1).2 ?_⟩⟩;rw[k2];exact hx.imp id fun hx=>(hub x hx).2
 have hpo:=hg.of hp;obtain⟨sp,hsp,hzp,_,_,hp1,_⟩:=hpo;have hkp:sp.kind=1:=by rw[bk hsp]at hpl;simpa using hpl
 obtain⟨k0,k1,k2,_,_⟩:=sx (hp1 hkp hk);have hk0:k0∈underL c act p:=(hkid p k0 (.inl rfl) k1).2 k2;obtain⟨y0,hy0,_⟩:=ot hr p (c.states.length+1) k0 (by have:=aH.1 (hz k0 k2);omega) hk0;have hne:innerL c (underL c act p)≠[]:=fun e=>by rw[e]at hy0;simp at hy0
 have hrise:fq (innerL c (underL c act p))=true:=by
  unfold fq;rw[K3,K7];refine⟨by simpa using hne,fun j hj=> ?_⟩;have hj:=Kw.1 hj;unfold upB;by_cases h0:j=0
  ·simp[h0]
  ·have:=LQ.1 r1 (j-1) j (by unfold innerL at hj;omega) hj (by omega);rw[Ll,Kh];right;rw[Kv,Kv,KZ hj,KZ (show j-1< (innerL c (underL c act p)).length by omega)];exact this
 have hleaf: ∀x∈innerL c (underL c act p),kidsL c x true=[]:=fun x hx=>by
  obtain⟨q1,q2⟩:=(hin x).1 hx;have hxa:=(hub x q1).1;obtain⟨s,hs,_,hm,_,f1,f2⟩:=hg.of hxa
  have hno: ∀k∈kidZ c x,k∉act:=fun k hk hh=>by
   unfold innerP at q2;have:((kidZ c x).any fun k=>(underL c act p).contains k)=true:=Lj.2 ⟨k,hk,by simpa using (hkid x k (.inr q1) hk).2 hh⟩;rw[this]at q2;cases q2
  have h0:=gd.2 hno;apply Me;intro hne;rcases ki h hs with⟨e,_⟩|⟨e,_⟩|⟨_,e⟩|⟨_,e⟩
  ·have:=f1 e hne;omega
  ·have:=f2 e;rw[h0]at this;exact hne (LS this.symm)
  ·exact hne e
  ·exact hne e
 have hmem: ∀x,x∈deepRA c p (innerL c (underL c act p))↔x∈underL c act p\/x=p:=fun x=>by
  unfold deepRA;rw[Kx,Kl,kY hr fun x hx=>hz x (hub x ((hin x).1 hx).1).1,gV.2];constructor
  ·rintro((a|⟨i,a,b,d,e⟩)|a)
   ·exact .inl ((hin x).1 a).1
   ·have hia:=(hub i ((hin i).1 a).1).1;exact .inl (Ke.2 ⟨hg.up hr (c.states.length+1) i x (by have:=aH.1 (hz i hia);omega) hia b d,e⟩)
   ·exact .inr a
  ·rintro(a|a)
   ·obtain⟨y,hy,e|e⟩:=ot hr p (c.states.length+1) x (by have:=aH.1 (hz x (hub x a).1);omega) a
    ·exact .inl (.inl (by rw[<-e];exact hy))
    ·exact .inl (.inr ⟨y,hy,e,(aH.1 (hz x (hub x a).1)).1,(hub x a).2⟩)
   ·exact .inr a
 unfold sB;rw[hrise,LN,K3,K7,K7];refine⟨fun x hx=> ?_,fun x hx=> ?_⟩
 ·obtain⟨q1,_⟩:=(hin x).1 hx;obtain⟨q3,q4⟩:=hub x q1;obtain⟨s,hs,_,hm,_⟩:=hg.of q3;unfold cj;rw[q4,hs,hleaf x hx];simp[hm]
 ·have hx:=(hmem x).1 hx;have hxa:x∈act:=hx.elim (fun a=>(hub x a).1) fun a=>by rw[a];exact hp
  obtain⟨s,hs,_,hm,_,f1,f2⟩:=hg.of hxa
  have hmany:manyI (deepRA c p (innerL c (underL c act p))) (kidsL c x true)=manyI act (kidsL c x true):=by
   unfold manyI
   congr 1
   apply MG;intro k hk;have hkz:(k:Int)∈kidZ c x:=Kb.2 ⟨k,hk,rfl⟩;rw[LC,K6,K6,hmem];refine⟨fun hh=>hh.elim (fun a=>(hub _ a).1) fun a=>by rw[a];exact hp,fun hh=> .inl ((hkid x k ?_ hkz).2 hh)⟩;exact hx.symm
  unfold ck;rw[hs];simp only;rw[hmany];rcases ki h hs with⟨e,_⟩|⟨e,_⟩|⟨e,_⟩|⟨e,_⟩
  ·by_cases hne:kidsL c x true=[]
   ·simp[e,hne,manyI]
   ·have:=f1 e hne;have hlen:0< (kidsL c x true).length:=Lw.2 hne;simp[e,this];omega
  ·simp[e,f2 e]
  ·simp[e]
  ·rcases e with e|e<;>simp[e]
theorem oU {c:ChD} (h:Full c) {k:Nat} {s:StD} (hs:c.states[k]? =some s) (hm:aT s=true):ah c s.parent=true/\ap c s.parent=true/\kidsL c s.parent true≠[]/\inZ c s.parent=true/\(s.kind=4\/s.kind=5):=by
 have hk:s.kind=4\/s.kind=5:=by unfold aT at hm;simpa using hm
 rcases h.cases hs with⟨e,_⟩|⟨e,_⟩|⟨e,_⟩|⟨_,_,hp,hi⟩
 ·omega
 ·omega
 ·omega
 ·unfold cc at hp;split at hp
  ·rename_i q hq;refine⟨by unfold ah;rw[hq];exact hp,?_,fun e=> ?_,?_,hk⟩
   ·unfold ap eG;rw[hq];simp only[hp,OS]
   ·rw[e]at hi;simp[inL]at hi
   ·unfold at_ at hq;split at hq
    ·rename_i h0;have:=(K0.1 hq).1;exact aH.2 ⟨h0,by omega⟩
    ·cases hq
  ·cases hp
theorem zW {c:ChD} (h:Full c) {act:List Int} (hg:Lg c act) {k:Nat} {s:StD} (hs:c.states[k]? =some s) (hm:aT s=true) (hp:s.parent∈act):
 rJ c act s.parent k=(if s.kind=5 then zL (Hq c (lO c act s.parent)) else(kidZ c s.parent).filter fun k=>act.contains k)/\k8 c ((k:Int),rJ c act s.parent k)=true:=by
 obtain⟨h1,h2,h3,h4,h5⟩:=oU h hs hm;have hat:at_ c (k:Int)=some s:=by rw[bI];exact hs
 have hv:rJ c act s.parent k=if s.kind=5 then innerL c (underL c act s.parent) else lX c act s.parent:=by
  unfold rJ;rw[hs]
 have hB: ∀v,k8 c ((k:Int),v)=if s.kind=4 then decide (v.length=1)&&(kidZ c s.parent).contains (v.getD 0 0) else(s.kind==5)&&deepB c s.parent v:=fun v=>by
  unfold k8;simp only[hat]
 by_cases e:s.kind=5
 ·rw[K5 e]at hv;rw[hv,hB,K5 e,K2 (by omega)];refine⟨B8 h.toRight hg _,?_⟩;rw[oz h h2,HX h hg hp h1 h3,e];rfl
 ·rw[K2 e]at hv;rw[hv,hB,K2 e,K5 (by omega)];obtain⟨sp,hsp,_,_,_,f1,_⟩:=hg.of hp;have hkp:sp.kind=1:=by rw[bk hsp]at h1;simpa using h1
  obtain⟨q,q1,q2,q3,q4⟩:=sx (f1 hkp h3);rw[q3,q4];refine⟨rfl,?_⟩;rw[K3];exact⟨rfl,K6.2 q1⟩
theorem ig {c:ChD} (h:Full c) {act gone:List Int} {mem:List MemD} (hl:lgB c act=true) (hm:bU c mem=true) (hgo: ∀x∈gone,x∈act):remL c act gone mem=Av c act gone mem/\bU c (remL c act gone mem)=true:=by
 have hg:=cx hl;obtain⟨hs,hmb⟩:=oQ hm;obtain⟨r1,r2⟩:=Ja (c:=c) (act:=act) (gone:=gone) hs
 have hall: ∀p∈remL c act gone mem,k8 c p=true:=fun p hp=>by
  rcases (r2 p).1 hp with⟨i,hi,hpl,k,hk,rfl⟩|⟨hp,_⟩
  ·obtain⟨s,hs,_,rfl,hmy⟩:=gC.1 hk;exact(zW h hg hs hmy (hgo _ hi)).2
  ·exact hmb p hp
 refine⟨I4 r1 ?_ fun p=> ?_,Im r1 hall⟩
 ·unfold Av eL Srt;rw[Ni];exact(Ao (p:=fun h=> !(refV c act gone mem h).isEmpty) (n:=c.states.length)).imp fun h=>by simp only;omega
 ·have href: ∀ {k:Nat} {s:StD},c.states[k]? =some s->aT s=true->refV c act gone mem k=if gone.contains s.parent=true then rJ c act s.parent k else ofM mem k:=fun {k s} hs hmy=>by
   unfold refV;rw[hs];simp only;rw[K5 hmy];split
   ·rename_i hc;exact((zW h hg hs hmy (hgo _ (K6.1 hc))).1).symm
   ·rfl
  have hR:p∈Av c act gone mem↔ ∃k:Nat,k<c.states.length/\refV c act gone mem k≠[]/\p=((k:Int),refV c act gone mem k):=by
   unfold Av eL;rw[Kb];constructor
   ·rintro⟨k,hk,rfl⟩;obtain⟨a,b⟩:=Ke.1 hk;exact⟨k,Kw.1 a,by simpa using b,rfl⟩
   ·rintro⟨k,a,b,rfl⟩;exact⟨k,Ke.2 ⟨Kw.2 a,by simpa using b⟩,rfl⟩
  rw[hR];constructor
  ·intro hp;obtain⟨k,s,e1,hs',hmy,hne⟩:=Cx (hall p hp)
   have hv:refV c act gone mem k=p.2:=by
    rw[href hs' hmy];rcases (r2 p).1 hp with⟨i,hi,hpl,k',hk',rfl⟩|⟨hpm,hnt⟩
    ·obtain⟨s2,hs2,_,e2,_⟩:=gC.1 hk';have e1':((k':Nat):Int)=k:=e1;have:k'=k:=by omega
     subst this;rw[hs']at hs2;cases hs2;rw[K5 (by rw[e2];exact K6.2 hi),e2]
    ·rw[K2, <-e1,Ct hs hpm];intro hc;have hi:=K6.1 hc;obtain⟨p1,_,_,p4,_⟩:=oU h hs' hmy;exact hnt ⟨s.parent,hi,p1,k,gC.2 ⟨s,hs',p4,rfl,hmy⟩,e1⟩
   refine⟨k,(K0.1 hs').1,by rw[hv];exact hne,?_⟩;rw[hv, <-e1]
  ·rintro⟨k,hk,hne,rfl⟩;obtain⟨s,hs'⟩: ∃s,c.states[k]? =some s:=⟨_,KZ hk⟩
   have hmy:aT s=true:=by
    cases hb:aT s with
    |true=>rfl
    | false=>
      unfold refV at hne;rw[hs']at hne;simp[hb]at hne
   obtain⟨p1,_,_,p4,_⟩:=oU h hs' hmy;rw[href hs' hmy]at hne |-;rw[r2];split
   ·rename_i hc;exact .inl ⟨s.parent,K6.1 hc,p1,k,gC.2 ⟨s,hs',p4,rfl,hmy⟩,rfl⟩
   ·rename_i hc;rw[K2 hc]at hne;refine .inr ⟨?_,?_⟩
    ·apply Me;intro hno;cases hf:mem.find? (fun m=>m.1==(k:Int)) with
     |none=>unfold ofM at hne;rw[hf]at hne;exact hne rfl
     | some q=>
       have a:=N8 hf;have b:=MQ hf;simp only[L5]at a;have:=Ct hs b;rw[a]at this;rw[this, <-a]at hno;exact hno b
    ·rintro⟨i,hi,_,k',hk',e⟩;have e':((k:Nat):Int)=k':=e;have e:k=k':=by omega
     subst e;obtain⟨s2,hs2,_,e2,_⟩:=gC.1 hk';rw[hs']at hs2;cases hs2;rw[<-e2]at hi;exact hc (K6.2 hi)
/-! Moves -/
end
section
def undR (c:ChD) (act:List Int) (i:Int):List Int:=(zL (sortL c act)).filter (aboveB c i)
def gK (c:ChD) (l:List Int) (i:Int) (j:Nat):List Int:=(l.take j).filter (aboveB c i)
theorem lu {c:ChD} {l:List Int} {i:Int} {j:Nat} {x:Int} (h:l[j]? =some x):gK c l i (j+1)=if aboveB c i x then gK c l i j++[x] else gK c l i j:=by
 unfold gK;rw[Ky,h,LE];cases hb:aboveB c i x<;>simp[hb]
theorem o8 (c:ChD) (l:List Int) (i:Int) (j:Nat):(gK c l i j).length<=l.length:=by
 unfold gK;exact Km (Kq ..) (by rw[Kg];omega)
theorem cH {c:ChD} (hc:Right c) (act:List Int):(sortL c act).length<=32:=by
 unfold sortL;split
 ·exact Km (Kq ..) (sX hc (by omega))
 ·simp
theorem zc (env:Env) (c:ChD) (hc:Right c) (act:List Int) (hl:act.length<=1000000) (d:Int):Con prog env 136 [aJ c, .seq 1 (act.map intAV),I d] (.own 3 1 ((undR c act d).reverse.map intAV)):=by
 have f1:=bL env c;have f2:=fP env c hc act hl;have hsl:=cH hc act;rw[<-bc]at f2;unfold undR;have hsl:(zL (sortL c act)).length<=32:=by rw[an];exact hsl
 generalize zL (sortL c act)=L at*;unfold aJ aP at f1;unfold aP at f2;unfold aJ;refine qf func136 call136 ntmps136 results136 ?_;repeat refine Ce f1 f2 ?_
 refine aj 7 7 3 1 ?_;refine lq0 L.length (by omega) (fun j vs=>[(0, .ref 9 [tabCells c] 0 0),(2,I d),(7, .row 7 (vs 7)),(13, .row 13 (vs 13)),(14,I L.length),(15,I j)]) (fun j _=>[(7,⟨1,(gK c L d j).map intAV,3,true⟩),(13,⟨1,L.map intAV,3,true⟩)]) (fun j _ esc=>esc 7=false) rfl ?_ ?_
 ·rintro j ws esc hlt q1 q2 e0;obtain⟨x,hx⟩:=gE hlt;have f3:=eu env c hc d x;unfold aP at f3;have hil:=o8 c L d j;have hf:Fits ((gK c L d j).length+1) 8:=aC (by omega) (by omega);have hn:=lu (c:=c) (i:=d) hx;cases hb:aboveB c d x with
  | true=>
    rw[hb]at f3;rw[hb,K5 rfl]at hn;have F:=ai5 q1 q2 hx hf e0;repeat refine tz2 f1 f3 ?_
    refine⟨j+1,⟨hlt,by simp only[go_sem,e0]⟩,?_,?_,by omega⟩
    ·exact qe
    ·have F:=ai hn @Ka.{0,0};exact qe
  | false=>
    rw[hb]at f3;rw[hb,K2 LO]at hn;have F:=ai5 q1 q2 hx hf e0;repeat refine tz2 f1 f3 ?_
    refine⟨j+1,⟨hlt,by simp only[go_sem,e0]⟩,?_,?_,by omega⟩
    ·exact qe
    ·have F:=ai hn @Ka.{0,0};exact qe
 ·rintro ws esc q1 e0;have hall:gK c L d L.length=L.filter (aboveB c d):=by unfold gK;rw[Kt]
  rw[hall];have hfl:(L.filter (aboveB c d)).length<=32:=Km (Kq ..) hsl;generalize L.filter (aboveB c d)=U at*;have f4:=qu U (by omega);have F:=ai q1 e0;repeat refine st ?_
  refine nL 7 rfl (row:=⟨1,U.map intAV,3,true⟩) f4 (LL 0) rfl (bl _).symm (by simp only[go_sem,e0];exact iR) (by simp only[go_sem,e0];exact iR) (by simp only[go_sem,e0];exact iR) (by simp only[go_sem,e0];exact iR) ?_;rw[bl];repeat refine st ?_
  exact aR
theorem Be (env:Env) (a1 a8:Addr) (he:ChEnv env a1 a8) (s:List UInt8):Con prog env 135 [Sg s] (errV (-1) (sentV a1)):=by
 have g1:=jz he.e1;have f0:=cn env s a1;refine qf func135 call135 ntmps135 results135 ?_;have F:=g1;repeat refine tz1 f0 ?_
 exact aR
def leaveR (c:ChD) (act:List Int) (t:TrD):List Int:=if t.target<0 then [] else(undR c act (domE c t.src t.target)).reverse
theorem wB (env:Env) (a1 a8:Addr) (he:ChEnv env a1 a8) (c:ChD) (h:Full c) (hs:Small c) (act:List Int) (hl:act.length<=1000000) (k:Nat) (t:TrD) (ht:c.trans[k]? =some t) (hb:lgB c act=true):Con prog env 72 [aJ c, .seq 1 (act.map intAV),I k] (.tuple [.seq 1 ((leaveR c act t).map intAV),nilE]):=by
 have f0:=cQ env a1 a8 he c h hs act hl;have f1:=nO env c hs k t ht;have f2:=mR env c h.toRight hs t (h.src ht).1;have f3:=zc env c h.toRight act hl (domE c t.src t.target);unfold uO at f0;rw[hb]at f0;simp only[L1]at f0;unfold leaveR;unfold az at f1 f2;unfold aJ at f0 f1 f2 f3 |-;by_cases h0:t.target<0
 ·rw[K5 h0];refine qw func72 call72 ntmps72 results72 ?_;have F:=h0;repeat refine tz4 f0 f1 f2 f3 ?_
  (refine aM ?_;refine⟨_,(by show (ae _ _ _).run _=some _;simp only[go_sem,F];rfl),?_⟩)
  exact .of (.tuple (.cons (.nil 1) (.cons (.refl _) .nil))) (fun _ _ _ h=>by cases h) (fun _ _ _ h=>by cases h)
 ·rw[K2 h0];refine qf func72 call72 ntmps72 results72 ?_;have F:=h0;repeat refine tz4 f0 f1 f2 f3 ?_
  exact aR
theorem IP {l:List Int} (h: ∀x∈l,0<=x):l=zL (l.map Int.toNat):=by
 unfold zL;rw[Ms]
 conv=>lhs;rw[<-List.map_id l]
 refine MN fun x hx=> ?_;have:=h x hx;simp only[id_eq,Function.comp];omega
theorem qx (env:Env) (c:ChD) (hc:Right c) (act:List Int) (hl:act.length<=1000000) (hz: ∀x∈act,0<=x):Con prog env 36 [.agg (aA c), .seq 1 (act.map intAV)] (.own 3 1 ((sortL c act).map aB)):=by
 have f:=ob env c hc (act.map Int.toNat) (by rw[Ko];exact hl);rw[<-bc, <-IP hz]at f;exact f
theorem mf (env:Env) (c:ChD) (hc:Right c) (act:List Int) (hl:act.length<=1000000) (hz: ∀x∈act,0<=x) (i:Int):Con prog env 77 [.agg (aA c), .seq 1 (act.map intAV),I i] (.own 3 1 ((undR c act i).map intAV)):=by
 have f2:=qx env c hc act hl hz;have hsl:=cH hc act;rw[<-bc]at f2;unfold undR;have hsl:(zL (sortL c act)).length<=32:=by rw[an];exact hsl
 generalize zL (sortL c act)=L at*;unfold aA at f2;refine qf func77 call77 ntmps77 results77 ?_;have F:=aA.eq_1;repeat refine tz1 f2 ?_
 have F:=aA.eq_1;refine lq L.length (by omega) (fun j vs=>[(2,I i),(3, .loc 3 (vs 3) 0 0),(7, .row 10 (vs 10)),(8, .row 13 (vs 13)),(9,I j)]) (fun j _=>[(3,⟨5,[aA c],26,false⟩),(10,⟨1,(gK c L i j).map intAV,3,true⟩),(13,⟨1,L.map intAV,3,true⟩)]) (fun j _ esc=>esc 10=false) rfl ?_ ?_
 ·rintro j ws esc hlt q1 q2 e0;obtain⟨x,hx⟩:=gE hlt;have f3:=gM env c hc i x;unfold aA at f3;have hil:=o8 c L i j;have hf:Fits ((gK c L i j).length+1) 8:=aC (by omega) (by omega);have hn:=lu (c:=c) (i:=i) hx;cases hb:aboveB c i x with
  | true=>
    rw[hb]at f3;rw[hb,K5 rfl]at hn;have F:=ai6 aA.eq_1 q1 q2 hx hf e0;repeat refine tz1 f3 ?_
    refine⟨j+1,⟨hlt,by simp only[go_sem,e0]⟩,?_,?_,by omega⟩
    ·exact qe
    ·have F:=ai3 aA.eq_1 hn @Ka.{0,0};exact qe
  | false=>
    rw[hb]at f3;rw[hb,K2 LO]at hn;have F:=ai6 aA.eq_1 q1 q2 hx hf e0;repeat refine tz1 f3 ?_
    refine⟨j+1,⟨hlt,by simp only[go_sem,e0]⟩,?_,?_,by omega⟩
    ·exact qe
    ·have F:=ai3 aA.eq_1 hn @Ka.{0,0};exact qe
 ·rintro ws esc q1 e0;have hall:gK c L i L.length=L.filter (aboveB c i):=by unfold gK;rw[Kt]
  rw[hall];have F:=ai q1 e0;repeat refine st ?_
  exact aR
def mC (l:List Int) (m:Nat):List Int:=(l.drop (l.length-m)).reverse
theorem Ap {l:List Int} {m:Nat} {x:Int} (hm:m<l.length) (h:l[l.length-m-1]? =some x):mC l (m+1)=mC l m++[x]:=by
 unfold mC;rw[show l.length-(m+1)=l.length-m-1 by omega];obtain⟨h1,rfl⟩:=K0.1 h;rw[MP h1,Ot]
 congr 3
 omega
theorem lQ (env:Env) (l:List Int) (hl:l.length<=1000000):Con prog env 35 [.seq 1 (l.map intAV)] (.own 3 1 (l.reverse.map intAV)):=by
 have g0:IntKind.i64.wrap ((l.length:Int)-1)=(l.length:Int)-1-((0:Nat):Int):=by rw[aU (by omega) (by omega)];omega
 refine qf func35 call35 ntmps35 results35 ?_;have F:=g0;repeat refine st ?_
 refine aI (D:=Nat) (fun m vs=>[(0, .seq 1 (l.map intAV)),(3, .row 5 (vs 5)),(4,I ((l.length:Int)-1-(m:Int)))]) (fun m _=>[(5,⟨1,(mC l m).map intAV,3,true⟩)]) (fun m _ esc=>m<=l.length/\esc 5=false) (fun m=>l.length-m) 0 ?_ ?_ ?_ ?_
 ·exact⟨Kj _,rfl⟩
 ·exact qe
 ·have:mC l 0=[]:=by unfold mC;simp
  rw[this]
  (simp only[go_sem,F])
  try rfl
 rintro m ws esc ⟨hm,e0⟩;have hrl:(mC l m).length=m:=by unfold mC;rw[MO,ME];omega
 by_cases hlt:m<l.length
 ·obtain⟨x,hx⟩: ∃x,l[l.length-m-1]? =some x:=⟨l[l.length-m-1]'(by omega),KZ _⟩;have q0:(l.length:Int)-1-(m:Int)=((l.length-m-1:Nat):Int):=by omega
  have q1:(0:Int)<=((l.length-m-1:Nat):Int):=by omega
  have q2:IntKind.i64.wrap (((l.length-m-1:Nat):Int)-1)=(l.length:Int)-1-((m+1:Nat):Int):=by rw[aU (by omega) (by omega)];omega
  have q3:((l.length-m-1:Nat):Int)< (l.length:Int):=by omega
  have hf:Fits ((mC l m).length+1) 8:=⟨by omega,by omega⟩;have hn:=Ap hlt hx;rw[q0];have F:=ai6 hx q1 q2 q3 hf e0;repeat refine st ?_
  refine⟨m+1,⟨hlt,by simp only[go_sem,e0]⟩,?_,?_,by omega⟩
  ·exact qe
  ·have F:=ai hn @Ka.{0,0};exact qe
 ·obtain rfl:m=l.length:=by omega
  have q1: ¬(0:Int)<=(l.length:Int)-1-(l.length:Int):=by omega
  have hall:mC l l.length=l.reverse:=by unfold mC;simp
  rw[hall];have F:=ai q1 e0;repeat refine st ?_
  exact aR
theorem wQ (env:Env) (c:ChD) (h:Full c) (act:List Int) (hl:act.length<=1000000) (hz: ∀x∈act,0<=x) (k:Nat) (t:TrD) (ht:c.trans[k]? =some t):Con prog env 34 [.agg (aA c), .seq 1 (act.map intAV), .agg (az t)] (.own 3 1 ((leaveR c act t).map intAV)):=by
 have f1:=lR env c h.toRight t (h.src ht).1;have f2:=mf env c h.toRight act hl hz (domE c t.src t.target);have hul:(undR c act (domE c t.src t.target)).length<=32:=Km (Kq ..) (by rw[an];exact cH h.toRight act);have f3:=lQ env (undR c act (domE c t.src t.target)) (by omega);unfold leaveR;unfold az at f1;unfold aA at f1 f2;by_cases h0:t.target<0
 ·rw[K5 h0];refine qw func34 call34 ntmps34 results34 ?_;have F:=ai3 az.eq_1 aA.eq_1 h0;repeat refine tz3 f1 f2 f3 ?_
  (refine aM ?_;refine⟨_,(by show (ae _ _ _).run _=some _;simp only[go_sem,F];rfl),?_⟩)
  exact fo.own_nil _ _ (by decide)
 ·rw[K2 h0];refine qf func34 call34 ntmps34 results34 ?_;have F:=ai3 az.eq_1 aA.eq_1 h0;repeat refine tz3 f1 f2 f3 ?_
  exact aR
end
section
def GG:List Int->Int->Nat->Option Nat
 |[],_,_=>none
 |x::l,k,n=>if k=x then some n else GG l k (n+1)
theorem lA {k:Int} : ∀ {l:List Int} {n:Nat},k∉l->GG l k n=none
 |[],_,_=>rfl
 | x::l,n,h=>by
   unfold GG;rw[K2 (fun e=>h (by rw[e];exact N6 ..)),lA (fun hh=>h (Ly _ hh))]
theorem ou {k:Int} : ∀ {l:List Int} {n:Nat},k∈l-> ∃i,GG l k n=some (n+i)/\l[i]? =some k
 |[],n,h=>by cases h
 | x::l,n,h=>by
   unfold GG;by_cases e:k=x
   ·exact⟨0,by rw[K5 e];rfl,by rw[e];rfl⟩
   ·obtain⟨i,h1,h2⟩:=ou (n:=n+1) ((Kr.1 h).resolve_left e);exact⟨i+1,by rw[K2 e,h1];congr 1;omega,by simpa using h2⟩
def fv (l:List Int):List (List AV):=l.map fun k=>[I k,I 1]
theorem lV (k:Int): ∀(l:List Int) (n:Nat),mfind prog 3 (I k) (fv l) n=some (GG l k n)
 |[],n=>rfl
 | x::l,n=>by
   have ih:=lV k l (n+1);unfold fv at ih |-;unfold GG;by_cases e:k=x
   ·have e1:(k==x)=true:=by simp[e]
    simp only[go_sem,cA,cN,LR,e1,K5 e]
   ·have e1:(k==x)=false:=by simpa using e
    simp only[go_sem,cA,cN,LR,e1,K2 e,ih]
theorem u6 (env:Env) (o:List Int) (i:Int) (ho:o.length<=4000) (te:TypeId):ConI prog env 226 [1000,1001] (fun k=>k==1001) (fun vs=>[I i, .loc 1000 (vs 1000) 0 0]) (fun vs=>[(1000,⟨1,[[.row 1001 (vs 1001)]],te,false⟩),(1001,⟨1,o.map intAV,3,true⟩)]) (fun vs=>[(1000,⟨1,[[.row 1001 (vs 1001)]],te,false⟩),(1001,⟨1,(addU o i).map intAV,3,true⟩)]) (fun _=> .lit (.tuple #[])):=by
 have f0:=(bG env o i (by omega)).lend rfl;unfold addU;cases hc:o.contains i with
 | true=>
   rw[hc]at f0;simp only[L1];refine qi func226 call226 ntmps226 results226 ?_;intro vs esc hesc;obtain⟨e0,e1⟩:=es2 hesc;have F:=ai e0 e1;repeat refine st ?_
   refine lL f0 ?_;repeat refine st ?_
   exact rN
 | false=>
   rw[hc]at f0;have hf:Fits (o.length+1) 8:=aC (by omega) (by omega);simp only[Ku,Ld,Ka];refine qi func226 call226 ntmps226 results226 ?_;intro vs esc hesc;obtain⟨e0,e1⟩:=es2 hesc;have F:=ai3 e0 e1 hf;repeat refine st ?_
   refine lL f0 ?_;repeat refine st ?_
   exact rN
theorem gf {c:ChD} {a:List Int} (hn:a.Nodup) (hz: ∀x∈a,inZ c x=true):a.length<=c.states.length:=by
 have:=kZ (c:=c) (l:=[]) hn fun k hk=>⟨by simp,hz k hk⟩;have:=Cv c [];omega
theorem EA {c:ChD} {d:Int} {o U:List Int} {m:Nat} {k:Int} (h:U[m]? =some k):upTo c d o U (m+1)=if 0<=k/\aboveB c d k=true then addU (upTo c d o U m) k else upTo c d o U m:=bu _ _ h
theorem AX {c:ChD} {d:Int} {l:List Int} {j:Nat} {k:Int} (h:l[j]? =some k):upsTo c d l (j+1)=upTo c d (addU (upsTo c d l j) k) (upL c k) (upL c k).length:=bu _ _ h
theorem Dz {c:ChD} (hc:Right c) {d:Int} {l:List Int} (hz: ∀x∈l,inZ c x=true) {j:Nat} (hj:j<=l.length):(upsTo c d l j).Nodup/\(∀x∈upsTo c d l j,inZ c x=true)/\(upsTo c d l j).length<=32:=by
 obtain⟨h1,h2⟩:=sY (c:=c) (d:=d) (l:=l) j hj
 have h3: ∀x∈upsTo c d l j,inZ c x=true:=fun x hx=>by
  rcases (h2 x).1 hx with h|⟨i,h,q1,q2,_⟩
  ·exact hz x (MV h)
  ·exact(gG hc q1 q2).1
 exact⟨h1,h3,Km (gf h1 h3) hc.few⟩
theorem GL {c:ChD} (hc:Right c) {d i:Int} {o:List Int} (hn:o.Nodup) (hz: ∀x∈o,inZ c x=true) {m:Nat} (hm:m<=(upL c i).length):(upTo c d o (upL c i) m).Nodup/\(∀x∈upTo c d o (upL c i) m,inZ c x=true)/\(upTo c d o (upL c i) m).length<=32:=by
 obtain⟨h1,h2⟩:=wh (c:=c) (d:=d) (U:=upL c i) m hm hn
 have h3: ∀x∈upTo c d o (upL c i) m,inZ c x=true:=fun x hx=>by
  rcases (h2 x).1 hx with h|⟨h,q2,_⟩
  ·exact hz x h
  ·exact(gG hc (MV h) q2).1
 exact⟨h1,h3,Km (gf h1 h3) hc.few⟩
theorem Hl (env:Env) (c:ChD) (hc:Right c) (l:List Int) (hl:l.length<=1000000) (hz: ∀x∈l,inZ c x=true) (d:Int):Con prog env 188 [aJ c, .seq 1 (l.map intAV),I d] (.own 3 1 ((upsL c l d).map intAV)):=by
 have hlen:=hc.few;have f1:=bL env c;unfold aJ aP at f1;unfold aJ;refine qf func188 call188 ntmps188 results188 ?_;repeat refine st0 ?_
 refine nC0 7 9000 0 0 3 1 ?_;refine lq0 l.length (by omega) (fun j vs=>[(0, .ref 9 [tabCells c] 0 0),(2,I d),(7, .loc 7 (vs 7) 0 0),(8, .clo 226 [.loc 7 (vs 7) 0 0]),(14, .seq 1 (l.map intAV)),(15,I l.length),(16,I j)]) (fun j vs=>[(7,⟨1,[[.row 9000 (vs 9000)]],27,false⟩),(9000,⟨1,(upsTo c d l j).map intAV,3,true⟩)]) (fun j _ esc=>esc 7=false/\esc 9000=false) ⟨rfl,rfl⟩ ?_ ?_
 ·rintro j ws esc hlt q1 q2 ⟨e0,e1⟩;have hj:=PE hlt;obtain⟨x,hx⟩:=gE hlt;obtain⟨n1,n2,n3⟩:=Dz hc (d:=d) hz hj;have hxz:=hz x (K4 hx);have hn:=AX (c:=c) (d:=d) hx;have fa:=u6 env (upsTo c d l j) x (by omega) 27;have f2:=wj env c hc x;unfold aP at f2;have m1:=mX n1 x;have m2: ∀y∈addU (upsTo c d l j) x,inZ c y=true:=fun y hy=>(tY.1 hy).elim (n2 y) fun e=>by rw[e];exact hxz
  have hfew:=fun m hm=>GL hc (d:=d) (i:=x) m1 m2 (m:=m) hm;have hUl:(upL c x).length<=40:=lK 40 x
  have hUr: ∀y∈upL c x,y<0\/inZ c y=true:=fun y hy=>by
   rcases OR y 0 with h|h
   ·exact .inl h
   ·exact .inr (gG hc hy h).1
  generalize addU (upsTo c d l j) x=o at*;generalize upL c x=U at*;have z0:upTo c d o U 0=o:=rfl;have F:=ai5 hx q1 q2 e0 e1;repeat refine st ?_
  refine oG [(1000,7),(1001,9000)] (bw rfl (by simp only[go_sem,F];exact iR)) (fa) (by decide) (by decide) (by simp only[go_sem,F]<;>rfl) (by simp only[go_sem,F,Kk]<;>trivial) (by simp only[go_sem,F,Kk]<;>trivial) (by intro o;simp only[go_sem,F,behind,Kk]<;>trivial) (by intro o;simp only[go_sem,F]<;>rfl) (by simp only[go_sem,F,behind];exact iR) (by simp only[go_sem,F,behind];exact iR) ?_;repeat refine tz2 f1 f2 ?_
  refine aI (D:=Nat) (fun m vs=>[(0, .ref 9 [tabCells c] 0 0),(2,I d),(7, .loc 7 (vs 7) 0 0),(8, .clo 226 [.loc 7 (vs 7) 0 0]),(14, .seq 1 (l.map intAV)),(15,I l.length),(16,I j),(26, .row 26 (vs 26)),(27,I U.length),(28,I m)]) (fun m vs=>[(7,⟨1,[[.row 9000 (vs 9000)]],27,false⟩),(9000,⟨1,(upTo c d o U m).map intAV,3,true⟩),(26,⟨1,U.map intAV,3,true⟩)]) (fun m _ esc=>m<=U.length/\esc 7=false/\esc 9000=false) (fun m=>U.length-m) 0 ?_ ?_ ?_ ?_
  ·exact⟨Kj _,by simp only[go_sem,e0],by simp only[go_sem,e1]⟩
  ·(simp only[go_sem,F])
   try rfl
  ·have F:=z0
   (simp only[go_sem,F])
   try rfl
  try clear e0 e1
  rintro m vs es ⟨hm,e0,e1⟩;obtain⟨k1,k2,k3⟩:=hfew m hm;by_cases hml:m<U.length
  ·obtain⟨y,hy⟩:=gE hml;have p1:=nlt hml;have p2:=aD hml (by omega);have hnm:=EA (c:=c) (d:=d) (o:=o) hy;have fb:=u6 env (upTo c d o U m) y (by omega) 27;have f3:=eu env c hc d y;unfold aP at f3;rcases hUr y (K4 hy) with h0|hyz
   ·have h1: ¬0<=y:=by omega
    rw[K2 (fun q=>h1 q.1)]at hnm;have F:=ai6 hy p1 p2 h1 e0 e1;repeat refine tz2 f1 f3 ?_
    refine⟨m+1,⟨hml,by simp only[go_sem,e0],by simp only[go_sem,e1]⟩,?_,?_,by omega⟩
    ·exact qe
    ·have F:=hnm;exact qe
   ·have h1:=(aH.1 hyz).1;cases hab:aboveB c d y with
    | false=>
      rw[hab]at f3 hnm;rw[K2 (by simp)]at hnm;have F:=ai6 hy p1 p2 h1 e0 e1;repeat refine tz2 f1 f3 ?_
      refine⟨m+1,⟨hml,by simp only[go_sem,e0],by simp only[go_sem,e1]⟩,?_,?_,by omega⟩
      ·exact qe
      ·have F:=hnm;exact qe
    | true=>
      rw[hab]at f3 hnm;rw[K5 ⟨h1,rfl⟩]at hnm;generalize upTo c d o U m=a at*;have F:=ai6 hy p1 p2 h1 e0 e1;repeat refine tz2 f1 f3 ?_
      refine oG [(1000,7),(1001,9000)] (bw rfl (by simp only[go_sem,F];exact iR)) (fb) (by decide) (by decide) (by simp only[go_sem,F]<;>rfl) (by simp only[go_sem,F,Kk]<;>trivial) (by simp only[go_sem,F,Kk]<;>trivial) (by intro o;simp only[go_sem,F,behind,Kk]<;>trivial) (by intro o;simp only[go_sem,F]<;>rfl) (by simp only[go_sem,F,behind];exact iR) (by simp only[go_sem,F,behind];exact iR) ?_;repeat refine st ?_
      refine⟨m+1,⟨hml,by simp only[go_sem,e0],by simp only[go_sem,e1]⟩,?_,?_,by omega⟩
      ·exact qe
      ·have F:=hnm;exact qe
  ·obtain rfl:m=U.length:=by omega
   have p1:=nl U.length;have F:=ai4 p1 q2 e0 e1;repeat refine st ?_
   refine⟨j+1,⟨hlt,by simp only[go_sem,e0],by simp only[go_sem,e1]⟩,?_,?_,by omega⟩
   ·exact qe
   ·have F:=hn;exact qe
 ·rintro ws esc q1 ⟨e0,e1⟩;show awp _ _ _ _ _ _;have hall:upsTo c d l l.length=upsL c l d:=rfl;rw[hall];have F:=ai3 q1 e0 e1;repeat refine st ?_
  exact aR
end

end Go.Proofs.YtdpjgflalmnkdaaGreatDoor