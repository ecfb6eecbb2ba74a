/- Ways up and growing, as the program does them. -/
import Derived.Test.YtbjldjekgepopaaGreatDoorT17
set_option maxRecDepth 100000
set_option maxHeartbeats 16000000
set_option linter.unusedSimpArgs false
namespace Go.Proofs.YtbjldjekgepopaaGreatDoor
open Go.Proofs.Tryz
open Go.RowKit
section
/-! Legal states -/
theorem G2 {l:List Int} (h: ∀j,0<j->j<l.length->l.getD (j-1) 0<l.getD j 0):l.Pairwise (· < ·):=by
 rw[LH];intro i j hi hj hij
 have key: ∀d,i+d+1<l.length->l.getD i 0<l.getD (i+d+1) 0:=fun d=>by
  induction d with
  |zero=>intro hd;simpa using h (i+1) (by omega) (by omega)
  | succ d ih=>
    intro hd;have h1:=ih (by omega);have h2:=h (i+d+1+1) (by omega) (by omega);have e:i+(d+1)+1=i+d+1+1:=by omega
    rw[e];simp only[Ms]at h2;omega
 have:=key (j-i-1) (by omega);rw[show i+(j-i-1)+1=j by omega]at this;simpa[Ko,KV hi,KV hj]using this
structure Lg (c:ChD) (act:List Int):Prop where
 rise:act.Pairwise (· < ·)
 fit: ∀x∈act,∃s,at_ c x=some s/\qM c act x.toNat s=true
 top:manyI act (kidsL c (-1) true)=1
theorem e9 {c:ChD} {act:List Int} (h:lgB c act=true):Lg c act:=by
 obtain⟨h1,h2⟩:=xe.1 h
 have h3: ∀j (hj:j<act.length),(j==0||decide (act.getD (j-1) 0<act[j]))=true/\tm c act act[j]=true:=fun j hj=>by
  have:=h1 j hj;unfold tj at this;rw[KV hj]at this;simpa only[KY]using this
 refine⟨G2 fun j h0 hj=> ?_,fun x hx=> ?_,h2⟩
 ·have:=(h3 j hj).1;have hne:(j==0)=false:=by simp;omega
  rw[hne,Lu,K6]at this;simpa[Ko,KV hj]using this
 ·obtain⟨j,hj,rfl⟩:=NO.1 hx;have:=(h3 j hj).2;unfold tm at this;split at this
  ·rename_i s hs;exact⟨s,hs,this⟩
  ·cases this
theorem Lg.of {c:ChD} {act:List Int} (h:Lg c act) {x:Int} (hx:x∈act): ∃s,at_ c x=some s/\inZ c x=true/\aS s=false/\(aO c x<0\/aO c x∈act)/\(s.kind=1->kidsL c x true≠[]->manyI act (kidsL c x true)=1)/\(s.kind=2->manyI act (kidsL c x true)=(kidsL c x true).length):=by
 obtain⟨s,hs,hf⟩:=h.fit x hx
 have h0:0<=x/\c.states[x.toNat]? =some s:=by
  unfold at_ at hs;split at hs
  ·exact⟨by assumption,hs⟩
  ·cases hs
 obtain⟨k,rfl⟩: ∃k:Nat,x=k:=⟨x.toNat,by omega⟩;have hk:=(KW.1 h0.2).1;have hp:aO c (k:Int)=s.parent:=by unfold aO;rw[hs]
 unfold qM at hf;rw[Lj,KY,KY]at hf;obtain⟨⟨f1,f2⟩,f3⟩:=hf;refine⟨s,hs,aI.2 ⟨by omega,by simpa using hk⟩,by simpa using f1,?_,fun e hne=> ?_,fun e=> ?_⟩
 ·rw[hp];rw[Lb,K6]at f2;exact f2.imp id fun f2=>by simpa using f2
 ·rw[K0 ⟨e,hne⟩]at f3;simpa using f3
 ·rw[KZ (fun q=>by omega),K0 e]at f3;simpa using f3
theorem Lg.real {c:ChD} {act:List Int} (h:Lg c act) {x:Int} (hx:x∈act) {s:StD} (hs:at_ c x=some s):s.kind≠4/\s.kind≠5:=by
 obtain⟨s',e,_,hm,_⟩:=h.of hx;rw[hs]at e;cases e;unfold aS at hm;simpa using hm
theorem Lg.nodup {c:ChD} {act:List Int} (h:Lg c act):act.Nodup:=h.rise.imp fun h=>by omega
theorem Lg.up {c:ChD} (hr:Right c) {act:List Int} (h:Lg c act): ∀(n:Nat) (x k:Int),x<n->x∈act->k∈upL c x->0<=k->k∈act
 | 0,x,k,hn,hx,hk,h0=>by
   obtain⟨_,_,hz,_⟩:=h.of hx;have:=aI.1 hz;omega
 | n+1,x,k,hn,hx,hk,h0=>by
   obtain⟨_,_,hz,_,hp,_⟩:=h.of hx;rw[cQ hr hz]at hk;have:=dH hr hz;rcases hk with rfl|hk
   ·exact hp.resolve_left (by omega)
   ·rcases hp with hp|hp
    ·rw[cE (by unfold inZ;rw[Ky (by omega),LF])]at hk;simp at hk
    ·exact Lg.up hr h n _ k (by omega) hp hk h0
theorem iy {c:ChD} (hr:Right c) {l:List Int} (hl: ∀x∈l,inZ c x=true) {x:Int} :x∈zL (sortL c l)↔x∈l:=by
 have ha:l.all (inZ c)=true:=K2.2 hl;unfold sortL;rw[K0 ha];constructor
 ·intro hx;obtain⟨k,hk,rfl⟩:=K9.1 hx;simpa using (Kb.1 hk).2
 ·intro hx;have hz:=aI.1 (hl x hx);refine K9.2 ⟨x.toNat,Kb.2 ⟨?_,?_⟩,by omega⟩
  ·exact(jG hr _).2 (by omega)
  ·have e:((x.toNat:Nat):Int)=x:=by omega
   rw[e];simpa using hx
/-! Memories in their order -/
def kO:List MemD->MemD->List MemD
 |[],m=>[m]
 |x::r,m=>if x.1<m.1 then x::kO r m else if x.1=m.1 then m::r else m::x::r
abbrev Srt (l:List MemD):Prop:=l.Pairwise fun a b=>a.1<b.1
theorem nF {m p:MemD} : ∀ {l:List MemD},Srt l->(p∈kO l m↔p=m\/(p∈l/\p.1≠m.1))
 |[],_=>by simp[kO]
 | x::r,h=>by
   obtain⟨h1,h2⟩:=MA.1 h;unfold kO;split
   ·rename_i hlt;rw[Kk,nF h2,Kk];constructor
    ·rintro(rfl|rfl|⟨a,b⟩)
     ·exact .inr ⟨.inl rfl,by omega⟩
     ·exact .inl rfl
     ·exact .inr ⟨.inr a,b⟩
    ·rintro(rfl|⟨rfl|a,b⟩)
     ·exact .inr (.inl rfl)
     ·exact .inl rfl
     ·exact .inr (.inr ⟨a,b⟩)
   ·split
    ·rename_i he;rw[Kk,Kk];constructor
     ·rintro(rfl|a)
      ·exact .inl rfl
      ·exact .inr ⟨.inr a,by have:=h1 p a;omega⟩
     ·rintro(rfl|⟨rfl|a,b⟩)
      ·exact .inl rfl
      ·exact absurd he b
      ·exact .inr a
    ·rename_i hn he;rw[Kk,Kk];constructor
     ·rintro(rfl|rfl|a)
      ·exact .inl rfl
      ·exact .inr ⟨.inl rfl,by omega⟩
      ·exact .inr ⟨.inr a,by have:=h1 p a;omega⟩
     ·rintro(rfl|⟨rfl|a,b⟩)
      ·exact .inl rfl
      ·exact .inr (.inl rfl)
      ·exact .inr (.inr a)
theorem sY {m:MemD} : ∀ {l:List MemD},Srt l->Srt (kO l m)
 |[],_=>by simp[kO,Srt]
 | x::r,h=>by
   obtain⟨h1,h2⟩:=MA.1 h;unfold kO;split
   ·rename_i hlt;refine MA.2 ⟨fun p hp=> ?_,sY h2⟩;rcases (nF h2).1 hp with rfl|⟨a,_⟩
    ·exact hlt
    ·exact h1 p a
   ·split
    ·rename_i he;exact MA.2 ⟨fun p hp=>by have:=h1 p hp;omega,h2⟩
    ·refine MA.2 ⟨fun p hp=> ?_,h⟩;rcases Kk.1 hp with rfl|hp
     ·omega
     ·have:=h1 p hp;omega
theorem IL {a b:List MemD} (ha:Srt a) (hb:Srt b) (h: ∀p,p∈a↔p∈b):a=b:=by
 have na:a.Nodup:=ha.imp fun h e=>by rw[e]at h;omega
 have nb:b.Nodup:=hb.imp fun h e=>by rw[e]at h;omega
 exact Nq (fun x y _ _ h1 h2=>by omega) ha hb ((List.perm_ext_iff_of_nodup na nb).2 h)
/-! What is remembered -/
def underL (c:ChD) (l:List Int) (i:Int):List Int:=l.filter (aboveB c i)
def innerP (c:ChD) (l:List Int) (i:Int):Bool:= !(kidZ c i).any fun k=>l.contains k
def innerL (c:ChD) (l:List Int):List Int:=bS (l.filter (innerP c l))
def lD (c:ChD) (act:List Int) (i:Int):List Int:=match ((kidZ c i).filter fun k=>act.contains k).getLast? with
 |some k=>[k]
 |none=>[]
def rJ (c:ChD) (act:List Int) (i:Int) (h:Nat):List Int:=match c.states[h]? with
 |some s=>if s.kind=5 then innerL c (underL c act i) else lD c act i
 |none=>[]
def memTo_ (c:ChD) (act:List Int) (i:Int) (o:List MemD) (M:List Nat) (m:Nat):List MemD:=(M.take m).foldl (fun o (h:Nat)=>kO o ((h:Int),rJ c act i h)) o
def remTo (c:ChD) (act gone:List Int) (o:List MemD) (j:Nat):List MemD:=(gone.take j).foldl (fun o i=>if av c i=true then memTo_ c act i o (memL c i) (memL c i).length else o) o
def remL (c:ChD) (act gone:List Int) (mem:List MemD):List MemD:=remTo c act gone mem gone.length
theorem ui {c:ChD} {act:List Int} {i:Int} {M:List Nat} : ∀(m:Nat) {o:List MemD},m<=M.length->Srt o->Srt (memTo_ c act i o M m)/\ ∀p,p∈memTo_ c act i o M m↔(∃h∈M.take m,p=((h:Int),rJ c act i h))\/(p∈o/\ ∀h∈M.take m,p.1≠(h:Int))
 |0,o,_,hs=>⟨hs,fun p=>by simp[memTo_]⟩
 | m+1,o,hm,hs=>by
   obtain⟨k,hk⟩: ∃k,M[m]? =some k:=⟨M[m],KV (by omega)⟩;obtain⟨q1,q2⟩:=ui (c:=c) (act:=act) (i:=i) (M:=M) m (o:=o) (by omega) hs;have e:memTo_ c act i o M (m+1)=kO (memTo_ c act i o M m) ((k:Int),rJ c act i k):=bm _ _ hk;have e2: ∀x,x∈M.take (m+1)↔x∈M.take m\/x=k:=fun x=>by rw[Kv,hk];simp
   rw[e];refine⟨sY q1,fun p=> ?_⟩;rw[nF q1,q2];simp only[e2];constructor
   ·rintro(rfl|⟨⟨h,a,rfl⟩|⟨a,b⟩,d⟩)
    ·exact .inl ⟨k, .inr rfl,rfl⟩
    ·exact .inl ⟨h, .inl a,rfl⟩
    ·exact .inr ⟨a,fun h hh=>hh.elim (b h) fun e=>by rw[e];exact d⟩
   ·rintro(⟨h,a|rfl,rfl⟩|⟨a,b⟩)
    ·by_cases e:h=k
     ·exact .inl (by rw[e])
     ·exact .inr ⟨.inl ⟨h,a,rfl⟩,by simp;omega⟩
    ·exact .inl rfl
    ·exact .inr ⟨.inr ⟨a,fun h hh=>b h (.inl hh)⟩,b k (.inr rfl)⟩
theorem fW {c:ChD} {i:Int} {k:Nat} :k∈memL c i↔ ∃s,c.states[k]? =some s/\inZ c i=true/\s.parent=i/\aS s=true:=by
 unfold memL I7;rw[Kb,Kr];constructor
 ·rintro⟨h1,h2⟩;rw[KV h1]at h2 |-;simp only[KY,LW]at h2;exact⟨_,rfl,h2.1,h2.2.1,h2.2.2⟩
 ·rintro⟨s,hs,h1,h2,h3⟩;refine⟨(KW.1 hs).1,?_⟩;rw[hs];simp[h1,h2,h3]
def touch (c:ChD) (gone:List Int) (h:Int):Prop:= ∃i∈gone,av c i=true/\ ∃k∈memL c i,h=(k:Int)
theorem zI {c:ChD} {act gone:List Int} {o:List MemD} (hs:Srt o): ∀(j:Nat),j<=gone.length->Srt (remTo c act gone o j)/\ ∀p,p∈remTo c act gone o j↔(∃i∈gone.take j,av c i=true/\ ∃k∈memL c i,p=((k:Int),rJ c act i k))\/(p∈o/\ ¬touch c (gone.take j) p.1)
 |0,_=>⟨hs,fun p=>by simp[remTo,touch]⟩
 | j+1,hj=>by
   obtain⟨i,hi⟩: ∃i,gone[j]? =some i:=⟨gone[j],KV (by omega)⟩;obtain⟨q1,q2⟩:=zI (c:=c) (act:=act) (gone:=gone) hs j (by omega);have e:remTo c act gone o (j+1)=if av c i=true then memTo_ c act i (remTo c act gone o j) (memL c i) (memL c i).length else remTo c act gone o j:=bm _ _ hi
   have e2: ∀x,x∈gone.take (j+1)↔x∈gone.take j\/x=i:=fun x=>by rw[Kv,hi];simp
   rw[e];split
   ·rename_i hp;obtain⟨p1,p2⟩:=ui (c:=c) (act:=act) (i:=i) (M:=memL c i) _ (K8 _) q1;refine⟨p1,fun p=> ?_⟩;rw[p2,q2,Kp];unfold touch;simp only[e2];constructor
    ·rintro(⟨h,a,rfl⟩|⟨⟨i',a,b,k,d',rfl⟩|⟨a,b⟩,d⟩)
     ·exact .inl ⟨i, .inr rfl,hp,h,a,rfl⟩
     ·exact .inl ⟨i', .inl a,b,k,d',rfl⟩
     ·refine .inr ⟨a,?_⟩;rintro⟨i',a' | rfl,b',k,d',e'⟩
      ·exact b ⟨i',a',b',k,d',e'⟩
      ·exact d k d' e'
    ·rintro(⟨i',a|rfl,b,k,d,rfl⟩|⟨a,b⟩)
     ·by_cases e:i'=i
      ·subst e;exact .inl ⟨k,d,rfl⟩
      ·refine .inr ⟨.inl ⟨i',a,b,k,d,rfl⟩,fun h hh he=>e ?_⟩;have he:((k:Nat):Int)=h:=he;have he:k=h:=by omega
       subst he;obtain⟨s,hs,_,h1,_⟩:=fW.1 d;obtain⟨s',hs',_,h2,_⟩:=fW.1 hh;rw[hs]at hs';cases hs';rw[<-h1, <-h2]
     ·exact .inl ⟨k,d,rfl⟩
     ·refine .inr ⟨.inr ⟨a,fun⟨i',a',b',r⟩=>b ⟨i', .inl a',b',r⟩⟩,fun h hh he=>b ⟨i, .inr rfl,hp,h,hh,he⟩⟩
   ·rename_i hp;refine⟨q1,fun p=> ?_⟩;rw[q2];unfold touch;simp only[e2];constructor
    ·rintro(⟨i',a,b,r⟩|⟨a,b⟩)
     ·exact .inl ⟨i', .inl a,b,r⟩
     ·refine .inr ⟨a,?_⟩;rintro⟨i',a' | rfl,b',r⟩
      ·exact b ⟨i',a',b',r⟩
      ·exact hp b'
    ·rintro(⟨i',a|rfl,b,r⟩|⟨a,b⟩)
     ·exact .inl ⟨i',a,b,r⟩
     ·exact absurd b hp
     ·exact .inr ⟨a,fun⟨i',a',b',r⟩=>b ⟨i', .inl a',b',r⟩⟩
theorem J2 {c:ChD} {act gone:List Int} {o:List MemD} (hs:Srt o):Srt (remL c act gone o)/\ ∀p,p∈remL c act gone o↔(∃i∈gone,av c i=true/\ ∃k∈memL c i,p=((k:Int),rJ c act i k))\/(p∈o/\ ¬touch c gone p.1):=by
 have:=zI (c:=c) (act:=act) (gone:=gone) hs _ (K8 _);rw[Kp]at this;exact this
/-! As the document says -/
def ofM (mem:List MemD) (h:Int):List Int:=match mem.find? (fun m=>m.1==h) with
 |some m=>m.2
 |none=>[]
def Jv (c:ChD) (l:List Int):List Nat:=(List.range c.states.length).filter fun i:Nat=>l.contains (i:Int)&&(manyI l (kidsL c i true)==0)
def kw (c:ChD) (l:List Int) (i:Int):List Int:=(zL (sortL c l)).filter (aboveB c i)
def BA (c:ChD) (act gone:List Int) (mem:List MemD) (h:Nat):List Int:=match c.states[h]? with
 |some s=>if aS s=true then(if gone.contains s.parent=true then(if s.kind=5 then zL (Jv c (kw c act s.parent)) else(kidZ c s.parent).filter fun k=>act.contains k) else ofM mem h) else []
 |none=>[]
def C2 (c:ChD) (act gone:List Int) (mem:List MemD) (j:Nat):List MemD:=((List.range j).filter fun h=> !(BA c act gone mem h).isEmpty).map fun h:Nat=>((h:Int),BA c act gone mem h)
def JG (c:ChD) (act gone:List Int) (mem:List MemD):List MemD:=C2 c act gone mem c.states.length
theorem DC {mem:List MemD} (hs:Srt mem) {p:MemD} (hp:p∈mem):ofM mem p.1=p.2:=by
 unfold ofM;cases hf:mem.find? (fun m=>m.1==p.1) with
 | none=>
   rw[Nv]at hf;exact absurd (On p.1) (hf p hp)
 | some q=>
   have h1:=O3 hf;have h2:=Mp hf;simp only[LW]at h1
   have na:q=p:=by
    obtain⟨a,ha,rfl⟩:=NO.1 h2;obtain⟨b,hb,rfl⟩:=NO.1 hp;rcases NI a b with h|h|h
    ·have:=LH.1 hs a b ha hb h;omega
    ·subst h;rfl
    ·have:=LH.1 hs b a hb ha h;omega
   rw[na]
theorem nq {c:ChD} {mem:List MemD} (h:bY c mem=true):Srt mem/\ ∀m∈mem,kP c m=true:=by
 have h1: ∀j (hj:j<mem.length),kP c mem[j]=true/\(j=0\/(mem.getD (j-1) (0,[])).1<mem[j].1):=fun j hj=>by
  have:=K2.1 h j (Kr.2 hj);unfold ll at this;rw[KV hj,KY,Lb,K6]at this;exact⟨this.1,this.2.imp (by simp) id⟩
 refine⟨LH.2 ?_,fun m hm=> ?_⟩
 ·intro i j hi hj hij
  have key: ∀d (hd:i+d+1<mem.length),mem[i].1<mem[i+d+1].1:=fun d=>by
   induction d with
   | zero=>
     intro hd;have:=(h1 (i+1) hd).2.resolve_left (by omega);simpa[Ko,KV hi]using this
   | succ d ih=>
     intro hd;have a:=ih (by omega);have b:=(h1 (i+d+1+1) (by omega)).2.resolve_left (by omega);simp only[Ms,Ko,KV (show i+d+1<mem.length by omega),Ls]at b;have e:i+(d+1)+1=i+d+1+1:=by omega
     simp only[e];omega
  have:=key (j-i-1) (by omega);simpa[show i+(j-i-1)+1=j by omega]using this
 ·obtain⟨j,hj,rfl⟩:=NO.1 hm;exact(h1 j hj).1
theorem I6 {c:ChD} {mem:List MemD} (hs:Srt mem) (hm: ∀m∈mem,kP c m=true):bY c mem=true:=by
 refine K2.2 fun j hj=> ?_;have hj:=Kr.1 hj;unfold ll;rw[KV hj];simp only;rw[hm _ (MI hj),LK];by_cases h0:j=0
 ·simp[h0]
 ·have:=LH.1 hs (j-1) j (by omega) hj (by omega);simp[Ko,KV (show j-1<mem.length by omega),this]
theorem wY {l:List Int} (h:fP l=true):l≠[]:=by
 unfold fP at h;rw[KY]at h;intro e;rw[e]at h;simp at h
theorem DG {c:ChD} {m:MemD} (h:kP c m=true): ∃(k:Nat) (s:StD),m.1=(k:Int)/\c.states[k]? =some s/\aS s=true/\m.2≠[]:=by
 unfold kP at h;split at h
 ·rename_i s hs
  have h0:0<=m.1/\c.states[m.1.toNat]? =some s:=by
   unfold at_ at hs;split at hs
   ·exact⟨by assumption,hs⟩
   ·cases hs
  refine⟨m.1.toNat,s,by omega,h0.2,?_,?_⟩
  ·unfold aS;split at h
   ·rename_i e;simp[e]
   ·rw[KY]at h;rw[h.1];simp
  ·split at h
   ·rw[KY,K6]at h;intro e;rw[e]at h;simp at h
   ·unfold deepB at h;simp only[KY]at h;exact wY h.2.1.1.1
 ·cases h
theorem G9 {l:List Int} {ks:List Nat} :manyI l ks=0↔((zL ks).any fun k=>l.contains k)=false:=by
 rw[kX,NA];simp
theorem nj {a b:List Int} (ha:a.Pairwise (· < ·)) (hb:b.Pairwise (· < ·)) (h: ∀x,x∈a↔x∈b):a=b:=by
 have na:a.Nodup:=ha.imp fun h=>by omega
 have nb:b.Nodup:=hb.imp fun h=>by omega
 exact Nq (fun x y _ _ h1 h2=>by omega) ha hb ((List.perm_ext_iff_of_nodup na nb).2 h)
theorem l8 {l:List Int} (hn:l.Nodup):(bS l).Pairwise (· < ·)/\ ∀x,x∈bS l↔x∈l:=by
 have hs:(bS l).Pairwise (fun x y:Int=>decide (x<=y)=true):=OC (fun a b c=>by simp;omega) (fun a b=>by simp;omega) _;have hp:(bS l).Perm l:=Nm ..;have hn2:(bS l).Nodup:=hp.nodup_iff.2 hn;refine⟨(List.pairwise_and_iff.2 ⟨hs,hn2⟩).imp fun⟨a,b⟩=> ?_,fun x=>hp.mem_iff⟩;have a:=Oi a;omega
theorem Ch {p:Nat->Bool} {n:Nat} :(zL ((List.range n).filter p)).Pairwise (· < ·):=by
 unfold zL;rw[N7];exact(Aw (p:=p) (n:=n)).imp fun h=>by omega
theorem Bc {c:ChD} (hr:Right c) {act:List Int} (hg:Lg c act) (i:Int):innerL c (underL c act i)=zL (Jv c (kw c act i)):=by
 have hz: ∀x∈act,inZ c x=true:=fun x hx=>by obtain⟨_,_,h,_⟩:=hg.of hx;exact h
 have hu: ∀x,x∈kw c act i↔x∈underL c act i:=fun x=>by
  unfold kw underL;rw[Kb,Kb,iy hr hz]
 have hn:((underL c act i).filter (innerP c (underL c act i))).Nodup:=(hg.nodup.sublist Lk).sublist Lk;obtain⟨r1,r2⟩:=l8 hn;refine nj r1 Ch fun x=> ?_;unfold innerL;rw[r2,Kb]
 have hmany: ∀k:Nat,innerP c (underL c act i) k=(manyI (kw c act i) (kidsL c k true)==0):=fun k=>by
  rw[gW hu,LD];unfold innerP;rw[L3,LW,G9]
 constructor
 ·rintro⟨h1,h2⟩;have hx:x∈act:=(Kb.1 h1).1;have:=aI.1 (hz x hx);obtain⟨k,rfl⟩: ∃k:Nat,x=k:=⟨x.toNat,by omega⟩;refine K9.2 ⟨k,Kb.2 ⟨Kr.2 (by omega),?_⟩,rfl⟩;rw[KY,K3, <-hmany];exact⟨(hu _).2 h1,h2⟩
 ·intro hx;obtain⟨k,hk,rfl⟩:=K9.1 hx;have:=(Kb.1 hk).2;rw[KY,K3, <-hmany]at this;exact⟨(hu _).1 this.1,this.2⟩
theorem last_one {l:List Int} {x:Int} (h:l=[x]):l.getLast? =some x:=by rw[h];rfl
theorem pL (act:List Int) (ks:List Nat):((zL ks).filter fun k=>act.contains k).length=manyI act ks:=by
 unfold manyI zL;rw[List.filter_map,Kl];rfl
theorem sk {c:ChD} {act:List Int} {i:Int} (h:manyI act (kidsL c i true)=1): ∃k,k∈kidZ c i/\k∈act/\lD c act i=[k]/\((kidZ c i).filter fun k=>act.contains k)=[k]:=by
 rw[<-pL]at h;obtain⟨k,hk⟩:=NY.1 h;have hm:k∈(kidZ c i).filter fun k=>act.contains k:=by rw[hk];simp
 obtain⟨h1,h2⟩:=Kb.1 hm;refine⟨k,h1,by simpa using h2,?_,hk⟩;unfold lD;rw[last_one hk]
theorem o9 {c:ChD} (hr:Right c) {act:List Int} (i:Int): ∀(n:Nat) (x:Int),(c.states.length:Int)<=x+n->x∈underL c act i-> ∃y∈innerL c (underL c act i),y=x\/x∈upL c y
 | 0,x,hn,hx=>by
   have ha:i∈upL c x:=by simpa[aboveB]using (Kb.1 hx).2
   cases hh:inZ c x with
   |true=>have:=aI.1 hh;omega
   |false=>rw[cE hh]at ha;simp at ha
 | n+1,x,hn,hx=>by
   have hxm:=Kb.1 hx;have ha:i∈upL c x:=by simpa[aboveB]using hxm.2
   by_cases hi:innerP c (underL c act i) x=true
   ·refine⟨x,?_, .inl rfl⟩;unfold innerL;exact(Nm ..).mem_iff.2 (Kb.2 ⟨hx,hi⟩)
   ·have hi:((kidZ c x).any fun k=>(underL c act i).contains k)=true:=by
     unfold innerP at hi;simpa using hi
    obtain⟨k,hk,hku⟩:=L8.1 hi;obtain⟨k1,k2,k3⟩:=bK hr hk;obtain⟨y,hy,hyk⟩:=o9 hr i n k (by omega) (by simpa using hku);have hxk:x∈upL c k:=(cQ hr k1).2 (.inl k2.symm);refine⟨y,hy, .inr ?_⟩;rcases hyk with rfl|hyk
    ·exact hxk
    ·exact gh hr ((c.states.length+1)) y k x (by
      cases hh:inZ c y with
      |true=>have:=aI.1 hh;omega
      |false=>rw[cE hh]at hyk;simp at hyk) hyk hxk
theorem aX {c:ChD} (hr:Right c) {p x:Int} (hx:inZ c x=true):aboveB c p x=true↔aO c x=p\/aboveB c p (aO c x)=true:=by
 unfold aboveB;rw[K3,K3,cQ hr hx];exact⟨fun h=>h.imp Eq.symm id,fun h=>h.imp Eq.symm id⟩
theorem HG {c:ChD} (h:Full c) {act:List Int} (hg:Lg c act) {p:Int} (hp:p∈act) (hpl:av c p=true) (hk:kidsL c p true≠[]):rz c p (innerL c (underL c act p))=true:=by
 have hr:=h.toRight;have hz: ∀x∈act,inZ c x=true:=fun x hx=>by obtain⟨_,_,h,_⟩:=hg.of hx;exact h
 have hub: ∀x∈underL c act p,x∈act/\aboveB c p x=true:=fun x hx=>Kb.1 hx;have hn:((underL c act p).filter (innerP c (underL c act p))).Nodup:=(hg.nodup.sublist Lk).sublist Lk;obtain⟨r1,r2⟩:=l8 hn;have hin: ∀x,x∈innerL c (underL c act p)↔x∈underL c act p/\innerP c (underL c act p) x=true:=fun x=>by unfold innerL;rw[r2,Kb]
 have hkid: ∀x k,(x=p\/x∈underL c act p)->k∈kidZ c x->(k∈underL c act p↔k∈act):=fun x k hx hk=>by
  obtain⟨k1,k2,_⟩:=bK hr hk;refine⟨fun hh=>(hub k hh).1,fun hh=>Kb.2 ⟨hh,(aX hr k1).2 ?_⟩⟩;rw[k2];exact hx.imp id fun hx=>(hub x hx).2
 have hpo:=hg.of hp;obtain⟨sp,hsp,hzp,_,_,hp1,_⟩:=hpo;have hkp:sp.kind=1:=by rw[bc hsp]at hpl;simpa using hpl
 obtain⟨k0,k1,k2,_,_⟩:=sk (hp1 hkp hk);have hk0:k0∈underL c act p:=(hkid p k0 (.inl rfl) k1).2 k2;obtain⟨y0,hy0,_⟩:=o9 hr p (c.states.length+1) k0 (by have:=aI.1 (hz k0 k2);omega) hk0;have hne:innerL c (underL c act p)≠[]:=fun e=>by rw[e]at hy0;simp at hy0
 have hrise:fP (innerL c (underL c act p))=true:=by
  unfold fP;rw[KY,K2];refine⟨by simpa using hne,fun j hj=> ?_⟩;have hj:=Kr.1 hj;unfold upB;by_cases h0:j=0
  ·simp[h0]
  ·have:=LH.1 r1 (j-1) j (by unfold innerL at hj;omega) hj (by omega);rw[Lb,K6];right;rw[Ko,Ko,KV hj,KV (show j-1< (innerL c (underL c act p)).length by omega)];exact this
 have hleaf: ∀x∈innerL c (underL c act p),kidsL c x true=[]:=fun x hx=>by
  obtain⟨q1,q2⟩:=(hin x).1 hx;have hxa:=(hub x q1).1;obtain⟨s,hs,_,hm,_,f1,f2⟩:=hg.of hxa
  have hno: ∀k∈kidZ c x,k∉act:=fun k hk hh=>by
   unfold innerP at q2;have:((kidZ c x).any fun k=>(underL c act p).contains k)=true:=L8.2 ⟨k,hk,by simpa using (hkid x k (.inr q1) hk).2 hh⟩;rw[this]at q2;cases q2
  have h0:=kX.2 hno;apply M5;intro hne;rcases kS h hs with⟨e,_⟩|⟨e,_⟩|⟨_,e⟩|⟨_,e⟩
  ·have:=f1 e hne;omega
  ·have:=f2 e;rw[h0]at this;exact hne (LJ this.symm)
  ·exact hne e
  ·exact hne e
 have hmem: ∀x,x∈deepRA c p (innerL c (underL c act p))↔x∈underL c act p\/x=p:=fun x=>by
  unfold deepRA;rw[Kt,Km,sZ hr fun x hx=>hz x (hub x ((hin x).1 hx).1).1,iV.2];constructor
  ·rintro((a|⟨i,a,b,d,e⟩)|a)
   ·exact .inl ((hin x).1 a).1
   ·have hia:=(hub i ((hin i).1 a).1).1;exact .inl (Kb.2 ⟨hg.up hr (c.states.length+1) i x (by have:=aI.1 (hz i hia);omega) hia b d,e⟩)
   ·exact .inr a
  ·rintro(a|a)
   ·obtain⟨y,hy,e|e⟩:=o9 hr p (c.states.length+1) x (by have:=aI.1 (hz x (hub x a).1);omega) a
    ·exact .inl (.inl (by rw[<-e];exact hy))
    ·exact .inl (.inr ⟨y,hy,e,(aI.1 (hz x (hub x a).1)).1,(hub x a).2⟩)
   ·exact .inr a
 unfold rz;rw[hrise,LK,KY,K2,K2];refine⟨fun x hx=> ?_,fun x hx=> ?_⟩
 ·obtain⟨q1,_⟩:=(hin x).1 hx;obtain⟨q3,q4⟩:=hub x q1;obtain⟨s,hs,_,hm,_⟩:=hg.of q3;unfold cY;rw[q4,hs,hleaf x hx];simp[hm]
 ·have hx:=(hmem x).1 hx;have hxa:x∈act:=hx.elim (fun a=>(hub x a).1) fun a=>by rw[a];exact hp
  obtain⟨s,hs,_,hm,_,f1,f2⟩:=hg.of hxa
  have hmany:manyI (deepRA c p (innerL c (underL c act p))) (kidsL c x true)=manyI act (kidsL c x true):=by
   unfold manyI
   congr 1
   apply MZ;intro k hk;have hkz:(k:Int)∈kidZ c x:=K9.2 ⟨k,hk,rfl⟩;rw[LD,K3,K3,hmem];refine⟨fun hh=>hh.elim (fun a=>(hub _ a).1) fun a=>by rw[a];exact hp,fun hh=> .inl ((hkid x k ?_ hkz).2 hh)⟩;exact hx.symm
  unfold cZ;rw[hs];simp only;rw[hmany];rcases kS h hs with⟨e,_⟩|⟨e,_⟩|⟨e,_⟩|⟨e,_⟩
  ·by_cases hne:kidsL c x true=[]
   ·simp[e,hne,manyI]
   ·have:=f1 e hne;have hlen:0< (kidsL c x true).length:=MG.2 hne;simp[e,this];omega
  ·simp[e,f2 e]
  ·simp[e]
  ·rcases e with e|e<;>simp[e]
theorem nz {c:ChD} (h:Full c) {k:Nat} {s:StD} (hs:c.states[k]? =some s) (hm:aS s=true):av c s.parent=true/\al c s.parent=true/\kidsL c s.parent true≠[]/\inZ c s.parent=true/\(s.kind=4\/s.kind=5):=by
 have hk:s.kind=4\/s.kind=5:=by unfold aS at hm;simpa using hm
 rcases h.cases hs with⟨e,_⟩|⟨e,_⟩|⟨e,_⟩|⟨_,_,hp,hi⟩
 ·omega
 ·omega
 ·omega
 ·unfold cS at hp;split at hp
  ·rename_i q hq;refine⟨by unfold av;rw[hq];exact hp,?_,fun e=> ?_,?_,hk⟩
   ·unfold al dw;rw[hq];simp only[hp,MD]
   ·rw[e]at hi;simp[inL]at hi
   ·unfold at_ at hq;split at hq
    ·rename_i h0;have:=(KW.1 hq).1;exact aI.2 ⟨h0,by omega⟩
    ·cases hq
  ·cases hp
theorem zQ {c:ChD} (h:Full c) {act:List Int} (hg:Lg c act) {k:Nat} {s:StD} (hs:c.states[k]? =some s) (hm:aS s=true) (hp:s.parent∈act):
 rJ c act s.parent k=(if s.kind=5 then zL (Jv c (kw c act s.parent)) else(kidZ c s.parent).filter fun k=>act.contains k)/\kP c ((k:Int),rJ c act s.parent k)=true:=by
 obtain⟨h1,h2,h3,h4,h5⟩:=nz h hs hm;have hat:at_ c (k:Int)=some s:=by rw[bH];exact hs
 have hv:rJ c act s.parent k=if s.kind=5 then innerL c (underL c act s.parent) else lD c act s.parent:=by
  unfold rJ;rw[hs]
 have hB: ∀v,kP c ((k:Int),v)=if s.kind=4 then decide (v.length=1)&&(kidZ c s.parent).contains (v.getD 0 0) else(s.kind==5)&&deepB c s.parent v:=fun v=>by
  unfold kP;simp only[hat]
 by_cases e:s.kind=5
 ·rw[K0 e]at hv;rw[hv,hB,K0 e,KZ (by omega)];refine⟨Bc h.toRight hg _,?_⟩;rw[og h h2,HG h hg hp h1 h3,e];rfl
 ·rw[KZ e]at hv;rw[hv,hB,KZ e,K0 (by omega)];obtain⟨sp,hsp,_,_,_,f1,_⟩:=hg.of hp;have hkp:sp.kind=1:=by rw[bc hsp]at h1;simpa using h1
  obtain⟨q,q1,q2,q3,q4⟩:=sk (f1 hkp h3);rw[q3,q4];refine⟨rfl,?_⟩;rw[KY];exact⟨rfl,K3.2 q1⟩
theorem kx {c:ChD} (h:Full c) {act gone:List Int} {mem:List MemD} (hl:lgB c act=true) (hm:bY c mem=true) (hgo: ∀x∈gone,x∈act):remL c act gone mem=JG c act gone mem/\bY c (remL c act gone mem)=true:=by
 have hg:=e9 hl;obtain⟨hs,hmb⟩:=nq hm;obtain⟨r1,r2⟩:=J2 (c:=c) (act:=act) (gone:=gone) hs
 have hall: ∀p∈remL c act gone mem,kP c p=true:=fun p hp=>by
  rcases (r2 p).1 hp with⟨i,hi,hpl,k,hk,rfl⟩|⟨hp,_⟩
  ·obtain⟨s,hs,_,rfl,hmy⟩:=fW.1 hk;exact(zQ h hg hs hmy (hgo _ hi)).2
  ·exact hmb p hp
 refine⟨IL r1 ?_ fun p=> ?_,I6 r1 hall⟩
 ·unfold JG C2 Srt;rw[N7];exact(Aw (p:=fun h=> !(BA c act gone mem h).isEmpty) (n:=c.states.length)).imp fun h=>by simp only;omega
 ·have href: ∀ {k:Nat} {s:StD},c.states[k]? =some s->aS s=true->BA c act gone mem k=if gone.contains s.parent=true then rJ c act s.parent k else ofM mem k:=fun {k s} hs hmy=>by
   unfold BA;rw[hs];simp only;rw[K0 hmy];split
   ·rename_i hc;exact((zQ h hg hs hmy (hgo _ (K3.1 hc))).1).symm
   ·rfl
  have hR:p∈JG c act gone mem↔ ∃k:Nat,k<c.states.length/\BA c act gone mem k≠[]/\p=((k:Int),BA c act gone mem k):=by
   unfold JG C2;rw[K9];constructor
   ·rintro⟨k,hk,rfl⟩;obtain⟨a,b⟩:=Kb.1 hk;exact⟨k,Kr.1 a,by simpa using b,rfl⟩
   ·rintro⟨k,a,b,rfl⟩;exact⟨k,Kb.2 ⟨Kr.2 a,by simpa using b⟩,rfl⟩
  rw[hR];constructor
  ·intro hp;obtain⟨k,s,e1,hs',hmy,hne⟩:=DG (hall p hp)
   have hv:BA c act gone mem k=p.2:=by
    rw[href hs' hmy];rcases (r2 p).1 hp with⟨i,hi,hpl,k',hk',rfl⟩|⟨hpm,hnt⟩
    ·obtain⟨s2,hs2,_,e2,_⟩:=fW.1 hk';have e1':((k':Nat):Int)=k:=e1;have:k'=k:=by omega
     subst this;rw[hs']at hs2;cases hs2;rw[K0 (by rw[e2];exact K3.2 hi),e2]
    ·rw[KZ, <-e1,DC hs hpm];intro hc;have hi:=K3.1 hc;obtain⟨p1,_,_,p4,_⟩:=nz h hs' hmy;exact hnt ⟨s.parent,hi,p1,k,fW.2 ⟨s,hs',p4,rfl,hmy⟩,e1⟩
   refine⟨k,(KW.1 hs').1,by rw[hv];exact hne,?_⟩;rw[hv, <-e1]
  ·rintro⟨k,hk,hne,rfl⟩;obtain⟨s,hs'⟩: ∃s,c.states[k]? =some s:=⟨_,KV hk⟩
   have hmy:aS s=true:=by
    cases hb:aS s with
    |true=>rfl
    | false=>
      unfold BA at hne;rw[hs']at hne;simp[hb]at hne
   obtain⟨p1,_,_,p4,_⟩:=nz h hs' hmy;rw[href hs' hmy]at hne |-;rw[r2];split
   ·rename_i hc;exact .inl ⟨s.parent,K3.1 hc,p1,k,fW.2 ⟨s,hs',p4,rfl,hmy⟩,rfl⟩
   ·rename_i hc;rw[KZ hc]at hne;refine .inr ⟨?_,?_⟩
    ·apply M5;intro hno;cases hf:mem.find? (fun m=>m.1==(k:Int)) with
     |none=>unfold ofM at hne;rw[hf]at hne;exact hne rfl
     | some q=>
       have a:=O3 hf;have b:=Mp hf;simp only[LW]at a;have:=DC hs b;rw[a]at this;rw[this, <-a]at hno;exact hno b
    ·rintro⟨i,hi,_,k',hk',e⟩;have e':((k:Nat):Int)=k':=e;have e:k=k':=by omega
     subst e;obtain⟨s2,hs2,_,e2,_⟩:=fW.1 hk';rw[hs']at hs2;cases hs2;rw[<-e2]at hi;exact hc (K3.2 hi)
/-! Moves -/
end
section
def undR (c:ChD) (act:List Int) (i:Int):List Int:=(zL (sortL c act)).filter (aboveB c i)
def jX (c:ChD) (l:List Int) (i:Int) (j:Nat):List Int:=(l.take j).filter (aboveB c i)
theorem qc {c:ChD} {l:List Int} {i:Int} {j:Nat} {x:Int} (h:l[j]? =some x):jX c l i (j+1)=if aboveB c i x then jX c l i j++[x] else jX c l i j:=by
 unfold jX;rw[Kv,h,LL];cases hb:aboveB c i x<;>simp[hb]
theorem uR (c:ChD) (l:List Int) (i:Int) (j:Nat):(jX c l i j).length<=l.length:=by
 unfold jX;exact Kh (Kw ..) (by rw[Kf];omega)
theorem gH {c:ChD} (hc:Right c) (act:List Int):(sortL c act).length<=32:=by
 unfold sortL;split
 ·exact Kh (Kw ..) (Fy hc (by omega))
 ·simp
theorem z8 (env:Env) (c:ChD) (hc:Right c) (act:List Int) (hl:act.length<=1000000) (d:Int):Con prog env 280 [aC c, .seq 1 (act.map intAV),I d] (.own 3 1 ((undR c act d).reverse.map intAV)):=by
 have f1:=bD env c;have f2:=eu env c hc act hl;have hsl:=gH hc act;rw[<-eB]at f2;unfold undR;have hsl:(zL (sortL c act)).length<=32:=by rw[bg];exact hsl
 generalize zL (sortL c act)=L at*;unfold aC aP at f1;unfold aP at f2;unfold aC;refine qf func280 call280 ntmps280 results280 ?_;repeat refine yt f1 f2 ?_
 refine aZ 7 7 3 1 ?_;refine lq0 L.length (by omega) (fun j vs=>[(0, .ref 9 [tabCells c] 0 0),(2,I d),(7, .row 7 (vs 7)),(13, .row 13 (vs 13)),(14,I L.length),(15,I j)]) (fun j _=>[(7,⟨1,(jX c L d j).map intAV,3,true⟩),(13,⟨1,L.map intAV,3,true⟩)]) (fun j _ esc=>esc 7=false) rfl ?_ ?_
 ·rintro j ws esc hlt q1 q2 e0;obtain⟨x,hx⟩:=gE hlt;have f3:=eX env c hc d x;unfold aP at f3;have hil:=uR c L d j;have hf:Fits ((jX c L d j).length+1) 8:=aG (by omega) (by omega);have hn:=qc (c:=c) (i:=d) hx;cases hb:aboveB c d x with
  | true=>
    rw[hb]at f3;rw[hb,K0 rfl]at hn;have F:=ai5 q1 q2 hx hf e0;repeat refine tz2 f1 f3 ?_
    refine⟨j+1,⟨hlt,by simp only[go_sem,e0]⟩,?_,?_,by omega⟩
    ·exact qe
    ·have F:=ai hn @Ki.{0,0};exact qe
  | false=>
    rw[hb]at f3;rw[hb,KZ LY]at hn;have F:=ai5 q1 q2 hx hf e0;repeat refine tz2 f1 f3 ?_
    refine⟨j+1,⟨hlt,by simp only[go_sem,e0]⟩,?_,?_,by omega⟩
    ·exact qe
    ·have F:=ai hn @Ki.{0,0};exact qe
 ·rintro ws esc q1 e0;have hall:jX c L d L.length=L.filter (aboveB c d):=by unfold jX;rw[Kp]
  rw[hall];have hfl:(L.filter (aboveB c d)).length<=32:=Kh (Kw ..) hsl;generalize L.filter (aboveB c d)=U at*;have f4:=qu U (by omega);have F:=ai q1 e0;repeat refine st ?_
  refine mj 7 rfl (row:=⟨1,U.map intAV,3,true⟩) f4 (LG 0) rfl (bd _).symm (by simp only[go_sem,e0];exact iR) (by simp only[go_sem,e0];exact iR) (by simp only[go_sem,e0];exact iR) (by simp only[go_sem,e0];exact iR) ?_;rw[bd];repeat refine st ?_
  exact aR
theorem Bi (env:Env) (a1 a8:Addr) (he:ChEnv env a1 a8) (s:List UInt8):Con prog env 149 [Sg s] (errV (-1) (sentV a1)):=by
 have g1:=gX he.e1;have f0:=bT env s a1;refine qf func149 call149 ntmps149 results149 ?_;have F:=g1;repeat refine tz1 f0 ?_
 exact aR
def leaveR (c:ChD) (act:List Int) (t:TrD):List Int:=if t.target<0 then [] else(undR c act (domE c t.src t.target)).reverse
theorem vp (env:Env) (a1 a8:Addr) (he:ChEnv env a1 a8) (c:ChD) (h:Full c) (hs:Small c) (act:List Int) (hl:act.length<=1000000) (k:Nat) (t:TrD) (ht:c.trans[k]? =some t) (hb:lgB c act=true):Con prog env 226 [aC c, .seq 1 (act.map intAV),I k] (.tuple [.seq 1 ((leaveR c act t).map intAV),nilE]):=by
 have f0:=cJ env a1 a8 he c h hs act hl;have f1:=mr env c hs k t ht;have f2:=mC env c h.toRight hs t (h.src ht).1;have f3:=z8 env c h.toRight act hl (domE c t.src t.target);unfold uD at f0;rw[hb]at f0;simp only[L4]at f0;unfold leaveR;unfold bi at f1 f2;unfold aC at f0 f1 f2 f3 |-;by_cases h0:t.target<0
 ·rw[K0 h0];refine qw func226 call226 ntmps226 results226 ?_;have F:=h0;repeat refine tz4 f0 f1 f2 f3 ?_
  (refine aN ?_;refine⟨_,(by show (an _ _ _).run _=some _;simp only[go_sem,F];rfl),?_⟩)
  exact .of (.tuple (.cons (.nil 1) (.cons (.refl _) .nil))) (fun _ _ _ h=>by cases h) (fun _ _ _ h=>by cases h)
 ·rw[KZ h0];refine qf func226 call226 ntmps226 results226 ?_;have F:=h0;repeat refine tz4 f0 f1 f2 f3 ?_
  exact aR
end
section
def Fu:List Int->Int->Nat->Option Nat
 |[],_,_=>none
 |x::l,k,n=>if k=x then some n else Fu l k (n+1)
theorem ke {k:Int} : ∀ {l:List Int} {n:Nat},k∉l->Fu l k n=none
 |[],_,_=>rfl
 | x::l,n,h=>by
   unfold Fu;rw[KZ (fun e=>h (by rw[e];exact NW ..)),ke (fun hh=>h (Lq _ hh))]
theorem oa {k:Int} : ∀ {l:List Int} {n:Nat},k∈l-> ∃i,Fu l k n=some (n+i)/\l[i]? =some k
 |[],n,h=>by cases h
 | x::l,n,h=>by
   unfold Fu;by_cases e:k=x
   ·exact⟨0,by rw[K0 e];rfl,by rw[e];rfl⟩
   ·obtain⟨i,h1,h2⟩:=oa (n:=n+1) ((Kk.1 h).resolve_left e);exact⟨i+1,by rw[KZ e,h1];congr 1;omega,by simpa using h2⟩
def fQ (l:List Int):List (List AV):=l.map fun k=>[I k,I 1]
theorem lB (k:Int): ∀(l:List Int) (n:Nat),mfind prog 3 (I k) (fQ l) n=some (Fu l k n)
 |[],n=>rfl
 | x::l,n=>by
   have ih:=lB k l (n+1);unfold fQ at ih |-;unfold Fu;by_cases e:k=x
   ·have e1:(k==x)=true:=by simp[e]
    simp only[go_sem,br,cG,LI,e1,K0 e]
   ·have e1:(k==x)=false:=by simpa using e
    simp only[go_sem,br,cG,LI,e1,KZ e,ih]
theorem uP (env:Env) (o:List Int) (i:Int) (ho:o.length<=4000) (te:TypeId):ConI prog env 308 [1000,1001] (fun k=>k==1001) (fun vs=>[I i, .loc 1000 (vs 1000) 0 0]) (fun vs=>[(1000,⟨1,[[.row 1001 (vs 1001)]],te,false⟩),(1001,⟨1,o.map intAV,3,true⟩)]) (fun vs=>[(1000,⟨1,[[.row 1001 (vs 1001)]],te,false⟩),(1001,⟨1,(addU o i).map intAV,3,true⟩)]) (fun _=> .lit (.tuple #[])):=by
 have f0:=(bA env o i (by omega)).lend rfl;unfold addU;cases hc:o.contains i with
 | true=>
   rw[hc]at f0;simp only[L4];refine qi func308 call308 ntmps308 results308 ?_;intro vs esc hesc;obtain⟨e0,e1⟩:=es2 hesc;have F:=ai e0 e1;repeat refine st ?_
   refine lL f0 ?_;repeat refine st ?_
   exact rN
 | false=>
   rw[hc]at f0;have hf:Fits (o.length+1) 8:=aG (by omega) (by omega);simp only[LA,Lf,Ki];refine qi func308 call308 ntmps308 results308 ?_;intro vs esc hesc;obtain⟨e0,e1⟩:=es2 hesc;have F:=ai3 e0 e1 hf;repeat refine st ?_
   refine lL f0 ?_;repeat refine st ?_
   exact rN
theorem gN {c:ChD} {a:List Int} (hn:a.Nodup) (hz: ∀x∈a,inZ c x=true):a.length<=c.states.length:=by
 have:=nJ (c:=c) (l:=[]) hn fun k hk=>⟨by simp,hz k hk⟩;have:=I5 c [];omega
theorem EC {c:ChD} {d:Int} {o U:List Int} {m:Nat} {k:Int} (h:U[m]? =some k):upTo c d o U (m+1)=if 0<=k/\aboveB c d k=true then addU (upTo c d o U m) k else upTo c d o U m:=bm _ _ h
theorem A9 {c:ChD} {d:Int} {l:List Int} {j:Nat} {k:Int} (h:l[j]? =some k):upsTo c d l (j+1)=upTo c d (addU (upsTo c d l j) k) (upL c k) (upL c k).length:=bm _ _ h
theorem EB {c:ChD} (hc:Right c) {d:Int} {l:List Int} (hz: ∀x∈l,inZ c x=true) {j:Nat} (hj:j<=l.length):(upsTo c d l j).Nodup/\(∀x∈upsTo c d l j,inZ c x=true)/\(upsTo c d l j).length<=32:=by
 obtain⟨h1,h2⟩:=sR (c:=c) (d:=d) (l:=l) j hj
 have h3: ∀x∈upsTo c d l j,inZ c x=true:=fun x hx=>by
  rcases (h2 x).1 hx with h|⟨i,h,q1,q2,_⟩
  ·exact hz x (MK h)
  ·exact(iD hc q1 q2).1
 exact⟨h1,h3,Kh (gN h1 h3) hc.few⟩
theorem Fz {c:ChD} (hc:Right c) {d i:Int} {o:List Int} (hn:o.Nodup) (hz: ∀x∈o,inZ c x=true) {m:Nat} (hm:m<=(upL c i).length):(upTo c d o (upL c i) m).Nodup/\(∀x∈upTo c d o (upL c i) m,inZ c x=true)/\(upTo c d o (upL c i) m).length<=32:=by
 obtain⟨h1,h2⟩:=wT (c:=c) (d:=d) (U:=upL c i) m hm hn
 have h3: ∀x∈upTo c d o (upL c i) m,inZ c x=true:=fun x hx=>by
  rcases (h2 x).1 hx with h|⟨h,q2,_⟩
  ·exact hz x h
  ·exact(iD hc (MK h) q2).1
 exact⟨h1,h3,Kh (gN h1 h3) hc.few⟩
theorem H4 (env:Env) (c:ChD) (hc:Right c) (l:List Int) (hl:l.length<=1000000) (hz: ∀x∈l,inZ c x=true) (d:Int):Con prog env 273 [aC c, .seq 1 (l.map intAV),I d] (.own 3 1 ((upsL c l d).map intAV)):=by
 have hlen:=hc.few;have f1:=bD env c;unfold aC aP at f1;unfold aC;refine qf func273 call273 ntmps273 results273 ?_;repeat refine st0 ?_
 refine nC0 7 9000 0 0 3 1 ?_;refine lq0 l.length (by omega) (fun j vs=>[(0, .ref 9 [tabCells c] 0 0),(2,I d),(7, .loc 7 (vs 7) 0 0),(8, .clo 308 [.loc 7 (vs 7) 0 0]),(14, .seq 1 (l.map intAV)),(15,I l.length),(16,I j)]) (fun j vs=>[(7,⟨1,[[.row 9000 (vs 9000)]],27,false⟩),(9000,⟨1,(upsTo c d l j).map intAV,3,true⟩)]) (fun j _ esc=>esc 7=false/\esc 9000=false) ⟨rfl,rfl⟩ ?_ ?_
 ·rintro j ws esc hlt q1 q2 ⟨e0,e1⟩;have hj:=PQ hlt;obtain⟨x,hx⟩:=gE hlt;obtain⟨n1,n2,n3⟩:=EB hc (d:=d) hz hj;have hxz:=hz x (K1 hx);have hn:=A9 (c:=c) (d:=d) hx;have fa:=uP env (upsTo c d l j) x (by omega) 27;have f2:=wV env c hc x;unfold aP at f2;have m1:=mI n1 x;have m2: ∀y∈addU (upsTo c d l j) x,inZ c y=true:=fun y hy=>(tO.1 hy).elim (n2 y) fun e=>by rw[e];exact hxz
  have hfew:=fun m hm=>Fz hc (d:=d) (i:=x) m1 m2 (m:=m) hm;have hUl:(upL c x).length<=40:=mh 40 x
  have hUr: ∀y∈upL c x,y<0\/inZ c y=true:=fun y hy=>by
   rcases O4 y 0 with h|h
   ·exact .inl h
   ·exact .inr (iD hc hy h).1
  generalize addU (upsTo c d l j) x=o at*;generalize upL c x=U at*;have z0:upTo c d o U 0=o:=rfl;have F:=ai5 hx q1 q2 e0 e1;repeat refine st ?_
  refine iC [(1000,7),(1001,9000)] (bo rfl (by simp only[go_sem,F];exact iR)) (fa) (by decide) (by decide) (by simp only[go_sem,F]<;>rfl) (by simp only[go_sem,F,Kn]<;>trivial) (by simp only[go_sem,F,Kn]<;>trivial) (by intro o;simp only[go_sem,F,behind,Kn]<;>trivial) (by intro o;simp only[go_sem,F]<;>rfl) (by simp only[go_sem,F,behind];exact iR) (by simp only[go_sem,F,behind];exact iR) ?_;repeat refine tz2 f1 f2 ?_
  refine aK (D:=Nat) (fun m vs=>[(0, .ref 9 [tabCells c] 0 0),(2,I d),(7, .loc 7 (vs 7) 0 0),(8, .clo 308 [.loc 7 (vs 7) 0 0]),(14, .seq 1 (l.map intAV)),(15,I l.length),(16,I j),(26, .row 26 (vs 26)),(27,I U.length),(28,I m)]) (fun m vs=>[(7,⟨1,[[.row 9000 (vs 9000)]],27,false⟩),(9000,⟨1,(upTo c d o U m).map intAV,3,true⟩),(26,⟨1,U.map intAV,3,true⟩)]) (fun m _ esc=>m<=U.length/\esc 7=false/\esc 9000=false) (fun m=>U.length-m) 0 ?_ ?_ ?_ ?_
  ·exact⟨Ke _,by simp only[go_sem,e0],by simp only[go_sem,e1]⟩
  ·(simp only[go_sem,F])
   try rfl
  ·have F:=z0
   (simp only[go_sem,F])
   try rfl
  try clear e0 e1
  rintro m vs es ⟨hm,e0,e1⟩;obtain⟨k1,k2,k3⟩:=hfew m hm;by_cases hml:m<U.length
  ·obtain⟨y,hy⟩:=gE hml;have p1:=nlt hml;have p2:=aD hml (by omega);have hnm:=EC (c:=c) (d:=d) (o:=o) hy;have fb:=uP env (upTo c d o U m) y (by omega) 27;have f3:=eX env c hc d y;unfold aP at f3;rcases hUr y (K1 hy) with h0|hyz
   ·have h1: ¬0<=y:=by omega
    rw[KZ (fun q=>h1 q.1)]at hnm;have F:=ai6 hy p1 p2 h1 e0 e1;repeat refine tz2 f1 f3 ?_
    refine⟨m+1,⟨hml,by simp only[go_sem,e0],by simp only[go_sem,e1]⟩,?_,?_,by omega⟩
    ·exact qe
    ·have F:=hnm;exact qe
   ·have h1:=(aI.1 hyz).1;cases hab:aboveB c d y with
    | false=>
      rw[hab]at f3 hnm;rw[KZ (by simp)]at hnm;have F:=ai6 hy p1 p2 h1 e0 e1;repeat refine tz2 f1 f3 ?_
      refine⟨m+1,⟨hml,by simp only[go_sem,e0],by simp only[go_sem,e1]⟩,?_,?_,by omega⟩
      ·exact qe
      ·have F:=hnm;exact qe
    | true=>
      rw[hab]at f3 hnm;rw[K0 ⟨h1,rfl⟩]at hnm;generalize upTo c d o U m=a at*;have F:=ai6 hy p1 p2 h1 e0 e1;repeat refine tz2 f1 f3 ?_
      refine iC [(1000,7),(1001,9000)] (bo rfl (by simp only[go_sem,F];exact iR)) (fb) (by decide) (by decide) (by simp only[go_sem,F]<;>rfl) (by simp only[go_sem,F,Kn]<;>trivial) (by simp only[go_sem,F,Kn]<;>trivial) (by intro o;simp only[go_sem,F,behind,Kn]<;>trivial) (by intro o;simp only[go_sem,F]<;>rfl) (by simp only[go_sem,F,behind];exact iR) (by simp only[go_sem,F,behind];exact iR) ?_;repeat refine st ?_
      refine⟨m+1,⟨hml,by simp only[go_sem,e0],by simp only[go_sem,e1]⟩,?_,?_,by omega⟩
      ·exact qe
      ·have F:=hnm;exact qe
  ·obtain rfl:m=U.length:=by omega
   have p1:=nl U.length;have F:=ai4 p1 q2 e0 e1;repeat refine st ?_
   refine⟨j+1,⟨hlt,by simp only[go_sem,e0],by simp only[go_sem,e1]⟩,?_,?_,by omega⟩
   ·exact qe
   ·have F:=hn;exact qe
 ·rintro ws esc q1 ⟨e0,e1⟩;show awp _ _ _ _ _ _;have hall:upsTo c d l l.length=upsL c l d:=rfl;rw[hall];have F:=ai3 q1 e0 e1;repeat refine st ?_
  exact aR
end

end Go.Proofs.YtbjldjekgepopaaGreatDoor