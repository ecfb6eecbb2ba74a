/- Ways up and growing, as the program does them. -/
import Derived.Test.YtbpmkofnfgdegaaGreatDoorQ14
import Derived.Test.YtbpmkofnfgdegaaGreatDoorQ13
import Derived.Test.YtbpmkofnfgdegaaGreatDoorQ16
import Derived.Test.YtbpmkofnfgdegaaGreatDoorQ18
import Derived.Test.YtbpmkofnfgdegaaGreatDoorQ8
import Derived.Test.YtbpmkofnfgdegaaGreatDoorQ6
import Derived.Test.YtbpmkofnfgdegaaGreatDoorQ17
import Derived.Test.YtbpmkofnfgdegaaGreatDoorQ11
set_option maxRecDepth 100000
set_option maxHeartbeats 16000000
set_option linter.unusedSimpArgs false
namespace Go.Proofs.YtbpmkofnfgdegaaGreatDoor
open Go.Proofs.Tryz
open Go.RowKit
section
/-! Legal states -/
theorem zt8 {l:List Int} (h: ∀j,0<j->j<l.length->l.getD (j-1) 0<l.getD j 0):l.Pairwise (· < ·):=by
 rw[List.pairwise_iff_getElem];intro i j hi hj hij
 have key: ∀d,i+d+1<l.length->l.getD i 0<l.getD (i+d+1) 0:=fun d=>by
  induction d with
  |zero=>intro hd;simpa using h (i+1) (by omega) (by omega)
  | succ d ih=>
    intro hd;have h1:=ih (by omega);have h2:=h (i+d+1+1) (by omega) (by omega);have e:i+(d+1)+1=i+d+1+1:=by omega
    rw[e];simp only[Nat.add_sub_cancel]at h2;omega
 have:=key (j-i-1) (by omega);rw[show i+(j-i-1)+1=j by omega]at this;simpa[List.getD_eq_getElem?_getD,List.getElem?_eq_getElem hi,List.getElem?_eq_getElem hj]using this
structure Lg (c:ChD) (act:List Int):Prop where
 rise:act.Pairwise (· < ·)
 fit: ∀x∈act,∃s,at_ c x=some s/\fitB c act x.toNat s=true
 top:manyI act (kidsL c (-1) true)=1
theorem zc4 {c:ChD} {act:List Int} (h:lgB c act=true):Lg c act:=by
 obtain⟨h1,h2⟩:=zob.1 h
 have h3: ∀j (hj:j<act.length),(j==0||decide (act.getD (j-1) 0<act[j]))=true/\fitI c act act[j]=true:=fun j hj=>by
  have:=h1 j hj;unfold lgAt at this;rw[List.getElem?_eq_getElem hj]at this;simpa only[Bool.and_eq_true]using this
 refine⟨zt8 fun j h0 hj=> ?_,fun x hx=> ?_,h2⟩
 ·have:=(h3 j hj).1;have hne:(j==0)=false:=by simp;omega
  rw[hne,Bool.false_or,decide_eq_true_eq]at this;simpa[List.getD_eq_getElem?_getD,List.getElem?_eq_getElem hj]using this
 ·obtain⟨j,hj,rfl⟩:=List.mem_iff_getElem.1 hx;have:=(h3 j hj).2;unfold fitI at this;split at this
  ·rename_i s hs;exact⟨s,hs,this⟩
  ·cases this
theorem Lg.of {c:ChD} {act:List Int} (h:Lg c act) {x:Int} (hx:x∈act): ∃s,at_ c x=some s/\inZ c x=true/\zaq s=false/\(parZ c x<0\/parZ c x∈act)/\(s.kind=1->kidsL c x true≠[]->manyI act (kidsL c x true)=1)/\(s.kind=2->manyI act (kidsL c x true)=(kidsL c x true).length):=by
 obtain⟨s,hs,hf⟩:=h.fit x hx
 have h0:0<=x/\c.states[x.toNat]? =some s:=by
  unfold at_ at hs;split at hs
  ·exact⟨by assumption,hs⟩
  ·cases hs
 obtain⟨k,rfl⟩: ∃k:Nat,x=k:=⟨x.toNat,by omega⟩;have hk:=(List.getElem?_eq_some_iff.1 h0.2).1;have hp:parZ c (k:Int)=s.parent:=by unfold parZ;rw[hs]
 unfold fitB at hf;rw[Int.toNat_natCast,Bool.and_eq_true,Bool.and_eq_true]at hf;obtain⟨⟨f1,f2⟩,f3⟩:=hf;refine⟨s,hs,zag.2 ⟨by omega,by simpa using hk⟩,by simpa using f1,?_,fun e hne=> ?_,fun e=> ?_⟩
 ·rw[hp];rw[Bool.or_eq_true,decide_eq_true_eq]at f2;exact f2.imp id fun f2=>by simpa using f2
 ·rw[if_pos ⟨e,hne⟩]at f3;simpa using f3
 ·rw[if_neg (fun q=>by omega),if_pos e]at f3;simpa using f3
theorem Lg.real {c:ChD} {act:List Int} (h:Lg c act) {x:Int} (hx:x∈act) {s:StD} (hs:at_ c x=some s):s.kind≠4/\s.kind≠5:=by
 obtain⟨s',e,_,hm,_⟩:=h.of hx;rw[hs]at e;cases e;unfold zaq at hm;simpa using hm
theorem Lg.nodup {c:ChD} {act:List Int} (h:Lg c act):act.Nodup:=h.rise.imp fun h=>by omega
theorem Lg.up {c:ChD} (hr:Right c) {act:List Int} (h:Lg c act): ∀(n:Nat) (x k:Int),x<n->x∈act->k∈upL c x->0<=k->k∈act
 | 0,x,k,hn,hx,hk,h0=>by
   obtain⟨_,_,hz,_⟩:=h.of hx;have:=zag.1 hz;omega
 | n+1,x,k,hn,hx,hk,h0=>by
   obtain⟨_,_,hz,_,hp,_⟩:=h.of hx;rw[zbF hr hz]at hk;have:=zb0 hr hz;rcases hk with rfl|hk
   ·exact hp.resolve_left (by omega)
   ·rcases hp with hp|hp
    ·rw[zbr (by unfold inZ;rw[decide_eq_false (by omega),Bool.false_and])]at hk;simp at hk
    ·exact Lg.up hr h n _ k (by omega) hp hk h0
theorem zd4 {c:ChD} (hr:Right c) {l:List Int} (hl: ∀x∈l,inZ c x=true) {x:Int} :x∈zL (sortL c l)↔x∈l:=by
 have ha:l.all (inZ c)=true:=List.all_eq_true.2 hl;unfold sortL;rw[if_pos ha];constructor
 ·intro hx;obtain⟨k,hk,rfl⟩:=List.mem_map.1 hx;simpa using (List.mem_filter.1 hk).2
 ·intro hx;have hz:=zag.1 (hl x hx);refine List.mem_map.2 ⟨x.toNat,List.mem_filter.2 ⟨?_,?_⟩,by omega⟩
  ·exact(zes hr _).2 (by omega)
  ·have e:((x.toNat:Nat):Int)=x:=by omega
   rw[e];simpa using hx
/-! Memories in their order -/
def putM:List MemD->MemD->List MemD
 |[],m=>[m]
 |x::r,m=>if x.1<m.1 then x::putM r m else if x.1=m.1 then m::r else m::x::r
abbrev Srt (l:List MemD):Prop:=l.Pairwise fun a b=>a.1<b.1
theorem zgG {m p:MemD} : ∀ {l:List MemD},Srt l->(p∈putM l m↔p=m\/(p∈l/\p.1≠m.1))
 |[],_=>by simp[putM]
 | x::r,h=>by
   obtain⟨h1,h2⟩:=List.pairwise_cons.1 h;unfold putM;split
   ·rename_i hlt;rw[List.mem_cons,zgG h2,List.mem_cons];constructor
    ·rintro(rfl|rfl|⟨a,b⟩)
     ·exact .inr ⟨.inl rfl,by omega⟩
     ·exact .inl rfl
     ·exact .inr ⟨.inr a,b⟩
    ·rintro(rfl|⟨rfl|a,b⟩)
     ·exact .inr (.inl rfl)
     ·exact .inl rfl
     ·exact .inr (.inr ⟨a,b⟩)
   ·split
    ·rename_i he;rw[List.mem_cons,List.mem_cons];constructor
     ·rintro(rfl|a)
      ·exact .inl rfl
      ·exact .inr ⟨.inr a,by have:=h1 p a;omega⟩
     ·rintro(rfl|⟨rfl|a,b⟩)
      ·exact .inl rfl
      ·exact absurd he b
      ·exact .inr a
    ·rename_i hn he;rw[List.mem_cons,List.mem_cons];constructor
     ·rintro(rfl|rfl|a)
      ·exact .inl rfl
      ·exact .inr ⟨.inl rfl,by omega⟩
      ·exact .inr ⟨.inr a,by have:=h1 p a;omega⟩
     ·rintro(rfl|⟨rfl|a,b⟩)
      ·exact .inl rfl
      ·exact .inr (.inl rfl)
      ·exact .inr (.inr a)
theorem zjy {m:MemD} : ∀ {l:List MemD},Srt l->Srt (putM l m)
 |[],_=>by simp[putM,Srt]
 | x::r,h=>by
   obtain⟨h1,h2⟩:=List.pairwise_cons.1 h;unfold putM;split
   ·rename_i hlt;refine List.pairwise_cons.2 ⟨fun p hp=> ?_,zjy h2⟩;rcases (zgG h2).1 hp with rfl|⟨a,_⟩
    ·exact hlt
    ·exact h1 p a
   ·split
    ·rename_i he;exact List.pairwise_cons.2 ⟨fun p hp=>by have:=h1 p hp;omega,h2⟩
    ·refine List.pairwise_cons.2 ⟨fun p hp=> ?_,h⟩;rcases List.mem_cons.1 hp with rfl|hp
     ·omega
     ·have:=h1 p hp;omega
theorem zvG {a b:List MemD} (ha:Srt a) (hb:Srt b) (h: ∀p,p∈a↔p∈b):a=b:=by
 have na:a.Nodup:=ha.imp fun h e=>by rw[e]at h;omega
 have nb:b.Nodup:=hb.imp fun h e=>by rw[e]at h;omega
 exact List.Perm.eq_of_pairwise (fun x y _ _ h1 h2=>by omega) ha hb ((List.perm_ext_iff_of_nodup na nb).2 h)
/-! What is remembered -/
def underL (c:ChD) (l:List Int) (i:Int):List Int:=l.filter (aboveB c i)
def innerP (c:ChD) (l:List Int) (i:Int):Bool:= !(kidZ c i).any fun k=>l.contains k
def innerL (c:ChD) (l:List Int):List Int:=zbq (l.filter (innerP c l))
def zfT (c:ChD) (act:List Int) (i:Int):List Int:=match ((kidZ c i).filter fun k=>act.contains k).getLast? with
 |some k=>[k]
 |none=>[]
def newV (c:ChD) (act:List Int) (i:Int) (h:Nat):List Int:=match c.states[h]? with
 |some s=>if s.kind=5 then innerL c (underL c act i) else zfT c act i
 |none=>[]
def memTo_ (c:ChD) (act:List Int) (i:Int) (o:List MemD) (M:List Nat) (m:Nat):List MemD:=(M.take m).foldl (fun o (h:Nat)=>putM o ((h:Int),newV c act i h)) o
def remTo (c:ChD) (act gone:List Int) (o:List MemD) (j:Nat):List MemD:=(gone.take j).foldl (fun o i=>if zaD c i=true then memTo_ c act i o (memL c i) (memL c i).length else o) o
def remL (c:ChD) (act gone:List Int) (mem:List MemD):List MemD:=remTo c act gone mem gone.length
theorem zk2 {c:ChD} {act:List Int} {i:Int} {M:List Nat} : ∀(m:Nat) {o:List MemD},m<=M.length->Srt o->Srt (memTo_ c act i o M m)/\ ∀p,p∈memTo_ c act i o M m↔(∃h∈M.take m,p=((h:Int),newV c act i h))\/(p∈o/\ ∀h∈M.take m,p.1≠(h:Int))
 |0,o,_,hs=>⟨hs,fun p=>by simp[memTo_]⟩
 | m+1,o,hm,hs=>by
   obtain⟨k,hk⟩: ∃k,M[m]? =some k:=⟨M[m],List.getElem?_eq_getElem (by omega)⟩;obtain⟨q1,q2⟩:=zk2 (c:=c) (act:=act) (i:=i) (M:=M) m (o:=o) (by omega) hs;have e:memTo_ c act i o M (m+1)=putM (memTo_ c act i o M m) ((k:Int),newV c act i k):=za3 _ _ hk;have e2: ∀x,x∈M.take (m+1)↔x∈M.take m\/x=k:=fun x=>by rw[List.take_add_one,hk];simp
   rw[e];refine⟨zjy q1,fun p=> ?_⟩;rw[zgG q1,q2];simp only[e2];constructor
   ·rintro(rfl|⟨⟨h,a,rfl⟩|⟨a,b⟩,d⟩)
    ·exact .inl ⟨k, .inr rfl,rfl⟩
    ·exact .inl ⟨h, .inl a,rfl⟩
    ·exact .inr ⟨a,fun h hh=>hh.elim (b h) fun e=>by rw[e];exact d⟩
   ·rintro(⟨h,a|rfl,rfl⟩|⟨a,b⟩)
    ·by_cases e:h=k
     ·exact .inl (by rw[e])
     ·exact .inr ⟨.inl ⟨h,a,rfl⟩,by simp;omega⟩
    ·exact .inl rfl
    ·exact .inr ⟨.inr ⟨a,fun h hh=>b h (.inl hh)⟩,b k (.inr rfl)⟩
theorem zc3 {c:ChD} {i:Int} {k:Nat} :k∈memL c i↔ ∃s,c.states[k]? =some s/\inZ c i=true/\s.parent=i/\zaq s=true:=by
 unfold memL memP;rw[List.mem_filter,List.mem_range];constructor
 ·rintro⟨h1,h2⟩;rw[List.getElem?_eq_getElem h1]at h2 |-;simp only[Bool.and_eq_true,beq_iff_eq]at h2;exact⟨_,rfl,h2.1,h2.2.1,h2.2.2⟩
 ·rintro⟨s,hs,h1,h2,h3⟩;refine⟨(List.getElem?_eq_some_iff.1 hs).1,?_⟩;rw[hs];simp[h1,h2,h3]
def touch (c:ChD) (gone:List Int) (h:Int):Prop:= ∃i∈gone,zaD c i=true/\ ∃k∈memL c i,h=(k:Int)
theorem znR {c:ChD} {act gone:List Int} {o:List MemD} (hs:Srt o): ∀(j:Nat),j<=gone.length->Srt (remTo c act gone o j)/\ ∀p,p∈remTo c act gone o j↔(∃i∈gone.take j,zaD c i=true/\ ∃k∈memL c i,p=((k:Int),newV c act i k))\/(p∈o/\ ¬touch c (gone.take j) p.1)
 |0,_=>⟨hs,fun p=>by simp[remTo,touch]⟩
 | j+1,hj=>by
   obtain⟨i,hi⟩: ∃i,gone[j]? =some i:=⟨gone[j],List.getElem?_eq_getElem (by omega)⟩;obtain⟨q1,q2⟩:=znR (c:=c) (act:=act) (gone:=gone) hs j (by omega);have e:remTo c act gone o (j+1)=if zaD c i=true then memTo_ c act i (remTo c act gone o j) (memL c i) (memL c i).length else remTo c act gone o j:=za3 _ _ hi
   have e2: ∀x,x∈gone.take (j+1)↔x∈gone.take j\/x=i:=fun x=>by rw[List.take_add_one,hi];simp
   rw[e];split
   ·rename_i hp;obtain⟨p1,p2⟩:=zk2 (c:=c) (act:=act) (i:=i) (M:=memL c i) _ (Nat.le_refl _) q1;refine⟨p1,fun p=> ?_⟩;rw[p2,q2,List.take_length];unfold touch;simp only[e2];constructor
    ·rintro(⟨h,a,rfl⟩|⟨⟨i',a,b,k,d',rfl⟩|⟨a,b⟩,d⟩)
     ·exact .inl ⟨i, .inr rfl,hp,h,a,rfl⟩
     ·exact .inl ⟨i', .inl a,b,k,d',rfl⟩
     ·refine .inr ⟨a,?_⟩;rintro⟨i',a' | rfl,b',k,d',e'⟩
      ·exact b ⟨i',a',b',k,d',e'⟩
      ·exact d k d' e'
    ·rintro(⟨i',a|rfl,b,k,d,rfl⟩|⟨a,b⟩)
     ·by_cases e:i'=i
      ·subst e;exact .inl ⟨k,d,rfl⟩
      ·refine .inr ⟨.inl ⟨i',a,b,k,d,rfl⟩,fun h hh he=>e ?_⟩;have he:((k:Nat):Int)=h:=he;have he:k=h:=by omega
       subst he;obtain⟨s,hs,_,h1,_⟩:=zc3.1 d;obtain⟨s',hs',_,h2,_⟩:=zc3.1 hh;rw[hs]at hs';cases hs';rw[<-h1, <-h2]
     ·exact .inl ⟨k,d,rfl⟩
     ·refine .inr ⟨.inr ⟨a,fun⟨i',a',b',r⟩=>b ⟨i', .inl a',b',r⟩⟩,fun h hh he=>b ⟨i, .inr rfl,hp,h,hh,he⟩⟩
   ·rename_i hp;refine⟨q1,fun p=> ?_⟩;rw[q2];unfold touch;simp only[e2];constructor
    ·rintro(⟨i',a,b,r⟩|⟨a,b⟩)
     ·exact .inl ⟨i', .inl a,b,r⟩
     ·refine .inr ⟨a,?_⟩;rintro⟨i',a' | rfl,b',r⟩
      ·exact b ⟨i',a',b',r⟩
      ·exact hp b'
    ·rintro(⟨i',a|rfl,b,r⟩|⟨a,b⟩)
     ·exact .inl ⟨i',a,b,r⟩
     ·exact absurd b hp
     ·exact .inr ⟨a,fun⟨i',a',b',r⟩=>b ⟨i', .inl a',b',r⟩⟩
theorem zwv {c:ChD} {act gone:List Int} {o:List MemD} (hs:Srt o):Srt (remL c act gone o)/\ ∀p,p∈remL c act gone o↔(∃i∈gone,zaD c i=true/\ ∃k∈memL c i,p=((k:Int),newV c act i k))\/(p∈o/\ ¬touch c gone p.1):=by
 have:=znR (c:=c) (act:=act) (gone:=gone) hs _ (Nat.le_refl _);rw[List.take_length]at this;exact this
/-! As the document says -/
def ofM (mem:List MemD) (h:Int):List Int:=match mem.find? (fun m=>m.1==h) with
 |some m=>m.2
 |none=>[]
def rinL (c:ChD) (l:List Int):List Nat:=(List.range c.states.length).filter fun i:Nat=>l.contains (i:Int)&&(manyI l (kidsL c i true)==0)
def zfI (c:ChD) (l:List Int) (i:Int):List Int:=(zL (sortL c l)).filter (aboveB c i)
def refV (c:ChD) (act gone:List Int) (mem:List MemD) (h:Nat):List Int:=match c.states[h]? with
 |some s=>if zaq s=true then(if gone.contains s.parent=true then(if s.kind=5 then zL (rinL c (zfI c act s.parent)) else(kidZ c s.parent).filter fun k=>act.contains k) else ofM mem h) else []
 |none=>[]
def zrc (c:ChD) (act gone:List Int) (mem:List MemD) (j:Nat):List MemD:=((List.range j).filter fun h=> !(refV c act gone mem h).isEmpty).map fun h:Nat=>((h:Int),refV c act gone mem h)
def remR (c:ChD) (act gone:List Int) (mem:List MemD):List MemD:=zrc c act gone mem c.states.length
theorem zrB {mem:List MemD} (hs:Srt mem) {p:MemD} (hp:p∈mem):ofM mem p.1=p.2:=by
 unfold ofM;cases hf:mem.find? (fun m=>m.1==p.1) with
 | none=>
   rw[List.find?_eq_none]at hf;exact absurd (beq_self_eq_true p.1) (hf p hp)
 | some q=>
   have h1:=List.find?_some hf;have h2:=List.mem_of_find?_eq_some hf;simp only[beq_iff_eq]at h1
   have na:q=p:=by
    obtain⟨a,ha,rfl⟩:=List.mem_iff_getElem.1 h2;obtain⟨b,hb,rfl⟩:=List.mem_iff_getElem.1 hp;rcases Nat.lt_trichotomy a b with h|h|h
    ·have:=List.pairwise_iff_getElem.1 hs a b ha hb h;omega
    ·subst h;rfl
    ·have:=List.pairwise_iff_getElem.1 hs b a hb ha h;omega
   rw[na]
theorem zhq {c:ChD} {mem:List MemD} (h:zbd c mem=true):Srt mem/\ ∀m∈mem,memB c m=true:=by
 have h1: ∀j (hj:j<mem.length),memB c mem[j]=true/\(j=0\/(mem.getD (j-1) (0,[])).1<mem[j].1):=fun j hj=>by
  have:=List.all_eq_true.1 h j (List.mem_range.2 hj);unfold zhr at this;rw[List.getElem?_eq_getElem hj,Bool.and_eq_true,Bool.or_eq_true,decide_eq_true_eq]at this;exact⟨this.1,this.2.imp (by simp) id⟩
 refine⟨List.pairwise_iff_getElem.2 ?_,fun m hm=> ?_⟩
 ·intro i j hi hj hij
  have key: ∀d (hd:i+d+1<mem.length),mem[i].1<mem[i+d+1].1:=fun d=>by
   induction d with
   | zero=>
     intro hd;have:=(h1 (i+1) hd).2.resolve_left (by omega);simpa[List.getD_eq_getElem?_getD,List.getElem?_eq_getElem hi]using this
   | succ d ih=>
     intro hd;have a:=ih (by omega);have b:=(h1 (i+d+1+1) (by omega)).2.resolve_left (by omega);simp only[Nat.add_sub_cancel,List.getD_eq_getElem?_getD,List.getElem?_eq_getElem (show i+d+1<mem.length by omega),Option.getD_some]at b;have e:i+(d+1)+1=i+d+1+1:=by omega
     simp only[e];omega
  have:=key (j-i-1) (by omega);simpa[show i+(j-i-1)+1=j by omega]using this
 ·obtain⟨j,hj,rfl⟩:=List.mem_iff_getElem.1 hm;exact(h1 j hj).1
theorem zvW {c:ChD} {mem:List MemD} (hs:Srt mem) (hm: ∀m∈mem,memB c m=true):zbd c mem=true:=by
 refine List.all_eq_true.2 fun j hj=> ?_;have hj:=List.mem_range.1 hj;unfold zhr;rw[List.getElem?_eq_getElem hj];simp only;rw[hm _ (List.getElem_mem hj),Bool.true_and];by_cases h0:j=0
 ·simp[h0]
 ·have:=List.pairwise_iff_getElem.1 hs (j-1) j (by omega) hj (by omega);simp[List.getD_eq_getElem?_getD,List.getElem?_eq_getElem (show j-1<mem.length by omega),this]
theorem zms {l:List Int} (h:zdy l=true):l≠[]:=by
 unfold zdy at h;rw[Bool.and_eq_true]at h;intro e;rw[e]at h;simp at h
theorem zrJ {c:ChD} {m:MemD} (h:memB c m=true): ∃(k:Nat) (s:StD),m.1=(k:Int)/\c.states[k]? =some s/\zaq s=true/\m.2≠[]:=by
 unfold memB at h;split at h
 ·rename_i s hs
  have h0:0<=m.1/\c.states[m.1.toNat]? =some s:=by
   unfold at_ at hs;split at hs
   ·exact⟨by assumption,hs⟩
   ·cases hs
  refine⟨m.1.toNat,s,by omega,h0.2,?_,?_⟩
  ·unfold zaq;split at h
   ·rename_i e;simp[e]
   ·rw[Bool.and_eq_true]at h;rw[h.1];simp
  ·split at h
   ·rw[Bool.and_eq_true,decide_eq_true_eq]at h;intro e;rw[e]at h;simp at h
   ·unfold deepB at h;simp only[Bool.and_eq_true]at h;exact zms h.2.1.1.1
 ·cases h
theorem zue {l:List Int} {ks:List Nat} :manyI l ks=0↔((zL ks).any fun k=>l.contains k)=false:=by
 rw[zfk,List.any_eq_false];simp
theorem zjq {a b:List Int} (ha:a.Pairwise (· < ·)) (hb:b.Pairwise (· < ·)) (h: ∀x,x∈a↔x∈b):a=b:=by
 have na:a.Nodup:=ha.imp fun h=>by omega
 have nb:b.Nodup:=hb.imp fun h=>by omega
 exact List.Perm.eq_of_pairwise (fun x y _ _ h1 h2=>by omega) ha hb ((List.perm_ext_iff_of_nodup na nb).2 h)
theorem zfG {l:List Int} (hn:l.Nodup):(zbq l).Pairwise (· < ·)/\ ∀x,x∈zbq l↔x∈l:=by
 have hs:(zbq l).Pairwise (fun x y:Int=>decide (x<=y)=true):=List.pairwise_mergeSort (fun a b c=>by simp;omega) (fun a b=>by simp;omega) _;have hp:(zbq l).Perm l:=List.mergeSort_perm ..;have hn2:(zbq l).Nodup:=hp.nodup_iff.2 hn;refine⟨(List.pairwise_and_iff.2 ⟨hs,hn2⟩).imp fun⟨a,b⟩=> ?_,fun x=>hp.mem_iff⟩;have a:=of_decide_eq_true a;omega
theorem zqq {p:Nat->Bool} {n:Nat} :(zL ((List.range n).filter p)).Pairwise (· < ·):=by
 unfold zL;rw[List.pairwise_map];exact(zq8 (p:=p) (n:=n)).imp fun h=>by omega
theorem zpN {c:ChD} (hr:Right c) {act:List Int} (hg:Lg c act) (i:Int):innerL c (underL c act i)=zL (rinL c (zfI c act i)):=by
 have hz: ∀x∈act,inZ c x=true:=fun x hx=>by obtain⟨_,_,h,_⟩:=hg.of hx;exact h
 have hu: ∀x,x∈zfI c act i↔x∈underL c act i:=fun x=>by
  unfold zfI underL;rw[List.mem_filter,List.mem_filter,zd4 hr hz]
 have hn:((underL c act i).filter (innerP c (underL c act i))).Nodup:=(hg.nodup.sublist List.filter_sublist).sublist List.filter_sublist;obtain⟨r1,r2⟩:=zfG hn;refine zjq r1 zqq fun x=> ?_;unfold innerL;rw[r2,List.mem_filter]
 have hmany: ∀k:Nat,innerP c (underL c act i) k=(manyI (zfI c act i) (kidsL c k true)==0):=fun k=>by
  rw[zdo hu,Bool.eq_iff_iff];unfold innerP;rw[Bool.not_eq_true',beq_iff_eq,zue]
 constructor
 ·rintro⟨h1,h2⟩;have hx:x∈act:=(List.mem_filter.1 h1).1;have:=zag.1 (hz x hx);obtain⟨k,rfl⟩: ∃k:Nat,x=k:=⟨x.toNat,by omega⟩;refine List.mem_map.2 ⟨k,List.mem_filter.2 ⟨List.mem_range.2 (by omega),?_⟩,rfl⟩;rw[Bool.and_eq_true,List.contains_iff_mem, <-hmany];exact⟨(hu _).2 h1,h2⟩
 ·intro hx;obtain⟨k,hk,rfl⟩:=List.mem_map.1 hx;have:=(List.mem_filter.1 hk).2;rw[Bool.and_eq_true,List.contains_iff_mem, <-hmany]at this;exact⟨(hu _).1 this.1,this.2⟩
theorem last_one {l:List Int} {x:Int} (h:l=[x]):l.getLast? =some x:=by rw[h];rfl
theorem zhs (act:List Int) (ks:List Nat):((zL ks).filter fun k=>act.contains k).length=manyI act ks:=by
 unfold manyI zL;rw[List.filter_map,List.length_map];rfl
theorem zjP {c:ChD} {act:List Int} {i:Int} (h:manyI act (kidsL c i true)=1): ∃k,k∈kidZ c i/\k∈act/\zfT c act i=[k]/\((kidZ c i).filter fun k=>act.contains k)=[k]:=by
 rw[<-zhs]at h;obtain⟨k,hk⟩:=List.length_eq_one_iff.1 h;have hm:k∈(kidZ c i).filter fun k=>act.contains k:=by rw[hk];simp
 obtain⟨h1,h2⟩:=List.mem_filter.1 hm;refine⟨k,h1,by simpa using h2,?_,hk⟩;unfold zfT;rw[last_one hk]
theorem zhA {c:ChD} (hr:Right c) {act:List Int} (i:Int): ∀(n:Nat) (x:Int),(c.states.length:Int)<=x+n->x∈underL c act i-> ∃y∈innerL c (underL c act i),y=x\/x∈upL c y
 | 0,x,hn,hx=>by
   have ha:i∈upL c x:=by simpa[aboveB]using (List.mem_filter.1 hx).2
   cases hh:inZ c x with
   |true=>have:=zag.1 hh;omega
   |false=>rw[zbr hh]at ha;simp at ha
 | n+1,x,hn,hx=>by
   have hxm:=List.mem_filter.1 hx;have ha:i∈upL c x:=by simpa[aboveB]using hxm.2
   by_cases hi:innerP c (underL c act i) x=true
   ·refine⟨x,?_, .inl rfl⟩;unfold innerL;exact(List.mergeSort_perm ..).mem_iff.2 (List.mem_filter.2 ⟨hx,hi⟩)
   ·have hi:((kidZ c x).any fun k=>(underL c act i).contains k)=true:=by
     unfold innerP at hi;simpa using hi
    obtain⟨k,hk,hku⟩:=List.any_eq_true.1 hi;obtain⟨k1,k2,k3⟩:=zaO hr hk;obtain⟨y,hy,hyk⟩:=zhA hr i n k (by omega) (by simpa using hku);have hxk:x∈upL c k:=(zbF hr k1).2 (.inl k2.symm);refine⟨y,hy, .inr ?_⟩;rcases hyk with rfl|hyk
    ·exact hxk
    ·exact zdt hr ((c.states.length+1)) y k x (by
      cases hh:inZ c y with
      |true=>have:=zag.1 hh;omega
      |false=>rw[zbr hh]at hyk;simp at hyk) hyk hxk
theorem zam {c:ChD} (hr:Right c) {p x:Int} (hx:inZ c x=true):aboveB c p x=true↔parZ c x=p\/aboveB c p (parZ c x)=true:=by
 unfold aboveB;rw[List.contains_iff_mem,List.contains_iff_mem,zbF hr hx];exact⟨fun h=>h.imp Eq.symm id,fun h=>h.imp Eq.symm id⟩
theorem zuJ {c:ChD} (h:Full c) {act:List Int} (hg:Lg c act) {p:Int} (hp:p∈act) (hpl:zaD c p=true) (hk:kidsL c p true≠[]):zlR c p (innerL c (underL c act p))=true:=by
 have hr:=h.toRight;have hz: ∀x∈act,inZ c x=true:=fun x hx=>by obtain⟨_,_,h,_⟩:=hg.of hx;exact h
 have hub: ∀x∈underL c act p,x∈act/\aboveB c p x=true:=fun x hx=>List.mem_filter.1 hx;have hn:((underL c act p).filter (innerP c (underL c act p))).Nodup:=(hg.nodup.sublist List.filter_sublist).sublist List.filter_sublist;obtain⟨r1,r2⟩:=zfG hn;have hin: ∀x,x∈innerL c (underL c act p)↔x∈underL c act p/\innerP c (underL c act p) x=true:=fun x=>by unfold innerL;rw[r2,List.mem_filter]
 have hkid: ∀x k,(x=p\/x∈underL c act p)->k∈kidZ c x->(k∈underL c act p↔k∈act):=fun x k hx hk=>by
  obtain⟨k1,k2,_⟩:=zaO hr hk;refine⟨fun hh=>(hub k hh).1,fun hh=>List.mem_filter.2 ⟨hh,(zam hr k1).2 ?_⟩⟩;rw[k2];exact hx.imp id fun hx=>(hub x hx).2
 have hpo:=hg.of hp;obtain⟨sp,hsp,hzp,_,_,hp1,_⟩:=hpo;have hkp:sp.kind=1:=by rw[zaV hsp]at hpl;simpa using hpl
 obtain⟨k0,k1,k2,_,_⟩:=zjP (hp1 hkp hk);have hk0:k0∈underL c act p:=(hkid p k0 (.inl rfl) k1).2 k2;obtain⟨y0,hy0,_⟩:=zhA hr p (c.states.length+1) k0 (by have:=zag.1 (hz k0 k2);omega) hk0;have hne:innerL c (underL c act p)≠[]:=fun e=>by rw[e]at hy0;simp at hy0
 have hrise:zdy (innerL c (underL c act p))=true:=by
  unfold zdy;rw[Bool.and_eq_true,List.all_eq_true];refine⟨by simpa using hne,fun j hj=> ?_⟩;have hj:=List.mem_range.1 hj;unfold upB;by_cases h0:j=0
  ·simp[h0]
  ·have:=List.pairwise_iff_getElem.1 r1 (j-1) j (by unfold innerL at hj;omega) hj (by omega);rw[Bool.or_eq_true,decide_eq_true_eq];right;rw[List.getD_eq_getElem?_getD,List.getD_eq_getElem?_getD,List.getElem?_eq_getElem hj,List.getElem?_eq_getElem (show j-1< (innerL c (underL c act p)).length by omega)];exact this
 have hleaf: ∀x∈innerL c (underL c act p),kidsL c x true=[]:=fun x hx=>by
  obtain⟨q1,q2⟩:=(hin x).1 hx;have hxa:=(hub x q1).1;obtain⟨s,hs,_,hm,_,f1,f2⟩:=hg.of hxa
  have hno: ∀k∈kidZ c x,k∉act:=fun k hk hh=>by
   unfold innerP at q2;have:((kidZ c x).any fun k=>(underL c act p).contains k)=true:=List.any_eq_true.2 ⟨k,hk,by simpa using (hkid x k (.inr q1) hk).2 hh⟩;rw[this]at q2;cases q2
  have h0:=zfk.2 hno;apply Classical.byContradiction;intro hne;rcases zfD h hs with⟨e,_⟩|⟨e,_⟩|⟨_,e⟩|⟨_,e⟩
  ·have:=f1 e hne;omega
  ·have:=f2 e;rw[h0]at this;exact hne (List.eq_nil_of_length_eq_zero this.symm)
  ·exact hne e
  ·exact hne e
 have hmem: ∀x,x∈deepRA c p (innerL c (underL c act p))↔x∈underL c act p\/x=p:=fun x=>by
  unfold deepRA;rw[List.mem_append,List.mem_singleton,zjA hr fun x hx=>hz x (hub x ((hin x).1 hx).1).1,zdX.2];constructor
  ·rintro((a|⟨i,a,b,d,e⟩)|a)
   ·exact .inl ((hin x).1 a).1
   ·have hia:=(hub i ((hin i).1 a).1).1;exact .inl (List.mem_filter.2 ⟨hg.up hr (c.states.length+1) i x (by have:=zag.1 (hz i hia);omega) hia b d,e⟩)
   ·exact .inr a
  ·rintro(a|a)
   ·obtain⟨y,hy,e|e⟩:=zhA hr p (c.states.length+1) x (by have:=zag.1 (hz x (hub x a).1);omega) a
    ·exact .inl (.inl (by rw[<-e];exact hy))
    ·exact .inl (.inr ⟨y,hy,e,(zag.1 (hz x (hub x a).1)).1,(hub x a).2⟩)
   ·exact .inr a
 unfold zlR;rw[hrise,Bool.true_and,Bool.and_eq_true,List.all_eq_true,List.all_eq_true];refine⟨fun x hx=> ?_,fun x hx=> ?_⟩
 ·obtain⟨q1,_⟩:=(hin x).1 hx;obtain⟨q3,q4⟩:=hub x q1;obtain⟨s,hs,_,hm,_⟩:=hg.of q3;unfold zbw;rw[q4,hs,hleaf x hx];simp[hm]
 ·have hx:=(hmem x).1 hx;have hxa:x∈act:=hx.elim (fun a=>(hub x a).1) fun a=>by rw[a];exact hp
  obtain⟨s,hs,_,hm,_,f1,f2⟩:=hg.of hxa
  have hmany:manyI (deepRA c p (innerL c (underL c act p))) (kidsL c x true)=manyI act (kidsL c x true):=by
   unfold manyI
   congr 1
   apply List.filter_congr;intro k hk;have hkz:(k:Int)∈kidZ c x:=List.mem_map.2 ⟨k,hk,rfl⟩;rw[Bool.eq_iff_iff,List.contains_iff_mem,List.contains_iff_mem,hmem];refine⟨fun hh=>hh.elim (fun a=>(hub _ a).1) fun a=>by rw[a];exact hp,fun hh=> .inl ((hkid x k ?_ hkz).2 hh)⟩;exact hx.symm
  unfold zbx;rw[hs];simp only;rw[hmany];rcases zfD h hs with⟨e,_⟩|⟨e,_⟩|⟨e,_⟩|⟨e,_⟩
  ·by_cases hne:kidsL c x true=[]
   ·simp[e,hne,manyI]
   ·have:=f1 e hne;have hlen:0< (kidsL c x true).length:=List.length_pos_iff.2 hne;simp[e,this];omega
  ·simp[e,f2 e]
  ·simp[e]
  ·rcases e with e|e<;>simp[e]
theorem zhH {c:ChD} (h:Full c) {k:Nat} {s:StD} (hs:c.states[k]? =some s) (hm:zaq s=true):zaD c s.parent=true/\zav c s.parent=true/\kidsL c s.parent true≠[]/\inZ c s.parent=true/\(s.kind=4\/s.kind=5):=by
 have hk:s.kind=4\/s.kind=5:=by unfold zaq at hm;simpa using hm
 rcases h.cases hs with⟨e,_⟩|⟨e,_⟩|⟨e,_⟩|⟨_,_,hp,hi⟩
 ·omega
 ·omega
 ·omega
 ·unfold zbJ at hp;split at hp
  ·rename_i q hq;refine⟨by unfold zaD;rw[hq];exact hp,?_,fun e=> ?_,?_,hk⟩
   ·unfold zav zcW;rw[hq];simp only[hp,Bool.true_or]
   ·rw[e]at hi;simp[inL]at hi
   ·unfold at_ at hq;split at hq
    ·rename_i h0;have:=(List.getElem?_eq_some_iff.1 hq).1;exact zag.2 ⟨h0,by omega⟩
    ·cases hq
  ·cases hp
theorem zn2 {c:ChD} (h:Full c) {act:List Int} (hg:Lg c act) {k:Nat} {s:StD} (hs:c.states[k]? =some s) (hm:zaq s=true) (hp:s.parent∈act):
 newV c act s.parent k=(if s.kind=5 then zL (rinL c (zfI c act s.parent)) else(kidZ c s.parent).filter fun k=>act.contains k)/\memB c ((k:Int),newV c act s.parent k)=true:=by
 obtain⟨h1,h2,h3,h4,h5⟩:=zhH h hs hm;have hat:at_ c (k:Int)=some s:=by rw[zaM];exact hs
 have hv:newV c act s.parent k=if s.kind=5 then innerL c (underL c act s.parent) else zfT c act s.parent:=by
  unfold newV;rw[hs]
 have hB: ∀v,memB c ((k:Int),v)=if s.kind=4 then decide (v.length=1)&&(kidZ c s.parent).contains (v.getD 0 0) else(s.kind==5)&&deepB c s.parent v:=fun v=>by
  unfold memB;simp only[hat]
 by_cases e:s.kind=5
 ·rw[if_pos e]at hv;rw[hv,hB,if_pos e,if_neg (by omega)];refine⟨zpN h.toRight hg _,?_⟩;rw[zhY h h2,zuJ h hg hp h1 h3,e];rfl
 ·rw[if_neg e]at hv;rw[hv,hB,if_neg e,if_pos (by omega)];obtain⟨sp,hsp,_,_,_,f1,_⟩:=hg.of hp;have hkp:sp.kind=1:=by rw[zaV hsp]at h1;simpa using h1
  obtain⟨q,q1,q2,q3,q4⟩:=zjP (f1 hkp h3);rw[q3,q4];refine⟨rfl,?_⟩;rw[Bool.and_eq_true];exact⟨rfl,List.contains_iff_mem.2 q1⟩
theorem zdz {c:ChD} (h:Full c) {act gone:List Int} {mem:List MemD} (hl:lgB c act=true) (hm:zbd c mem=true) (hgo: ∀x∈gone,x∈act):remL c act gone mem=remR c act gone mem/\zbd c (remL c act gone mem)=true:=by
 have hg:=zc4 hl;obtain⟨hs,hmb⟩:=zhq hm;obtain⟨r1,r2⟩:=zwv (c:=c) (act:=act) (gone:=gone) hs
 have hall: ∀p∈remL c act gone mem,memB c p=true:=fun p hp=>by
  rcases (r2 p).1 hp with⟨i,hi,hpl,k,hk,rfl⟩|⟨hp,_⟩
  ·obtain⟨s,hs,_,rfl,hmy⟩:=zc3.1 hk;exact(zn2 h hg hs hmy (hgo _ hi)).2
  ·exact hmb p hp
 refine⟨zvG r1 ?_ fun p=> ?_,zvW r1 hall⟩
 ·unfold remR zrc Srt;rw[List.pairwise_map];exact(zq8 (p:=fun h=> !(refV c act gone mem h).isEmpty) (n:=c.states.length)).imp fun h=>by simp only;omega
 ·have href: ∀ {k:Nat} {s:StD},c.states[k]? =some s->zaq s=true->refV c act gone mem k=if gone.contains s.parent=true then newV c act s.parent k else ofM mem k:=fun {k s} hs hmy=>by
   unfold refV;rw[hs];simp only;rw[if_pos hmy];split
   ·rename_i hc;exact((zn2 h hg hs hmy (hgo _ (List.contains_iff_mem.1 hc))).1).symm
   ·rfl
  have hR:p∈remR c act gone mem↔ ∃k:Nat,k<c.states.length/\refV c act gone mem k≠[]/\p=((k:Int),refV c act gone mem k):=by
   unfold remR zrc;rw[List.mem_map];constructor
   ·rintro⟨k,hk,rfl⟩;obtain⟨a,b⟩:=List.mem_filter.1 hk;exact⟨k,List.mem_range.1 a,by simpa using b,rfl⟩
   ·rintro⟨k,a,b,rfl⟩;exact⟨k,List.mem_filter.2 ⟨List.mem_range.2 a,by simpa using b⟩,rfl⟩
  rw[hR];constructor
  ·intro hp;obtain⟨k,s,e1,hs',hmy,hne⟩:=zrJ (hall p hp)
   have hv:refV c act gone mem k=p.2:=by
    rw[href hs' hmy];rcases (r2 p).1 hp with⟨i,hi,hpl,k',hk',rfl⟩|⟨hpm,hnt⟩
    ·obtain⟨s2,hs2,_,e2,_⟩:=zc3.1 hk';have e1':((k':Nat):Int)=k:=e1;have:k'=k:=by omega
     subst this;rw[hs']at hs2;cases hs2;rw[if_pos (by rw[e2];exact List.contains_iff_mem.2 hi),e2]
    ·rw[if_neg, <-e1,zrB hs hpm];intro hc;have hi:=List.contains_iff_mem.1 hc;obtain⟨p1,_,_,p4,_⟩:=zhH h hs' hmy;exact hnt ⟨s.parent,hi,p1,k,zc3.2 ⟨s,hs',p4,rfl,hmy⟩,e1⟩
   refine⟨k,(List.getElem?_eq_some_iff.1 hs').1,by rw[hv];exact hne,?_⟩;rw[hv, <-e1]
  ·rintro⟨k,hk,hne,rfl⟩;obtain⟨s,hs'⟩: ∃s,c.states[k]? =some s:=⟨_,List.getElem?_eq_getElem hk⟩
   have hmy:zaq s=true:=by
    cases hb:zaq s with
    |true=>rfl
    | false=>
      unfold refV at hne;rw[hs']at hne;simp[hb]at hne
   obtain⟨p1,_,_,p4,_⟩:=zhH h hs' hmy;rw[href hs' hmy]at hne |-;rw[r2];split
   ·rename_i hc;exact .inl ⟨s.parent,List.contains_iff_mem.1 hc,p1,k,zc3.2 ⟨s,hs',p4,rfl,hmy⟩,rfl⟩
   ·rename_i hc;rw[if_neg hc]at hne;refine .inr ⟨?_,?_⟩
    ·apply Classical.byContradiction;intro hno;cases hf:mem.find? (fun m=>m.1==(k:Int)) with
     |none=>unfold ofM at hne;rw[hf]at hne;exact hne rfl
     | some q=>
       have a:=List.find?_some hf;have b:=List.mem_of_find?_eq_some hf;simp only[beq_iff_eq]at a;have:=zrB hs b;rw[a]at this;rw[this, <-a]at hno;exact hno b
    ·rintro⟨i,hi,_,k',hk',e⟩;have e':((k:Nat):Int)=k':=e;have e:k=k':=by omega
     subst e;obtain⟨s2,hs2,_,e2,_⟩:=zc3.1 hk';rw[hs']at hs2;cases hs2;rw[<-e2]at hi;exact hc (List.contains_iff_mem.2 hi)
/-! Moves -/
end
section
def undR (c:ChD) (act:List Int) (i:Int):List Int:=(zL (sortL c act)).filter (aboveB c i)
def ze9 (c:ChD) (l:List Int) (i:Int) (j:Nat):List Int:=(l.take j).filter (aboveB c i)
theorem zir {c:ChD} {l:List Int} {i:Int} {j:Nat} {x:Int} (h:l[j]? =some x):ze9 c l i (j+1)=if aboveB c i x then ze9 c l i j++[x] else ze9 c l i j:=by
 unfold ze9;rw[List.take_add_one,h,List.filter_append];cases hb:aboveB c i x<;>simp[hb]
theorem zkv (c:ChD) (l:List Int) (i:Int) (j:Nat):(ze9 c l i j).length<=l.length:=by
 unfold ze9;exact Nat.le_trans (List.length_filter_le ..) (by rw[List.length_take];omega)
theorem zdg {c:ChD} (hc:Right c) (act:List Int):(sortL c act).length<=32:=by
 unfold sortL;split
 ·exact Nat.le_trans (List.length_filter_le ..) (ztE hc (by omega))
 ·simp
theorem zoc (env:Env) (c:ChD) (hc:Right c) (act:List Int) (hl:act.length<=1000000) (d:Int):Con prog env 133 [zah c, .seq 1 (act.map intAV),I d] (.own 3 1 ((undR c act d).reverse.map intAV)):=by
 have f1:=zaE env c;have f2:=zcG env c hc act hl;have hsl:=zdg hc act;rw[<-zcF]at f2;unfold undR;have hsl:(zL (sortL c act)).length<=32:=by rw[za9];exact hsl
 generalize zL (sortL c act)=L at*;unfold zah zaj at f1;unfold zaj at f2;unfold zah;refine qf func133 call133 ntmps133 results133 ?_;repeat refine tz02 f1 f2 ?_
 refine zap 7 7 3 1 ?_;refine zab (D:=Nat) (fun j vs=>[(0, .ref 9 [tabCells c] 0 0),(2,I d),(7, .row 7 (vs 7)),(13, .row 13 (vs 13)),(14,I L.length),(15,I j)]) (fun j _=>[(7,⟨1,(ze9 c L d j).map intAV,3,true⟩),(13,⟨1,L.map intAV,3,true⟩)]) (fun j _ esc=>j<=L.length/\esc 7=false) (fun j=>L.length-j) 0 ?_ ?_ ?_ ?_
 ·exact⟨Nat.zero_le _,rfl⟩
 ·(simp only[go_sem])
  try rfl
 ·(simp only[go_sem])
  try rfl
 rintro j ws esc ⟨hj,e0⟩;by_cases hlt:j<L.length
 ·obtain⟨x,hx⟩:=gE hlt;have q1:=nlt hlt;have q2:=zaa hlt (by omega);have f3:=zcC env c hc d x;unfold zaj at f3;have hil:=zkv c L d j;have hf:Fits ((ze9 c L d j).length+1) 8:=zae (by omega) (by omega);have hn:=zir (c:=c) (i:=d) hx;cases hb:aboveB c d x with
  | true=>
    rw[hb]at f3;rw[hb,if_pos rfl]at hn;have F:=ai5 q1 q2 hx hf e0;repeat refine tz2 f1 f3 ?_
    refine⟨j+1,⟨hlt,by simp only[go_sem,e0]⟩,?_,?_,by omega⟩
    ·exact qe
    ·have F:=ai hn @List.map_append.{0,0};exact qe
  | false=>
    rw[hb]at f3;rw[hb,if_neg Bool.false_ne_true]at hn;have F:=ai5 q1 q2 hx hf e0;repeat refine tz2 f1 f3 ?_
    refine⟨j+1,⟨hlt,by simp only[go_sem,e0]⟩,?_,?_,by omega⟩
    ·exact qe
    ·have F:=ai hn @List.map_append.{0,0};exact qe
 ·obtain rfl:j=L.length:=by omega
  have q1:=nl L.length;have hall:ze9 c L d L.length=L.filter (aboveB c d):=by unfold ze9;rw[List.take_length]
  rw[hall];have hfl:(L.filter (aboveB c d)).length<=32:=Nat.le_trans (List.length_filter_le ..) hsl;generalize L.filter (aboveB c d)=U at*;have f4:=ziy U (by omega);have F:=ai q1 e0;repeat refine st ?_
  refine zhL 7 rfl (row:=⟨1,U.map intAV,3,true⟩) f4 (Nat.succ_ne_zero 0) rfl (zaW _).symm (by simp only[go_sem,e0];exact iR) (by simp only[go_sem,e0];exact iR) (by simp only[go_sem,e0];exact iR) (by simp only[go_sem,e0];exact iR) ?_;rw[zaW];repeat refine st ?_
  exact aR
theorem zpS (env:Env) (a1 a8:Addr) (he:ChEnv env a1 a8) (s:List UInt8):Con prog env 132 [Sg s] (errV (-1) (sentV a1)):=by
 have g1:=zfW he.e1;have f0:=zbA env s a1;refine qf func132 call132 ntmps132 results132 ?_;have F:=g1;repeat refine tz1 f0 ?_
 exact aR
def leaveR (c:ChD) (act:List Int) (t:TrD):List Int:=if t.target<0 then [] else(undR c act (domE c t.src t.target)).reverse
theorem zl6 (env:Env) (a1 a8:Addr) (he:ChEnv env a1 a8) (c:ChD) (h:Full c) (hs:Small c) (act:List Int) (hl:act.length<=1000000) (k:Nat) (t:TrD) (ht:c.trans[k]? =some t) (hb:lgB c act=true):Con prog env 73 [zah c, .seq 1 (act.map intAV),I k] (.tuple [.seq 1 ((leaveR c act t).map intAV),nilE]):=by
 have f0:=zbg env a1 a8 he c h hs act hl;have f1:=zgD env c hs k t ht;have f2:=zf1 env c h.toRight hs t (h.src ht).1;have f3:=zoc env c h.toRight act hl (domE c t.src t.target);unfold chkE at f0;rw[hb]at f0;simp only[if_true]at f0;unfold leaveR;unfold trAV at f1 f2;unfold zah at f0 f1 f2 f3 |-;by_cases h0:t.target<0
 ·rw[if_pos h0];refine qw func73 call73 ntmps73 results73 ?_;have F:=h0;repeat refine tz4 f0 f1 f2 f3 ?_
  (refine zal ?_;refine⟨_,(by show (zaG _ _ _).run _=some _;simp only[go_sem,F];rfl),?_⟩)
  exact .of (.tuple (.cons (.nil 1) (.cons (.refl _) .nil))) (fun _ _ _ h=>by cases h) (fun _ _ _ h=>by cases h)
 ·rw[if_neg h0];refine qf func73 call73 ntmps73 results73 ?_;have F:=h0;repeat refine tz4 f0 f1 f2 f3 ?_
  exact aR
end
section
def idxZ:List Int->Int->Nat->Option Nat
 |[],_,_=>none
 |x::l,k,n=>if k=x then some n else idxZ l k (n+1)
theorem zft {k:Int} : ∀ {l:List Int} {n:Nat},k∉l->idxZ l k n=none
 |[],_,_=>rfl
 | x::l,n,h=>by
   unfold idxZ;rw[if_neg (fun e=>h (by rw[e];exact List.mem_cons_self ..)),zft (fun hh=>h (List.mem_cons_of_mem _ hh))]
theorem zhD {k:Int} : ∀ {l:List Int} {n:Nat},k∈l-> ∃i,idxZ l k n=some (n+i)/\l[i]? =some k
 |[],n,h=>by cases h
 | x::l,n,h=>by
   unfold idxZ;by_cases e:k=x
   ·exact⟨0,by rw[if_pos e];rfl,by rw[e];rfl⟩
   ·obtain⟨i,h1,h2⟩:=zhD (n:=n+1) ((List.mem_cons.1 h).resolve_left e);exact⟨i+1,by rw[if_neg e,h1];congr 1;omega,by simpa using h2⟩
def zdH (l:List Int):List (List AV):=l.map fun k=>[I k,I 1]
theorem zfO (k:Int): ∀(l:List Int) (n:Nat),mfind prog 3 (I k) (zdH l) n=some (idxZ l k n)
 |[],n=>rfl
 | x::l,n=>by
   have ih:=zfO k l (n+1);unfold zdH at ih |-;unfold idxZ;by_cases e:k=x
   ·have e1:(k==x)=true:=by simp[e]
    simp only[go_sem,zbo,zbv,List.map_cons,e1,if_pos e]
   ·have e1:(k==x)=false:=by simpa using e
    simp only[go_sem,zbo,zbv,List.map_cons,e1,if_neg e,ih]
theorem zkt (env:Env) (o:List Int) (i:Int) (ho:o.length<=4000) (te:TypeId):ConI prog env 230 [1000,1001] (fun k=>k==1001) (fun vs=>[I i, .loc 1000 (vs 1000) 0 0]) (fun vs=>[(1000,⟨1,[[.row 1001 (vs 1001)]],te,false⟩),(1001,⟨1,o.map intAV,3,true⟩)]) (fun vs=>[(1000,⟨1,[[.row 1001 (vs 1001)]],te,false⟩),(1001,⟨1,(addU o i).map intAV,3,true⟩)]) (fun _=> .lit (.tuple #[])):=by
 have f0:=(zaB env o i (by omega)).lend rfl;unfold addU;cases hc:o.contains i with
 | true=>
   rw[hc]at f0;simp only[if_true];refine qi func230 call230 ntmps230 results230 ?_;intro vs esc hesc;obtain⟨e0,e1⟩:=es2 hesc;have F:=ai e0 e1;repeat refine st ?_
   refine lL f0 ?_;repeat refine st ?_
   exact rN
 | false=>
   rw[hc]at f0;have hf:Fits (o.length+1) 8:=zae (by omega) (by omega);simp only[Bool.false_eq_true,if_false,List.map_append];refine qi func230 call230 ntmps230 results230 ?_;intro vs esc hesc;obtain⟨e0,e1⟩:=es2 hesc;have F:=ai3 e0 e1 hf;repeat refine st ?_
   refine lL f0 ?_;repeat refine st ?_
   exact rN
theorem zdS {c:ChD} {a:List Int} (hn:a.Nodup) (hz: ∀x∈a,inZ c x=true):a.length<=c.states.length:=by
 have:=zgJ (c:=c) (l:=[]) hn fun k hk=>⟨by simp,hz k hk⟩;have:=zvV c [];omega
theorem zqF {c:ChD} {d:Int} {o U:List Int} {m:Nat} {k:Int} (h:U[m]? =some k):upTo c d o U (m+1)=if 0<=k/\aboveB c d k=true then addU (upTo c d o U m) k else upTo c d o U m:=za3 _ _ h
theorem zoY {c:ChD} {d:Int} {l:List Int} {j:Nat} {k:Int} (h:l[j]? =some k):upsTo c d l (j+1)=upTo c d (addU (upsTo c d l j) k) (upL c k) (upL c k).length:=za3 _ _ h
theorem zqD {c:ChD} (hc:Right c) {d:Int} {l:List Int} (hz: ∀x∈l,inZ c x=true) {j:Nat} (hj:j<=l.length):(upsTo c d l j).Nodup/\(∀x∈upsTo c d l j,inZ c x=true)/\(upsTo c d l j).length<=32:=by
 obtain⟨h1,h2⟩:=zjc (c:=c) (d:=d) (l:=l) j hj
 have h3: ∀x∈upsTo c d l j,inZ c x=true:=fun x hx=>by
  rcases (h2 x).1 hx with h|⟨i,h,q1,q2,_⟩
  ·exact hz x (List.mem_of_mem_take h)
  ·exact(zc9 hc q1 q2).1
 exact⟨h1,h3,Nat.le_trans (zdS h1 h3) hc.few⟩
theorem ztF {c:ChD} (hc:Right c) {d i:Int} {o:List Int} (hn:o.Nodup) (hz: ∀x∈o,inZ c x=true) {m:Nat} (hm:m<=(upL c i).length):(upTo c d o (upL c i) m).Nodup/\(∀x∈upTo c d o (upL c i) m,inZ c x=true)/\(upTo c d o (upL c i) m).length<=32:=by
 obtain⟨h1,h2⟩:=zma (c:=c) (d:=d) (U:=upL c i) m hm hn
 have h3: ∀x∈upTo c d o (upL c i) m,inZ c x=true:=fun x hx=>by
  rcases (h2 x).1 hx with h|⟨h,q2,_⟩
  ·exact hz x h
  ·exact(zc9 hc (List.mem_of_mem_take h) q2).1
 exact⟨h1,h3,Nat.le_trans (zdS h1 h3) hc.few⟩
theorem zu8 (env:Env) (c:ChD) (hc:Right c) (l:List Int) (hl:l.length<=1000000) (hz: ∀x∈l,inZ c x=true) (d:Int):Con prog env 192 [zah c, .seq 1 (l.map intAV),I d] (.own 3 1 ((upsL c l d).map intAV)):=by
 have hlen:=hc.few;have f1:=zaE env c;unfold zah zaj at f1;unfold zah;refine qf func192 call192 ntmps192 results192 ?_;repeat refine st0 ?_
 refine nC0 7 9000 0 0 3 1 ?_;refine zab (D:=Nat) (fun j vs=>[(0, .ref 9 [tabCells c] 0 0),(2,I d),(7, .loc 7 (vs 7) 0 0),(8, .clo 230 [.loc 7 (vs 7) 0 0]),(14, .seq 1 (l.map intAV)),(15,I l.length),(16,I j)]) (fun j vs=>[(7,⟨1,[[.row 9000 (vs 9000)]],27,false⟩),(9000,⟨1,(upsTo c d l j).map intAV,3,true⟩)]) (fun j _ esc=>j<=l.length/\esc 7=false/\esc 9000=false) (fun j=>l.length-j) 0 ?_ ?_ ?_ ?_
 ·exact⟨Nat.zero_le _,rfl,rfl⟩
 ·(simp only[go_sem])
  try rfl
 ·(simp only[go_sem])
  try rfl
 rintro j ws esc ⟨hj,e0,e1⟩;by_cases hlt:j<l.length
 ·obtain⟨x,hx⟩:=gE hlt;have q1:=nlt hlt;have q2:=zaa hlt (by omega);obtain⟨n1,n2,n3⟩:=zqD hc (d:=d) hz hj;have hxz:=hz x (List.mem_of_getElem? hx);have hn:=zoY (c:=c) (d:=d) hx;have fa:=zkt env (upsTo c d l j) x (by omega) 27;have f2:=zmb env c hc x;unfold zaj at f2;have m1:=zf8 n1 x;have m2: ∀y∈addU (upsTo c d l j) x,inZ c y=true:=fun y hy=>(zkn.1 hy).elim (n2 y) fun e=>by rw[e];exact hxz
  have hfew:=fun m hm=>ztF hc (d:=d) (i:=x) m1 m2 (m:=m) hm;have hUl:(upL c x).length<=40:=zf9 40 x
  have hUr: ∀y∈upL c x,y<0\/inZ c y=true:=fun y hy=>by
   rcases Int.lt_or_le y 0 with h|h
   ·exact .inl h
   ·exact .inr (zc9 hc hy h).1
  generalize addU (upsTo c d l j) x=o at*;generalize upL c x=U at*;have z0:upTo c d o U 0=o:=rfl;have F:=ai5 hx q1 q2 e0 e1;repeat refine st ?_
  refine zgV [(1000,7),(1001,9000)] (za5 rfl (by simp only[go_sem,F];exact iR)) (fa) (by decide) (by decide) (by simp only[go_sem,F]<;>rfl) (by simp only[go_sem,F,and_self]<;>trivial) (by simp only[go_sem,F,and_self]<;>trivial) (by intro o;simp only[go_sem,F,behind,and_self]<;>trivial) (by intro o;simp only[go_sem,F]<;>rfl) (by simp only[go_sem,F,behind];exact iR) (by simp only[go_sem,F,behind];exact iR) ?_;repeat refine tz2 f1 f2 ?_
  refine zab (D:=Nat) (fun m vs=>[(0, .ref 9 [tabCells c] 0 0),(2,I d),(7, .loc 7 (vs 7) 0 0),(8, .clo 230 [.loc 7 (vs 7) 0 0]),(14, .seq 1 (l.map intAV)),(15,I l.length),(16,I j),(26, .row 26 (vs 26)),(27,I U.length),(28,I m)]) (fun m vs=>[(7,⟨1,[[.row 9000 (vs 9000)]],27,false⟩),(9000,⟨1,(upTo c d o U m).map intAV,3,true⟩),(26,⟨1,U.map intAV,3,true⟩)]) (fun m _ esc=>m<=U.length/\esc 7=false/\esc 9000=false) (fun m=>U.length-m) 0 ?_ ?_ ?_ ?_
  ·exact⟨Nat.zero_le _,by simp only[go_sem,e0],by simp only[go_sem,e1]⟩
  ·(simp only[go_sem,F])
   try rfl
  ·have F:=z0
   (simp only[go_sem,F])
   try rfl
  try clear e0 e1
  rintro m vs es ⟨hm,e0,e1⟩;obtain⟨k1,k2,k3⟩:=hfew m hm;by_cases hml:m<U.length
  ·obtain⟨y,hy⟩:=gE hml;have p1:=nlt hml;have p2:=zaa hml (by omega);have hnm:=zqF (c:=c) (d:=d) (o:=o) hy;have fb:=zkt env (upTo c d o U m) y (by omega) 27;have f3:=zcC env c hc d y;unfold zaj at f3;rcases hUr y (List.mem_of_getElem? hy) with h0|hyz
   ·have h1: ¬0<=y:=by omega
    rw[if_neg (fun q=>h1 q.1)]at hnm;have F:=ai6 hy p1 p2 h1 e0 e1;repeat refine tz2 f1 f3 ?_
    refine⟨m+1,⟨hml,by simp only[go_sem,e0],by simp only[go_sem,e1]⟩,?_,?_,by omega⟩
    ·exact qe
    ·have F:=hnm;exact qe
   ·have h1:=(zag.1 hyz).1;cases hab:aboveB c d y with
    | false=>
      rw[hab]at f3 hnm;rw[if_neg (by simp)]at hnm;have F:=ai6 hy p1 p2 h1 e0 e1;repeat refine tz2 f1 f3 ?_
      refine⟨m+1,⟨hml,by simp only[go_sem,e0],by simp only[go_sem,e1]⟩,?_,?_,by omega⟩
      ·exact qe
      ·have F:=hnm;exact qe
    | true=>
      rw[hab]at f3 hnm;rw[if_pos ⟨h1,rfl⟩]at hnm;generalize upTo c d o U m=a at*;have F:=ai6 hy p1 p2 h1 e0 e1;repeat refine tz2 f1 f3 ?_
      refine zgV [(1000,7),(1001,9000)] (za5 rfl (by simp only[go_sem,F];exact iR)) (fb) (by decide) (by decide) (by simp only[go_sem,F]<;>rfl) (by simp only[go_sem,F,and_self]<;>trivial) (by simp only[go_sem,F,and_self]<;>trivial) (by intro o;simp only[go_sem,F,behind,and_self]<;>trivial) (by intro o;simp only[go_sem,F]<;>rfl) (by simp only[go_sem,F,behind];exact iR) (by simp only[go_sem,F,behind];exact iR) ?_;repeat refine st ?_
      refine⟨m+1,⟨hml,by simp only[go_sem,e0],by simp only[go_sem,e1]⟩,?_,?_,by omega⟩
      ·exact qe
      ·have F:=hnm;exact qe
  ·obtain rfl:m=U.length:=by omega
   have p1:=nl U.length;have F:=ai4 p1 q2 e0 e1;repeat refine st ?_
   refine⟨j+1,⟨hlt,by simp only[go_sem,e0],by simp only[go_sem,e1]⟩,?_,?_,by omega⟩
   ·exact qe
   ·have F:=hn;exact qe
 ·obtain rfl:j=l.length:=by omega
  have q1:=nl l.length;show awp _ _ _ _ _ _;have hall:upsTo c d l l.length=upsL c l d:=rfl;rw[hall];have F:=ai3 q1 e0 e1;repeat refine st ?_
  exact aR
end

end Go.Proofs.YtbpmkofnfgdegaaGreatDoor