/- table.New, of a right chart. -/
import Derived.Test.YtbpmkofnfgdegaaGreatDoorQ1
import Derived.Test.YtbpmkofnfgdegaaGreatDoorQ14
import Derived.Test.YtbpmkofnfgdegaaGreatDoorQ11
import Derived.Test.YtbpmkofnfgdegaaGreatDoorQ8
import Derived.Test.YtbpmkofnfgdegaaGreatDoorQ6
set_option maxRecDepth 100000
set_option maxHeartbeats 4000000
set_option linter.unusedSimpArgs false
namespace Go.Proofs.YtbpmkofnfgdegaaGreatDoor
open Go.Proofs.Tryz
open Go.RowKit
section
theorem zcS: ∀a:List UInt8,Op.bytesLess a a=false
 |[]=>rfl
 |x::a=>by simp[Op.bytesLess,zcS a]
theorem zcy: ∀ {a b c:List UInt8},Op.bytesLess a b=true->Op.bytesLess b c=true->Op.bytesLess a c=true
 |_,[],_,h,_=>by simp[Op.bytesLess]at h
 |_,_::_,[],_,h=>by simp[Op.bytesLess]at h
 |[],_::_,_::_,_,_=>rfl
 | x::a,y::b,z::c,h,k=>by
   simp only[Op.bytesLess,Bool.or_eq_true,decide_eq_true_eq,Bool.and_eq_true,beq_iff_eq]at h k |-;rcases h with h|⟨h,h'⟩
   ·rcases k with k|⟨k,k'⟩
    ·exact .inl (UInt8.lt_trans h k)
    ·exact .inl (k ▸ h)
   ·rcases k with k|⟨k,k'⟩
    ·exact .inl (h ▸ k)
    ·exact .inr ⟨h.trans k,zcy h' k'⟩
theorem zcz: ∀ {a b:List UInt8},Op.bytesLess a b=false->Op.bytesLess b a=false->a=b
 |[],[],_,_=>rfl
 |[],_::_,h,_=>by simp[Op.bytesLess]at h
 |_::_,[],_,h=>by simp[Op.bytesLess]at h
 | x::a,y::b,h,k=>by
   simp only[Op.bytesLess,Bool.or_eq_false_iff,decide_eq_false_iff_not,Bool.and_eq_false_iff]at h k;have e:x=y:=UInt8.le_antisymm (UInt8.not_lt.1 k.1) (UInt8.not_lt.1 h.1);subst e;simp only[beq_self_eq_true,Bool.true_eq_false,false_or]at h k;rw[zcz h.2 k.2]
theorem zke {a b:List UInt8} (h:Op.bytesLess a b=true):Op.bytesLess b a=false:=by
 cases k:Op.bytesLess b a
 ·rfl
 ·have:=zcy h k;rw[zcS]at this;cases this
end
section
abbrev Str8:=List UInt8
abbrev SL (a b:Str8):Prop:=Op.bytesLess a b=true
/-! Texts in the order of bytes -/
theorem zwV: ∀(x y:Str8),Op.bytesLess x y=decide (x<y)
 |[],[]=>by simp[Op.bytesLess]
 |_::_,[]=>by simp[Op.bytesLess]
 |[],_::_=>by simp[Op.bytesLess]
 | a::x,b::y=>by
   rw[Op.bytesLess,zwV x y];simp only[List.cons_lt_cons_iff];by_cases h1:a<b<;>by_cases h2:a=b<;>by_cases h3:x<y<;>simp[h1,h2,h3]
theorem zwg (x y:Str8):decide (x<=y)= !Op.bytesLess y x:=by
 rw[zwV, <-decide_not];rfl
theorem zno {a b c:Str8} (h1:Op.bytesLess b a=false) (h2:Op.bytesLess c b=false):Op.bytesLess c a=false:=by
 cases k:Op.bytesLess c a
 ·rfl
 ·cases k3:Op.bytesLess a b
  ·rw[<-zcz k3 h1,k]at h2;cases h2
  ·rw[zcy k k3]at h2;cases h2
theorem znM (l:List Str8):(zdU l).Pairwise fun a b=>Op.bytesLess b a=false:=by
 have:=List.pairwise_mergeSort (le:=fun x y:Str8=>decide (x<=y)) (fun a b c hab hbc=>by
  simp only[zwg,Bool.not_eq_true']at*;exact zno hab hbc) (fun a b=>by
  simp only[zwg];cases k:Op.bytesLess b a
  ·simp
  ·rw[zke k];simp) l
 exact this.imp fun {a b} h=>by simpa[zwg]using h
theorem zqZ {l:List Str8} {x:Str8} :x∈zdU l↔x∈l:=List.mem_mergeSort
theorem zhZ (l:List Str8) (hs:l.Pairwise fun a b=>Op.bytesLess b a=false): ∀m,m<=l.length->(Lib.compactUpTo l.toArray m).Pairwise SL/\ ∀x,x∈Lib.compactUpTo l.toArray m↔x∈l.take m
 |0,_=>by simp[Lib.compactUpTo]
 | m+1,hm=>by
   obtain⟨h1,h2⟩:=zhZ l hs m (by omega);have ey:l.toArray[m]! =l[m]'(by omega):=by rw[getElem!_pos _ m (by simp;omega)];rfl
   have et:l.take (m+1)=l.take m++[l[m]'(by omega)]:=by rw[List.take_add_one,List.getElem?_eq_getElem (by omega)];rfl
   have hle: ∀k (hk:k<m),Op.bytesLess (l[m]'(by omega)) (l[k]'(by omega))=false:=fun k hk=>List.pairwise_iff_getElem.1 hs k m (by omega) (by omega) hk;rw[Lib.compactUpTo_succ,ey];by_cases hk:Lib.keeps l.toArray m=true
   ·rw[if_pos hk];refine⟨List.pairwise_append.2 ⟨h1,List.pairwise_singleton ..,fun x hx y hy=> ?_⟩,fun x=>by rw[et,List.mem_append,List.mem_append,h2]⟩;rw[List.mem_singleton.1 hy];rw[h2,List.mem_take_iff_getElem]at hx;obtain⟨k,hk2,rfl⟩:=hx;have hkm:k<m:=by omega
    show Op.bytesLess _ _=true;cases hq:Op.bytesLess (l[k]'(by omega)) (l[m]'(by omega)) with
    |true=>rfl
    | false=>
      have e:=zcz hq (hle k hkm)
      exfalso
      unfold Lib.keeps at hk;rw[decide_eq_true_eq]at hk;rcases hk with hk|hk
      ·omega
      ·apply hk;rw[ey,getElem!_pos _ (m-1) (by simp;omega)];show l[m]'(by omega)=l[m-1]'(by omega);have e1:=hle (m-1) (by omega);by_cases ek:k=m-1
       ·subst ek;exact e.symm
       ·have e2:=List.pairwise_iff_getElem.1 hs k (m-1) (by omega) (by omega) (by omega);rw[e]at e2;exact zcz e1 e2
   ·rw[if_neg hk,List.append_nil];refine⟨h1,fun x=> ?_⟩;rw[h2,et,List.mem_append,List.mem_singleton];refine⟨.inl,fun h=>h.elim id fun h=> ?_⟩;unfold Lib.keeps at hk;rw[decide_eq_true_eq,not_or,Classical.not_not,ey,getElem!_pos _ (m-1) (by simp;omega)]at hk;rw[h,hk.2];exact List.mem_take_iff_getElem.2 ⟨m-1,by omega,rfl⟩
theorem znd (c:ChD):(evL c).Pairwise SL:=(zhZ _ (znM _) _ (Nat.le_refl _)).1
theorem zoB {c:ChD} {s:Str8} :s∈evL c↔s≠[]/\ ∃t∈c.trans,t.event=s:=by
 unfold evL Lib.compact;rw[(zhZ _ (znM _) _ (Nat.le_refl _)).2,List.take_length,zqZ];unfold zaR;rw[List.take_length,List.mem_filter,List.mem_map];constructor
 ·rintro⟨⟨t,h1,h2⟩,h3⟩;exact⟨by simpa using h3,t,h1,h2⟩
 ·rintro⟨h,t,h1,h2⟩;exact⟨⟨t,h1,h2⟩,by simpa using h⟩
theorem zv9 (c:ChD):(evL c).length<=c.trans.length:=by
 have h1:(Lib.compact (zdU (zaR c c.trans.length))).length<=(zdU (zaR c c.trans.length)).length:=by
  unfold Lib.compact Lib.compactUpTo;rw[List.length_map];exact Nat.le_trans (List.length_filter_le ..) (by simp)
 have h2:=zhp c c.trans.length;unfold evL;have h3:(zdU (zaR c c.trans.length)).length=(zaR c c.trans.length).length:=by simp[zdU]
 omega
/-! Where a text stands, or would stand -/
def posL (l:List Str8) (x:Str8):Nat:=(l.filter fun y=>Op.bytesLess y x).length
def Cut (l:List Str8) (x:Str8) (p:Nat):Prop:=p<=l.length/\ ∀k y,l[k]? =some y->(Op.bytesLess y x=true↔k<p)
theorem zmD: ∀ {l:List Str8},l.Pairwise SL-> ∀x,Cut l x (posL l x)
 |[],_,x=>⟨Nat.zero_le _,fun k y h=>by simp at h⟩
 | a::l,h,x=>by
   obtain⟨h1,h2⟩:=List.pairwise_cons.1 h;obtain⟨k1,k2⟩:=zmD h2 x;unfold posL at*;rw[List.filter_cons];by_cases ha:Op.bytesLess a x=true
   ·rw[if_pos ha,List.length_cons];refine⟨by simp only[List.length_cons];omega,fun k y hk=> ?_⟩;cases k with
    | zero=>
      obtain rfl:a=y:=by simpa using hk
      exact⟨fun _=>by omega,fun _=>ha⟩
    | succ k=>
      rw[k2 k y (by simpa using hk)];omega
   ·rw[if_neg ha];have hno: ∀y∈l,¬Op.bytesLess y x=true:=fun y hy hb=>ha (zcy (h1 y hy) hb);have e:(l.filter fun y=>Op.bytesLess y x)=[]:=List.filter_eq_nil_iff.2 hno;rw[e];refine⟨Nat.zero_le _,fun k y hk=>⟨fun hb=> ?_,fun hk=>by simp at hk⟩⟩;cases k with
    | zero=>
      obtain rfl:a=y:=by simpa using hk
      exact absurd hb ha
    |succ k=>exact absurd hb (hno y (List.mem_of_getElem? (by simpa using hk)))
theorem zve {l:List Str8} (h:l.Pairwise SL) {x:Str8} (hx:x∈l):l[posL l x]? =some x:=by
 obtain⟨h1,h2⟩:=zmD h x;obtain⟨k,hk⟩:=List.mem_iff_getElem?.1 hx;have h3:=(h2 k x hk);rw[zcS]at h3;have h3: ¬k<posL l x:=fun e=>by simpa using h3.2 e
 have hkl:=(List.getElem?_eq_some_iff.1 hk).1;by_cases e:k=posL l x
 ·rw[<-e];exact hk
 ·have hp:posL l x<l.length:=by omega
  have h4:=List.pairwise_iff_getElem.1 h (posL l x) k hp hkl (by omega);rw[(List.getElem?_eq_some_iff.1 hk).2]at h4;have:=(h2 _ _ (List.getElem?_eq_getElem hp)).1 h4;omega
def evI (c:ChD) (s:Str8):Int:=if (evL c)[posL (evL c) s]? =some s then(posL (evL c) s:Nat) else -1
theorem zlH {c:ChD} {s:Str8} (h:s∈evL c): ∃k:Nat,evI c s=k/\(evL c)[k]? =some s:=⟨posL (evL c) s,by unfold evI;rw[if_pos (zve (znd c) h)],zve (znd c) h⟩
theorem zsQ {c:ChD} {s:Str8} (h:s∉evL c):evI c s= -1:=by
 unfold evI;rw[if_neg fun e=>h (List.mem_of_getElem? e)]
theorem zwK {c:ChD} {s t:Str8} (hs:s∈evL c) (ht:t∈evL c) (h:evI c s=evI c t):s=t:=by
 obtain⟨k,h1,h2⟩:=zlH hs;obtain⟨j,h3,h4⟩:=zlH ht;have:k=j:=by omega
 subst this;exact Option.some.inj (h2.symm.trans h4)
theorem znf (c:ChD):evI c []= -1:=zsQ fun h=>(zoB.1 h).1 rfl
/-! A state's transitions -/
def zb5 (c:ChD) (k:Nat):Int×Int:=match c.trans[k]? with
 |some t=>(t.src,evI c t.event)
 |none=>(-1, -1)
def zeI (c:ChD) (j:Nat) (p:Int×Int):List Nat:=(List.range j).filter fun k=>zb5 c k=p
def keysTo (c:ChD):Nat->List (Int×Int)
 |0=>[]
 |j+1=>if zb5 c j∈keysTo c j then keysTo c j else keysTo c j++[zb5 c j]
def atL (c:ChD) (i e:Int):List Nat:=zeI c c.trans.length (i,e)
theorem zgF (c:ChD) (j:Nat) (p:Int×Int):zeI c (j+1) p=if zb5 c j=p then zeI c j p++[j] else zeI c j p:=by
 unfold zeI;rw[List.range_succ,List.filter_append];by_cases h:zb5 c j=p<;>simp[h]
theorem zgL {c:ChD} {p:Int×Int} : ∀ {j:Nat},p∈keysTo c j↔ ∃k,k<j/\zb5 c k=p
 |0=>by simp[keysTo]
 | j+1=>by
   unfold keysTo;split
   ·rename_i h;rw[zgL];constructor
    ·rintro⟨k,h1,h2⟩;exact⟨k,by omega,h2⟩
    ·rintro⟨k,h1,h2⟩;by_cases e:k=j
     ·subst e;rw[<-h2];exact zgL.1 h
     ·exact⟨k,by omega,h2⟩
   ·rw[List.mem_append,zgL,List.mem_singleton];constructor
    ·rintro(⟨k,h1,h2⟩|h)
     ·exact⟨k,by omega,h2⟩
     ·exact⟨j,by omega,h.symm⟩
    ·rintro⟨k,h1,h2⟩;by_cases e:k=j
     ·subst e;exact .inr h2.symm
     ·exact .inl ⟨k,by omega,h2⟩
theorem zfU (c:ChD): ∀j,(keysTo c j).Nodup
 |0=> .nil
 | j+1=>by
   unfold keysTo;split
   ·exact zfU c j
   ·rename_i h;exact List.nodup_append.2 ⟨zfU c j,by simp,fun a ha b hb e=>h (by rw[List.mem_singleton.1 hb]at e;exact e ▸ ha)⟩
theorem zjp {c:ChD} {j:Nat} {p:Int×Int} (h:p∉keysTo c j):zeI c j p=[]:=by
 unfold zeI;rw[List.filter_eq_nil_iff];intro k hk;simp only[decide_eq_true_eq];exact fun e=>h (zgL.2 ⟨k,List.mem_range.1 hk,e⟩)
theorem zq6 (c:ChD) (j:Nat) (p:Int×Int):(zeI c j p).length<=j:=by
 unfold zeI;exact Nat.le_trans (List.length_filter_le ..) (by simp)
def idxP (p:Int×Int):List (Int×Int)->Nat->Option Nat
 |[],_=>none
 |q::l,i=>if p=q then some i else idxP p l (i+1)
theorem zhG {p:Int×Int} : ∀ {l:List (Int×Int)} {i n:Nat},idxP p l i=some n->i<=n/\l[n-i]? =some p
 |[],i,n,h=>by simp[idxP]at h
 | q::l,i,n,h=>by
   unfold idxP at h;split at h
   ·rename_i e;obtain rfl:i=n:=by simpa using h
    simp[e]
   ·obtain⟨h1,h2⟩:=zhG h;refine⟨by omega,?_⟩;rw[show n-i=(n-(i+1))+1 by omega,List.getElem?_cons_succ];exact h2
theorem zfu {p:Int×Int} : ∀ {l:List (Int×Int)} {i:Nat},idxP p l i=none->p∉l
 |[],i,h=>by simp
 | q::l,i,h=>by
   unfold idxP at h;split at h
   ·cases h
   ·rename_i e;rw[List.mem_cons];exact fun hh=>hh.elim e (zfu h)
theorem zvy {c:ChD} (i:Int) (s:Str8) (h:s=[]\/s∈evL c):atL c i (evI c s)=(List.range c.trans.length).filter fun k=>match c.trans[k]? with|some t=>decide (t.src=i/\t.event=s)|none=>false:=by
 unfold atL zeI;apply List.filter_congr;intro k hk;have hk:=List.mem_range.1 hk;have hs:c.trans[k]? =some c.trans[k]:=List.getElem?_eq_getElem hk;unfold zb5;rw[hs];simp only[Prod.mk.injEq]
 congr 1
 generalize ht:c.trans[k]=t at*;have htm:t∈c.trans:=List.mem_of_getElem? hs;apply propext;refine and_congr_right fun _=>⟨fun e=> ?_,fun e=>by rw[e]⟩;rcases h with rfl|h
 ·rw[znf]at e;by_cases hn:t.event=[]
  ·exact hn
  ·obtain⟨k,h1,_⟩:=zlH (zoB.2 ⟨hn,t,htm,rfl⟩);omega
 ·obtain⟨k,h1,_⟩:=zlH h;by_cases hn:t.event=[]
  ·rw[hn,znf]at e;omega
  ·exact zwK (zoB.2 ⟨hn,t,htm,rfl⟩) h e
end
section
theorem zn4 (env:Env) (s:List UInt8):Con prog env 182 [Sg s] (B false):=by
 refine qf func182 call182 ntmps182 results182 ?_;repeat refine st0 ?_
 exact aR0
theorem zt9 (env:Env) (s:List UInt8):Con prog env 223 [Sg s] (B false):=by
 refine qf func223 call223 ntmps223 results223 ?_;repeat refine st0 ?_
 exact aR0
theorem zrS (env:Env) (s t:List UInt8):Con prog env 181 [Sg s,Sg t] (B (Op.bytesLess s t)):=by
 have f0:=zt9 env s;refine qf func181 call181 ntmps181 results181 ?_;repeat refine tz01 f0 ?_
 exact aR0
theorem znn (env:Env) (l:List (List UInt8)) (x:List UInt8) (p:Nat) (hp:Cut l x p) (hl:l.length<=1000000):Con prog env 123 [.seq 1 (l.map zdv),Sg x] (.tuple [I p,B (l[p]? == some x)]):=by
 have f0:=zn4 env x;refine qf func123 call123 ntmps123 results123 ?_;repeat refine st0 ?_
 refine zab (D:=Nat×Nat) (fun d _=>[(0, .seq 1 (l.map zdv)),(1,Sg x),(6,I l.length),(7,I d.1),(8,I d.2)]) (fun _ _=>[]) (fun d _ _=>d.1<=p/\p<=d.2/\d.2<=l.length) (fun d=>d.2-d.1) (0,l.length) ?_ ?_ ?_ ?_
 ·exact⟨Nat.zero_le _,hp.1,Nat.le_refl _⟩
 ·exact qe0
 ·exact qe0
 rintro⟨i,j⟩ ws esc ⟨h1,h2,h3⟩;simp only at h1 h2 h3;by_cases hlt:i<j
 ·have g1:=nlt hlt;have hm:(i+j)/2<l.length:=by omega
  obtain⟨y,hy⟩: ∃y,l[(i+j)/2]? =some y:=⟨l[(i+j)/2],List.getElem?_eq_getElem hm⟩;have hyp:=hp.2 _ _ hy;have f1:=zrS env y x;have g2:IntKind.i64.wrap ((i:Int)+(j:Int))=((i+j:Nat):Int):=by rw[zaw (by omega) (by omega)];omega
  have g3:IntKind.u64.wrap ((i+j:Nat):Int)=((i+j:Nat):Int):=IntWalk.u64_in _ (by omega)
  have g4:IntKind.i64.wrap (((i+j:Nat):Int).fdiv (2^min 1 64))=(((i+j)/2:Nat):Int):=by
   rw[show ((i+j:Nat):Int).fdiv (2^min 1 64)=(((i+j)/2:Nat):Int) from(Int.ofNat_fdiv (i+j) 2).symm,zaw (by omega) (by omega)]
  have g5:(((i+j)/2:Nat):Int)< (l.length:Int):=by omega
  have g6:=zaa (k:=(i+j)/2) (n:=l.length) hm (by omega);generalize hmm:(i+j)/2=mm at*;cases hb:Op.bytesLess y x with
  | true=>
    rw[hb]at f1 hyp;have:=hyp.1 rfl;have F:=ai8 g1 g2 g3 g4 g5 g6 hy zdv.eq_1;repeat refine tz1 f1 ?_
    refine⟨(mm+1,j),⟨?_,?_,?_⟩,?_,?_,?_⟩
    ·simp only;omega
    ·exact h2
    ·exact h3
    ·exact qe
    ·exact qe
    ·simp only;omega
  | false=>
    rw[hb]at f1 hyp;have: ¬mm<p:=fun h=>by cases hyp.2 h
    have F:=ai8 g1 g2 g3 g4 g5 g6 hy zdv.eq_1;repeat refine tz1 f1 ?_
    refine⟨(i,mm),⟨?_,?_,?_⟩,?_,?_,?_⟩
    ·exact h1
    ·simp only;omega
    ·simp only;omega
    ·exact qe
    ·exact qe
    ·simp only;omega
 ·obtain rfl:i=j:=by omega
  obtain rfl:i=p:=by omega
  have g1:=nl i;by_cases hi:i<l.length
  ·have g2:=nlt hi;obtain⟨y,hy⟩:=gE hi;have f1:=zn4 env y;cases hb:(y==x) with
   | true=>
     have hr:(l[i]? == some x)=true:=by rw[hy];simpa using hb
     rw[hr];have F:=ai5 g1 g2 hy hb zdv.eq_1;repeat refine tz2 f0 f1 ?_
     exact aR
   | false=>
     have hr:(l[i]? == some x)=false:=by rw[hy];simpa using hb
     rw[hr];have F:=ai5 g1 g2 hy hb zdv.eq_1;repeat refine tz2 f0 f1 ?_
     exact aR
  ·have g2: ¬(i:Int)< (l.length:Int):=by omega
   have hr:(l[i]? == some x)=false:=by rw[List.getElem?_eq_none (by omega)];rfl
   rw[hr];have F:=ai3 g1 g2 zdv.eq_1;repeat refine tz1 f0 ?_
   exact aR
end
section
theorem zf3 (env:Env) (c:ChD) (h:Full c): ∀(n i:Nat),i<c.states.length->c.states.length<=i+n->Con prog env 67 [.agg (chAV c),I i] (.own 3 1 ((bgL c i).map zac))
 |0,i,hi,hn=>by omega
 | n+1,i,hi,hn=>by
   have hlen:=h.few;obtain⟨s,hs⟩:=gE hi;have hb:=zwW h hs;have hbl:=zvw h hi;have g0:((i:Nat):Int)< (c.states.length:Int):=by omega
   by_cases e1:s.kind=1
   ·by_cases e2:0<=s.initial
    ·obtain⟨j,hj,e3⟩:=zmZ h hs e1 e2;have hg:=zaJ h.toRight (zan hj).1;rw[if_pos ⟨e1,e2⟩,e3,Int.toNat_natCast]at hb;have f0:=zf3 env c h n j (by omega) (by omega);rw[hb]at hbl;have hf:Fits (1+(bgL c j).length) 8:=zae (by simp at hbl;omega) (by omega);rw[hb];refine qf func67 call67 ntmps67 results67 ?_;have F:=ai8 chAV.eq_1 stAV.eq_1 hs e1 e3 g0 zac.eq_1 hf;repeat refine tz1 f0 ?_
     exact aR
    ·rw[if_neg fun e=>e2 e.2,if_neg (by omega)]at hb;rw[hb];refine qf func67 call67 ntmps67 results67 ?_;have F:=ai7 chAV.eq_1 stAV.eq_1 hs e1 e2 g0 zac.eq_1;repeat refine st ?_
     exact aR
   ·rw[if_neg fun e=>e1 e.1]at hb;have e1':(s.kind==1)=false:=by simpa using e1
    by_cases e2:s.kind=2
    ·rw[if_pos e2]at hb;have f1:=zdl env c i (by omega);generalize hK:kidsL c i true=K at*
     have hKm: ∀k∈K,i<k/\k<c.states.length:=fun k hk=>by
      rw[<-hK]at hk;have:=zaJ h.toRight (zan hk).1;omega
     have hKl:K.length<=32:=by
      have:=(zaI c i true).length_le_of_subset (l₂:=List.range c.states.length) fun m hm=>List.mem_range.2 (hKm m (hK ▸ hm)).2;rw[hK]at this;simp at this;omega
     have hpre: ∀j,(i::(K.take j).flatMap (bgL c)).length<=32:=fun j=>by
      have e:(K.take j).flatMap (bgL c)++(K.drop j).flatMap (bgL c)=K.flatMap (bgL c):=by rw[<-List.flatMap_append,List.take_append_drop]
      have:=congrArg List.length e;rw[hb]at hbl;simp only[List.length_cons,List.length_append]at*;omega
     refine qf func67 call67 ntmps67 results67 ?_;have F:=ai7 chAV.eq_1 stAV.eq_1 hs e1' e2 g0 zac.eq_1;repeat refine tz1 f1 ?_
     refine zab (D:=Nat) (fun j vs=>[(2, .loc 2 (vs 2) 0 0),(5, .row 10 (vs 10)),(37, .row 37 (vs 37)),(38,I K.length),(39,I j)]) (fun j _=>[(2,⟨5,[chAV c],26,false⟩),(10,⟨1,(i::(K.take j).flatMap (bgL c)).map zac,3,true⟩),(37,⟨1,K.map zac,3,true⟩)]) (fun j _ esc=>j<=K.length/\esc 10=false) (fun j=>K.length-j) 0 ?_ ?_ ?_ ?_
     ·exact⟨Nat.zero_le _,rfl⟩
     ·exact qe
     ·have F:=ai3 chAV.eq_1 zac.eq_1 @List.flatMap_nil.{0,0};exact qe
     rintro j ws esc ⟨hj,e0⟩;by_cases hlt:j<K.length
     ·obtain⟨k,hk⟩:=gE hlt;have hkm:=hKm k (List.mem_of_getElem? hk);have q1:=nlt hlt;have q2:=zaa hlt (by omega);have f0:=zf3 env c h n k (by omega) (by omega);have htk:(K.take (j+1)).flatMap (bgL c)=(K.take j).flatMap (bgL c)++bgL c k:=by rw[List.take_add_one,hk,List.flatMap_append];simp
      have hp:=hpre (j+1);rw[htk]at hp;have hf:Fits (((K.take j).flatMap (bgL c)).length+1+(bgL c k).length) 8:=zae (by simp only[List.length_cons,List.length_append]at hp;omega) (by omega);have F:=ai7 chAV.eq_1 zac.eq_1 hk q1 q2 hf e0;repeat refine tz1 f0 ?_
      refine⟨j+1,⟨hlt,by simp only[go_sem,e0]⟩,?_,?_,by omega⟩
      ·exact qe
      ·have F:=ai4 chAV.eq_1 zac.eq_1 htk @List.map_append.{0,0};exact qe
     ·obtain rfl:j=K.length:=by omega
      have q1:=nl K.length;have hta:K.take K.length=K:=List.take_length;rw[hb];have F:=ai4 zac.eq_1 q1 hta e0;repeat refine st ?_
      exact aR
    ·rw[if_neg e2]at hb;have e2':(s.kind==2)=false:=by simpa using e2
     rw[hb];refine qf func67 call67 ntmps67 results67 ?_;have F:=ai7 chAV.eq_1 stAV.eq_1 hs e1' e2' g0 zac.eq_1;repeat refine st ?_
     exact aR
theorem zlB (env:Env) (c:ChD) (hc:c.trans.length<=1000000) (x y:AV) (s:List UInt8):Con prog env 65 [.ref 9 [[Sg c.name,I c.initial,varsAV c.vars,stsAV c.states,trsAV c.trans,zaj c, .seq 1 ((evL c).map zdv),x,y]] 0 0,Sg s] (I (evI c s)):=by
 have hl:=zv9 c;have f0:=znn env (evL c) s (posL (evL c) s) (zmD (znd c) s) (by omega);unfold evI;by_cases h:(evL c)[posL (evL c) s]? =some s
 ·have hb:((evL c)[posL (evL c) s]? == some s)=true:=by simpa using h
  rw[hb]at f0;rw[if_pos h];refine qf func65 call65 ntmps65 results65 ?_;repeat refine tz01 f0 ?_
  exact aR0
 ·have hb:((evL c)[posL (evL c) s]? == some s)=false:=by simpa using h
  rw[hb]at f0;rw[if_neg h];refine qf func65 call65 ntmps65 results65 ?_;repeat refine tz01 f0 ?_
  exact aR0
end
section
def zcl (c:ChD) (j:Nat) (vs:Nat->Nat):List (List AV):=(keysTo c j).mapIdx fun q p=>[.agg [I p.1,I p.2], .row (q+6000) (vs (q+6000))]
def keyRows (c:ChD) (j:Nat):List Row:=(keysTo c j).map fun p=>⟨1,(zeI c j p).map zac,3,true⟩
def zc1 (c:ChD):List (List AV):=(keysTo c c.trans.length).map fun p=>[.agg [I p.1,I p.2], .seq 1 ((zeI c c.trans.length p).map zac)]
def begE (c:ChD) (j:Nat):List (List AV):=(List.range j).map fun i=>[.seq 1 ((sbL c i).map zac)]
def tabCells (c:ChD):List AV:=[Sg c.name,I c.initial,varsAV c.vars,stsAV c.states,trsAV c.trans,zaj c, .seq 1 ((evL c).map zdv), .fmap (zc1 c), .seq 1 (begE c c.states.length)]
def zah (c:ChD):AV:= .ref 9 [tabCells c] 0 0
theorem zdn (c:ChD) (j:Nat) (vs:Nat->Nat):(zcl c j vs).length=(keysTo c j).length:=by simp[zcl]
theorem zca (c:ChD) (j:Nat) (vs:Nat->Nat) (q:Nat):(zcl c j vs)[q]? =((keysTo c j)[q]?).map fun p=>[.agg [I p.1,I p.2], .row (q+6000) (vs (q+6000))]:=by simp[zcl]
theorem za2 (c:ChD) (j q:Nat):(keyRows c j)[q]? =((keysTo c j)[q]?).map fun p=>⟨1,(zeI c j p).map zac,3,true⟩:=by simp[keyRows]
theorem zmL (p:Int×Int) (f:Nat->AV): ∀(l:List (Int×Int)) (i:Nat),mfind prog 126 (.agg [I p.1,I p.2]) (l.mapIdx fun q k=>[.agg [I k.1,I k.2],f q]) i=some (idxP p l i)
 |[],i=>rfl
 |(a,b)::l,i=>by
   have ih:=zmL p (fun q=>f (q+1)) l (i+1);obtain⟨kn,ks⟩:=p;rw[List.mapIdx_cons];by_cases h:kn=a/\ks=b
   ·obtain⟨rfl,rfl⟩:=h;have e1:(kn==kn)=true:=by simp
    have e2:(ks==ks)=true:=by simp
    simp only[go_sem,eqFs,zbv,e1,e2,idxP]
   ·have e1:(kn==a&&(ks==b))=false:=by
     rw[Bool.eq_false_iff];intro e;simp only[Bool.and_eq_true,beq_iff_eq]at e;exact h e
    have e2: ¬((kn,ks):Int×Int)=(a,b):=fun e=>h (by simpa using e);simp only at ih;simp only[go_sem,eqFs,zbv,e1,idxP,e2,ih]
theorem zrG (c:ChD) (j:Nat) (vs:Nat->Nat) (a b:Int):mfind prog 126 (.agg [I a,I b]) (zcl c j vs) 0=some (idxP (a,b) (keysTo c j) 0):=zmL (a,b) (fun q=> .row (q+6000) (vs (q+6000))) (keysTo c j) 0
theorem zrH (c:ChD) (a b:Int):mfind prog 126 (.agg [I a,I b]) (zc1 c) 0=some (idxP (a,b) (keysTo c c.trans.length) 0):=by
 have:zc1 c=(keysTo c c.trans.length).mapIdx fun q k=>[.agg [I k.1,I k.2],((zc1 c)[q]?.bind (·[1]?)).getD .any]:=by
  apply List.ext_getElem?;intro q;rw[List.getElem?_mapIdx];unfold zc1;rw[List.getElem?_map];cases (keysTo c c.trans.length)[q]? with
  |none=>rfl
  |some p=>rfl
 rw[this];exact zmL (a,b) _ _ 0
/-! The state at the head of the loop -/
def boxA (c:ChD) (g:Nat->Nat):Row:=⟨9,[[Sg c.name,I c.initial,varsAV c.vars,stsAV c.states,trsAV c.trans,zaj c, .seq 1 ((evL c).map zdv), .mp 25 (g 25),nilS]],123,false⟩
def RA (c:ChD) (j:Nat) (g:Nat->Nat):List (Nat×Row):=(1,⟨5,[chAV c],26,false⟩)::(27,boxA c g)::(25,⟨0,zcl c j g,120,false⟩)::rowsAt 6000 (keyRows c j)
theorem zh9 (c:ChD) (j:Nat) (q:Nat):zax (rowsAt 6000 (keyRows c j)) (q+6000)=(keyRows c j)[q]? :=by
 rw[zgh,if_pos (by omega),show q+6000-6000=q by omega]
theorem zpD {c:ChD} {j q:Nat} {p:Int×Int} {g g':Nat->Nat} (hk:keysTo c (j+1)=keysTo c j) (hq:(keysTo c j)[q]? =some p) (h1: ∀k,k≠q->g' (k+6000)=g (k+6000)) {v:Nat} (h2:g' (q+6000)=v):(zcl c j g).set q [.agg [I p.1,I p.2], .row (q+6000) v]=zcl c (j+1) g':=by
 apply List.ext_getElem?;intro k;rw[List.getElem?_set,zca,zca,zdn,hk];by_cases e:q=k
 ·subst e;rw[if_pos rfl,if_pos (List.getElem?_eq_some_iff.1 hq).1,hq, <-h2];rfl
 ·rw[if_neg e];cases (keysTo c j)[k]? with
  |none=>rfl
  |some p'=>simp only[Option.map_some,h1 k (Ne.symm e)]
theorem zpB {c:ChD} {j q:Nat} {p:Int×Int} {g:Nat->Nat} (hq:(keysTo c j)[q]? =some p):(zcl c j g).set q [.agg [I p.1,I p.2], .row (q+6000) (g (q+6000))]=zcl c j g:=by
 apply List.ext_getElem?;intro k;rw[List.getElem?_set,zca,zdn];by_cases e:q=k
 ·subst e;rw[if_pos rfl,if_pos (List.getElem?_eq_some_iff.1 hq).1,hq];rfl
 ·rw[if_neg e]
theorem zpC {c:ChD} {j:Nat} {g g':Nat->Nat} (hk:keysTo c (j+1)=keysTo c j++[zb5 c j]) (h1: ∀k,k< (keysTo c j).length->g' (k+6000)=g (k+6000)) {v:Nat} (h2:g' ((keysTo c j).length+6000)=v):zcl c j g++[[.agg [I (zb5 c j).1,I (zb5 c j).2], .row ((keysTo c j).length+6000) v]]=zcl c (j+1) g':=by
 apply List.ext_getElem?;intro k;rw[zca,hk];by_cases hlt:k< (keysTo c j).length
 ·rw[List.getElem?_append_left (by rw[zdn];exact hlt),List.getElem?_append_left hlt,zca,List.getElem?_eq_getElem hlt];simp only[Option.map_some,h1 k hlt]
 ·rw[List.getElem?_append_right (by rw[zdn];omega),List.getElem?_append_right (by omega),zdn];by_cases e:k=(keysTo c j).length
  ·subst e;simp[h2]
  ·rw[List.getElem?_eq_none (by simp;omega),List.getElem?_eq_none (by simp;omega)];rfl
theorem zlc {c:ChD} {j q:Nat} {p:Int×Int} (hk:keysTo c (j+1)=keysTo c j) (hp:zb5 c j=p) (hn:(keysTo c j).Nodup) (hq:(keysTo c j)[q]? =some p) (k:Nat):(keyRows c (j+1))[k]? =if k=q then some ⟨1,(zeI c j p).map zac++[[I j]],3,true⟩ else(keyRows c j)[k]? :=by
 rw[za2,za2,hk];by_cases e:k=q
 ·subst e;rw[if_pos rfl,hq];simp only[Option.map_some,zgF,hp,if_true,List.map_append,List.map_cons,List.map_nil,zac]
 ·rw[if_neg e];cases hk2:(keysTo c j)[k]? with
  |none=>rfl
  | some p'=>
    have hne: ¬p=p':=fun e2=>by
     subst e2;obtain⟨a1,b1⟩:=List.getElem?_eq_some_iff.1 hq;obtain⟨a2,b2⟩:=List.getElem?_eq_some_iff.1 hk2;have hpw:=List.pairwise_iff_getElem.1 (List.nodup_iff_pairwise_ne.1 hn);rcases Nat.lt_trichotomy k q with hlt|hlt|hlt
     ·exact hpw k q a2 a1 hlt (b2.trans b1.symm)
     ·exact e hlt
     ·exact hpw q k a1 a2 hlt (b1.trans b2.symm)
    simp only[Option.map_some,zgF,hp,if_neg hne]
theorem zlb {c:ChD} {j:Nat} (hk:keysTo c (j+1)=keysTo c j++[zb5 c j]) (hno:zb5 c j∉keysTo c j) (k:Nat):(keyRows c (j+1))[k]? =if k=(keysTo c j).length then some ⟨1,[[I j]],3,true⟩ else(keyRows c j)[k]? :=by
 rw[za2,za2,hk];by_cases e:k=(keysTo c j).length
 ·subst e;simp only[if_true,List.getElem?_append_right (Nat.le_refl _),Nat.sub_self,List.getElem?_cons_zero,Option.map_some,zgF,zjp hno,List.nil_append,List.map_cons,List.map_nil,zac]
 ·rw[if_neg e];by_cases hlt:k< (keysTo c j).length
  ·rw[List.getElem?_append_left hlt,List.getElem?_eq_getElem hlt];have hne: ¬zb5 c j=(keysTo c j)[k]:=fun e2=>hno (e2 ▸ List.getElem_mem hlt);simp only[Option.map_some,zgF,if_neg hne]
  ·rw[List.getElem?_eq_none (by simp;omega),List.getElem?_eq_none (by omega)];rfl
def FA (c:ChD) (j:Nat) (g:Nat->Nat):List (Nat×AV):=[(1, .loc 1 (g 1) 0 0),(2, .lit (.pointer none)),(3, .lit .nilIface),(4,zaj c),(6, .loc 27 (g 27) 0 0),(32,trsAV c.trans),(33,I c.trans.length),(34,I j)]
def RN (c:ChD) (j:Nat) (g:Nat->Nat):List (Nat×Row):=(1,⟨5,[chAV c],26,false⟩)::(27,boxA c g)::(25,⟨0,zcl c j g++[[.agg [I (zb5 c j).1,I (zb5 c j).2], .row 55 (g 55)]],120,false⟩)::(55,⟨1,[[I j]],3,true⟩)::rowsAt 6000 (keyRows c j)
theorem zrL (c:ChD) (j:Nat) (vs:Nat->Nat) {g gm:Nat->Nat->Option AV} (h: ∀q v,g (q+6000) v=none):(zcl c j vs).map (·.map (AV.see g gm))=zcl c j vs:=by
 apply List.ext_getElem?;intro q;rw[List.getElem?_map,zca];cases (keysTo c j)[q]? with
 |none=>rfl
 |some p=>simp only[Option.map_some,List.map_cons,List.map_nil,AV.see,AV.see.seeL,h,Option.getD_none]
theorem zoO (c:ChD) (vs:Nat->Nat) {g gm:Nat->Nat->Option AV} (h: ∀v,gm 25 v=none):(boxA c vs).see g gm=boxA c vs:=by
 simp only[Row.see,boxA,List.map_cons,List.map_nil,AV.see,AV.see.seeL,h,Option.getD_none,zaj,Bool.false_eq_true,if_false]
theorem zs6 (c:ChD) {g gm:Nat->Nat->Option AV} :(chAV c).map (AV.see g gm)=chAV c:=rfl
theorem zfg {s:St} {r r2:Nat} {row:Row} {k:Nat} :(zdk s r r2 row).rows k=if k=r2 then some row else if k=r then none else(s.rows k).map (Row.see (zjr r (s.vs r) r2 (s.vs r2+1)) fun _ _=>none):=rfl
theorem zrb (v n v2 q w:Nat):zjr 55 v n v2 (q+6000) w=none:=by unfold zjr;rw[if_neg (by omega)]
theorem zvR {c:ChD} {j:Nat} (hk:keysTo c (j+1)=keysTo c j++[zb5 c j]) (hno:zb5 c j∉keysTo c j) (F:Nat) {g:Nat->Nat} {e:Nat->Bool} (he:e 27=false): ∃g' e',e' 27=false/\Turned (head (FA c F g) (RN c j g) g e) (head (FA c F g') (RA c (j+1) g') g' e'):=by
 generalize hn:(keysTo c j).length=n at*;have hr0:(keyRows c j)[n]? =none:=by rw[za2,List.getElem?_eq_none (by omega)];rfl
 have hrow:(head (FA c F g) (RN c j g) g e).rows 55=some ⟨1,[[I j]],3,true⟩:=by simp[head,RN,zax]
 have hfree:(head (FA c F g) (RN c j g) g e).rows (n+6000)=none:=by
  have:=zh9 c j n;rw[hr0]at this;simp only[head,RN,zax];rw[if_neg (by omega),if_neg (by omega),if_neg (by omega),if_neg (by omega),this]
 have t1:=Turned.ren (s:=head (FA c F g) (RN c j g) g e) 55 (n+6000) ⟨1,[[I j]],3,true⟩ (by omega) hrow hfree (Nat.succ_ne_zero 0) rfl;have hg: ∀t,t≠n+6000->upd g (n+6000) (g (n+6000)+1) t=g t:=fun t ht=>upd_ne _ _ _ ht;refine⟨upd g (n+6000) (g (n+6000)+1),upd e (n+6000) (e 55),by rw[upd_ne _ _ _ (by omega)];exact he,t1.trans (Turned.head ?_ ?_)⟩
 ·simp only[zer,FA,zdk,head,zhI,AV.see,zaj,hg 1 (by omega),hg 27 (by omega),if_true,Nat.reduceEqDiff,if_false,and_self,reduceCtorEq]
 ·refine⟨?_,?_,?_,holdR_rowsAt fun q r hq=> ?_⟩
  ·show (zdk _ _ _ _).rows 1=some _;rw[zfg,if_neg (by omega),if_neg (by omega)];simp only[head,RN,zax,if_true,Option.map_some,Row.see,List.map_cons,List.map_nil,zs6,Bool.false_eq_true,if_false]
  ·show (zdk _ _ _ _).rows 27=some _;rw[zfg,if_neg (by omega),if_neg (by omega)];simp only[head,RN,zax,if_true,Option.map_some,Nat.reduceEqDiff,if_false];rw[zoO _ _ fun _=>rfl];simp only[boxA,hg 25 (by omega)]
  ·show (zdk _ _ _ _).rows 25=some _;rw[zfg,if_neg (by omega),if_neg (by omega)];simp only[head,RN,zax,if_true,Option.map_some,Nat.reduceEqDiff,if_false,Row.see,Bool.false_eq_true,List.map_append,List.map_cons,List.map_nil];rw[zrL _ _ _ fun q v=>zrb ..];have:=zpC (c:=c) (j:=j) (g:=g) (g':=upd g (n+6000) (g (n+6000)+1)) hk (fun k hk=>hg _ (by omega)) (v:=g (n+6000)+1) (by rw[hn,upd_same]);rw[hn]at this;rw[<-this];simp[AV.see,AV.see.seeL,zjr]
  ·rw[zlb hk hno,hn]at hq;show (zdk _ _ _ _).rows (q+6000)=some _;rw[zfg];by_cases e0:q=n
   ·subst e0;rw[if_pos rfl]at hq |-;exact hq
   ·rw[if_neg e0]at hq;rw[if_neg (by omega),if_neg (by omega)];simp only[head,RN,zax];rw[if_neg (by omega),if_neg (by omega),if_neg (by omega),if_neg (by omega),zh9,hq]
    have hpu:r.pure=true:=by
     rw[za2]at hq;obtain⟨p,_,rfl⟩:=Option.map_eq_some_iff.1 hq;rfl
    simp only[Option.map_some,Row.see,hpu,if_true]
/-! The map, frozen -/
theorem zfH {g:Nat->Nat} {r v:Nat} : ∀ {l:List Row} {b:Nat},zd6 (seesR g (rowsAt b l)) r v=if b<=r/\v=g r then(l[r-b]?).map fun row=> .seq row.sz row.es else none
 |[],b=>by simp[rowsAt,seesR,zd6]
 | x::l,b=>by
   have ih:=zfH (g:=g) (r:=r) (v:=v) (l:=l) (b:=b+1);simp only[seesR]at ih;simp only[rowsAt,seesR,List.map_cons,zd6,ih];by_cases h:r=b
   ·subst h;by_cases hv:v=g r
    ·subst hv;simp
    ·simp[hv]
   ·rw[if_neg fun e=>h e.1];by_cases h2:b+1<=r
    ·by_cases hv:v=g r
     ·rw[if_pos ⟨h2,hv⟩,if_pos ⟨by omega,hv⟩,show r-b=(r-(b+1))+1 by omega,List.getElem?_cons_succ]
     ·rw[if_neg fun e=>hv e.2,if_neg fun e=>hv e.2]
    ·rw[if_neg fun e=>h2 e.1,if_neg fun e=>by omega]
def boxF (c:ChD):Row:=⟨9,[[Sg c.name,I c.initial,varsAV c.vars,stsAV c.states,trsAV c.trans,zaj c, .seq 1 ((evL c).map zdv), .fmap (zc1 c),nilS]],123,false⟩
theorem zpR {c:ChD} (F:Nat) {g:Nat->Nat} {e:Nat->Bool} (he:e 27=false): ∃e',e' 27=false/\Turned (head (FA c F g) (RA c c.trans.length g) g e) (head (FA c F g) [(1,⟨5,[chAV c],26,false⟩),(27,boxF c)] g e'):=by
 generalize hn:c.trans.length=n at*
 have hL:zi8 (head (FA c F g) (RA c n g) g e) (seesR g (rowsAt 6000 (keyRows c n))):=by
  intro p hp;obtain⟨x,hx,rfl⟩:=List.mem_map.1 hp;obtain⟨q,h1,h2⟩:=zfK hx;refine⟨rfl,x.2,?_,?_,?_,rfl⟩
  ·simp only[head,RA,zax,h2];rw[if_neg (by omega),if_neg (by omega),if_neg (by omega),zh9];exact h1
  ·rw[za2]at h1;obtain⟨p,_,e0⟩:=Option.map_eq_some_iff.1 h1;rw[<-e0];exact Nat.succ_ne_zero 0
  ·rw[za2]at h1;obtain⟨p,_,e0⟩:=Option.map_eq_some_iff.1 h1;rw[<-e0]
 have t1:=Turned.sees _ hL
 have hes:(zcl c n g).map (·.map (AV.see (zd6 (seesR g (rowsAt 6000 (keyRows c n)))) fun _ _=>none))=zc1 c:=by
  apply List.ext_getElem?;intro q;unfold zc1;rw[hn,List.getElem?_map,zca,List.getElem?_map];cases hq:(keysTo c n)[q]? with
  |none=>rfl
  | some p=>
    have hs:zd6 (seesR g (rowsAt 6000 (keyRows c n))) (q+6000) (g (q+6000))=some (.seq 1 ((zeI c n p).map zac)):=by
     rw[zfH,if_pos ⟨by omega,rfl⟩,show q+6000-6000=q by omega,za2,hq];rfl
    simp only[Option.map_some,List.map_cons,List.map_nil,AV.see,AV.see.seeL,hs,Option.getD_some]
 have hlow: ∀r v,r<6000->zd6 (seesR g (rowsAt 6000 (keyRows c n))) r v=none:=fun r v h=>by
  rw[zfH,if_neg fun e=>by omega]
 generalize hG:zd6 (seesR g (rowsAt 6000 (keyRows c n)))=G at*
 have t2:Turned (seenSt (head (FA c F g) (RA c n g) g e) (seesR g (rowsAt 6000 (keyRows c n)))) (head (FA c F g) [(1,⟨5,[chAV c],26,false⟩),(27,boxA c g),(25,⟨0,zc1 c,120,false⟩)] g _):=Turned.head (s:=seenSt (head (FA c F g) (RA c n g) g e) (seesR g (rowsAt 6000 (keyRows c n)))) (by
  simp only[zer,FA,seenSt,head,zhI,AV.see,zaj,if_true,Nat.reduceEqDiff,if_false,and_self,reduceCtorEq]) (by
  refine⟨?_,?_,?_,trivial⟩
  ·simp only[seenSt,hG,head,RA,zax,if_true,Option.map_some,Row.see,List.map_cons,List.map_nil,zs6,Bool.false_eq_true,if_false]
  ·simp only[seenSt,hG,head,RA,zax,if_true,Option.map_some,Nat.reduceEqDiff,if_false];rw[zoO _ _ fun _=>rfl]
  ·simp only[seenSt,hG,head,RA,zax,if_true,Option.map_some,Nat.reduceEqDiff,if_false,Row.see,Bool.false_eq_true,hes])
 have hesc:(seenSt (head (FA c F g) (RA c n g) g e) (seesR g (rowsAt 6000 (keyRows c n)))).esc 27=false:=by
  show (e 27||_)=false;rw[he,Bool.false_or,List.any_eq_false];intro p hp;obtain⟨x,hx,rfl⟩:=List.mem_map.1 hp;obtain⟨q,_,h2⟩:=zfK hx;simp;omega
 have t3:=t1.trans t2;generalize (seenSt (head (FA c F g) (RA c n g) g e) (seesR g (rowsAt 6000 (keyRows c n)))).esc=e2 at t3 hesc
 have t4:=t3.trans (Turned.mapSee 25 ⟨0,zc1 c,120,false⟩ (by simp[head,zax]) rfl (by
  rw[List.all_eq_true];intro x hx;unfold zc1 at hx;obtain⟨p,_,rfl⟩:=List.mem_map.1 hx
  rfl))
 refine⟨e2,hesc,t4.trans (Turned.head ?_ ?_)⟩
 ·simp only[zer,FA,zpz,head,zhI,AV.see,zaj,if_true,Nat.reduceEqDiff,if_false,and_self,reduceCtorEq]
 ·refine⟨?_,?_,trivial⟩
  ·simp only[zpz,head,zax,if_true,Option.map_some,Nat.reduceEqDiff,if_false,Row.see,List.map_cons,List.map_nil,zs6,Bool.false_eq_true]
  ·simp only[zpz,head,zax,if_true,Option.map_some,Nat.reduceEqDiff,if_false,Row.see,boxA,boxF,List.map_cons,List.map_nil,AV.see,zaj,Bool.false_eq_true,and_self,Option.getD_some]
end
section
theorem zdZ (c:ChD):(zaj c).plain=true:=rfl
theorem zwq (l:List Nat):l.map zac=(zL l).map intAV:=by simp[zac,zL]
theorem zpA (c:ChD) (vs:Nat->Nat):zcl c 0 vs=[]:=rfl
theorem zla (c:ChD):keyRows c 0=[]:=rfl
theorem zmO {c:ChD} {j:Nat} {g g':Nat->Nat} (h: ∀k,g (k+6000)=g' (k+6000)):zcl c j g=zcl c j g':=by
 apply List.ext_getElem?;intro q;rw[zca,zca,h]
theorem zq7 {c:ChD} {j:Nat} {s:St} {Q:St->Prop} (hk:keysTo c (j+1)=keysTo c j++[zb5 c j]) (hno:zb5 c j∉keysTo c j) (hF:zer s (FA c (j+1) s.vs)) (hR:zdP s (RN c j s.vs)) (he:s.esc 27=false)
 (hQ: ∀g e,e 27=false->Q (head (FA c (j+1) g) (RA c (j+1) g) g e)): ∃s2,Turned s s2/\Q s2:=by
 obtain⟨g',e',h1,h2⟩:=zvR hk hno (j+1) (g:=s.vs) (e:=s.esc) he;exact⟨_,(Turned.head hF hR).trans h2,hQ g' e' h1⟩
theorem zwp (c:ChD) (F:Nat) (g:Nat->Nat) (R:List (Nat×Row)) (e:Nat->Bool):zer (head (FA c F g) R g e) (FA c F g):=by
 simp only[zer,FA,head,zhI,if_true,Nat.reduceEqDiff,if_false,and_self,reduceCtorEq]
theorem zwo (c:ChD) (j:Nat) (g:Nat->Nat) (F:List (Nat×AV)) (e:Nat->Bool):zdP (head F (RA c j g) g e) (RA c j g):=by
 refine⟨?_,?_,?_,holdR_rowsAt fun q r hq=> ?_⟩
 ·simp only[head,RA,zax,if_true]
 ·simp only[head,RA,zax,if_true,Nat.reduceEqDiff,if_false]
 ·simp only[head,RA,zax,if_true,Nat.reduceEqDiff,if_false]
 ·simp only[head,RA,zax];rw[if_neg (by omega),if_neg (by omega),if_neg (by omega),zh9,hq]
theorem zkz (env:Env) (a1 a8:Addr) (he:ChEnv env a1 a8) (hT: ∀W,env.inv W->TabAt W) (c:ChD) (hch:chk c=(0, -1)) (hcf:zeP c):Con prog env 26 [.agg (chAV c)] (.tuple [zah c, .lit .nilIface]):=by
 have h0:(chk c).1=0:=by rw[hch]
 have h:=full_of h0;have hs:=zjn h0;have hlen:=h.few;have htr:=h.ftr;have f0:=ztJ env a1 a8 he hT c h.toRight (zlW hch) hcf;have f1:=zhl env c hs;have f2:=zpV env c (by omega);refine qf func26 call26 ntmps26 results26 ?_;have F:=chAV.eq_1;repeat refine tz3 f0 f1 f2 ?_
 refine zds [(24,⟨1,(evL c).map zdv,9,true⟩)] ?_ ?_
 ·exact qe
 refine zab (D:=Nat) (fun j vs=>FA c j vs) (fun j vs=>RA c j vs) (fun j _ esc=>j<=c.trans.length/\esc 27=false) (fun j=>c.trans.length-j) 0 ?_ ?_ ?_ ?_
 ·exact⟨Nat.zero_le _,rfl⟩
 ·have F:=ai FA.eq_1 zaj.eq_1;exact qe
 ·have F:=ai6 RA.eq_1 boxA.eq_1 zaj.eq_1 @zpA @zla chAV.eq_1
  (simp only[go_sem,rowsAt,F])
 try clear f0 f1 f2
 rintro j ws esc ⟨hj,e0⟩;by_cases hlt:j<c.trans.length
 ·obtain⟨t,ht⟩:=gE hlt;have g1:=nlt hlt;have g2:=zaa hlt (by omega);have fE:=(zlB env c (by omega) .any nilS t.event).lend rfl;have hka:zb5 c j=(t.src,evI c t.event):=by unfold zb5;rw[ht]
  have hm:=zrG c j ws t.src (evI c t.event);have hml:=zdn c j ws;generalize evI c t.event=e at*;refine zcA ?_;cases hq:idxP (t.src,e) (keysTo c j) 0 with
  | none=>
    rw[hq]at hm;have hno:zb5 c j∉keysTo c j:=by rw[hka];exact zfu hq
    have hk:keysTo c (j+1)=keysTo c j++[zb5 c j]:=by
     show (if zb5 c j∈keysTo c j then _ else _)=_;rw[if_neg hno]
    have hs2: ∀x y:List AV,(zcl c j ws++[x]).set (keysTo c j).length y=zcl c j ws++[y]:=fun x y=>by rw[<-hml];simp
    have ha2: ∀x:List AV,(zcl c j ws++[x])[(keysTo c j).length]? =some x:=fun x=>by rw[<-hml];simp
    have F:=ai12 FA.eq_1 RA.eq_1 boxA.eq_1 chAV.eq_1 trAV.eq_1 g1 g2 ht @zdZ hm hml<|ai3 hs2 ha2 e0;repeat refine st ?_
    refine lL fE ?_;repeat refine st ?_
    refine zq7 hk hno ?_ ⟨?_,?_,?_,?_,holdR_rowsAt fun q r hr=> ?_⟩ ?_ fun g e he=>⟨j+1,⟨hlt,he⟩,?_,?_,by omega⟩
    ·have F:=ai4 FA.eq_1 RA.eq_1 chAV.eq_1 g2;exact qe
    ·(simp only[go_sem,FA,RA,chAV,g2])
    ·have F:=ai4 RA.eq_1 RN.eq_1 boxA.eq_1 chAV.eq_1;exact qe
    ·have F:=ai5 RA.eq_1 RN.eq_1 boxA.eq_1 chAV.eq_1 hka
     (simp only[go_sem,F])
     exact congrArg (fun es=>(⟨0,es++_,_,false⟩:Row)) (zmO fun k=>by simp only[go_sem])
    ·have F:=ai RA.eq_1 RN.eq_1;exact qe
    ·have hh:=zh9 c j q;rw[hr]at hh;have F:=ai RA.eq_1 hh;exact qe
    ·have F:=ai RA.eq_1 e0;exact qe
    ·exact zwp c (j+1) g _ e
    ·exact zwo c (j+1) g _ e
  | some q=>
    rw[hq]at hm;have hqk:=(zhG hq).2;rw[Nat.sub_zero]at hqk;have hin:zb5 c j∈keysTo c j:=by rw[hka];exact List.mem_of_getElem? hqk
    have hk:keysTo c (j+1)=keysTo c j:=by
     show (if zb5 c j∈keysTo c j then _ else _)=_;rw[if_pos hin]
    have hat:(zcl c j ws)[q]? =some [.agg [I t.src,I e], .row (q+6000) (ws (q+6000))]:=by rw[zca,hqk];rfl
    have hsame:(zcl c j ws).set q [.agg [I t.src,I e], .row (q+6000) (ws (q+6000))]=zcl c j ws:=zpB (p:=(t.src,e)) hqk;have hkr:=zh9 c j q;rw[za2,hqk]at hkr;simp only[Option.map_some]at hkr;have hrl:=zq6 c j (t.src,e);have hf:Fits ((zeI c j (t.src,e)).length+1) 8:=zae (by omega) (by omega);have F:=ai12 FA.eq_1 RA.eq_1 boxA.eq_1 chAV.eq_1 trAV.eq_1 g1 g2 ht @zdZ hm hat<|ai4 hsame hkr hf e0;repeat refine st ?_
    refine lL fE ?_;repeat refine st ?_
    refine⟨_,Turned.refl _,j+1,⟨hlt,?_⟩,?_,⟨?_,?_,?_,holdR_rowsAt fun k r hr=> ?_⟩,by omega⟩
    ·exact qe
    ·have F:=ai4 FA.eq_1 RA.eq_1 chAV.eq_1 g2;exact qe
    ·have F:=ai3 RA.eq_1 boxA.eq_1 chAV.eq_1;exact qe
    ·have F:=ai3 RA.eq_1 boxA.eq_1 chAV.eq_1;exact qe
    ·have F:=ai4 RA.eq_1 boxA.eq_1 chAV.eq_1 hsame
     (simp only[go_sem,F])
     exact congrArg (fun es=>(⟨0,es,_,false⟩:Row)) (zpD (p:=(t.src,e)) hk hqk (fun k hne=>by rw[upd_ne _ _ _ (by omega),upd_ne _ _ _ (by omega),upd_ne _ _ _ (by omega),upd_ne _ _ _ (by omega)]) (upd_same ..))
    ·rw[zlc hk hka (zfU c j) hqk k]at hr;by_cases ek:k=q
     ·subst ek;rw[if_pos rfl]at hr;cases hr;have F:=ai3 RA.eq_1 boxA.eq_1 chAV.eq_1;exact qe
     ·rw[if_neg ek]at hr;have hh:=zh9 c j k;rw[hr]at hh;have hne: ¬(k+6000=q+6000):=by omega
      have F:=ai6 RA.eq_1 boxA.eq_1 chAV.eq_1 hh hne ek;exact qe
 obtain rfl:j=c.trans.length:=by omega
 have g1:=nl c.trans.length;obtain⟨e',h27,htu⟩:=zpR (c:=c) c.trans.length (g:=ws) e0;refine zdN htu ?_;have F:=ai5 FA.eq_1 boxF.eq_1 chAV.eq_1 g1 h27;repeat refine st ?_
 refine nC 27 9100 0 8 27 1 ?_
 refine zab (D:=Nat) (fun i vs=>[(2, .lit (.pointer none)),(3, .lit .nilIface),(4,zaj c),(6, .loc 27 (vs 27) 0 0),(62,stsAV c.states),(63,I c.states.length),(64,I i)])
  (fun i vs=>[(27,⟨9,[[Sg c.name,I c.initial,varsAV c.vars,stsAV c.states,trsAV c.trans,zaj c, .seq 1 ((evL c).map zdv), .fmap (zc1 c), .row 9100 (vs 9100)]],123,false⟩),(9100,⟨1,begE c i,27,true⟩)])
  (fun i _ esc=>i<=c.states.length/\esc 27=false/\esc 9100=false) (fun i=>c.states.length-i) 0 ?_ ?_ ?_ ?_
 ·refine⟨Nat.zero_le _,?_,?_⟩<;>simp only[go_sem,h27]
 ·exact qe
 ·(simp only[go_sem,F])
  try rfl
 try clear g1 e0 h27 htu hj hlt
 rintro i ws esc ⟨hi,e0,e1⟩;by_cases hlt:i<c.states.length
 ·have g1:=nlt hlt;have g2:=zaa hlt (by omega);have f3:=zf3 env c h 40 i hlt (by omega);have hbl:=zvw h hlt
  have f4:Con prog env 66 [zaj c, .seq 1 ((bgL c i).map zac)] (.own 3 1 ((sbL c i).map zac)):=by
   rw[zwq];exact zcG env c h.toRight (zL (bgL c i)) (by simp[zL];omega)
  have hbe:(begE c i).length=i:=by simp[begE]
  have hbs:begE c (i+1)=begE c i++[[.seq 1 ((sbL c i).map zac)]]:=by unfold begE;rw[List.range_succ,List.map_append];rfl
  have hf:Fits (i+1) 24:=zae (by omega) (by omega);have F:=ai7 g1 g2 hbe hf e0 e1 zaj.eq_1;repeat refine tz2 f3 f4 ?_
  refine⟨i+1,⟨hlt,?_,?_⟩,?_,?_,by omega⟩
  ·simp only[go_sem,e0]
  ·simp only[go_sem,e1]
  ·exact qe
  ·have F:=ai hbs zaj.eq_1;exact qe
 obtain rfl:i=c.states.length:=by omega
 have g1:=nl c.states.length;have F:=ai3 g1 e0 e1;repeat refine st ?_
 refine zds [(9100,⟨1,begE c c.states.length,27,true⟩)] ?_ ?_
 ·exact qe
 refine zgU [(2, .loc 27 (ws 27) 0 0),(3, .lit .nilIface)] [(27,⟨9,[tabCells c],123,false⟩)] ?_ ?_ ?_
 ·exact qe0
 ·have F:=ai tabCells.eq_1 zaj.eq_1;exact qe
 have F:=ai tabCells.eq_1 @zdZ
 (refine zal ?_;show (zaG _ _ _).run _=some _;simp only[go_sem,F])
 rfl
end

end Go.Proofs.YtbpmkofnfgdegaaGreatDoor