/- table.New, of a right chart. -/
import Derived.Test.YtbpmkofnfgdegaaGreatDoorM14
import Derived.Test.YtbpmkofnfgdegaaGreatDoorM11
import Derived.Test.YtbpmkofnfgdegaaGreatDoorM8
import Derived.Test.YtbpmkofnfgdegaaGreatDoorM6
set_option maxRecDepth 100000
set_option maxHeartbeats 4000000
set_option linter.unusedSimpArgs false
namespace Go.Proofs.YtbpmkofnfgdegaaGreatDoor
open Go.Proofs.Tryz
open Go.RowKit
section
abbrev Str8:=List UInt8
abbrev SL (a b:Str8):Prop:=Op.bytesLess a b=true
/-! Texts in the order of bytes -/
theorem ztU: ∀(x y:Str8),Op.bytesLess x y=decide (x<y)
 | [],[]=>by simp [Op.bytesLess]
 | _::_,[]=>by simp [Op.bytesLess]
 | [],_::_=>by simp [Op.bytesLess]
 | a::x,b::y=>by
   rw [Op.bytesLess,ztU x y];simp only [List.cons_lt_cons_iff];by_cases h1:a<b<;>by_cases h2:a=b<;>by_cases h3:x<y<;>simp [h1,h2,h3]
theorem zs4 (x y:Str8):decide (x<=y)= !Op.bytesLess y x:=by
 rw [ztU, <-decide_not];rfl
theorem zly {a b c:Str8} (h1:Op.bytesLess b a=false) (h2:Op.bytesLess c b=false):Op.bytesLess c a=false:=by
 cases k:Op.bytesLess c a
 ·rfl
 ·cases k3:Op.bytesLess a b
  ·rw [<-zbS k3 h1,k] at h2; cases h2
  ·rw [zcG k k3] at h2; cases h2
theorem zqV (l:List Str8):(zdn l).Pairwise fun a b=>Op.bytesLess b a=false:=by
 have:=List.pairwise_mergeSort (le:=fun x y:Str8=>decide (x<=y)) (fun a b c hab hbc=>by
  simp only [zs4,Bool.not_eq_true'] at*;exact zly hab hbc) (fun a b=>by
  simp only [zs4];cases k:Op.bytesLess b a
  ·simp
  ·rw [zfM k]; simp) l
 exact this.imp fun {a b} h=>by simpa [zs4] using h
theorem zkg (l:List Str8) (hs:l.Pairwise fun a b=>Op.bytesLess b a=false): ∀m,m<=l.length->(Lib.compactUpTo l.toArray m).Pairwise SL/\ ∀x,x∈Lib.compactUpTo l.toArray m↔x∈l.take m
 | 0,_=>by simp [Lib.compactUpTo]
 | m+1,hm=>by
   obtain⟨h1,h2⟩:=zkg l hs m (by omega);have ey:l.toArray[m]! =l[m]'(by omega):=by rw [getElem!_pos _ m (by simp; omega)]; rfl
   have et:l.take (m+1)=l.take m++[l[m]'(by omega)]:=by rw [List.take_add_one,List.getElem?_eq_getElem (by omega)]; rfl
   have hle: ∀k (hk:k<m),Op.bytesLess (l[m]'(by omega)) (l[k]'(by omega))=false:=fun k hk=>List.pairwise_iff_getElem.1 hs k m (by omega) (by omega) hk;rw [Lib.compactUpTo_succ,ey];by_cases hk:Lib.keeps l.toArray m=true
   ·rw [if_pos hk];refine⟨List.pairwise_append.2 ⟨h1,List.pairwise_singleton ..,fun x hx y hy=> ?_⟩,fun x=>by rw [et,List.mem_append,List.mem_append,h2]⟩;rw [List.mem_singleton.1 hy];rw [h2,List.mem_take_iff_getElem] at hx;obtain⟨k,hk2,rfl⟩:=hx;have hkm:k<m:=by omega
    show Op.bytesLess _ _=true;cases hq:Op.bytesLess (l[k]'(by omega)) (l[m]'(by omega)) with
    | true=>rfl
    | false=>
      have e:=zbS hq (hle k hkm)
      exfalso
      unfold Lib.keeps at hk;rw [decide_eq_true_eq] at hk;rcases hk with hk | hk
      ·omega
      ·apply hk;rw [ey,getElem!_pos _ (m-1) (by simp; omega)];show l[m]'(by omega)=l[m-1]'(by omega);have e1:=hle (m-1) (by omega);by_cases ek:k=m-1
       ·subst ek; exact e.symm
       ·have e2:=List.pairwise_iff_getElem.1 hs k (m-1) (by omega) (by omega) (by omega);rw [e] at e2;exact zbS e1 e2
   ·rw [if_neg hk,List.append_nil];refine⟨h1,fun x=> ?_⟩;rw [h2,et,List.mem_append,List.mem_singleton];refine⟨.inl,fun h=>h.elim id fun h=> ?_⟩;unfold Lib.keeps at hk;rw [decide_eq_true_eq,not_or,Classical.not_not,ey,getElem!_pos _ (m-1) (by simp; omega)] at hk;rw [h,hk.2];exact List.mem_take_iff_getElem.2 ⟨m-1,by omega,rfl⟩
theorem zsZ (c:ChD):(evL c).Pairwise SL:=(zkg _ (zqV _) _ (Nat.le_refl _)).1
theorem zs0 (c:ChD):(evL c).length<=c.trans.length:=by
 have h1:(Lib.compact (zdn (za6 c c.trans.length))).length<=(zdn (za6 c c.trans.length)).length:=by
  unfold Lib.compact Lib.compactUpTo;rw [List.length_map];exact Nat.le_trans (List.length_filter_le ..) (by simp)
 have h2:=zgn c c.trans.length;unfold evL;have h3:(zdn (za6 c c.trans.length)).length=(za6 c c.trans.length).length:=by simp [zdn]
 omega
/-! Where a text stands, or would stand -/
def posL (l:List Str8) (x:Str8):Nat:=(l.filter fun y=>Op.bytesLess y x).length
def Cut (l:List Str8) (x:Str8) (p:Nat):Prop:=p<=l.length/\ ∀k y,l[k]? =some y->(Op.bytesLess y x=true↔k<p)
theorem zoS: ∀ {l:List Str8},l.Pairwise SL-> ∀x,Cut l x (posL l x)
 | [],_,x=>⟨Nat.zero_le _,fun k y h=>by simp at h⟩
 | a::l,h,x=>by
   obtain⟨h1,h2⟩:=List.pairwise_cons.1 h;obtain⟨k1,k2⟩:=zoS h2 x;unfold posL at*;rw [List.filter_cons];by_cases ha:Op.bytesLess a x=true
   ·rw [if_pos ha,List.length_cons];refine⟨by simp only [List.length_cons]; omega,fun k y hk=> ?_⟩;cases k with
    | zero=>
      obtain rfl:a=y:=by simpa using hk
      exact⟨fun _=>by omega,fun _=>ha⟩
    | succ k=>
      rw [k2 k y (by simpa using hk)];omega
   ·rw [if_neg ha];have hno: ∀y∈l,¬Op.bytesLess y x=true:=fun y hy hb=>ha (zcG (h1 y hy) hb);have e:(l.filter fun y=>Op.bytesLess y x)=[]:=List.filter_eq_nil_iff.2 hno;rw [e];refine⟨Nat.zero_le _,fun k y hk=>⟨fun hb=> ?_,fun hk=>by simp at hk⟩⟩;cases k with
    | zero=>
      obtain rfl:a=y:=by simpa using hk
      exact absurd hb ha
    | succ k=>exact absurd hb (hno y (List.mem_of_getElem? (by simpa using hk)))
def evI (c:ChD) (s:Str8):Int:=if (evL c)[posL (evL c) s]? =some s then(posL (evL c) s:Nat) else -1
/-! A state's transitions -/
def zbX (c:ChD) (k:Nat):Int×Int:=match c.trans[k]? with
 | some t=>(t.src,evI c t.event)
 | none=>(-1, -1)
def zd8 (c:ChD) (j:Nat) (p:Int×Int):List Nat:=(List.range j).filter fun k=>zbX c k=p
def keysTo (c:ChD):Nat->List (Int×Int)
 | 0=>[]
 | j+1=>if zbX c j∈keysTo c j then keysTo c j else keysTo c j++[zbX c j]
def atL (c:ChD) (i e:Int):List Nat:=zd8 c c.trans.length (i,e)
theorem zfC (c:ChD) (j:Nat) (p:Int×Int):zd8 c (j+1) p=if zbX c j=p then zd8 c j p++[j] else zd8 c j p:=by
 unfold zd8;rw [List.range_succ,List.filter_append];by_cases h:zbX c j=p<;>simp [h]
theorem zfG {c:ChD} {p:Int×Int} : ∀ {j:Nat},p∈keysTo c j↔ ∃k,k<j/\zbX c k=p
 | 0=>by simp [keysTo]
 | j+1=>by
   unfold keysTo;split
   ·rename_i h;rw [zfG];constructor
    ·rintro⟨k,h1,h2⟩; exact⟨k,by omega,h2⟩
    ·rintro⟨k,h1,h2⟩;by_cases e:k=j
     ·subst e; rw [<-h2]; exact zfG.1 h
     ·exact⟨k,by omega,h2⟩
   ·rw [List.mem_append,zfG,List.mem_singleton];constructor
    ·rintro(⟨k,h1,h2⟩ | h)
     ·exact⟨k,by omega,h2⟩
     ·exact⟨j,by omega,h.symm⟩
    ·rintro⟨k,h1,h2⟩;by_cases e:k=j
     ·subst e; exact .inr h2.symm
     ·exact .inl ⟨k,by omega,h2⟩
theorem zeZ (c:ChD): ∀j,(keysTo c j).Nodup
 | 0=> .nil
 | j+1=>by
   unfold keysTo;split
   ·exact zeZ c j
   ·rename_i h;exact List.nodup_append.2 ⟨zeZ c j,by simp,fun a ha b hb e=>h (by rw [List.mem_singleton.1 hb] at e; exact e ▸ ha)⟩
theorem zlV {c:ChD} {j:Nat} {p:Int×Int} (h:p∉keysTo c j):zd8 c j p=[]:=by
 unfold zd8;rw [List.filter_eq_nil_iff];intro k hk;simp only [decide_eq_true_eq];exact fun e=>h (zfG.2 ⟨k,List.mem_range.1 hk,e⟩)
theorem zoG (c:ChD) (j:Nat) (p:Int×Int):(zd8 c j p).length<=j:=by
 unfold zd8;exact Nat.le_trans (List.length_filter_le ..) (by simp)
def idxP (p:Int×Int):List (Int×Int)->Nat->Option Nat
 | [],_=>none
 | q::l,i=>if p=q then some i else idxP p l (i+1)
theorem zgu {p:Int×Int} : ∀ {l:List (Int×Int)} {i n:Nat},idxP p l i=some n->i<=n/\l[n-i]? =some p
 | [],i,n,h=>by simp [idxP] at h
 | q::l,i,n,h=>by
   unfold idxP at h;split at h
   ·rename_i e;obtain rfl:i=n:=by simpa using h
    simp [e]
   ·obtain⟨h1,h2⟩:=zgu h;refine⟨by omega, ?_⟩;rw [show n-i=(n-(i+1))+1 by omega,List.getElem?_cons_succ];exact h2
theorem zgv {p:Int×Int} : ∀ {l:List (Int×Int)} {i:Nat},idxP p l i=none->p∉l
 | [],i,h=>by simp
 | q::l,i,h=>by
   unfold idxP at h;split at h
   ·cases h
   ·rename_i e;rw [List.mem_cons];exact fun hh=>hh.elim e (zgv h)
end
section
theorem zl4 (env:Env) (s:List UInt8):Con prog env 182 [Sg s] (B false):=by
 refine qf func182 call182 ntmps182 results182 ?_;repeat refine st0 ?_
 exact aR0
theorem zrd (env:Env) (s:List UInt8):Con prog env 223 [Sg s] (B false):=by
 refine qf func223 call223 ntmps223 results223 ?_;repeat refine st0 ?_
 exact aR0
theorem zpi (env:Env) (s t:List UInt8):Con prog env 181 [Sg s,Sg t] (B (Op.bytesLess s t)):=by
 have f0:=zrd env s;refine qf func181 call181 ntmps181 results181 ?_;repeat (first | refine st0 ?_ | refine cC0 f0 ?_)
 exact aR0
theorem zlx (env:Env) (l:List (List UInt8)) (x:List UInt8) (p:Nat) (hp:Cut l x p) (hl:l.length<=1000000):Con prog env 123 [.seq 1 (l.map zcW),Sg x] (.tuple [I p,B (l[p]? == some x)]):=by
 have f0:=zl4 env x;refine qf func123 call123 ntmps123 results123 ?_;repeat refine st0 ?_
 refine zab (D:=Nat×Nat) (fun d _=>[(0, .seq 1 (l.map zcW)),(1,Sg x),(6,I l.length),(7,I d.1),(8,I d.2)]) (fun _ _=>[]) (fun d _ _=>d.1<=p/\p<=d.2/\d.2<=l.length) (fun d=>d.2-d.1) (0,l.length) ?_ ?_ ?_ ?_
 ·exact⟨Nat.zero_le _,hp.1,Nat.le_refl _⟩
 ·exact qe0
 ·exact qe0
 rintro⟨i,j⟩ ws esc ⟨h1,h2,h3⟩;simp only at h1 h2 h3;by_cases hlt:i<j
 ·have g1:=nlt hlt;have hm:(i+j)/2<l.length:=by omega
  obtain⟨y,hy⟩: ∃y,l[(i+j)/2]? =some y:=⟨l[(i+j)/2],List.getElem?_eq_getElem hm⟩;have hyp:=hp.2 _ _ hy;have f1:=zpi env y x;have g2:IntKind.i64.wrap ((i:Int)+(j:Int))=((i+j:Nat):Int):=by rw [zaw (by omega) (by omega)]; omega
  have g3:IntKind.u64.wrap ((i+j:Nat):Int)=((i+j:Nat):Int):=IntWalk.u64_in _ (by omega)
  have g4:IntKind.i64.wrap (((i+j:Nat):Int).fdiv (2^min 1 64))=(((i+j)/2:Nat):Int):=by
   rw [show ((i+j:Nat):Int).fdiv (2^min 1 64)=(((i+j)/2:Nat):Int) from(Int.ofNat_fdiv (i+j) 2).symm,zaw (by omega) (by omega)]
  have g5:(((i+j)/2:Nat):Int)< (l.length:Int):=by omega
  have g6:=zaa (k:=(i+j)/2) (n:=l.length) hm (by omega);generalize hmm:(i+j)/2=mm at*;cases hb:Op.bytesLess y x with
  | true=>
    rw [hb] at f1 hyp;have:=hyp.1 rfl;have F:=ai8 g1 g2 g3 g4 g5 g6 hy zcW.eq_1;repeat (first | refine st ?_ | refine cC f1 ?_)
    refine⟨(mm+1,j),⟨?_, ?_, ?_⟩, ?_, ?_, ?_⟩
    ·simp only; omega
    ·exact h2
    ·exact h3
    ·exact qe
    ·exact qe
    ·simp only; omega
  | false=>
    rw [hb] at f1 hyp;have: ¬mm<p:=fun h=>by cases hyp.2 h
    have F:=ai8 g1 g2 g3 g4 g5 g6 hy zcW.eq_1;repeat (first | refine st ?_ | refine cC f1 ?_)
    refine⟨(i,mm),⟨?_, ?_, ?_⟩, ?_, ?_, ?_⟩
    ·exact h1
    ·simp only; omega
    ·simp only; omega
    ·exact qe
    ·exact qe
    ·simp only; omega
 ·obtain rfl:i=j:=by omega
  obtain rfl:i=p:=by omega
  have g1: ¬(i:Int)< (i:Int):=by omega
  by_cases hi:i<l.length
  ·have g2:=nlt hi;obtain⟨y,hy⟩: ∃y,l[i]? =some y:=⟨l[i],List.getElem?_eq_getElem hi⟩;have f1:=zl4 env y;cases hb:(y==x) with
   | true=>
     have hr:(l[i]? == some x)=true:=by rw [hy]; simpa using hb
     rw [hr];have F:=ai5 g1 g2 hy hb zcW.eq_1;repeat (first | refine st ?_ | refine cC f0 ?_ | refine cC f1 ?_)
     exact aR
   | false=>
     have hr:(l[i]? == some x)=false:=by rw [hy]; simpa using hb
     rw [hr];have F:=ai5 g1 g2 hy hb zcW.eq_1;repeat (first | refine st ?_ | refine cC f0 ?_ | refine cC f1 ?_)
     exact aR
  ·have g2: ¬(i:Int)< (l.length:Int):=by omega
   have hr:(l[i]? == some x)=false:=by rw [List.getElem?_eq_none (by omega)]; rfl
   rw [hr];have F:=ai3 g1 g2 zcW.eq_1;repeat (first | refine st ?_ | refine cC f0 ?_)
   exact aR
end
section
theorem ze6 (env:Env) (c:ChD) (h:Full c): ∀(n i:Nat),i<c.states.length->c.states.length<=i+n->Con prog env 67 [.agg (chAV c),I i] (.own 3 1 ((bgL c i).map zae))
 | 0,i,hi,hn=>by omega
 | n+1,i,hi,hn=>by
   have hlen:=h.few;obtain⟨s,hs⟩: ∃s,c.states[i]? =some s:=⟨c.states[i],List.getElem?_eq_getElem hi⟩;have hb:=ztV h hs;have hbl:=zmB h hi;have g0:((i:Nat):Int)< (c.states.length:Int):=by omega
   by_cases e1:s.kind=1
   ·by_cases e2:0<=s.initial
    ·obtain⟨j,hj,e3⟩:=zlb h hs e1 e2;have hg:=zaG h.toRight (zao hj).1;rw [if_pos ⟨e1,e2⟩,e3,Int.toNat_natCast] at hb;have f0:=ze6 env c h n j (by omega) (by omega);rw [hb] at hbl;have hf:Fits (1+(bgL c j).length) 8:=zaf (by simp at hbl; omega) (by omega);rw [hb];refine qf func67 call67 ntmps67 results67 ?_;have F:=ai8 chAV.eq_1 stAV.eq_1 hs e1 e3 g0 zae.eq_1 hf;repeat (first | refine st ?_ | refine cC f0 ?_)
     exact aR
    ·rw [if_neg fun e=>e2 e.2,if_neg (by omega)] at hb;rw [hb];refine qf func67 call67 ntmps67 results67 ?_;have F:=ai7 chAV.eq_1 stAV.eq_1 hs e1 e2 g0 zae.eq_1;repeat refine st ?_
     exact aR
   ·rw [if_neg fun e=>e1 e.1] at hb;have e1':(s.kind==1)=false:=by simpa using e1
    by_cases e2:s.kind=2
    ·rw [if_pos e2] at hb;have f1:=zcQ env c i (by omega);generalize hK:kidsL c i true=K at*
     have hKm: ∀k∈K,i<k/\k<c.states.length:=fun k hk=>by
      rw [<-hK] at hk;have:=zaG h.toRight (zao hk).1;omega
     have hKl:K.length<=32:=by
      have:=(zbs c i true).length_le_of_subset (l₂:=List.range c.states.length) fun m hm=>List.mem_range.2 (hKm m (hK ▸ hm)).2;rw [hK] at this;simp at this;omega
     have hpre: ∀j,(i::(K.take j).flatMap (bgL c)).length<=32:=fun j=>by
      have e:(K.take j).flatMap (bgL c)++(K.drop j).flatMap (bgL c)=K.flatMap (bgL c):=by rw [<-List.flatMap_append,List.take_append_drop]
      have:=congrArg List.length e;rw [hb] at hbl;simp only [List.length_cons,List.length_append] at*;omega
     refine qf func67 call67 ntmps67 results67 ?_;have F:=ai7 chAV.eq_1 stAV.eq_1 hs e1' e2 g0 zae.eq_1;repeat (first | refine st ?_ | refine cC f1 ?_)
     refine zab (D:=Nat) (fun j vs=>[(2, .loc 2 (vs 2) 0 0),(5, .row 10 (vs 10)),(37, .row 37 (vs 37)),(38,I K.length),(39,I j)]) (fun j _=>[(2,⟨5,[chAV c],26,false⟩),(10,⟨1,(i::(K.take j).flatMap (bgL c)).map zae,3,true⟩),(37,⟨1,K.map zae,3,true⟩)]) (fun j _ esc=>j<=K.length/\esc 10=false) (fun j=>K.length-j) 0 ?_ ?_ ?_ ?_
     ·exact⟨Nat.zero_le _,rfl⟩
     ·exact qe
     ·have F:=ai3 chAV.eq_1 zae.eq_1 @List.flatMap_nil.{0,0};exact qe
     rintro j ws esc ⟨hj,e0⟩;by_cases hlt:j<K.length
     ·obtain⟨k,hk⟩: ∃k,K[j]? =some k:=⟨K[j],List.getElem?_eq_getElem hlt⟩;have hkm:=hKm k (List.mem_of_getElem? hk);have q1:=nlt hlt;have q2:=zaa hlt (by omega);have f0:=ze6 env c h n k (by omega) (by omega);have htk:(K.take (j+1)).flatMap (bgL c)=(K.take j).flatMap (bgL c)++bgL c k:=by rw [List.take_add_one,hk,List.flatMap_append]; simp
      have hp:=hpre (j+1);rw [htk] at hp;have hf:Fits (((K.take j).flatMap (bgL c)).length+1+(bgL c k).length) 8:=zaf (by simp only [List.length_cons,List.length_append] at hp; omega) (by omega);have F:=ai7 chAV.eq_1 zae.eq_1 hk q1 q2 hf e0;repeat (first | refine st ?_ | refine cC f0 ?_)
      refine⟨j+1,⟨hlt,by simp only [go_sem,e0]⟩, ?_, ?_,by omega⟩
      ·exact qe
      ·have F:=ai4 chAV.eq_1 zae.eq_1 htk @List.map_append.{0,0};exact qe
     ·obtain rfl:j=K.length:=by omega
      have q1: ¬(K.length:Int)< (K.length:Int):=by omega
      have hta:K.take K.length=K:=List.take_length;rw [hb];have F:=ai4 zae.eq_1 q1 hta e0;repeat refine st ?_
      exact aR
    ·rw [if_neg e2] at hb;have e2':(s.kind==2)=false:=by simpa using e2
     rw [hb];refine qf func67 call67 ntmps67 results67 ?_;have F:=ai7 chAV.eq_1 stAV.eq_1 hs e1' e2' g0 zae.eq_1;repeat refine st ?_
     exact aR
theorem zjY (env:Env) (c:ChD) (hc:c.trans.length<=1000000) (x y:AV) (s:List UInt8):Con prog env 65 [.ref 9 [[Sg c.name,I c.initial,varsAV c.vars,stsAV c.states,trsAV c.trans,zan c, .seq 1 ((evL c).map zcW),x,y]] 0 0,Sg s] (I (evI c s)):=by
 have hl:=zs0 c;have f0:=zlx env (evL c) s (posL (evL c) s) (zoS (zsZ c) s) (by omega);unfold evI;by_cases h:(evL c)[posL (evL c) s]? =some s
 ·have hb:((evL c)[posL (evL c) s]? == some s)=true:=by simpa using h
  rw [hb] at f0;rw [if_pos h];refine qf func65 call65 ntmps65 results65 ?_;repeat (first | refine st0 ?_ | refine cC0 f0 ?_)
  exact aR0
 ·have hb:((evL c)[posL (evL c) s]? == some s)=false:=by simpa using h
  rw [hb] at f0;rw [if_neg h];refine qf func65 call65 ntmps65 results65 ?_;repeat (first | refine st0 ?_ | refine cC0 f0 ?_)
  exact aR0
end
section
def zb4 (c:ChD) (j:Nat) (vs:Nat->Nat):List (List AV):=(keysTo c j).mapIdx fun q p=>[.agg [I p.1,I p.2], .row (q+6000) (vs (q+6000))]
def keyRows (c:ChD) (j:Nat):List Row:=(keysTo c j).map fun p=>⟨1,(zd8 c j p).map zae,3,true⟩
def zcz (c:ChD):List (List AV):=(keysTo c c.trans.length).map fun p=>[.agg [I p.1,I p.2], .seq 1 ((zd8 c c.trans.length p).map zae)]
def begE (c:ChD) (j:Nat):List (List AV):=(List.range j).map fun i=>[.seq 1 ((sbL c i).map zae)]
def tabCells (c:ChD):List AV:=[Sg c.name,I c.initial,varsAV c.vars,stsAV c.states,trsAV c.trans,zan c, .seq 1 ((evL c).map zcW), .fmap (zcz c), .seq 1 (begE c c.states.length)]
def zai (c:ChD):AV:= .ref 9 [tabCells c] 0 0
theorem zcR (c:ChD) (j:Nat) (vs:Nat->Nat):(zb4 c j vs).length=(keysTo c j).length:=by simp [zb4]
theorem zbR (c:ChD) (j:Nat) (vs:Nat->Nat) (q:Nat):(zb4 c j vs)[q]? =((keysTo c j)[q]?).map fun p=>[.agg [I p.1,I p.2], .row (q+6000) (vs (q+6000))]:=by simp [zb4]
theorem za5 (c:ChD) (j q:Nat):(keyRows c j)[q]? =((keysTo c j)[q]?).map fun p=>⟨1,(zd8 c j p).map zae,3,true⟩:=by simp [keyRows]
theorem zk3 (p:Int×Int) (f:Nat->AV): ∀(l:List (Int×Int)) (i:Nat),mfind prog 126 (.agg [I p.1,I p.2]) (l.mapIdx fun q k=>[.agg [I k.1,I k.2],f q]) i=some (idxP p l i)
 | [],i=>rfl
 |(a,b)::l,i=>by
   have ih:=zk3 p (fun q=>f (q+1)) l (i+1);obtain⟨kn,ks⟩:=p;rw [List.mapIdx_cons];by_cases h:kn=a/\ks=b
   ·obtain⟨rfl,rfl⟩:=h;have e1:(kn==kn)=true:=by simp
    have e2:(ks==ks)=true:=by simp
    simp only [go_sem,eqFs,zbG,e1,e2,idxP]
   ·have e1:(kn==a&&(ks==b))=false:=by
     rw [Bool.eq_false_iff];intro e;simp only [Bool.and_eq_true,beq_iff_eq] at e;exact h e
    have e2: ¬((kn,ks):Int×Int)=(a,b):=fun e=>h (by simpa using e);simp only at ih;simp only [go_sem,eqFs,zbG,e1,idxP,e2,ih]
theorem zo7 (c:ChD) (j:Nat) (vs:Nat->Nat) (a b:Int):mfind prog 126 (.agg [I a,I b]) (zb4 c j vs) 0=some (idxP (a,b) (keysTo c j) 0):=zk3 (a,b) (fun q=> .row (q+6000) (vs (q+6000))) (keysTo c j) 0
theorem zsP (c:ChD) (a b:Int):mfind prog 126 (.agg [I a,I b]) (zcz c) 0=some (idxP (a,b) (keysTo c c.trans.length) 0):=by
 have:zcz c=(keysTo c c.trans.length).mapIdx fun q k=>[.agg [I k.1,I k.2],((zcz c)[q]?.bind (·[1]?)).getD .any]:=by
  apply List.ext_getElem?;intro q;rw [List.getElem?_mapIdx];unfold zcz;rw [List.getElem?_map];cases (keysTo c c.trans.length)[q]? with
  | none=>rfl
  | some p=>rfl
 rw [this];exact zk3 (a,b) _ _ 0
/-! The state at the head of the loop -/
def boxA (c:ChD) (g:Nat->Nat):Row:=⟨9,[[Sg c.name,I c.initial,varsAV c.vars,stsAV c.states,trsAV c.trans,zan c, .seq 1 ((evL c).map zcW), .mp 25 (g 25),nilS]],123,false⟩
def RA (c:ChD) (j:Nat) (g:Nat->Nat):List (Nat×Row):=(1,⟨5,[chAV c],26,false⟩)::(27,boxA c g)::(25,⟨0,zb4 c j g,120,false⟩)::rowsAt 6000 (keyRows c j)
theorem zgU (c:ChD) (j:Nat) (q:Nat):zaA (rowsAt 6000 (keyRows c j)) (q+6000)=(keyRows c j)[q]? :=by
 rw [zfj,if_pos (by omega),show q+6000-6000=q by omega]
theorem znr {c:ChD} {j q:Nat} {p:Int×Int} {g g':Nat->Nat} (hk:keysTo c (j+1)=keysTo c j) (hq:(keysTo c j)[q]? =some p) (h1: ∀k,k≠q->g' (k+6000)=g (k+6000)) {v:Nat} (h2:g' (q+6000)=v):(zb4 c j g).set q [.agg [I p.1,I p.2], .row (q+6000) v]=zb4 c (j+1) g':=by
 apply List.ext_getElem?;intro k;rw [List.getElem?_set,zbR,zbR,zcR,hk];by_cases e:q=k
 ·subst e;rw [if_pos rfl,if_pos (List.getElem?_eq_some_iff.1 hq).1,hq, <-h2];rfl
 ·rw [if_neg e];cases (keysTo c j)[k]? with
  | none=>rfl
  | some p'=>simp only [Option.map_some,h1 k (Ne.symm e)]
theorem znp {c:ChD} {j q:Nat} {p:Int×Int} {g:Nat->Nat} (hq:(keysTo c j)[q]? =some p):(zb4 c j g).set q [.agg [I p.1,I p.2], .row (q+6000) (g (q+6000))]=zb4 c j g:=by
 apply List.ext_getElem?;intro k;rw [List.getElem?_set,zbR,zcR];by_cases e:q=k
 ·subst e;rw [if_pos rfl,if_pos (List.getElem?_eq_some_iff.1 hq).1,hq];rfl
 ·rw [if_neg e]
theorem znq {c:ChD} {j:Nat} {g g':Nat->Nat} (hk:keysTo c (j+1)=keysTo c j++[zbX c j]) (h1: ∀k,k< (keysTo c j).length->g' (k+6000)=g (k+6000)) {v:Nat} (h2:g' ((keysTo c j).length+6000)=v):zb4 c j g++[[.agg [I (zbX c j).1,I (zbX c j).2], .row ((keysTo c j).length+6000) v]]=zb4 c (j+1) g':=by
 apply List.ext_getElem?;intro k;rw [zbR,hk];by_cases hlt:k< (keysTo c j).length
 ·rw [List.getElem?_append_left (by rw [zcR]; exact hlt),List.getElem?_append_left hlt,zbR,List.getElem?_eq_getElem hlt];simp only [Option.map_some,h1 k hlt]
 ·rw [List.getElem?_append_right (by rw [zcR]; omega),List.getElem?_append_right (by omega),zcR];by_cases e:k=(keysTo c j).length
  ·subst e;simp [h2]
  ·rw [List.getElem?_eq_none (by simp; omega),List.getElem?_eq_none (by simp; omega)];rfl
theorem zjz {c:ChD} {j q:Nat} {p:Int×Int} (hk:keysTo c (j+1)=keysTo c j) (hp:zbX c j=p) (hn:(keysTo c j).Nodup) (hq:(keysTo c j)[q]? =some p) (k:Nat):(keyRows c (j+1))[k]? =if k=q then some ⟨1,(zd8 c j p).map zae++[[I j]],3,true⟩ else(keyRows c j)[k]? :=by
 rw [za5,za5,hk];by_cases e:k=q
 ·subst e;rw [if_pos rfl,hq];simp only [Option.map_some,zfC,hp,if_true,List.map_append,List.map_cons,List.map_nil,zae]
 ·rw [if_neg e];cases hk2:(keysTo c j)[k]? with
  | none=>rfl
  | some p'=>
    have hne: ¬p=p':=fun e2=>by
     subst e2;obtain⟨a1,b1⟩:=List.getElem?_eq_some_iff.1 hq;obtain⟨a2,b2⟩:=List.getElem?_eq_some_iff.1 hk2;have hpw:=List.pairwise_iff_getElem.1 (List.nodup_iff_pairwise_ne.1 hn);rcases Nat.lt_trichotomy k q with hlt | hlt | hlt
     ·exact hpw k q a2 a1 hlt (b2.trans b1.symm)
     ·exact e hlt
     ·exact hpw q k a1 a2 hlt (b1.trans b2.symm)
    simp only [Option.map_some,zfC,hp,if_neg hne]
theorem zjy {c:ChD} {j:Nat} (hk:keysTo c (j+1)=keysTo c j++[zbX c j]) (hno:zbX c j∉keysTo c j) (k:Nat):(keyRows c (j+1))[k]? =if k=(keysTo c j).length then some ⟨1,[[I j]],3,true⟩ else(keyRows c j)[k]? :=by
 rw [za5,za5,hk];by_cases e:k=(keysTo c j).length
 ·subst e;simp only [if_true,List.getElem?_append_right (Nat.le_refl _),Nat.sub_self,List.getElem?_cons_zero,Option.map_some,zfC,zlV hno,List.nil_append,List.map_cons,List.map_nil,zae]
 ·rw [if_neg e];by_cases hlt:k< (keysTo c j).length
  ·rw [List.getElem?_append_left hlt,List.getElem?_eq_getElem hlt];have hne: ¬zbX c j=(keysTo c j)[k]:=fun e2=>hno (e2 ▸ List.getElem_mem hlt);simp only [Option.map_some,zfC,if_neg hne]
  ·rw [List.getElem?_eq_none (by simp; omega),List.getElem?_eq_none (by omega)];rfl
def FA (c:ChD) (j:Nat) (g:Nat->Nat):List (Nat×AV):=[(1, .loc 1 (g 1) 0 0),(2, .lit (.pointer none)),(3, .lit .nilIface),(4,zan c),(6, .loc 27 (g 27) 0 0),(32,trsAV c.trans),(33,I c.trans.length),(34,I j)]
def RN (c:ChD) (j:Nat) (g:Nat->Nat):List (Nat×Row):=(1,⟨5,[chAV c],26,false⟩)::(27,boxA c g)::(25,⟨0,zb4 c j g++[[.agg [I (zbX c j).1,I (zbX c j).2], .row 55 (g 55)]],120,false⟩)::(55,⟨1,[[I j]],3,true⟩)::rowsAt 6000 (keyRows c j)
theorem zpa (c:ChD) (j:Nat) (vs:Nat->Nat) {g gm:Nat->Nat->Option AV} (h: ∀q v,g (q+6000) v=none):(zb4 c j vs).map (·.map (AV.see g gm))=zb4 c j vs:=by
 apply List.ext_getElem?;intro q;rw [List.getElem?_map,zbR];cases (keysTo c j)[q]? with
 | none=>rfl
 | some p=>simp only [Option.map_some,List.map_cons,List.map_nil,AV.see,AV.see.seeL,h,Option.getD_none]
theorem zmy (c:ChD) (vs:Nat->Nat) {g gm:Nat->Nat->Option AV} (h: ∀v,gm 25 v=none):(boxA c vs).see g gm=boxA c vs:=by
 simp only [Row.see,boxA,List.map_cons,List.map_nil,AV.see,AV.see.seeL,h,Option.getD_none,zan,Bool.false_eq_true,if_false]
theorem zqi (c:ChD) {g gm:Nat->Nat->Option AV} :(chAV c).map (AV.see g gm)=chAV c:=rfl
theorem zes {s:St} {r r2:Nat} {row:Row} {k:Nat} :(zcO s r r2 row).rows k=if k=r2 then some row else if k=r then none else(s.rows k).map (Row.see (zh7 r (s.vs r) r2 (s.vs r2+1)) fun _ _=>none):=rfl
theorem zoK (v n v2 q w:Nat):zh7 55 v n v2 (q+6000) w=none:=by unfold zh7; rw [if_neg (by omega)]
theorem zsM {c:ChD} {j:Nat} (hk:keysTo c (j+1)=keysTo c j++[zbX c j]) (hno:zbX c j∉keysTo c j) (F:Nat) {g:Nat->Nat} {e:Nat->Bool} (he:e 27=false): ∃g' e',e' 27=false/\Turned (head (FA c F g) (RN c j g) g e) (head (FA c F g') (RA c (j+1) g') g' e'):=by
 generalize hn:(keysTo c j).length=n at*;have hr0:(keyRows c j)[n]? =none:=by rw [za5,List.getElem?_eq_none (by omega)]; rfl
 have hrow:(head (FA c F g) (RN c j g) g e).rows 55=some ⟨1,[[I j]],3,true⟩:=by simp [head,RN,zaA]
 have hfree:(head (FA c F g) (RN c j g) g e).rows (n+6000)=none:=by
  have:=zgU c j n;rw [hr0] at this;simp only [head,RN,zaA];rw [if_neg (by omega),if_neg (by omega),if_neg (by omega),if_neg (by omega),this]
 have t1:=Turned.ren (s:=head (FA c F g) (RN c j g) g e) 55 (n+6000) ⟨1,[[I j]],3,true⟩ (by omega) hrow hfree (Nat.succ_ne_zero 0) rfl;have hg: ∀t,t≠n+6000->upd g (n+6000) (g (n+6000)+1) t=g t:=fun t ht=>upd_ne _ _ _ ht;refine⟨upd g (n+6000) (g (n+6000)+1),upd e (n+6000) (e 55),by rw [upd_ne _ _ _ (by omega)]; exact he,t1.trans (Turned.head ?_ ?_)⟩
 ·simp only [zdV,FA,zcO,head,zgw,AV.see,zan,hg 1 (by omega),hg 27 (by omega),if_true,Nat.reduceEqDiff,if_false,and_self,reduceCtorEq]
 ·refine⟨?_, ?_, ?_,holdR_rowsAt fun q r hq=> ?_⟩
  ·show (zcO _ _ _ _).rows 1=some _;rw [zes,if_neg (by omega),if_neg (by omega)];simp only [head,RN,zaA,if_true,Option.map_some,Row.see,List.map_cons,List.map_nil,zqi,Bool.false_eq_true,if_false]
  ·show (zcO _ _ _ _).rows 27=some _;rw [zes,if_neg (by omega),if_neg (by omega)];simp only [head,RN,zaA,if_true,Option.map_some,Nat.reduceEqDiff,if_false];rw [zmy _ _ fun _=>rfl];simp only [boxA,hg 25 (by omega)]
  ·show (zcO _ _ _ _).rows 25=some _;rw [zes,if_neg (by omega),if_neg (by omega)];simp only [head,RN,zaA,if_true,Option.map_some,Nat.reduceEqDiff,if_false,Row.see,Bool.false_eq_true,List.map_append,List.map_cons,List.map_nil];rw [zpa _ _ _ fun q v=>zoK ..];have:=znq (c:=c) (j:=j) (g:=g) (g':=upd g (n+6000) (g (n+6000)+1)) hk (fun k hk=>hg _ (by omega)) (v:=g (n+6000)+1) (by rw [hn,upd_same]);rw [hn] at this;rw [<-this];simp [AV.see,AV.see.seeL,zh7]
  ·rw [zjy hk hno,hn] at hq;show (zcO _ _ _ _).rows (q+6000)=some _;rw [zes];by_cases e0:q=n
   ·subst e0;rw [if_pos rfl] at hq |-;exact hq
   ·rw [if_neg e0] at hq;rw [if_neg (by omega),if_neg (by omega)];simp only [head,RN,zaA];rw [if_neg (by omega),if_neg (by omega),if_neg (by omega),if_neg (by omega),zgU,hq]
    have hpu:r.pure=true:=by
     rw [za5] at hq;obtain⟨p,_,rfl⟩:=Option.map_eq_some_iff.1 hq;rfl
    simp only [Option.map_some,Row.see,hpu,if_true]
/-! The map, frozen -/
theorem zeQ {g:Nat->Nat} {r v:Nat} : ∀ {l:List Row} {b:Nat},zcY (seesR g (rowsAt b l)) r v=if b<=r/\v=g r then(l[r-b]?).map fun row=> .seq row.sz row.es else none
 | [],b=>by simp [rowsAt,seesR,zcY]
 | x::l,b=>by
   have ih:=zeQ (g:=g) (r:=r) (v:=v) (l:=l) (b:=b+1);simp only [seesR] at ih;simp only [rowsAt,seesR,List.map_cons,zcY,ih];by_cases h:r=b
   ·subst h;by_cases hv:v=g r
    ·subst hv; simp
    ·simp [hv]
   ·rw [if_neg fun e=>h e.1];by_cases h2:b+1<=r
    ·by_cases hv:v=g r
     ·rw [if_pos ⟨h2,hv⟩,if_pos ⟨by omega,hv⟩,show r-b=(r-(b+1))+1 by omega,List.getElem?_cons_succ]
     ·rw [if_neg fun e=>hv e.2,if_neg fun e=>hv e.2]
    ·rw [if_neg fun e=>h2 e.1,if_neg fun e=>by omega]
def boxF (c:ChD):Row:=⟨9,[[Sg c.name,I c.initial,varsAV c.vars,stsAV c.states,trsAV c.trans,zan c, .seq 1 ((evL c).map zcW), .fmap (zcz c),nilS]],123,false⟩
theorem znA {c:ChD} (F:Nat) {g:Nat->Nat} {e:Nat->Bool} (he:e 27=false): ∃e',e' 27=false/\Turned (head (FA c F g) (RA c c.trans.length g) g e) (head (FA c F g) [(1,⟨5,[chAV c],26,false⟩),(27,boxF c)] g e'):=by
 generalize hn:c.trans.length=n at*
 have hL:zhP (head (FA c F g) (RA c n g) g e) (seesR g (rowsAt 6000 (keyRows c n))):=by
  intro p hp;obtain⟨x,hx,rfl⟩:=List.mem_map.1 hp;obtain⟨q,h1,h2⟩:=zeS hx;refine⟨rfl,x.2, ?_, ?_, ?_,rfl⟩
  ·simp only [head,RA,zaA,h2];rw [if_neg (by omega),if_neg (by omega),if_neg (by omega),zgU];exact h1
  ·rw [za5] at h1;obtain⟨p,_,e0⟩:=Option.map_eq_some_iff.1 h1;rw [<-e0];exact Nat.succ_ne_zero 0
  ·rw [za5] at h1;obtain⟨p,_,e0⟩:=Option.map_eq_some_iff.1 h1;rw [<-e0]
 have t1:=Turned.sees _ hL
 have hes:(zb4 c n g).map (·.map (AV.see (zcY (seesR g (rowsAt 6000 (keyRows c n)))) fun _ _=>none))=zcz c:=by
  apply List.ext_getElem?;intro q;unfold zcz;rw [hn,List.getElem?_map,zbR,List.getElem?_map];cases hq:(keysTo c n)[q]? with
  | none=>rfl
  | some p=>
    have hs:zcY (seesR g (rowsAt 6000 (keyRows c n))) (q+6000) (g (q+6000))=some (.seq 1 ((zd8 c n p).map zae)):=by
     rw [zeQ,if_pos ⟨by omega,rfl⟩,show q+6000-6000=q by omega,za5,hq];rfl
    simp only [Option.map_some,List.map_cons,List.map_nil,AV.see,AV.see.seeL,hs,Option.getD_some]
 have hlow: ∀r v,r<6000->zcY (seesR g (rowsAt 6000 (keyRows c n))) r v=none:=fun r v h=>by
  rw [zeQ,if_neg fun e=>by omega]
 generalize hG:zcY (seesR g (rowsAt 6000 (keyRows c n)))=G at*
 have t2:Turned (seenSt (head (FA c F g) (RA c n g) g e) (seesR g (rowsAt 6000 (keyRows c n)))) (head (FA c F g) [(1,⟨5,[chAV c],26,false⟩),(27,boxA c g),(25,⟨0,zcz c,120,false⟩)] g _):=Turned.head (s:=seenSt (head (FA c F g) (RA c n g) g e) (seesR g (rowsAt 6000 (keyRows c n)))) (by
  simp only [zdV,FA,seenSt,head,zgw,AV.see,zan,if_true,Nat.reduceEqDiff,if_false,and_self,reduceCtorEq]) (by
  refine⟨?_, ?_, ?_,trivial⟩
  ·simp only [seenSt,hG,head,RA,zaA,if_true,Option.map_some,Row.see,List.map_cons,List.map_nil,zqi,Bool.false_eq_true,if_false]
  ·simp only [seenSt,hG,head,RA,zaA,if_true,Option.map_some,Nat.reduceEqDiff,if_false];rw [zmy _ _ fun _=>rfl]
  ·simp only [seenSt,hG,head,RA,zaA,if_true,Option.map_some,Nat.reduceEqDiff,if_false,Row.see,Bool.false_eq_true,hes])
 have hesc:(seenSt (head (FA c F g) (RA c n g) g e) (seesR g (rowsAt 6000 (keyRows c n)))).esc 27=false:=by
  show (e 27||_)=false;rw [he,Bool.false_or,List.any_eq_false];intro p hp;obtain⟨x,hx,rfl⟩:=List.mem_map.1 hp;obtain⟨q,_,h2⟩:=zeS hx;simp;omega
 have t3:=t1.trans t2;generalize (seenSt (head (FA c F g) (RA c n g) g e) (seesR g (rowsAt 6000 (keyRows c n)))).esc=e2 at t3 hesc
 have t4:=t3.trans (Turned.mapSee 25 ⟨0,zcz c,120,false⟩ (by simp [head,zaA]) rfl (by
  rw [List.all_eq_true];intro x hx;unfold zcz at hx;obtain⟨p,_,rfl⟩:=List.mem_map.1 hx
  rfl))
 refine⟨e2,hesc,t4.trans (Turned.head ?_ ?_)⟩
 ·simp only [zdV,FA,znn,head,zgw,AV.see,zan,if_true,Nat.reduceEqDiff,if_false,and_self,reduceCtorEq]
 ·refine⟨?_, ?_,trivial⟩
  ·simp only [znn,head,zaA,if_true,Option.map_some,Nat.reduceEqDiff,if_false,Row.see,List.map_cons,List.map_nil,zqi,Bool.false_eq_true]
  ·simp only [znn,head,zaA,if_true,Option.map_some,Nat.reduceEqDiff,if_false,Row.see,boxA,boxF,List.map_cons,List.map_nil,AV.see,zan,Bool.false_eq_true,and_self,Option.getD_some]
end
section
theorem zdi (c:ChD):(zan c).plain=true:=rfl
theorem zth (l:List Nat):l.map zae=(zL l).map intAV:=by simp [zae,zL]
theorem zno (c:ChD) (vs:Nat->Nat):zb4 c 0 vs=[]:=rfl
theorem zjx (c:ChD):keyRows c 0=[]:=rfl
theorem zk5 {c:ChD} {j:Nat} {g g':Nat->Nat} (h: ∀k,g (k+6000)=g' (k+6000)):zb4 c j g=zb4 c j g':=by
 apply List.ext_getElem?;intro q;rw [zbR,zbR,h]
theorem zoH {c:ChD} {j:Nat} {s:St} {Q:St->Prop} (hk:keysTo c (j+1)=keysTo c j++[zbX c j]) (hno:zbX c j∉keysTo c j) (hF:zdV s (FA c (j+1) s.vs)) (hR:zdf s (RN c j s.vs)) (he:s.esc 27=false)
 (hQ: ∀g e,e 27=false->Q (head (FA c (j+1) g) (RA c (j+1) g) g e)): ∃s2,Turned s s2/\Q s2:=by
 obtain⟨g',e',h1,h2⟩:=zsM hk hno (j+1) (g:=s.vs) (e:=s.esc) he;exact⟨_,(Turned.head hF hR).trans h2,hQ g' e' h1⟩
theorem ztg (c:ChD) (F:Nat) (g:Nat->Nat) (R:List (Nat×Row)) (e:Nat->Bool):zdV (head (FA c F g) R g e) (FA c F g):=by
 simp only [zdV,FA,head,zgw,if_true,Nat.reduceEqDiff,if_false,and_self,reduceCtorEq]
theorem ztf (c:ChD) (j:Nat) (g:Nat->Nat) (F:List (Nat×AV)) (e:Nat->Bool):zdf (head F (RA c j g) g e) (RA c j g):=by
 refine⟨?_, ?_, ?_,holdR_rowsAt fun q r hq=> ?_⟩
 ·simp only [head,RA,zaA,if_true]
 ·simp only [head,RA,zaA,if_true,Nat.reduceEqDiff,if_false]
 ·simp only [head,RA,zaA,if_true,Nat.reduceEqDiff,if_false]
 ·simp only [head,RA,zaA];rw [if_neg (by omega),if_neg (by omega),if_neg (by omega),zgU,hq]
theorem ziX (env:Env) (a1 a8:Addr) (he:ChEnv env a1 a8) (hT: ∀W,env.inv W->TabAt W) (c:ChD) (hch:chk c=(0, -1)) (hcf:zdZ c):Con prog env 26 [.agg (chAV c)] (.tuple [zai c, .lit .nilIface]):=by
 have h0:(chk c).1=0:=by rw [hch]
 have h:=full_of h0;have hs:=zh2 h0;have hlen:=h.few;have htr:=h.ftr;have f0:=zqR env a1 a8 he hT c h.toRight (zkk hch) hcf;have f1:=zex env c hs;have f2:=znD env c (by omega);refine qf func26 call26 ntmps26 results26 ?_;have F:=chAV.eq_1;repeat (first | refine st ?_ | refine cC f0 ?_ | refine cC f1 ?_ | refine cC f2 ?_)
 refine zcw [(24,⟨1,(evL c).map zcW,9,true⟩)] ?_ ?_
 ·exact qe
 refine zab (D:=Nat) (fun j vs=>FA c j vs) (fun j vs=>RA c j vs) (fun j _ esc=>j<=c.trans.length/\esc 27=false) (fun j=>c.trans.length-j) 0 ?_ ?_ ?_ ?_
 ·exact⟨Nat.zero_le _,rfl⟩
 ·have F:=ai FA.eq_1 zan.eq_1;exact qe
 ·have F:=ai6 RA.eq_1 boxA.eq_1 zan.eq_1 @zno @zjx chAV.eq_1
  (simp only [go_sem,rowsAt,F])
 try clear f0 f1 f2
 rintro j ws esc ⟨hj,e0⟩;by_cases hlt:j<c.trans.length
 ·obtain⟨t,ht⟩: ∃t,c.trans[j]? =some t:=⟨c.trans[j],List.getElem?_eq_getElem hlt⟩;have g1:=nlt hlt;have g2:=zaa hlt (by omega);have fE:=(zjY env c (by omega) .any nilS t.event).lend rfl;have hka:zbX c j=(t.src,evI c t.event):=by unfold zbX; rw [ht]
  have hm:=zo7 c j ws t.src (evI c t.event);have hml:=zcR c j ws;generalize evI c t.event=e at*;refine zfO ?_;cases hq:idxP (t.src,e) (keysTo c j) 0 with
  | none=>
    rw [hq] at hm;have hno:zbX c j∉keysTo c j:=by rw [hka]; exact zgv hq
    have hk:keysTo c (j+1)=keysTo c j++[zbX c j]:=by
     show (if zbX c j∈keysTo c j then _ else _)=_;rw [if_neg hno]
    have hs2: ∀x y:List AV,(zb4 c j ws++[x]).set (keysTo c j).length y=zb4 c j ws++[y]:=fun x y=>by rw [<-hml]; simp
    have ha2: ∀x:List AV,(zb4 c j ws++[x])[(keysTo c j).length]? =some x:=fun x=>by rw [<-hml]; simp
    have F:=ai14 FA.eq_1 RA.eq_1 boxA.eq_1 chAV.eq_1 trAV.eq_1 g1 g2 ht @zdi hm hml hs2 ha2 e0;repeat refine st ?_
    refine lL fE ?_;repeat refine st ?_
    refine zoH hk hno ?_ ⟨?_, ?_, ?_, ?_,holdR_rowsAt fun q r hr=> ?_⟩ ?_ fun g e he=>⟨j+1,⟨hlt,he⟩, ?_, ?_,by omega⟩
    ·have F:=ai4 FA.eq_1 RA.eq_1 chAV.eq_1 g2;exact qe
    ·(simp only [go_sem,FA,RA,chAV,g2])
    ·have F:=ai4 RA.eq_1 RN.eq_1 boxA.eq_1 chAV.eq_1;exact qe
    ·have F:=ai5 RA.eq_1 RN.eq_1 boxA.eq_1 chAV.eq_1 hka
     (simp only [go_sem,F])
     exact congrArg (fun es=>(⟨0,es++_,_,false⟩:Row)) (zk5 fun k=>by simp only [go_sem])
    ·have F:=ai RA.eq_1 RN.eq_1;exact qe
    ·have hh:=zgU c j q;rw [hr] at hh;have F:=ai RA.eq_1 hh;exact qe
    ·have F:=ai RA.eq_1 e0;exact qe
    ·exact ztg c (j+1) g _ e
    ·exact ztf c (j+1) g _ e
  | some q=>
    rw [hq] at hm;have hqk:=(zgu hq).2;rw [Nat.sub_zero] at hqk;have hin:zbX c j∈keysTo c j:=by rw [hka]; exact List.mem_of_getElem? hqk
    have hk:keysTo c (j+1)=keysTo c j:=by
     show (if zbX c j∈keysTo c j then _ else _)=_;rw [if_pos hin]
    have hat:(zb4 c j ws)[q]? =some [.agg [I t.src,I e], .row (q+6000) (ws (q+6000))]:=by rw [zbR,hqk]; rfl
    have hsame:(zb4 c j ws).set q [.agg [I t.src,I e], .row (q+6000) (ws (q+6000))]=zb4 c j ws:=znp (p:=(t.src,e)) hqk;have hkr:=zgU c j q;rw [za5,hqk] at hkr;simp only [Option.map_some] at hkr;have hrl:=zoG c j (t.src,e);have hf:Fits ((zd8 c j (t.src,e)).length+1) 8:=zaf (by omega) (by omega);have F:=ai15 FA.eq_1 RA.eq_1 boxA.eq_1 chAV.eq_1 trAV.eq_1 g1 g2 ht @zdi hm hat hsame hkr hf e0;repeat refine st ?_
    refine lL fE ?_;repeat refine st ?_
    refine⟨_,Turned.refl _,j+1,⟨hlt, ?_⟩, ?_,⟨?_, ?_, ?_,holdR_rowsAt fun k r hr=> ?_⟩,by omega⟩
    ·exact qe
    ·have F:=ai4 FA.eq_1 RA.eq_1 chAV.eq_1 g2;exact qe
    ·have F:=ai3 RA.eq_1 boxA.eq_1 chAV.eq_1;exact qe
    ·have F:=ai3 RA.eq_1 boxA.eq_1 chAV.eq_1;exact qe
    ·have F:=ai4 RA.eq_1 boxA.eq_1 chAV.eq_1 hsame
     (simp only [go_sem,F])
     exact congrArg (fun es=>(⟨0,es,_,false⟩:Row)) (znr (p:=(t.src,e)) hk hqk (fun k hne=>by rw [upd_ne _ _ _ (by omega),upd_ne _ _ _ (by omega),upd_ne _ _ _ (by omega),upd_ne _ _ _ (by omega)]) (upd_same ..))
    ·rw [zjz hk hka (zeZ c j) hqk k] at hr;by_cases ek:k=q
     ·subst ek;rw [if_pos rfl] at hr;cases hr;have F:=ai3 RA.eq_1 boxA.eq_1 chAV.eq_1;exact qe
     ·rw [if_neg ek] at hr;have hh:=zgU c j k;rw [hr] at hh;have hne: ¬(k+6000=q+6000):=by omega
      have F:=ai6 RA.eq_1 boxA.eq_1 chAV.eq_1 hh hne ek;exact qe
 obtain rfl:j=c.trans.length:=by omega
 have g1: ¬(c.trans.length:Int)< (c.trans.length:Int):=by omega
 obtain⟨e',h27,htu⟩:=znA (c:=c) c.trans.length (g:=ws) e0;refine ziJ htu ?_;have F:=ai5 FA.eq_1 boxF.eq_1 chAV.eq_1 g1 h27;repeat refine st ?_
 refine nC 27 9100 0 8 27 1 ?_
 refine zab (D:=Nat) (fun i vs=>[(2, .lit (.pointer none)),(3, .lit .nilIface),(4,zan c),(6, .loc 27 (vs 27) 0 0),(62,stsAV c.states),(63,I c.states.length),(64,I i)])
  (fun i vs=>[(27,⟨9,[[Sg c.name,I c.initial,varsAV c.vars,stsAV c.states,trsAV c.trans,zan c, .seq 1 ((evL c).map zcW), .fmap (zcz c), .row 9100 (vs 9100)]],123,false⟩),(9100,⟨1,begE c i,27,true⟩)])
  (fun i _ esc=>i<=c.states.length/\esc 27=false/\esc 9100=false) (fun i=>c.states.length-i) 0 ?_ ?_ ?_ ?_
 ·refine⟨Nat.zero_le _, ?_, ?_⟩<;>simp only [go_sem,h27]
 ·exact qe
 ·(simp only [go_sem,F])
  try rfl
 try clear g1 e0 h27 htu hj hlt
 rintro i ws esc ⟨hi,e0,e1⟩;by_cases hlt:i<c.states.length
 ·have g1:=nlt hlt;have g2:=zaa hlt (by omega);have f3:=ze6 env c h 40 i hlt (by omega);have hbl:=zmB h hlt
  have f4:Con prog env 66 [zan c, .seq 1 ((bgL c i).map zae)] (.own 3 1 ((sbL c i).map zae)):=by
   rw [zth];exact zbU env c h.toRight (zL (bgL c i)) (by simp [zL]; omega)
  have hbe:(begE c i).length=i:=by simp [begE]
  have hbs:begE c (i+1)=begE c i++[[.seq 1 ((sbL c i).map zae)]]:=by unfold begE; rw [List.range_succ,List.map_append]; rfl
  have hf:Fits (i+1) 24:=zaf (by omega) (by omega);have F:=ai7 g1 g2 hbe hf e0 e1 zan.eq_1;repeat (first | refine st ?_ | refine cC f3 ?_ | refine cC f4 ?_)
  refine⟨i+1,⟨hlt, ?_, ?_⟩, ?_, ?_,by omega⟩
  ·simp only [go_sem,e0]
  ·simp only [go_sem,e1]
  ·exact qe
  ·have F:=ai hbs zan.eq_1;exact qe
 obtain rfl:i=c.states.length:=by omega
 have g1: ¬(c.states.length:Int)< (c.states.length:Int):=by omega
 have F:=ai3 g1 e0 e1;repeat refine st ?_
 refine zcw [(9100,⟨1,begE c c.states.length,27,true⟩)] ?_ ?_
 ·exact qe
 refine zfP [(2, .loc 27 (ws 27) 0 0),(3, .lit .nilIface)] [(27,⟨9,[tabCells c],123,false⟩)] ?_ ?_ ?_
 ·exact qe0
 ·have F:=ai tabCells.eq_1 zan.eq_1;exact qe
 have F:=ai tabCells.eq_1 @zdi
 (refine zak ?_; show (zaz _ _ _).run _=some _; simp only [go_sem,F])
 rfl
end

end Go.Proofs.YtbpmkofnfgdegaaGreatDoor