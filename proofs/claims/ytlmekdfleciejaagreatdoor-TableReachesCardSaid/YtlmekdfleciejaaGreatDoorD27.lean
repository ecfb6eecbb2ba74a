/- table.begins, table.Event. -/
import Derived.Test.YtlmekdfleciejaaGreatDoorD26
import Derived.Test.YtlmekdfleciejaaGreatDoorD15
import Derived.Test.YtlmekdfleciejaaGreatDoorD7
import Derived.Test.YtlmekdfleciejaaGreatDoorD11
set_option maxRecDepth 100000
set_option maxHeartbeats 4000000
set_option linter.unusedSimpArgs false
namespace Go.Proofs.YtlmekdfleciejaaGreatDoor
open Go.RowKit
section
abbrev Str8:=List UInt8
abbrev SL (a b:Str8):Prop:=Op.bytesLess a b=true
/-! Texts in the order of bytes -/
theorem zrd: ∀(x y:Str8),Op.bytesLess x y=decide (x<y)
 | [],[]=>by simp [Op.bytesLess]
 | _::_,[]=>by simp [Op.bytesLess]
 | [],_::_=>by simp [Op.bytesLess]
 | a::x,b::y=>by
   rw [Op.bytesLess,zrd x y]
   simp only [List.cons_lt_cons_iff]
   by_cases h1:a<b<;>by_cases h2:a=b<;>by_cases h3:x<y<;>simp [h1,h2,h3]
theorem zqB (x y:Str8):decide (x<=y)= !Op.bytesLess y x:=by
 rw [zrd, <-decide_not]
 rfl
theorem zkB {a b c:Str8} (h1:Op.bytesLess b a=false) (h2:Op.bytesLess c b=false):Op.bytesLess c a=false:=by
 cases k:Op.bytesLess c a
 ·rfl
 ·cases k3:Op.bytesLess a b
  ·rw [<-zfM k3 h1,k] at h2; cases h2
  ·rw [zfL k k3] at h2; cases h2
theorem zo5 (l:List Str8):(zda l).Pairwise fun a b=>Op.bytesLess b a=false:=by
 have:=List.pairwise_mergeSort (le:=fun x y:Str8=>decide (x<=y)) (fun a b c hab hbc=>by
  simp only [zqB,Bool.not_eq_true'] at*
  exact zkB hab hbc) (fun a b=>by
  simp only [zqB]
  cases k:Op.bytesLess b a
  ·simp
  ·rw [zpM k]; simp) l
 exact this.imp fun {a b} h=>by simpa [zqB] using h
theorem zjA (l:List Str8) (hs:l.Pairwise fun a b=>Op.bytesLess b a=false): ∀m,m<=l.length->(Lib.compactUpTo l.toArray m).Pairwise SL/\ ∀x,x∈Lib.compactUpTo l.toArray m↔x∈l.take m
 | 0,_=>by simp [Lib.compactUpTo]
 | m+1,hm=>by
   obtain⟨h1,h2⟩:=zjA l hs m (by omega)
   have ey:l.toArray[m]! =l[m]'(by omega):=by rw [getElem!_pos _ m (by simp; omega)]; rfl
   have et:l.take (m+1)=l.take m++[l[m]'(by omega)]:=by rw [List.take_add_one,List.getElem?_eq_getElem (by omega)]; rfl
   have hle: ∀k (hk:k<m),Op.bytesLess (l[m]'(by omega)) (l[k]'(by omega))=false:=fun k hk=>List.pairwise_iff_getElem.1 hs k m (by omega) (by omega) hk
   rw [Lib.compactUpTo_succ,ey]
   by_cases hk:Lib.keeps l.toArray m=true
   ·rw [if_pos hk]
    refine⟨List.pairwise_append.2 ⟨h1,List.pairwise_singleton ..,fun x hx y hy=> ?_⟩,fun x=>by rw [et,List.mem_append,List.mem_append,h2]⟩
    rw [List.mem_singleton.1 hy]
    rw [h2,List.mem_take_iff_getElem] at hx
    obtain⟨k,hk2,rfl⟩:=hx
    have hkm:k<m:=by omega
    show Op.bytesLess _ _=true
    cases hq:Op.bytesLess (l[k]'(by omega)) (l[m]'(by omega)) with
    | true=>rfl
    | false=>
      have e:=zfM hq (hle k hkm)
      exfalso
      unfold Lib.keeps at hk
      rw [decide_eq_true_eq] at hk
      rcases hk with hk | hk
      ·omega
      ·apply hk
       rw [ey,getElem!_pos _ (m-1) (by simp; omega)]
       show l[m]'(by omega)=l[m-1]'(by omega)
       have e1:=hle (m-1) (by omega)
       by_cases ek:k=m-1
       ·subst ek; exact e.symm
       ·have e2:=List.pairwise_iff_getElem.1 hs k (m-1) (by omega) (by omega) (by omega)
        rw [e] at e2
        exact zfM e1 e2
   ·rw [if_neg hk,List.append_nil]
    refine⟨h1,fun x=> ?_⟩
    rw [h2,et,List.mem_append,List.mem_singleton]
    refine⟨.inl,fun h=>h.elim id fun h=> ?_⟩
    unfold Lib.keeps at hk
    rw [decide_eq_true_eq,not_or,Classical.not_not,ey,getElem!_pos _ (m-1) (by simp; omega)] at hk
    rw [h,hk.2]
    exact List.mem_take_iff_getElem.2 ⟨m-1,by omega,rfl⟩
theorem zqx (c:ChD):(evL c).Pairwise SL:=(zjA _ (zo5 _) _ (Nat.le_refl _)).1
theorem zqy (c:ChD):(evL c).length<=c.trans.length:=by
 have h1:(Lib.compact (zda (zaZ c c.trans.length))).length<=(zda (zaZ c c.trans.length)).length:=by
  unfold Lib.compact Lib.compactUpTo
  rw [List.length_map]
  exact Nat.le_trans (List.length_filter_le ..) (by simp)
 have h2:=zgd c c.trans.length
 unfold evL
 have h3:(zda (zaZ c c.trans.length)).length=(zaZ c c.trans.length).length:=by simp [zda]
 omega
/-! Where a text stands, or would stand -/
def posL (l:List Str8) (x:Str8):Nat:=(l.filter fun y=>Op.bytesLess y x).length
def Cut (l:List Str8) (x:Str8) (p:Nat):Prop:=p<=l.length/\ ∀k y,l[k]? =some y->(Op.bytesLess y x=true↔k<p)
theorem znl: ∀ {l:List Str8},l.Pairwise SL-> ∀x,Cut l x (posL l x)
 | [],_,x=>⟨Nat.zero_le _,fun k y h=>by simp at h⟩
 | a::l,h,x=>by
   obtain⟨h1,h2⟩:=List.pairwise_cons.1 h
   obtain⟨k1,k2⟩:=znl h2 x
   unfold posL at*
   rw [List.filter_cons]
   by_cases ha:Op.bytesLess a x=true
   ·rw [if_pos ha,List.length_cons]
    refine⟨by simp only [List.length_cons]; omega,fun k y hk=> ?_⟩
    cases k with
    | zero=>
      obtain rfl:a=y:=by simpa using hk
      exact⟨fun _=>by omega,fun _=>ha⟩
    | succ k=>
      rw [k2 k y (by simpa using hk)]
      omega
   ·rw [if_neg ha]
    have hno: ∀y∈l,¬Op.bytesLess y x=true:=fun y hy hb=>ha (zfL (h1 y hy) hb)
    have e:(l.filter fun y=>Op.bytesLess y x)=[]:=List.filter_eq_nil_iff.2 hno
    rw [e]
    refine⟨Nat.zero_le _,fun k y hk=>⟨fun hb=> ?_,fun hk=>by simp at hk⟩⟩
    cases k with
    | zero=>
      obtain rfl:a=y:=by simpa using hk
      exact absurd hb ha
    | succ k=>exact absurd hb (hno y (List.mem_of_getElem? (by simpa using hk)))
def evI (c:ChD) (s:Str8):Int:=if (evL c)[posL (evL c) s]? =some s then(posL (evL c) s:Nat) else -1
/-! A state's transitions -/
def zbP (c:ChD) (k:Nat):Int×Int:=match c.trans[k]? with
 | some t=>(t.src,evI c t.event)
 | none=>(-1, -1)
def zed (c:ChD) (j:Nat) (p:Int×Int):List Nat:=(List.range j).filter fun k=>zbP c k=p
def keysTo (c:ChD):Nat->List (Int×Int)
 | 0=>[]
 | j+1=>if zbP c j∈keysTo c j then keysTo c j else keysTo c j++[zbP c j]
theorem zfB (c:ChD) (j:Nat) (p:Int×Int):zed c (j+1) p=if zbP c j=p then zed c j p++[j] else zed c j p:=by
 unfold zed
 rw [List.range_succ,List.filter_append]
 by_cases h:zbP c j=p<;>simp [h]
theorem zfF {c:ChD} {p:Int×Int} : ∀ {j:Nat},p∈keysTo c j↔ ∃k,k<j/\zbP c k=p
 | 0=>by simp [keysTo]
 | j+1=>by
   unfold keysTo
   split
   ·rename_i h
    rw [zfF]
    constructor
    ·rintro⟨k,h1,h2⟩; exact⟨k,by omega,h2⟩
    ·rintro⟨k,h1,h2⟩
     by_cases e:k=j
     ·subst e; rw [<-h2]; exact zfF.1 h
     ·exact⟨k,by omega,h2⟩
   ·rw [List.mem_append,zfF,List.mem_singleton]
    constructor
    ·rintro(⟨k,h1,h2⟩ | h)
     ·exact⟨k,by omega,h2⟩
     ·exact⟨j,by omega,h.symm⟩
    ·rintro⟨k,h1,h2⟩
     by_cases e:k=j
     ·subst e; exact .inr h2.symm
     ·exact .inl ⟨k,by omega,h2⟩
theorem zeV (c:ChD): ∀j,(keysTo c j).Nodup
 | 0=> .nil
 | j+1=>by
   unfold keysTo
   split
   ·exact zeV c j
   ·rename_i h
    exact List.nodup_append.2 ⟨zeV c j,by simp,fun a ha b hb e=>h (by rw [List.mem_singleton.1 hb] at e; exact e ▸ ha)⟩
theorem zo6 {c:ChD} {j:Nat} {p:Int×Int} (h:p∉keysTo c j):zed c j p=[]:=by
 unfold zed
 rw [List.filter_eq_nil_iff]
 intro k hk
 simp only [decide_eq_true_eq]
 exact fun e=>h (zfF.2 ⟨k,List.mem_range.1 hk,e⟩)
theorem zqk (c:ChD) (j:Nat) (p:Int×Int):(zed c j p).length<=j:=by
 unfold zed
 exact Nat.le_trans (List.length_filter_le ..) (by simp)
def idxP (p:Int×Int):List (Int×Int)->Nat->Option Nat
 | [],_=>none
 | q::l,i=>if p=q then some i else idxP p l (i+1)
theorem zi0 {p:Int×Int} : ∀ {l:List (Int×Int)} {i n:Nat},idxP p l i=some n->i<=n/\l[n-i]? =some p
 | [],i,n,h=>by simp [idxP] at h
 | q::l,i,n,h=>by
   unfold idxP at h
   split at h
   ·rename_i e
    obtain rfl:i=n:=by simpa using h
    simp [e]
   ·obtain⟨h1,h2⟩:=zi0 h
    refine⟨by omega, ?_⟩
    rw [show n-i=(n-(i+1))+1 by omega,List.getElem?_cons_succ]
    exact h2
theorem zi1 {p:Int×Int} : ∀ {l:List (Int×Int)} {i:Nat},idxP p l i=none->p∉l
 | [],i,h=>by simp
 | q::l,i,h=>by
   unfold idxP at h
   split at h
   ·cases h
   ·rename_i e
    rw [List.mem_cons]
    exact fun hh=>hh.elim e (zi1 h)
end
section
theorem zk4 (env:Env) (s:List UInt8):Con Tryz.prog env 133 [Sg s] (B false):=by
 refine zaa Tryz.func133 rfl Tryz.call133 (by rw [Tryz.ntmps133]; simp) ?_
 rw [Tryz.ntmps133,Tryz.results133]
 repeat refine st0 ?_
 exact aR0
theorem zph (env:Env) (s:List UInt8):Con Tryz.prog env 176 [Sg s] (B false):=by
 refine zaa Tryz.func176 rfl Tryz.call176 (by rw [Tryz.ntmps176]; simp) ?_
 rw [Tryz.ntmps176,Tryz.results176]
 repeat refine st0 ?_
 exact aR0
theorem znL (env:Env) (s t:List UInt8):Con Tryz.prog env 132 [Sg s,Sg t] (B (Op.bytesLess s t)):=by
 have f0:=zph env s
 refine zaa Tryz.func132 rfl Tryz.call132 (by rw [Tryz.ntmps132]; simp) ?_
 rw [Tryz.ntmps132,Tryz.results132]
 repeat (first | refine st0 ?_ | refine cC0 f0 ?_)
 exact aR0
theorem zkA (env:Env) (l:List (List UInt8)) (x:List UInt8) (p:Nat) (hp:Cut l x p) (hl:l.length<=1000000):Con Tryz.prog env 83 [.seq 1 (l.map zcv),Sg x] (.tuple [I p,B (l[p]? == some x)]):=by
 have f0:=zk4 env x
 refine zaa Tryz.func83 rfl Tryz.call83 (by rw [Tryz.ntmps83]; simp) ?_
 rw [Tryz.ntmps83,Tryz.results83]
 repeat refine st0 ?_
 refine zab (D:=Nat×Nat) (fun d _=>[(0, .seq 1 (l.map zcv)),(1,Sg x),(6,I l.length),(7,I d.1),(8,I d.2)]) (fun _ _=>[]) (fun d _ _=>d.1<=p/\p<=d.2/\d.2<=l.length) (fun d=>d.2-d.1) (0,l.length) ?_ ?_ ?_ ?_
 ·exact⟨Nat.zero_le _,hp.1,Nat.le_refl _⟩
 ·(simp only [go_sem])
 ·(simp only [go_sem])
 rintro⟨i,j⟩ ws esc ⟨h1,h2,h3⟩
 simp only at h1 h2 h3
 by_cases hlt:i<j
 ·have g1:=nlt hlt
  have hm:(i+j)/2<l.length:=by omega
  obtain⟨y,hy⟩: ∃y,l[(i+j)/2]? =some y:=⟨l[(i+j)/2],List.getElem?_eq_getElem hm⟩
  have hyp:=hp.2 _ _ hy
  have f1:=znL env y x
  have g2:IntKind.i64.wrap ((i:Int)+(j:Int))=((i+j:Nat):Int):=by rw [zbU (by omega) (by omega)]; omega
  have g3:IntKind.u64.wrap ((i+j:Nat):Int)=((i+j:Nat):Int):=IntWalk.u64_in _ (by omega)
  have g4:IntKind.i64.wrap (((i+j:Nat):Int).fdiv (2^min 1 64))=(((i+j)/2:Nat):Int):=by
   rw [show ((i+j:Nat):Int).fdiv (2^min 1 64)=(((i+j)/2:Nat):Int) from(Int.ofNat_fdiv (i+j) 2).symm,zbU (by omega) (by omega)]
  have g5:(((i+j)/2:Nat):Int)< (l.length:Int):=by omega
  have g6:=zac (k:=(i+j)/2) (n:=l.length) hm (by omega)
  generalize hmm:(i+j)/2=mm at*
  cases hb:Op.bytesLess y x with
  | true=>
    rw [hb] at f1 hyp
    have:=hyp.1 rfl
    have F:=ai g1<|ai g2<|ai g3<|ai g4<|ai g5<|ai g6<|ai hy<|zcv.eq_1
    repeat (first | refine st ?_ | refine cC f1 ?_)
    refine⟨(mm+1,j),⟨?_, ?_, ?_⟩, ?_, ?_, ?_⟩
    ·simp only; omega
    ·exact h2
    ·exact h3
    ·(simp only [go_sem,F])
    ·(simp only [go_sem,F])
    ·simp only; omega
  | false=>
    rw [hb] at f1 hyp
    have: ¬mm<p:=fun h=>by cases hyp.2 h
    have F:=ai g1<|ai g2<|ai g3<|ai g4<|ai g5<|ai g6<|ai hy<|zcv.eq_1
    repeat (first | refine st ?_ | refine cC f1 ?_)
    refine⟨(i,mm),⟨?_, ?_, ?_⟩, ?_, ?_, ?_⟩
    ·exact h1
    ·simp only; omega
    ·simp only; omega
    ·(simp only [go_sem,F])
    ·(simp only [go_sem,F])
    ·simp only; omega
 ·obtain rfl:i=j:=by omega
  obtain rfl:i=p:=by omega
  have g1: ¬(i:Int)< (i:Int):=by omega
  by_cases hi:i<l.length
  ·have g2:=nlt hi
   obtain⟨y,hy⟩: ∃y,l[i]? =some y:=⟨l[i],List.getElem?_eq_getElem hi⟩
   have f1:=zk4 env y
   cases hb:(y==x) with
   | true=>
     have hr:(l[i]? == some x)=true:=by rw [hy]; simpa using hb
     rw [hr]
     have F:=ai g1<|ai g2<|ai hy<|ai hb<|zcv.eq_1
     repeat (first | refine st ?_ | refine cC f0 ?_ | refine cC f1 ?_)
     exact aR
   | false=>
     have hr:(l[i]? == some x)=false:=by rw [hy]; simpa using hb
     rw [hr]
     have F:=ai g1<|ai g2<|ai hy<|ai hb<|zcv.eq_1
     repeat (first | refine st ?_ | refine cC f0 ?_ | refine cC f1 ?_)
     exact aR
  ·have g2: ¬(i:Int)< (l.length:Int):=by omega
   have hr:(l[i]? == some x)=false:=by rw [List.getElem?_eq_none (by omega)]; rfl
   rw [hr]
   have F:=ai g1<|ai g2<|zcv.eq_1
   repeat (first | refine st ?_ | refine cC f0 ?_)
   exact aR
end
section
def manyI (act:List Int) (kids:List Nat):Nat:=(kids.filter fun k:Nat=>act.contains (k:Int)).length
theorem zkj (act:List Int) (kids:List Nat):manyI act kids<=kids.length:=List.length_filter_le ..
def fitB (c:ChD) (act:List Int) (i:Nat) (s:StD):Bool:=
 !zat s&&(decide (s.parent<0)||act.contains s.parent)&&
  (if s.kind=1/\kidsL c i true≠[] then manyI act (kidsL c i true)==1 else if s.kind=2 then manyI act (kidsL c i true)==(kidsL c i true).length else true)
def fitI (c:ChD) (act:List Int) (i:Int):Bool:=match at_ c i with
 | some s=>fitB c act i.toNat s
 | none=>false
def lgAt (c:ChD) (act:List Int) (n:Nat):Bool:=match act[n]? with
 | some i=>(n==0||decide (act.getD (n-1) 0<i))&&fitI c act i
 | none=>true
def ziO (c:ChD) (act:List Int):Int×Int:=match zax (lgAt c act) act.length with
 | some n=>(1,max (act.getD n 0) (-1))
 | none=>if manyI act (kidsL c (-1) true)=1 then(0, -1) else(1, -1)
def lgB (c:ChD) (act:List Int):Bool:=(ziO c act).1==0
/-! What is active at first -/
/-! What begins is few -/
theorem zqC {c:ChD} (h:Full c): ∀(n i m:Nat),i<c.states.length->c.states.length<=i+n->m∈bgL c i->m<c.states.length/\(m=i\/(i:Int)∈upL c m)
 | 0,i,m,hi,hn,_=>by omega
 | n+1,i,m,hi,hn,hm=>by
   obtain⟨s,hs⟩: ∃s,c.states[i]? =some s:=⟨c.states[i],List.getElem?_eq_getElem hi⟩
   rw [zqe h hs,List.mem_cons,List.mem_flatMap] at hm
   rcases hm with rfl | ⟨k,hk,hm⟩
   ·exact⟨hi, .inl rfl⟩
   ·have hg:=za0 h.toRight (zaO hk).1
    have hkp:=(zdn.1 (zaO hk).1).2
    have hup:(i:Int)∈upL c k:=(zbr h.toRight (zaM.2 hg.2)).2 (.inl hkp.symm)
    split at hm
    ·obtain⟨h1,h2⟩:=zqC h n k m (by omega) (by omega) hm
     refine⟨h1, .inr ?_⟩
     rcases h2 with rfl | h2
     ·exact hup
     ·exact zdy h.toRight (m+1) m k i (by omega) h2 hup
    ·simp at hm
theorem zlA {c:ChD} (h:Full c): ∀(n i:Nat),i<c.states.length->c.states.length<=i+n->(bgL c i).Nodup
 | 0,i,hi,hn=>by omega
 | n+1,i,hi,hn=>by
   obtain⟨s,hs⟩: ∃s,c.states[i]? =some s:=⟨c.states[i],List.getElem?_eq_getElem hi⟩
   rw [zqe h hs,List.nodup_cons]
   have mem: ∀k∈kidsL c i true,∀m,m∈(if s.kind=2\/s.initial=(k:Nat) then bgL c k else [])->m<c.states.length/\(m=k\/(k:Int)∈upL c m):=fun k hk m hm=>by
    have hg:=za0 h.toRight (zaO hk).1
    split at hm
    ·exact zqC h n k m (by omega) (by omega) hm
    ·simp at hm
   refine⟨fun hm=> ?_, ?_⟩
   ·obtain⟨k,hk,hm⟩:=List.mem_flatMap.1 hm
    have hg:=za0 h.toRight (zaO hk).1
    obtain⟨q1,q2⟩:=mem k hk i hm
    rcases q2 with e | e
    ·omega
    ·have:=zeG h.toRight 40 _ _ e
     omega
   ·have hnd:=zcg c i true
    rw [List.nodup_iff_pairwise_ne] at hnd
    rw [List.nodup_iff_pairwise_ne,List.pairwise_flatMap]
    refine⟨fun k hk=> ?_, ?_⟩
    ·have hg:=za0 h.toRight (zaO hk).1
     rw [<-List.nodup_iff_pairwise_ne]
     split
     ·exact zlA h n k (by omega) (by omega)
     ·exact .nil
    ·refine List.Pairwise.imp_of_mem (R:=fun a b=>a≠b) ?_ hnd
     intro k1 k2 hk1 hk2 hne m1 hm1 m2 hm2 e
     subst e
     obtain⟨q1,q2⟩:=mem k1 hk1 m1 hm1
     obtain⟨_,q3⟩:=mem k2 hk2 m1 hm2
     exact hne (zkl h.toRight (zaO hk1).1 (zaO hk2).1 (m1+1) m1 (by omega) q1 q2 q3)
theorem zqf {c:ChD} (h:Full c) {i:Nat} (hi:i<c.states.length):(bgL c i).length<=32:=by
 have hf:=h.few
 have:=(zlA h 40 i hi (by omega)).length_le_of_subset (l₂:=List.range c.states.length) fun m hm=>List.mem_range.2 (zqC h 40 i m hi (by omega) hm).1
 simp at this
 omega
end
section
theorem ze2 (env:Env) (c:ChD) (h:Full c): ∀(n i:Nat),i<c.states.length->c.states.length<=i+n->Con Tryz.prog env 91 [.agg (chAV c),I i] (.own 3 1 ((bgL c i).map zae))
 | 0,i,hi,hn=>by omega
 | n+1,i,hi,hn=>by
   have hlen:=h.few
   obtain⟨s,hs⟩: ∃s,c.states[i]? =some s:=⟨c.states[i],List.getElem?_eq_getElem hi⟩
   have hb:=zre h hs
   have hbl:=zqf h hi
   have g0:((i:Nat):Int)< (c.states.length:Int):=by omega
   by_cases e1:s.kind=1
   ·by_cases e2:0<=s.initial
    ·obtain⟨j,hj,e3⟩:=zkm h hs e1 e2
     have hg:=za0 h.toRight (zaO hj).1
     rw [if_pos ⟨e1,e2⟩,e3,Int.toNat_natCast] at hb
     have f0:=ze2 env c h n j (by omega) (by omega)
     rw [hb] at hbl
     have hf:Fits (1+(bgL c j).length) 8:=zah (by simp at hbl; omega) (by omega)
     rw [hb]
     refine zaa Tryz.func91 rfl Tryz.call91 (by rw [Tryz.ntmps91]; simp) ?_
     rw [Tryz.ntmps91,Tryz.results91]
     have F:=ai chAV.eq_1<|ai stAV.eq_1<|ai hs<|ai e1<|ai e3<|ai g0<|ai zae.eq_1<|hf
     repeat (first | refine st ?_ | refine cC f0 ?_)
     exact aR
    ·rw [if_neg fun e=>e2 e.2,if_neg (by omega)] at hb
     rw [hb]
     refine zaa Tryz.func91 rfl Tryz.call91 (by rw [Tryz.ntmps91]; simp) ?_
     rw [Tryz.ntmps91,Tryz.results91]
     have F:=ai chAV.eq_1<|ai stAV.eq_1<|ai hs<|ai e1<|ai e2<|ai g0<|zae.eq_1
     repeat refine st ?_
     exact aR
   ·rw [if_neg fun e=>e1 e.1] at hb
    have e1':(s.kind==1)=false:=by simpa using e1
    by_cases e2:s.kind=2
    ·rw [if_pos e2] at hb
     have f1:=zcG env c i (by omega)
     generalize hK:kidsL c i true=K at*
     have hKm: ∀k∈K,i<k/\k<c.states.length:=fun k hk=>by
      rw [<-hK] at hk
      have:=za0 h.toRight (zaO hk).1
      omega
     have hKl:K.length<=32:=by
      have:=(zcg c i true).length_le_of_subset (l₂:=List.range c.states.length) fun m hm=>List.mem_range.2 (hKm m (hK ▸ hm)).2
      rw [hK] at this
      simp at this
      omega
     have hpre: ∀j,(i::(K.take j).flatMap (bgL c)).length<=32:=fun j=>by
      have e:(K.take j).flatMap (bgL c)++(K.drop j).flatMap (bgL c)=K.flatMap (bgL c):=by rw [<-List.flatMap_append,List.take_append_drop]
      have:=congrArg List.length e
      rw [hb] at hbl
      simp only [List.length_cons,List.length_append] at*
      omega
     refine zaa Tryz.func91 rfl Tryz.call91 (by rw [Tryz.ntmps91]; simp) ?_
     rw [Tryz.ntmps91,Tryz.results91]
     have F:=ai chAV.eq_1<|ai stAV.eq_1<|ai hs<|ai e1'<|ai e2<|ai g0<|zae.eq_1
     repeat (first | refine st ?_ | refine cC f1 ?_)
     refine zab (D:=Nat) (fun j vs=>[(2, .loc 2 (vs 2) 0 0),(5, .row 10 (vs 10)),(37, .row 37 (vs 37)),(38,I K.length),(39,I j)]) (fun j _=>[(2,⟨5,[chAV c],26,false⟩),(10,⟨1,(i::(K.take j).flatMap (bgL c)).map zae,3,true⟩),(37,⟨1,K.map zae,3,true⟩)]) (fun j _ esc=>j<=K.length/\esc 10=false) (fun j=>K.length-j) 0 ?_ ?_ ?_ ?_
     ·exact⟨Nat.zero_le _,rfl⟩
     ·(simp only [go_sem,F])
     ·have F:=ai chAV.eq_1<|zae.eq_1
      (simp only [go_sem,List.flatMap_nil,F])
     rintro j ws esc ⟨hj,e0⟩
     by_cases hlt:j<K.length
     ·obtain⟨k,hk⟩: ∃k,K[j]? =some k:=⟨K[j],List.getElem?_eq_getElem hlt⟩
      have hkm:=hKm k (List.mem_of_getElem? hk)
      have q1:=nlt hlt
      have q2:=zac hlt (by omega)
      have f0:=ze2 env c h n k (by omega) (by omega)
      have htk:(K.take (j+1)).flatMap (bgL c)=(K.take j).flatMap (bgL c)++bgL c k:=by rw [List.take_add_one,hk,List.flatMap_append]; simp
      have hp:=hpre (j+1)
      rw [htk] at hp
      have hf:Fits (((K.take j).flatMap (bgL c)).length+1+(bgL c k).length) 8:=zah (by simp only [List.length_cons,List.length_append] at hp; omega) (by omega)
      have F:=ai chAV.eq_1<|ai zae.eq_1<|ai hk<|ai q1<|ai q2<|ai hf<|e0
      repeat (first | refine st ?_ | refine cC f0 ?_)
      refine⟨j+1,⟨hlt,by simp only [go_sem,e0]⟩, ?_, ?_,by omega⟩
      ·(simp only [go_sem,F])
      ·have F:=ai chAV.eq_1<|ai zae.eq_1<|htk
       (simp only [go_sem,List.map_append,F])
     ·obtain rfl:j=K.length:=by omega
      have q1: ¬(K.length:Int)< (K.length:Int):=by omega
      have hta:K.take K.length=K:=List.take_length
      rw [hb]
      have F:=ai zae.eq_1<|ai q1<|ai hta<|e0
      repeat refine st ?_
      exact aR
    ·rw [if_neg e2] at hb
     have e2':(s.kind==2)=false:=by simpa using e2
     rw [hb]
     refine zaa Tryz.func91 rfl Tryz.call91 (by rw [Tryz.ntmps91]; simp) ?_
     rw [Tryz.ntmps91,Tryz.results91]
     have F:=ai chAV.eq_1<|ai stAV.eq_1<|ai hs<|ai e1'<|ai e2'<|ai g0<|zae.eq_1
     repeat refine st ?_
     exact aR
theorem zoj (env:Env) (c:ChD) (hc:c.trans.length<=1000000) (x y:AV) (s:List UInt8):Con Tryz.prog env 29 [.ref 9 [[Sg c.name,I c.initial,varsAV c.vars,stsAV c.states,trsAV c.trans,zal c, .seq 1 ((evL c).map zcv),x,y]] 0 0,Sg s] (I (evI c s)):=by
 have hl:=zqy c
 have f0:=zkA env (evL c) s (posL (evL c) s) (znl (zqx c) s) (by omega)
 unfold evI
 by_cases h:(evL c)[posL (evL c) s]? =some s
 ·have hb:((evL c)[posL (evL c) s]? == some s)=true:=by simpa using h
  rw [hb] at f0
  rw [if_pos h]
  refine zaa Tryz.func29 rfl Tryz.call29 (by rw [Tryz.ntmps29]; simp) ?_
  rw [Tryz.ntmps29,Tryz.results29]
  repeat (first | refine st0 ?_ | refine cC0 f0 ?_)
  exact aR0
 ·have hb:((evL c)[posL (evL c) s]? == some s)=false:=by simpa using h
  rw [hb] at f0
  rw [if_neg h]
  refine zaa Tryz.func29 rfl Tryz.call29 (by rw [Tryz.ntmps29]; simp) ?_
  rw [Tryz.ntmps29,Tryz.results29]
  repeat (first | refine st0 ?_ | refine cC0 f0 ?_)
  exact aR0
end

end Go.Proofs.YtlmekdfleciejaaGreatDoor