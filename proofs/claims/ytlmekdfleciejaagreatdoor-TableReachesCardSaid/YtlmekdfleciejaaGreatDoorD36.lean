/- Walking without memory: a row that a slot holds, seen as a list, at a round's end; ways that meet again. No program is named here. -/
import Derived.Test.YtlmekdfleciejaaGreatDoorD35
import Derived.Lib.SlicesCompact
import Derived.Test.YtlmekdfleciejaaGreatDoorD10
namespace Go.Proofs.YtlmekdfleciejaaGreatDoor
open Go.RowKit
section
/-! Rising lists -/
def upB (l:List Int) (j:Nat):Bool:=(j==0)||decide (l.getD (j-1) 0<l.getD j 0)
def zdl (l:List Int) (j:Nat):Bool:=(j==0)||decide (¬l.getD j 0<l.getD (j-1) 0)
def zdd (l:List Int):Bool:= !l.isEmpty&&(List.range l.length).all (upB l)
def zc9 (l:List Int):Bool:=(List.range l.length).all (zdl l)
theorem zlb (l:List Int) (j:Nat) (hj:j<l.length):Lib.keeps l.toArray j=((j==0)||decide (l.getD j 0≠l.getD (j-1) 0)):=by
 unfold Lib.keeps
 have e: ∀k,k<l.length->l.toArray[k]! =l.getD k 0:=fun k hk=>by
  rw [getElem!_pos _ k (by simpa using hk),List.getD_eq_getElem?_getD,List.getElem?_eq_getElem hk]
  simp
 rw [e j hj,e (j-1) (by omega)]
 by_cases h:j=0<;>simp [h]
theorem zky (l:List Int):(Lib.compact l).length=l.length↔ ∀j,j<l.length->Lib.keeps l.toArray j=true:=by
 unfold Lib.compact Lib.compactUpTo
 rw [List.length_map]
 conv=>lhs; rhs; rw [<-List.length_range (n:=l.length)]
 rw [List.length_filter_eq_length_iff]
 simp
theorem zql (l:List Int):(!l.isEmpty&&zc9 l&&decide ((Lib.compact l).length=l.length))=zdd l:=by
 unfold zdd zc9
 rw [Bool.and_assoc]
 congr 1
 rw [Bool.eq_iff_iff,Bool.and_eq_true,decide_eq_true_eq,zky,List.all_eq_true,List.all_eq_true]
 simp only [List.mem_range]
 constructor
 ·rintro⟨h1,h2⟩ j hj
  have a:=h1 j hj
  have b:=h2 j hj
  rw [zlb l j hj] at b
  unfold upB
  unfold zdl at a
  by_cases h0:j=0
  ·simp [h0]
  ·simp [h0] at a b |-
   omega
 ·intro h
  refine⟨fun j hj=> ?_,fun j hj=> ?_⟩
  ·have a:=h j hj
   unfold upB at a
   unfold zdl
   by_cases h0:j=0
   ·simp [h0]
   ·simp [h0] at a |-
    omega
  ·have a:=h j hj
   rw [zlb l j hj]
   unfold upB at a
   by_cases h0:j=0
   ·simp [h0]
   ·simp [h0] at a |-
    omega
theorem zdE {l:List Int} (h:zdd l=true):l.Nodup:=by
 unfold zdd at h
 rw [Bool.and_eq_true,List.all_eq_true] at h
 have key: ∀i d,i+d+1<l.length->l.getD i 0<l.getD (i+d+1) 0:=fun i d=>by
  induction d with
  | zero=>
    intro hd
    have:=h.2 (i+1) (List.mem_range.2 (by omega))
    unfold upB at this
    simpa using this
  | succ d ih=>
    intro hd
    have h1:=ih (by omega)
    have:=h.2 (i+d+1+1) (List.mem_range.2 (by omega))
    unfold upB at this
    have h2:l.getD (i+d+1) 0<l.getD (i+d+1+1) 0:=by simpa using this
    rw [show i+(d+1)+1=i+d+1+1 by omega]
    omega
 rw [List.nodup_iff_pairwise_ne,List.pairwise_iff_getElem]
 intro i j hi hj hij e
 have:=key i (j-i-1) (by omega)
 rw [show i+(j-i-1)+1=j by omega] at this
 simp [List.getD_eq_getElem?_getD,List.getElem?_eq_getElem hi,List.getElem?_eq_getElem hj,e] at this
/-! Deep memories -/
def za6 (c:ChD) (l:List Int) (i:Int):Bool:=match at_ c i with
 | some s=> !(((s.kind==1)&&decide (1<manyI l (kidsL c i true)))||((s.kind==4)||(s.kind==5)))
 | none=>false
def zb1 (c:ChD) (parent i:Int):Bool:=aboveB c parent i&&(kidsL c i true).isEmpty
def deepA (c:ChD) (parent:Int) (l:List Int):List Int:=upsL c l parent++[parent]
def deepB (c:ChD) (parent:Int) (l:List Int):Bool:=zdd l&&l.all (zb1 c parent)&&decide ((growL c (deepA c parent l)).length=(deepA c parent l).length)&&(growL c (deepA c parent l)).all (za6 c (growL c (deepA c parent l)))
def zbt (c:ChD) (parent i:Int):Bool:=aboveB c parent i&&(match at_ c i with | some s=> !zat s | none=>false)&&(kidsL c i true).isEmpty
def zbv (c:ChD) (l:List Int) (i:Int):Bool:=match at_ c i with
 | some s=> !(((s.kind==1)&&decide (manyI l (kidsL c i true)≠min (kidsL c i true).length 1))||((s.kind==2)&&decide (manyI l (kidsL c i true)≠(kidsL c i true).length)))
 | none=>false
def deepRA (c:ChD) (parent:Int) (l:List Int):List Int:=zL (pathL c l parent)++[parent]
def zmq (c:ChD) (parent:Int) (l:List Int):Bool:=zdd l&&l.all (zbt c parent)&&(deepRA c parent l).all (zbv c (deepRA c parent l))
theorem zi6 (c:ChD): ∀(f:Nat) (l t:List Int),∃a,zdP c f l t=l++a
 | 0,l,t=>⟨[],by simp [zdP]⟩
 | f+1,l,[]=>⟨[],by simp [zdP]⟩
 | f+1,l,i::r=>by
   obtain⟨a,e⟩:=zi6 c f (l++addK c l i) (r++addK c l i)
   exact⟨addK c l i++a,by unfold zdP; rw [e,List.append_assoc]⟩
theorem zd7 (c:ChD): ∀(f:Nat) (l t:List Int),l.Nodup->(zdP c f l t).Nodup
 | 0,l,t,h=>h
 | f+1,l,[],h=>h
 | f+1,l,i::r,h=>by
   unfold zdP
   refine zd7 c f _ _ ?_
   rw [List.nodup_append]
   refine⟨h,zb9 c l i,fun x hx y hy e=> ?_⟩
   subst e
   have:=(List.mem_filter.1 hy).2
   simp [hx] at this
theorem zn7 {c:ChD} (h:Full c) {l:List Int} (hn:l.Nodup):(growL c l).length=l.length↔ ∀x,Gr c l x->x∈l:=by
 obtain⟨a,e⟩:=zi6 c (missL c l+l.length) l l
 have e:growL c l=l++a:=e
 constructor
 ·intro hl x hx
  have:a=[]:=List.eq_nil_of_length_eq_zero (by rw [e,List.length_append] at hl; omega)
  rw [this,List.append_nil] at e
  rw [<-e]
  exact(zcV h hn).2 hx
 ·intro hx
  have h1:=(zd7 c (missL c l+l.length) l l hn).length_le_of_subset (l₂:=l) fun x hh=>hx x ((zcV h hn).1 hh)
  have h1:(growL c l).length<=l.length:=h1
  rw [e,List.length_append] at h1 |-
  omega
theorem zdJ {l l':List Int} (h: ∀x,x∈l↔x∈l') (ks:List Nat):manyI l ks=manyI l' ks:=by
 unfold manyI
 congr 1
 apply List.filter_congr
 intro k _
 rw [Bool.eq_iff_iff,List.contains_iff_mem,List.contains_iff_mem]
 exact h _
theorem zhv {c:ChD} (h:Full c): ∀(n:Nat) (i k:Int),i<n->k∈upL c i->0<=k->zar c k=true
 | 0,i,k,hn,hk,h0=>by
   cases hh:inZ c i with
   | true=>have:=zag.1 hh; omega
   | false=>rw [zbq hh] at hk; simp at hk
 | n+1,i,k,hn,hk,h0=>by
   cases hh:inZ c i with
   | false=>rw [zbq hh] at hk; simp at hk
   | true=>
     rw [zbr h.toRight hh] at hk
     have hp:=zbF h.toRight hh
     rcases hk with rfl | hk
     ·obtain⟨j,s,rfl,hs,_⟩:=zb0 hh
      have:=h.st j s hs
      simp only [zap,Bool.and_eq_true] at this
      have:=this.1.1.1.2
      rw [zcx hs] at h0 |-
      simp only [zaC,Bool.or_eq_true,Bool.and_eq_true,beq_iff_eq] at this
      rcases this with e | ⟨_,e⟩
      ·omega
      ·exact e
     ·exact zhv h n _ k (by omega) hk h0
theorem zcH {c:ChD} {i:Int} (h:zar c i=true): ∃s,at_ c i=some s/\(s.kind=1\/s.kind=2):=by
 unfold zar at h
 split at h
 ·rename_i s hs
  refine⟨s,hs, ?_⟩
  unfold zbV at h
  simpa using h
 ·cases h
theorem zlD {c:ChD} (h:Full c) {i:Int} {s:StD} (hs:at_ c i=some s):(s.kind=1/\(kidsL c i true=[]\/(0<=iniZ c i/\iniZ c i∈kidZ c i)))\/(s.kind=2/\kidsL c i true≠[])\/(s.kind=3/\kidsL c i true=[])\/((s.kind=4\/s.kind=5)/\kidsL c i true=[]):=by
 have hz:0<=i:=by
  unfold at_ at hs
  split at hs
  ·assumption
  ·cases hs
 obtain⟨k,rfl⟩: ∃k:Nat,i=k:=⟨i.toNat,by omega⟩
 have he:iniZ c (k:Int)=s.initial:=by unfold iniZ; rw [hs]
 rw [zbp] at hs
 rcases h.cases hs with⟨e,⟨e2,_⟩ | ⟨j,hj,e2⟩⟩ | ⟨e,_,e2,_⟩ | ⟨e,e2,_⟩ | ⟨e,e2,_⟩
 ·exact .inl ⟨e, .inl e2⟩
 ·exact .inl ⟨e, .inr (by rw [he,e2]; exact⟨by omega,List.mem_map.2 ⟨j,hj,rfl⟩⟩)⟩
 ·exact .inr (.inl ⟨e,e2⟩)
 ·exact .inr (.inr (.inl ⟨e,zeR e2⟩))
 ·exact .inr (.inr (.inr ⟨e,zeR e2⟩))
theorem zcF {c:ChD} {i:Int} {s:StD} (hs:at_ c i=some s):zaL c i=(s.kind==1):=by unfold zaL; rw [hs]
theorem zfh {l:List Int} {ks:List Nat} :manyI l ks=ks.length↔ ∀k∈zL ks,k∈l:=by
 unfold manyI
 rw [List.length_filter_eq_length_iff]
 constructor
 ·intro h k hk
  obtain⟨j,hj,rfl⟩:=List.mem_map.1 hk
  simpa using h j hj
 ·intro h k hk
  simpa using h k (List.mem_map.2 ⟨k,hk,rfl⟩)
theorem zjy {c:ChD} (h:Full c) {parent:Int} (hp:zar c parent=true) (l:List Int):deepB c parent l=zmq c parent l:=by
 unfold deepB zmq
 cases hr:zdd l with
 | false=>rfl
 | true=>
 simp only [Bool.true_and]
 by_cases hleaf:l.all (zb1 c parent)=true
 ·rw [hleaf,Bool.true_and]
  have hz: ∀x∈l,aboveB c parent x=true/\kidsL c x true=[]/\inZ c x=true:=fun x hx=>by
   have:=List.all_eq_true.1 hleaf x hx
   unfold zb1 at this
   rw [Bool.and_eq_true] at this
   refine⟨this.1,by simpa using this.2, ?_⟩
   cases hh:inZ c x with
   | true=>rfl
   | false=>
     have:=this.1
     unfold aboveB at this
     rw [zbq hh] at this
     simp at this
  obtain⟨sp,hsp,hk12⟩:=zcH hp
  have hp0:0<=parent:=by
   unfold at_ at hsp
   split at hsp
   ·assumption
   ·cases hsp
  obtain⟨un,um⟩:=zdR (c:=c) (d:=parent) (l:=l)
  have habove: ∀x∈upsL c l parent,aboveB c parent x=true:=fun x hx=>by
   rcases (um x).1 hx with hx | ⟨_,_,_,_,hx⟩
   ·exact(hz x hx).1
   ·exact hx
  have hnp:parent∉upsL c l parent:=fun hh=>by
   have:=habove _ hh
   unfold aboveB at this
   have:=(zeG h.toRight 40 parent parent (List.contains_iff_mem.1 this)).2
   omega
  have hnd:(deepA c parent l).Nodup:=by
   unfold deepA
   rw [List.nodup_append]
   refine⟨un,by simp,fun x hx y hy e=> ?_⟩
   rw [List.mem_singleton.1 hy] at e
   rw [e] at hx
   exact hnp hx
  have hmem: ∀x,x∈deepRA c parent l↔x∈deepA c parent l:=fun x=>by
   unfold deepRA deepA
   rw [List.mem_append,List.mem_append,zfC h.toRight fun x hx=>(hz x hx).2.2]
  have hin: ∀x∈deepA c parent l,x∈l\/zar c x=true:=fun x hx=>by
   rcases List.mem_append.1 hx with hx | hx
   ·rcases (um x).1 hx with hx | ⟨i,_,h1,h2,_⟩
    ·exact .inl hx
    ·exact .inr (zhv h 40 i x (by
      cases hh:inZ c i with
      | true=>have:=zag.1 hh; have:=h.few; omega
      | false=>rw [zbq hh] at h1; simp at h1) h1 h2)
   ·rw [List.mem_singleton.1 hx]; exact .inr hp
  have hla: ∀x∈l,x∈deepA c parent l:=fun x hx=>List.mem_append_left _ ((um x).2 (.inl hx))
  have hat: ∀x∈deepA c parent l,∃s,at_ c x=some s:=fun x hx=>by
   rcases hin x hx with hx | hx
   ·obtain⟨_,s,_,_,e⟩:=zb0 (hz x hx).2.2
    exact⟨s,e⟩
   ·obtain⟨s,e,_⟩:=zcH hx
    exact⟨s,e⟩
  rw [Bool.eq_iff_iff,Bool.and_eq_true,decide_eq_true_eq,zn7 h hnd,Bool.and_eq_true]
  constructor
  ·rintro⟨hc,hcl⟩
   have gm: ∀x,x∈growL c (deepA c parent l)↔x∈deepA c parent l:=fun x=>by
    rw [zcV h hnd]
    exact⟨hc x, .base⟩
   have hcl: ∀x∈deepA c parent l,za6 c (deepA c parent l) x=true:=fun x hx=>by
    have:=List.all_eq_true.1 hcl x ((gm x).2 hx)
    unfold za6 at this |-
    obtain⟨s,hs⟩:=hat x hx
    rw [hs] at this |-
    rw [zdJ gm] at this
    exact this
   refine⟨List.all_eq_true.2 fun x hx=> ?_,List.all_eq_true.2 fun x hx=> ?_⟩
   ·have:=hcl x (hla x hx)
    unfold za6 at this
    unfold zbt
    obtain⟨s,hs⟩:=hat x (hla x hx)
    rw [hs] at this |-
    simp only at this |-
    rw [(hz x hx).1,(hz x hx).2.1]
    unfold zat
    simp only [Bool.not_or,Bool.and_eq_true] at this
    simp [this.2.1,this.2.2] at*
   ·have hx:=(hmem x).1 hx
    obtain⟨s,hs⟩:=hat x hx
    have h1:=hcl x hx
    unfold za6 at h1
    unfold zbv
    rw [hs] at h1 |-
    simp only at h1 |-
    rw [zdJ hmem]
    rcases zlD h hs with⟨e,e2⟩ | ⟨e,e2⟩ | ⟨e,e2⟩ | ⟨e,e2⟩
    ·have hle:manyI (deepA c parent l) (kidsL c x true)<=1:=by
      rw [e] at h1
      simp at h1
      exact h1
     have:manyI (deepA c parent l) (kidsL c x true)=min (kidsL c x true).length 1:=by
      rcases e2 with e2 | ⟨e2,e3⟩
      ·rw [e2]; rfl
      ·have hlen:0< (kidsL c x true).length:=by
        cases hq:kidsL c x true with
        | nil=>rw [kidZ,hq] at e3; simp at e3
        | cons=>simp
       have hpos:manyI (deepA c parent l) (kidsL c x true)≠0:=fun h0=>by
        have hno:=zei.1 h0
        exact hno _ e3 (hc _ (.ini (.base hx) (by rw [zcF hs,e]; rfl) hno e2))
       omega
     simp [e,this]
    ·have:manyI (deepA c parent l) (kidsL c x true)=(kidsL c x true).length:=zfh.2 fun k hk=>hc k (.par (.base hx) (by rw [zcF hs,e]; rfl) hk)
     simp [e,this]
    ·simp [e]
    ·rcases e with e | e<;>simp [e]
  ·rintro⟨hl2,hcd⟩
   have hcd: ∀x∈deepA c parent l,zbv c (deepA c parent l) x=true:=fun x hx=>by
    have:=List.all_eq_true.1 hcd x ((hmem x).2 hx)
    unfold zbv at this |-
    obtain⟨s,hs⟩:=hat x hx
    rw [hs] at this |-
    rw [zdJ hmem] at this
    exact this
   have hgr: ∀x,Gr c (deepA c parent l) x->x∈deepA c parent l:=fun x g=>by
    induction g with
    | base h=>exact h
    | ini g hpp hn h0 ih=>
      rename_i p
      exfalso
      obtain⟨s,hs⟩:=hat p ih
      have h1:=hcd p ih
      unfold zbv at h1
      rw [hs] at h1
      rw [zcF hs] at hpp
      have hk:s.kind=1:=by simpa using hpp
      have hini:=zeq h (by rw [zcF hs,hk]; rfl) h0
      have hlen:0< (kidsL c p true).length:=by
       cases hq:kidsL c p true with
       | nil=>rw [kidZ,hq] at hini; simp at hini
       | cons=>simp
      have h0:=zei.2 hn
      simp only [hk,h0] at h1
      simp at h1
      omega
    | par g hpp hk ih=>
      rename_i p k
      obtain⟨s,hs⟩:=hat p ih
      have h1:=hcd p ih
      unfold zbv at h1
      rw [hs] at h1
      rw [zcF hs] at hpp
      rcases zlD h hs with⟨e,_⟩ | ⟨e,_⟩ | ⟨_,e⟩ | ⟨_,e⟩
      ·rw [e] at hpp; cases hpp
      ·simp [e] at h1
       exact zfh.1 h1 k hk
      ·rw [kidZ,e] at hk; simp at hk
      ·rw [kidZ,e] at hk; simp at hk
   have gm: ∀x,x∈growL c (deepA c parent l)↔x∈deepA c parent l:=fun x=>by
    rw [zcV h hnd]
    exact⟨hgr x, .base⟩
   refine⟨hgr,List.all_eq_true.2 fun x hx=> ?_⟩
   have hx:=(gm x).1 hx
   obtain⟨s,hs⟩:=hat x hx
   have h1:=hcd x hx
   unfold zbv at h1
   unfold za6
   rw [hs] at h1 |-
   simp only at h1 |-
   rw [zdJ gm]
   have hk45:s.kind≠4/\s.kind≠5:=by
    rcases hin x hx with hx | hx
    ·have:=List.all_eq_true.1 hl2 x hx
     unfold zbt at this
     rw [hs] at this
     simp only [zat,Bool.and_eq_true,Bool.not_or] at this
     have:=this.1.2
     exact⟨by simpa using this.1,by simpa using this.2⟩
    ·obtain⟨s',e,e2⟩:=zcH hx
     rw [hs] at e
     cases e
     omega
   have hle:s.kind=1->manyI (deepA c parent l) (kidsL c x true)<=1:=fun e=>by
    simp [e] at h1
    omega
   by_cases e:s.kind=1
   ·have:=hle e
    simp [e]
    omega
   ·simp [e,hk45.1,hk45.2]
 ·have hleaf:l.all (zb1 c parent)=false:=by simpa using hleaf
  rw [hleaf]
  have:l.all (zbt c parent)=false:=by
   rw [List.all_eq_false] at hleaf |-
   obtain⟨x,hx,e⟩:=hleaf
   refine⟨x,hx,fun hh=>e ?_⟩
   unfold zbt at hh
   unfold zb1
   simp only [Bool.and_eq_true] at hh |-
   exact⟨hh.1.1,hh.2⟩
  rw [this]
  rfl
/-! Memories -/
abbrev MemD:=Int×List Int
def memB (c:ChD) (m:MemD):Bool:=match at_ c m.1 with
 | some s=>if s.kind=4 then decide (m.2.length=1)&&(kidZ c s.parent).contains (m.2.getD 0 0) else(s.kind==5)&&deepB c s.parent m.2
 | none=>false
def zgN (c:ChD) (l:List MemD) (j:Nat):Bool:=match l[j]? with
 | some m=>memB c m&&((j==0)||decide ((l.getD (j-1) (0,[])).1<m.1))
 | none=>true
def zc3 (c:ChD) (l:List MemD):Bool:=(List.range l.length).all (zgN c l)
end
section
theorem Turned.frozen {s:St} (r t:Nat) (row:Row) (hp:row.pure=true) (hrz:row.sz≠0) (hr:s.rows r=some row) (ht:s.f t= .row r (s.vs r)):Turned s ((s.show r).put (some t) (.seq row.sz row.es)):=fun x a w m hS=>by
 obtain⟨S',q1,q2,q3⟩:=hS.show r row hr hrz hp
 have hv:=hS.slot t
 rw [ht] at hv
 have hv1:a.tmps.getD t undef=m.ρ r:=hv.row_.2 rfl row hr
 exact⟨_,q1.tell t (.seq row.sz row.es) (by rw [hv1]; exact .val q3)⟩
theorem Turned.nil {s:St} (t sz:Nat) (ht:s.f t= .lit (.slice none 0 0)):Turned s (s.put (some t) (.seq sz [])):=fun x a w m hS=>by
 have hv:=hS.slot t
 rw [ht] at hv
 have hv1:=hv.lit_
 exact⟨_,hS.tell t (.seq sz []) (by rw [hv1]; exact .val (Str.nil sz _ _ _ (.lit _)))⟩
section
variable {P:Program} {env:Env} {nt:Nat} {s:St}
theorem zqE {c rest:Code} {Q':Exit->St->Prop} {D:Type} (F:D->(Nat->Nat)->List (Nat×AV)) (R:D->(Nat->Nat)->List (Nat×Row)) (inv:D->(Nat->Nat)->(Nat->Bool)->Prop)
 (h1:awp P env nt c (zaQ (fun s=> ∃d,inv d s.vs s.esc/\zdw s (F d s.vs)/\zcZ s (R d s.vs)) Q') s) (h2: ∀d vs esc,inv d vs esc->awp P env nt rest Q' (head (F d vs) (R d vs) vs esc)):
 awp P env nt c (zaQ (awp P env nt rest Q') Q') s:=
 zlB h1 fun e s hq=>by
  cases e with
  | normal=>
    obtain⟨d,q1,q2,q3⟩:=hq
    exact zfO _ _ q2 q3 (h2 d _ _ q1)
  | _=>exact hq
end
def zqr (Q:Exit->St->Prop):Exit->St->Prop
 | .goto _,_=>False
 | e,s=>Q e s
theorem zbj {P:Program} {b:Frame} {a:Act} {k:List Item} {cs:List Frame} {w:World} {c:Code} :step P (lone (b.atR a (.code (.scope c)::k)) cs w)= .next (lone (b.atR a (.code c:: .inScope c::k)) cs w):=
 step_lone_go (by simp [stepG,stepG.exec,Frame.atR])
theorem zgF {P:Program} {b:Frame} {a:Act} {k:List Item} {cs:List Frame} {w:World} {c:Code} :step P (lone (b.atR a (.inScope c::k)) cs w)= .next (lone (b.atR a k) cs w):=
 step_lone_go (by simp [stepG,stepG.exec,Frame.atR])
theorem zjN {F:Fence} {n:Nat} {P:Program} {Q:Exit->Act->World->Prop} {a:Act} {w:World} {c:Code} (h:c.wpIn F n P (Exit.noGoto Q) a w):(Code.scope c).wpIn F n P Q a w:=by
 intro b k cs hro hb hr
 have h0:(lone (b.atR a (.code (.scope c)::k)) cs w).fenced P F:=fenced_calm hb hr rfl
 obtain⟨e,a₁,w₁,hq,harr⟩:=h b (.inScope c::k) cs hro hb hr
 cases e with
 | normal=>exact⟨.normal,a₁,w₁,hq, .head h0 zbj (StepsIn.trans harr (.one (fenced_calm hb hr rfl) zgF))⟩
 | exit id=>
   have hx:exitTo id (.inScope c::k)=exitTo id k:=by simp [exitTo]
   exact⟨.exit id,a₁,w₁,hq,fun k' hk=> .head h0 zbj (harr.1 k' (by rw [hx]; exact hk)),
    fun hr' hk=>let ⟨k₁,h1,h2⟩:=harr.2 hr' (by rw [hx]; exact hk); ⟨k₁,h1, .head h0 zbj h2⟩⟩
 | goto l=>exact hq.elim
 | ret=>exact⟨_,a₁,w₁,hq, .of_steps (.one h0 zbj) harr⟩
 | panic ch=>exact⟨_,a₁,w₁,hq, .of_steps (.one h0 zbj) harr⟩
 | outgrown=>exact⟨_,a₁,w₁,hq, .of_steps (.one h0 zbj) harr⟩
theorem zoM {P:Program} {env:Env} {nt:Nat} {Q:Exit->St->Prop} {s:St} {c:Code} (h:awp P env nt c (zqr Q) s):awp P env nt (.scope c) Q s:=fun ro x he hn a w m hS=>
 zjN (wpIn_mono (h ro x he hn a w m hS) fun e a' w' ⟨s',m',q,hs⟩=>by
  cases e with
  | goto l=>exact q.elim
  | _=>exact⟨s',m',q,hs⟩)
end

end Go.Proofs.YtlmekdfleciejaaGreatDoor