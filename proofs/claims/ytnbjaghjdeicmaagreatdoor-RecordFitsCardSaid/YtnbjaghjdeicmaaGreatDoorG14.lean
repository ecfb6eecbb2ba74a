/- The document's answer whether a record is right. -/
import Derived.Test.YtnbjaghjdeicmaaGreatDoorG13
import Derived.Lib.SlicesCompact
import Derived.Test.YtnbjaghjdeicmaaGreatDoorG9
import Derived.Test.YtnbjaghjdeicmaaGreatDoorG5
import Derived.Test.YtnbjaghjdeicmaaGreatDoorG6
import Derived.Test.YtnbjaghjdeicmaaGreatDoorG8
set_option maxRecDepth 100000
set_option maxHeartbeats 8000000
set_option linter.unusedSimpArgs false
namespace Go.Proofs.YtnbjaghjdeicmaaGreatDoor
section
open Go.RowKit
/-! Rising lists -/
def upB (l:List Int) (j:Nat):Bool:=(j==0)||decide (l.getD (j-1) 0<l.getD j 0)
def zdS (l:List Int) (j:Nat):Bool:=(j==0)||decide (¬l.getD j 0<l.getD (j-1) 0)
def zeC (l:List Int):Bool:= !l.isEmpty&&(List.range l.length).all (upB l)
def zdD (l:List Int):Bool:=(List.range l.length).all (zdS l)
theorem zmk (l:List Int) (j:Nat) (hj:j<l.length):Lib.keeps l.toArray j=((j==0)||decide (l.getD j 0≠l.getD (j-1) 0)):=by
 unfold Lib.keeps
 have e: ∀k,k<l.length->l.toArray[k]! =l.getD k 0:=fun k hk=>by
  rw [getElem!_pos _ k (by simpa using hk),List.getD_eq_getElem?_getD,List.getElem?_eq_getElem hk]
  simp
 rw [e j hj,e (j-1) (by omega)]
 by_cases h:j=0<;>simp [h]
theorem zlE (l:List Int):(Lib.compact l).length=l.length↔ ∀j,j<l.length->Lib.keeps l.toArray j=true:=by
 unfold Lib.compact Lib.compactUpTo
 rw [List.length_map]
 conv=>lhs; rhs; rw [<-List.length_range (n:=l.length)]
 rw [List.length_filter_eq_length_iff]
 simp
theorem zsf (l:List Int):(!l.isEmpty&&zdD l&&decide ((Lib.compact l).length=l.length))=zeC l:=by
 unfold zeC zdD
 rw [Bool.and_assoc]
 congr 1
 rw [Bool.eq_iff_iff,Bool.and_eq_true,decide_eq_true_eq,zlE,List.all_eq_true,List.all_eq_true]
 simp only [List.mem_range]
 constructor
 ·rintro⟨h1,h2⟩ j hj
  have a:=h1 j hj
  have b:=h2 j hj
  rw [zmk l j hj] at b
  unfold upB
  unfold zdS at a
  by_cases h0:j=0
  ·simp [h0]
  ·simp [h0] at a b |-
   omega
 ·intro h
  refine⟨fun j hj=> ?_,fun j hj=> ?_⟩
  ·have a:=h j hj
   unfold upB at a
   unfold zdS
   by_cases h0:j=0
   ·simp [h0]
   ·simp [h0] at a |-
    omega
  ·have a:=h j hj
   rw [zmk l j hj]
   unfold upB at a
   by_cases h0:j=0
   ·simp [h0]
   ·simp [h0] at a |-
    omega
theorem zhV {l:List Int} (h:zeC l=true):l.Nodup:=by
 unfold zeC at h
 rw [Bool.and_eq_true,List.all_eq_true] at h
 have key: ∀i d,i+d+1<l.length->l.getD i 0<l.getD (i+d+1) 0:=fun i d=>by
  induction d with
  | zero=>
    intro hd
    have:=h.2 (i+1) (List.mem_range.2 (by omega))
    unfold upB at this
    simpa using this
  | succ d ih=>
    intro hd
    have h1:=ih (by omega)
    have:=h.2 (i+d+1+1) (List.mem_range.2 (by omega))
    unfold upB at this
    have h2:l.getD (i+d+1) 0<l.getD (i+d+1+1) 0:=by simpa using this
    rw [show i+(d+1)+1=i+d+1+1 by omega]
    omega
 rw [List.nodup_iff_pairwise_ne,List.pairwise_iff_getElem]
 intro i j hi hj hij e
 have:=key i (j-i-1) (by omega)
 rw [show i+(j-i-1)+1=j by omega] at this
 simp [List.getD_eq_getElem?_getD,List.getElem?_eq_getElem hi,List.getElem?_eq_getElem hj,e] at this
/-! Deep memories -/
def zbr (c:ChD) (l:List Int) (i:Int):Bool:=match at_ c i with
 | some s=> !(((s.kind==1)&&decide (1<manyI l (kidsL c i true)))||((s.kind==4)||(s.kind==5)))
 | none=>false
def zcP (c:ChD) (parent i:Int):Bool:=zax c parent i&&(kidsL c i true).isEmpty
def deepA (c:ChD) (parent:Int) (l:List Int):List Int:=upsL c l parent++[parent]
def deepB (c:ChD) (parent:Int) (l:List Int):Bool:=zeC l&&l.all (zcP c parent)&&decide ((growL c (deepA c parent l)).length=(deepA c parent l).length)&&(growL c (deepA c parent l)).all (zbr c (growL c (deepA c parent l)))
def zb2 (c:ChD) (parent i:Int):Bool:=zax c parent i&&(match at_ c i with | some s=> !zbh s | none=>false)&&(kidsL c i true).isEmpty
def zb3 (c:ChD) (l:List Int) (i:Int):Bool:=match at_ c i with
 | some s=> !(((s.kind==1)&&decide (manyI l (kidsL c i true)≠min (kidsL c i true).length 1))||((s.kind==2)&&decide (manyI l (kidsL c i true)≠(kidsL c i true).length)))
 | none=>false
def deepRA (c:ChD) (parent:Int) (l:List Int):List Int:=zL (pathL c l parent)++[parent]
def zrp (c:ChD) (parent:Int) (l:List Int):Bool:=zeC l&&l.all (zb2 c parent)&&(deepRA c parent l).all (zb3 c (deepRA c parent l))
theorem zj9 (c:ChD): ∀(f:Nat) (l t:List Int),∃a,zem c f l t=l++a
 | 0,l,t=>⟨[],by simp [zem]⟩
 | f+1,l,[]=>⟨[],by simp [zem]⟩
 | f+1,l,i::r=>by
   obtain⟨a,e⟩:=zj9 c f (l++addK c l i) (r++addK c l i)
   exact⟨addK c l i++a,by unfold zem; rw [e,List.append_assoc]⟩
theorem zeF (c:ChD): ∀(f:Nat) (l t:List Int),l.Nodup->(zem c f l t).Nodup
 | 0,l,t,h=>h
 | f+1,l,[],h=>h
 | f+1,l,i::r,h=>by
   unfold zem
   refine zeF c f _ _ ?_
   rw [List.nodup_append]
   refine⟨h,zcv c l i,fun x hx y hy e=> ?_⟩
   subst e
   have:=(List.mem_filter.1 hy).2
   simp [hx] at this
theorem zps {c:ChD} (h:Full c) {l:List Int} (hn:l.Nodup):(growL c l).length=l.length↔ ∀x,Gr c l x->x∈l:=by
 obtain⟨a,e⟩:=zj9 c (missL c l+l.length) l l
 have e:growL c l=l++a:=e
 constructor
 ·intro hl x hx
  have:a=[]:=List.eq_nil_of_length_eq_zero (by rw [e,List.length_append] at hl; omega)
  rw [this,List.append_nil] at e
  rw [<-e]
  exact(zef h hn).2 hx
 ·intro hx
  have h1:=(zeF c (missL c l+l.length) l l hn).length_le_of_subset (l₂:=l) fun x hh=>hx x ((zef h hn).1 hh)
  have h1:(growL c l).length<=l.length:=h1
  rw [e,List.length_append] at h1 |-
  omega
theorem zee {l l':List Int} (h: ∀x,x∈l↔x∈l') (ks:List Nat):manyI l ks=manyI l' ks:=by
 unfold manyI
 congr 1
 apply List.filter_congr
 intro k _
 rw [Bool.eq_iff_iff,List.contains_iff_mem,List.contains_iff_mem]
 exact h _
theorem zn7 {c:ChD} (h:Full c): ∀(n:Nat) (i k:Int),i<n->k∈upL c i->0<=k->zaM c k=true
 | 0,i,k,hn,hk,h0=>by
   cases hh:inZ c i with
   | true=>have:=zan.1 hh; omega
   | false=>rw [zcw hh] at hk; simp at hk
 | n+1,i,k,hn,hk,h0=>by
   cases hh:inZ c i with
   | false=>rw [zcw hh] at hk; simp at hk
   | true=>
     rw [zdp h.toRight hh] at hk
     have hp:=zcn h.toRight hh
     rcases hk with rfl | hk
     ·obtain⟨j,s,rfl,hs,_⟩:=zfh hh
      have:=h.st j s hs
      simp only [zay,Bool.and_eq_true] at this
      have:=this.1.1.1.2
      rw [zdN hs] at h0 |-
      simp only [zaV,Bool.or_eq_true,Bool.and_eq_true,beq_iff_eq] at this
      rcases this with e | ⟨_,e⟩
      ·omega
      ·exact e
     ·exact zn7 h n _ k (by omega) hk h0
theorem zeV {c:ChD} {i:Int} (h:zaM c i=true): ∃s,at_ c i=some s/\(s.kind=1\/s.kind=2):=by
 unfold zaM at h
 split at h
 ·rename_i s hs
  refine⟨s,hs, ?_⟩
  unfold zcq at h
  simpa using h
 ·cases h
theorem zmP {c:ChD} (h:Full c) {i:Int} {s:StD} (hs:at_ c i=some s):(s.kind=1/\(kidsL c i true=[]\/(0<=iniZ c i/\iniZ c i∈kidZ c i)))\/(s.kind=2/\kidsL c i true≠[])\/(s.kind=3/\kidsL c i true=[])\/((s.kind=4\/s.kind=5)/\kidsL c i true=[]):=by
 have hz:0<=i:=by
  unfold at_ at hs
  split at hs
  ·assumption
  ·cases hs
 obtain⟨k,rfl⟩: ∃k:Nat,i=k:=⟨i.toNat,by omega⟩
 have he:iniZ c (k:Int)=s.initial:=by unfold iniZ; rw [hs]
 rw [zce] at hs
 rcases h.cases hs with⟨e,⟨e2,_⟩ | ⟨j,hj,e2⟩⟩ | ⟨e,_,e2,_⟩ | ⟨e,e2,_⟩ | ⟨e,e2,_⟩
 ·exact .inl ⟨e, .inl e2⟩
 ·exact .inl ⟨e, .inr (by rw [he,e2]; exact⟨by omega,List.mem_map.2 ⟨j,hj,rfl⟩⟩)⟩
 ·exact .inr (.inl ⟨e,e2⟩)
 ·exact .inr (.inr (.inl ⟨e,ziK e2⟩))
 ·exact .inr (.inr (.inr ⟨e,ziK e2⟩))
theorem zdM {c:ChD} {i:Int} {s:StD} (hs:at_ c i=some s):zds c i=(s.kind==1):=by unfold zds; rw [hs]
theorem zfU {l:List Int} {ks:List Nat} :manyI l ks=ks.length↔ ∀k∈zL ks,k∈l:=by
 unfold manyI
 rw [List.length_filter_eq_length_iff]
 constructor
 ·intro h k hk
  obtain⟨j,hj,rfl⟩:=List.mem_map.1 hk
  simpa using h j hj
 ·intro h k hk
  simpa using h k (List.mem_map.2 ⟨k,hk,rfl⟩)
theorem zpY {c:ChD} (h:Full c) {parent:Int} (hp:zaM c parent=true) (l:List Int):deepB c parent l=zrp c parent l:=by
 unfold deepB zrp
 cases hr:zeC l with
 | false=>rfl
 | true=>
 simp only [Bool.true_and]
 by_cases hleaf:l.all (zcP c parent)=true
 ·rw [hleaf,Bool.true_and]
  have hz: ∀x∈l,zax c parent x=true/\kidsL c x true=[]/\inZ c x=true:=fun x hx=>by
   have:=List.all_eq_true.1 hleaf x hx
   unfold zcP at this
   rw [Bool.and_eq_true] at this
   refine⟨this.1,by simpa using this.2, ?_⟩
   cases hh:inZ c x with
   | true=>rfl
   | false=>
     have:=this.1
     unfold zax at this
     rw [zcw hh] at this
     simp at this
  obtain⟨sp,hsp,hk12⟩:=zeV hp
  have hp0:0<=parent:=by
   unfold at_ at hsp
   split at hsp
   ·assumption
   ·cases hsp
  obtain⟨un,um⟩:=zn5 (c:=c) (d:=parent) (l:=l)
  have habove: ∀x∈upsL c l parent,zax c parent x=true:=fun x hx=>by
   rcases (um x).1 hx with hx | ⟨_,_,_,_,hx⟩
   ·exact(hz x hx).1
   ·exact hx
  have hnp:parent∉upsL c l parent:=fun hh=>by
   have:=habove _ hh
   unfold zax at this
   have:=(zgG h.toRight 40 parent parent (List.contains_iff_mem.1 this)).2
   omega
  have hnd:(deepA c parent l).Nodup:=by
   unfold deepA
   rw [List.nodup_append]
   refine⟨un,by simp,fun x hx y hy e=> ?_⟩
   rw [List.mem_singleton.1 hy] at e
   rw [e] at hx
   exact hnp hx
  have hmem: ∀x,x∈deepRA c parent l↔x∈deepA c parent l:=fun x=>by
   unfold deepRA deepA
   rw [List.mem_append,List.mem_append,zqN h.toRight fun x hx=>(hz x hx).2.2]
  have hin: ∀x∈deepA c parent l,x∈l\/zaM c x=true:=fun x hx=>by
   rcases List.mem_append.1 hx with hx | hx
   ·rcases (um x).1 hx with hx | ⟨i,_,h1,h2,_⟩
    ·exact .inl hx
    ·exact .inr (zn7 h 40 i x (by
      cases hh:inZ c i with
      | true=>have:=zan.1 hh; have:=h.few; omega
      | false=>rw [zcw hh] at h1; simp at h1) h1 h2)
   ·rw [List.mem_singleton.1 hx]; exact .inr hp
  have hla: ∀x∈l,x∈deepA c parent l:=fun x hx=>List.mem_append_left _ ((um x).2 (.inl hx))
  have hat: ∀x∈deepA c parent l,∃s,at_ c x=some s:=fun x hx=>by
   rcases hin x hx with hx | hx
   ·obtain⟨_,s,_,_,e⟩:=zfh (hz x hx).2.2
    exact⟨s,e⟩
   ·obtain⟨s,e,_⟩:=zeV hx
    exact⟨s,e⟩
  rw [Bool.eq_iff_iff,Bool.and_eq_true,decide_eq_true_eq,zps h hnd,Bool.and_eq_true]
  constructor
  ·rintro⟨hc,hcl⟩
   have gm: ∀x,x∈growL c (deepA c parent l)↔x∈deepA c parent l:=fun x=>by
    rw [zef h hnd]
    exact⟨hc x, .base⟩
   have hcl: ∀x∈deepA c parent l,zbr c (deepA c parent l) x=true:=fun x hx=>by
    have:=List.all_eq_true.1 hcl x ((gm x).2 hx)
    unfold zbr at this |-
    obtain⟨s,hs⟩:=hat x hx
    rw [hs] at this |-
    rw [zee gm] at this
    exact this
   refine⟨List.all_eq_true.2 fun x hx=> ?_,List.all_eq_true.2 fun x hx=> ?_⟩
   ·have:=hcl x (hla x hx)
    unfold zbr at this
    unfold zb2
    obtain⟨s,hs⟩:=hat x (hla x hx)
    rw [hs] at this |-
    simp only at this |-
    rw [(hz x hx).1,(hz x hx).2.1]
    unfold zbh
    simp only [Bool.not_or,Bool.and_eq_true] at this
    simp [this.2.1,this.2.2] at*
   ·have hx:=(hmem x).1 hx
    obtain⟨s,hs⟩:=hat x hx
    have h1:=hcl x hx
    unfold zbr at h1
    unfold zb3
    rw [hs] at h1 |-
    simp only at h1 |-
    rw [zee hmem]
    rcases zmP h hs with⟨e,e2⟩ | ⟨e,e2⟩ | ⟨e,e2⟩ | ⟨e,e2⟩
    ·have hle:manyI (deepA c parent l) (kidsL c x true)<=1:=by
      rw [e] at h1
      simp at h1
      exact h1
     have:manyI (deepA c parent l) (kidsL c x true)=min (kidsL c x true).length 1:=by
      rcases e2 with e2 | ⟨e2,e3⟩
      ·rw [e2]; rfl
      ·have hlen:0< (kidsL c x true).length:=by
        cases hq:kidsL c x true with
        | nil=>rw [kidZ,hq] at e3; simp at e3
        | cons=>simp
       have hpos:manyI (deepA c parent l) (kidsL c x true)≠0:=fun h0=>by
        have hno:=zjS.1 h0
        exact hno _ e3 (hc _ (.ini (.base hx) (by rw [zdM hs,e]; rfl) hno e2))
       omega
     simp [e,this]
    ·have:manyI (deepA c parent l) (kidsL c x true)=(kidsL c x true).length:=zfU.2 fun k hk=>hc k (.par (.base hx) (by rw [zdM hs,e]; rfl) hk)
     simp [e,this]
    ·simp [e]
    ·rcases e with e | e<;>simp [e]
  ·rintro⟨hl2,hcd⟩
   have hcd: ∀x∈deepA c parent l,zb3 c (deepA c parent l) x=true:=fun x hx=>by
    have:=List.all_eq_true.1 hcd x ((hmem x).2 hx)
    unfold zb3 at this |-
    obtain⟨s,hs⟩:=hat x hx
    rw [hs] at this |-
    rw [zee hmem] at this
    exact this
   have hgr: ∀x,Gr c (deepA c parent l) x->x∈deepA c parent l:=fun x g=>by
    induction g with
    | base h=>exact h
    | ini g hpp hn h0 ih=>
      rename_i p
      exfalso
      obtain⟨s,hs⟩:=hat p ih
      have h1:=hcd p ih
      unfold zb3 at h1
      rw [hs] at h1
      rw [zdM hs] at hpp
      have hk:s.kind=1:=by simpa using hpp
      have hini:=ziV h (by rw [zdM hs,hk]; rfl) h0
      have hlen:0< (kidsL c p true).length:=by
       cases hq:kidsL c p true with
       | nil=>rw [kidZ,hq] at hini; simp at hini
       | cons=>simp
      have h0:=zjS.2 hn
      simp only [hk,h0] at h1
      simp at h1
      omega
    | par g hpp hk ih=>
      rename_i p k
      obtain⟨s,hs⟩:=hat p ih
      have h1:=hcd p ih
      unfold zb3 at h1
      rw [hs] at h1
      rw [zdM hs] at hpp
      rcases zmP h hs with⟨e,_⟩ | ⟨e,_⟩ | ⟨_,e⟩ | ⟨_,e⟩
      ·rw [e] at hpp; cases hpp
      ·simp [e] at h1
       exact zfU.1 h1 k hk
      ·rw [kidZ,e] at hk; simp at hk
      ·rw [kidZ,e] at hk; simp at hk
   have gm: ∀x,x∈growL c (deepA c parent l)↔x∈deepA c parent l:=fun x=>by
    rw [zef h hnd]
    exact⟨hgr x, .base⟩
   refine⟨hgr,List.all_eq_true.2 fun x hx=> ?_⟩
   have hx:=(gm x).1 hx
   obtain⟨s,hs⟩:=hat x hx
   have h1:=hcd x hx
   unfold zb3 at h1
   unfold zbr
   rw [hs] at h1 |-
   simp only at h1 |-
   rw [zee gm]
   have hk45:s.kind≠4/\s.kind≠5:=by
    rcases hin x hx with hx | hx
    ·have:=List.all_eq_true.1 hl2 x hx
     unfold zb2 at this
     rw [hs] at this
     simp only [zbh,Bool.and_eq_true,Bool.not_or] at this
     have:=this.1.2
     exact⟨by simpa using this.1,by simpa using this.2⟩
    ·obtain⟨s',e,e2⟩:=zeV hx
     rw [hs] at e
     cases e
     omega
   have hle:s.kind=1->manyI (deepA c parent l) (kidsL c x true)<=1:=fun e=>by
    simp [e] at h1
    omega
   by_cases e:s.kind=1
   ·have:=hle e
    simp [e]
    omega
   ·simp [e,hk45.1,hk45.2]
 ·have hleaf:l.all (zcP c parent)=false:=by simpa using hleaf
  rw [hleaf]
  have:l.all (zb2 c parent)=false:=by
   rw [List.all_eq_false] at hleaf |-
   obtain⟨x,hx,e⟩:=hleaf
   refine⟨x,hx,fun hh=>e ?_⟩
   unfold zb2 at hh
   unfold zcP
   simp only [Bool.and_eq_true] at hh |-
   exact⟨hh.1.1,hh.2⟩
  rw [this]
  rfl
/-! Memories -/
abbrev MemD:=Int×List Int
def memB (c:ChD) (m:MemD):Bool:=match at_ c m.1 with
 | some s=>if s.kind=4 then decide (m.2.length=1)&&(kidZ c s.parent).contains (m.2.getD 0 0) else(s.kind==5)&&deepB c s.parent m.2
 | none=>false
def ziP (c:ChD) (l:List MemD) (j:Nat):Bool:=match l[j]? with
 | some m=>memB c m&&((j==0)||decide ((l.getD (j-1) (0,[])).1<m.1))
 | none=>true
def ziM (c:ChD) (l:List MemD):Bool:=(List.range l.length).all (ziP c l)
end
section
open Go.RowKit Go.ChangeShapes Go.WideShapes Go.ChangeAt
def mmAV (m:MemD):List AV:=[I m.1, .seq 1 (m.2.map intAV)]
def zpA (m:MemD):Prop:=m.2.length<=maxLen
theorem zp6:Tryz.prog.cellsOf 27=1:=by kernel_rfl
theorem c_mem:Tryz.prog.cellsOf 85=2:=by kernel_rfl
theorem zta:Tryz.prog.cellsOf 28=1:=by kernel_rfl
section
variable {H:Type} {enc:TypeId×Value->H} {w:World} {base:Nat} {spare:Nat->Bool} {held:Bool}
theorem open_int1 (m:Nat) (cs:List Value) (y:DataW H×List MemPlace) (h:DataW.trod enc Tryz.prog w base spare held m 3 cs=some y): ∃a:Int,RE w intAV (fun _=>True) cs a:=by
 obtain⟨n,rfl, -, -⟩:=DataW.trod_int Tryz.underlying3 h
 exact⟨n,⟨⟨rfl, .lit _⟩,trivial⟩,trivial⟩
theorem open_mem1 (m:Nat) (cs:List Value) (y:DataW H×List MemPlace) (h:DataW.trod enc Tryz.prog w base spare held m 85 cs=some y): ∃a:MemD,RE w mmAV zpA cs a:=by
 obtain⟨xs,n,_,_,hl,hxl,hg⟩:=DataW.trod_struct Tryz.underlying85 h
 rw [c_mem] at hl
 obtain⟨c0,c1,rfl⟩:=zq2 hl
 obtain⟨y0,h0⟩:=zbf hxl hg 0 _ rfl 3 0 1 rfl rfl c_int
 obtain⟨x0,e0, -, -⟩:=DataW.trod_int Tryz.underlying3 (show DataW.trod enc Tryz.prog w base spare held n 3 [c0]=some y0 from h0)
 cases e0
 obtain⟨y1,h1⟩:=zbf hxl hg 1 _ rfl 27 1 1 rfl rfl zp6
 obtain⟨x1,l1,e1,r1,n1, -⟩:=za2 (size:=1) intAV (fun _=>True) (fun _=>rfl) Tryz.underlying27 c_int (by decide) open_int1 (show DataW.trod enc Tryz.prog w base spare held n 27 [c1]=some y1 from h1)
 cases e1
 exact⟨(x0,l1),⟨⟨rfl, .lit _⟩,r1,trivial⟩,n1⟩
theorem zto {l:List Value} (h:l.length=8): ∃a b c d e f g i,l=[a,b,c,d,e,f,g,i]:=by
 match l,h with
 | [a,b,c,d,e,f,g,i],_=>exact⟨a,b,c,d,e,f,g,i,rfl⟩
theorem RVs.app {S:Nat->Nat->Prop} {w:World} : ∀ {vs us:List Value} {cs ds:List AV},RVs S w vs cs->RVs S w us ds->RVs S w (vs++us) (cs++ds)
 | [],_,[],_,_,h=>h
 | _::_,_,_::_,_,h1,h2=>⟨h1.1,RVs.app h1.2 h2⟩
end
end
section
open Go.RowKit
theorem i64m (a b:Nat) (h:b<=a) (h':a<9223372036854775808):IntKind.i64.wrap ((a:Int)-(b:Int))=((a-b:Nat):Int):=by rw [zbQ (by omega) (by omega)]; omega
abbrev ints34 (l:List Int):AV:= .seq 1 (l.map intAV)
def tmAV (t:List UInt8×Int):List AV:=[Sg t.1,I t.2]
def inAV (r:Rc):List AV:=[ints34 r.active,ints34 r.vars, .seq 2 (r.mem.map mmAV), .seq 2 (r.timers.map tmAV),B r.over]
def zaQ (r:Rc):List AV:=[I r.chart,I r.born,I r.steps,ints34 r.active,ints34 r.vars, .seq 2 (r.mem.map mmAV), .seq 2 (r.timers.map tmAV),B r.over]
structure Lite (r:Rc):Prop where
 active:r.active.length<=1000000
 vars:r.vars.length<=1000000
 mem:r.mem.length<=1000000
 timers:r.timers.length<=1000000
 states: ∀m∈r.mem,m.2.length<=1000000
theorem zaq {α:Type} {l:List α} {i:Nat} {x d:α} (h:l[i]? =some x):l.getD i d=x:=by rw [List.getD_eq_getElem?_getD,h]; rfl
theorem zmg {α:Type} {l:List α} {i:Nat} {x:α} (h:l[i]? =some x):x∈l:=List.mem_of_getElem? h
theorem zcQ (a b n:Int):decide (a<=n/\n<=b)=(decide (a<=n)&&decide (n<=b)):=Bool.decide_and ..
theorem zbx {i:Nat} {f:Nat->Bool} (ha: ∀j,j<i->f j=true) (h:f i=true): ∀j,j<i+1->f j=true:=fun j hj=>by
 by_cases e:j=i
 ·rw [e]; exact h
 ·exact ha j (by omega)
theorem zdU: ∀a b:List UInt8,Op.bytesLess b a= !(Op.bytesLess a b||a==b)
 | [],[]=>rfl
 | [],_::_=>rfl
 | _::_,[]=>rfl
 | x::a,y::b=>by
   have ih:=zdU a b
   simp only [Op.bytesLess,List.cons_beq_cons,ih]
   by_cases h:x=y
   ·subst h
    simp
   ·have h': ¬y=x:=fun e=>h e.symm
    have e1:(x==y)=false:=by simpa using h
    have e2:(y==x)=false:=by simpa using h'
    have e3:decide (y<x)= !decide (x<y):=by
     rw [Bool.eq_iff_iff]
     simp [UInt8.lt_iff_toNat_lt]
     have:x.toNat≠y.toNat:=fun e=>h (UInt8.toNat_inj.1 e)
     omega
    simp [e1,e2,e3]
theorem zad (env:Env) (n a b:Int):Con Tryz.prog env 55 [I n,I a,I b] (B (decide (a<=n)&&decide (n<=b))):=by
 refine zaa Tryz.func55 rfl Tryz.call55 (by rw [Tryz.ntmps55]; simp) ?_
 rw [Tryz.ntmps55,Tryz.results55]
 by_cases h1:a<=n
 ·
  have F:=h1
  repeat refine sg ?_
  exact aR
 ·
  have F:=h1
  repeat refine sg ?_
  exact aR
theorem zc9 (x:Int) (l:List Int) (i:Nat) (hx:l[i]? =some x):l.getD i 0=x:=by rw [List.getD_eq_getElem?_getD,hx]; rfl
theorem za3 (env:Env) (l:List Int) (hl:l.length<=1000000):Con Tryz.prog env 56 [ints34 l] (B (zak l)):=by
 refine zaa Tryz.func56 rfl Tryz.call56 (by rw [Tryz.ntmps56]; simp) ?_
 rw [Tryz.ntmps56,Tryz.results56]
 repeat refine sg0 ?_
 refine zac (D:=Nat) (fun i _=>[(0,ints34 l),(3,I i)]) (fun _ _=>[]) (fun i _ _=>i<=l.length/\ ∀j,j<i->stAt l j=true) (fun i=>l.length-i) 0 ?_ ?_ ?_ ?_
 ·exact⟨Nat.zero_le _,fun j hj=>by omega⟩
 ·(simp only [go_sem])
 ·(simp only [go_sem])
 rintro i vs esc ⟨hi,ha⟩
 by_cases hlt:i<l.length
 ·have g1:=nlt hlt
  have g2:=zab hlt (by omega)
  obtain⟨x,hx⟩: ∃x,l[i]? =some x:=⟨l[i],List.getElem?_eq_getElem hlt⟩
  have ex:=zc9 x l i hx
  have hnxt:stAt l i=true-> ∀j,j<i+1->stAt l j=true:=fun h j hj=>by
   by_cases e:j=i
   ·rw [e]; exact h
   ·exact ha j (by omega)
  have hnot:stAt l i=false->zak l=false:=fun h=>by rw [zak,zav hlt h]; rfl
  by_cases hb:(decide ((0:Int)<=x)&&decide (x<=31))=true
  ·by_cases h0:i=0
   ·have g3: ¬(0:Int)< (i:Int):=by omega
    have F:=ai g1<|ai g2<|ai hx<|ai hb<|g3
    repeat (first | refine oO rfl (by simp only [go_sem,intAV,F]; exact⟨rfl,rfl⟩) ?_ | refine gR ?_ | refine gO ?_ | refine oZ (zaA ?_) | refine oZ ?_ | refine oS ?_ | refine gT ?_ | refine gD Tryz.mixed ?_ | refine oB ?_ | refine oK ?_ | (refine oX ?_; simp only [zao,zag, ↓reduceIte,Nat.reduceEqDiff,reduceCtorEq]))
    refine oY (by simp only [go_sem,intAV,F]; exact iR) ?_
    repeat (first | refine oO rfl (by simp only [go_sem,intAV,F]; exact⟨rfl,rfl⟩) ?_ | refine gR ?_ | refine gO ?_ | refine oZ (zaA ?_) | refine oZ ?_ | refine oS ?_ | refine gT ?_ | refine gD Tryz.mixed ?_ | refine oB ?_ | refine oK ?_ | (refine oX ?_; simp only [zao,zag, ↓reduceIte,Nat.reduceEqDiff,reduceCtorEq]))
    refine oC rfl (zad env x 0 31) (by simp only [go_sem,intAV,F]; exact iR) (by simp only [go_sem,intAV,F]; exact⟨rfl,rfl⟩) ?_
    repeat (first | refine oO rfl (by simp only [go_sem,intAV,F]; exact⟨rfl,rfl⟩) ?_ | refine gR ?_ | refine gO ?_ | refine oZ (zaA ?_) | refine oZ ?_ | refine oS ?_ | refine gT ?_ | refine gD Tryz.mixed ?_ | refine oB ?_ | refine oK ?_ | (refine oX ?_; simp only [zao,zag, ↓reduceIte,Nat.reduceEqDiff,reduceCtorEq]))
    refine oN (by simp only [go_sem,intAV,F]; exact iR) ?_
    repeat (first | refine oO rfl (by simp only [go_sem,intAV,F]; exact⟨rfl,rfl⟩) ?_ | refine gR ?_ | refine gO ?_ | refine oZ (zaA ?_) | refine oZ ?_ | refine oS ?_ | refine gT ?_ | refine gD Tryz.mixed ?_ | refine oB ?_ | refine oK ?_ | (refine oX ?_; simp only [zao,zag, ↓reduceIte,Nat.reduceEqDiff,reduceCtorEq]))
    refine⟨i+1,⟨hlt,hnxt ?_⟩, ?_, ?_, ?_⟩
    ·unfold stAt
     rw [ex,hb,decide_eq_true h0]
     rfl
    ·(simp only [go_sem,intAV,F])
    ·(simp only [go_sem,intAV,F])
    ·omega
   ·have g3:(0:Int)< (i:Int):=by omega
    have g4:IntKind.i64.wrap ((i:Int)-1)=((i-1:Nat):Int):=i64m i 1 (by omega) (by omega)
    have g5:((i-1:Nat):Int)< (l.length:Int):=by omega
    obtain⟨y,hy⟩: ∃y,l[i-1]? =some y:=⟨l[i-1],List.getElem?_eq_getElem (by omega)⟩
    have ey:=zc9 y l (i-1) hy
    have es:stAt l i=decide (y<x):=by
     unfold stAt
     rw [ex,ey,hb,decide_eq_false h0]
     rfl
    by_cases hc:x<=y
    ·have hn:=hnot (by rw [es,decide_eq_false (by omega)])
     rw [hn]
     have F:=ai g1<|ai g2<|ai hx<|ai hb<|ai g3<|ai g4<|ai g5<|ai hy<|hc
     repeat (first | refine oO rfl (by simp only [go_sem,intAV,F]; exact⟨rfl,rfl⟩) ?_ | refine gR ?_ | refine gO ?_ | refine oZ (zaA ?_) | refine oZ ?_ | refine oS ?_ | refine gT ?_ | refine gD Tryz.mixed ?_ | refine oB ?_ | refine oK ?_ | (refine oX ?_; simp only [zao,zag, ↓reduceIte,Nat.reduceEqDiff,reduceCtorEq]))
     refine oY (by simp only [go_sem,intAV,F]; exact iR) ?_
     repeat (first | refine oO rfl (by simp only [go_sem,intAV,F]; exact⟨rfl,rfl⟩) ?_ | refine gR ?_ | refine gO ?_ | refine oZ (zaA ?_) | refine oZ ?_ | refine oS ?_ | refine gT ?_ | refine gD Tryz.mixed ?_ | refine oB ?_ | refine oK ?_ | (refine oX ?_; simp only [zao,zag, ↓reduceIte,Nat.reduceEqDiff,reduceCtorEq]))
     refine oC rfl (zad env x 0 31) (by simp only [go_sem,intAV,F]; exact iR) (by simp only [go_sem,intAV,F]; exact⟨rfl,rfl⟩) ?_
     repeat (first | refine oO rfl (by simp only [go_sem,intAV,F]; exact⟨rfl,rfl⟩) ?_ | refine gR ?_ | refine gO ?_ | refine oZ (zaA ?_) | refine oZ ?_ | refine oS ?_ | refine gT ?_ | refine gD Tryz.mixed ?_ | refine oB ?_ | refine oK ?_ | (refine oX ?_; simp only [zao,zag, ↓reduceIte,Nat.reduceEqDiff,reduceCtorEq]))
     refine oY (by simp only [go_sem,intAV,F]; exact iR) ?_
     repeat (first | refine oO rfl (by simp only [go_sem,intAV,F]; exact⟨rfl,rfl⟩) ?_ | refine gR ?_ | refine gO ?_ | refine oZ (zaA ?_) | refine oZ ?_ | refine oS ?_ | refine gT ?_ | refine gD Tryz.mixed ?_ | refine oB ?_ | refine oK ?_ | (refine oX ?_; simp only [zao,zag, ↓reduceIte,Nat.reduceEqDiff,reduceCtorEq]))
     (refine zah ?_; show (zaG _ _ _).run _=some _; simp only [go_sem,intAV,F])
    ·
     have F:=ai g1<|ai g2<|ai hx<|ai hb<|ai g3<|ai g4<|ai g5<|ai hy<|hc
     repeat (first | refine oO rfl (by simp only [go_sem,intAV,F]; exact⟨rfl,rfl⟩) ?_ | refine gR ?_ | refine gO ?_ | refine oZ (zaA ?_) | refine oZ ?_ | refine oS ?_ | refine gT ?_ | refine gD Tryz.mixed ?_ | refine oB ?_ | refine oK ?_ | (refine oX ?_; simp only [zao,zag, ↓reduceIte,Nat.reduceEqDiff,reduceCtorEq]))
     refine oY (by simp only [go_sem,intAV,F]; exact iR) ?_
     repeat (first | refine oO rfl (by simp only [go_sem,intAV,F]; exact⟨rfl,rfl⟩) ?_ | refine gR ?_ | refine gO ?_ | refine oZ (zaA ?_) | refine oZ ?_ | refine oS ?_ | refine gT ?_ | refine gD Tryz.mixed ?_ | refine oB ?_ | refine oK ?_ | (refine oX ?_; simp only [zao,zag, ↓reduceIte,Nat.reduceEqDiff,reduceCtorEq]))
     refine oC rfl (zad env x 0 31) (by simp only [go_sem,intAV,F]; exact iR) (by simp only [go_sem,intAV,F]; exact⟨rfl,rfl⟩) ?_
     repeat (first | refine oO rfl (by simp only [go_sem,intAV,F]; exact⟨rfl,rfl⟩) ?_ | refine gR ?_ | refine gO ?_ | refine oZ (zaA ?_) | refine oZ ?_ | refine oS ?_ | refine gT ?_ | refine gD Tryz.mixed ?_ | refine oB ?_ | refine oK ?_ | (refine oX ?_; simp only [zao,zag, ↓reduceIte,Nat.reduceEqDiff,reduceCtorEq]))
     refine oN (by simp only [go_sem,intAV,F]; exact iR) ?_
     repeat (first | refine oO rfl (by simp only [go_sem,intAV,F]; exact⟨rfl,rfl⟩) ?_ | refine gR ?_ | refine gO ?_ | refine oZ (zaA ?_) | refine oZ ?_ | refine oS ?_ | refine gT ?_ | refine gD Tryz.mixed ?_ | refine oB ?_ | refine oK ?_ | (refine oX ?_; simp only [zao,zag, ↓reduceIte,Nat.reduceEqDiff,reduceCtorEq]))
     refine⟨i+1,⟨hlt,hnxt (by rw [es,decide_eq_true (by omega)])⟩, ?_, ?_, ?_⟩
     ·(simp only [go_sem,intAV,F])
     ·(simp only [go_sem,intAV,F])
     ·omega
  ·have hb:(decide ((0:Int)<=x)&&decide (x<=31))=false:=by simpa using hb
   have hn:=hnot (by unfold stAt; rw [ex,hb]; rfl)
   rw [hn]
   have F:=ai g1<|ai g2<|ai hx<|hb
   repeat (first | refine oO rfl (by simp only [go_sem,intAV,F]; exact⟨rfl,rfl⟩) ?_ | refine gR ?_ | refine gO ?_ | refine oZ (zaA ?_) | refine oZ ?_ | refine oS ?_ | refine gT ?_ | refine gD Tryz.mixed ?_ | refine oB ?_ | refine oK ?_ | (refine oX ?_; simp only [zao,zag, ↓reduceIte,Nat.reduceEqDiff,reduceCtorEq]))
   refine oY (by simp only [go_sem,intAV,F]; exact iR) ?_
   repeat (first | refine oO rfl (by simp only [go_sem,intAV,F]; exact⟨rfl,rfl⟩) ?_ | refine gR ?_ | refine gO ?_ | refine oZ (zaA ?_) | refine oZ ?_ | refine oS ?_ | refine gT ?_ | refine gD Tryz.mixed ?_ | refine oB ?_ | refine oK ?_ | (refine oX ?_; simp only [zao,zag, ↓reduceIte,Nat.reduceEqDiff,reduceCtorEq]))
   refine oC rfl (zad env x 0 31) (by simp only [go_sem,intAV,F]; exact iR) (by simp only [go_sem,intAV,F]; exact⟨rfl,rfl⟩) ?_
   repeat (first | refine oO rfl (by simp only [go_sem,intAV,F]; exact⟨rfl,rfl⟩) ?_ | refine gR ?_ | refine gO ?_ | refine oZ (zaA ?_) | refine oZ ?_ | refine oS ?_ | refine gT ?_ | refine gD Tryz.mixed ?_ | refine oB ?_ | refine oK ?_ | (refine oX ?_; simp only [zao,zag, ↓reduceIte,Nat.reduceEqDiff,reduceCtorEq]))
   refine oY (by simp only [go_sem,intAV,F]; exact iR) ?_
   repeat (first | refine oO rfl (by simp only [go_sem,intAV,F]; exact⟨rfl,rfl⟩) ?_ | refine gR ?_ | refine gO ?_ | refine oZ (zaA ?_) | refine oZ ?_ | refine oS ?_ | refine gT ?_ | refine gD Tryz.mixed ?_ | refine oB ?_ | refine oK ?_ | (refine oX ?_; simp only [zao,zag, ↓reduceIte,Nat.reduceEqDiff,reduceCtorEq]))
   (refine zah ?_; show (zaG _ _ _).run _=some _; simp only [go_sem,intAV,F])
 ·have g1: ¬(i:Int)< (l.length:Int):=by omega
  have hil:i=l.length:=by omega
  have e:zak l=decide ((0:Int)< (l.length:Int)):=by
   rw [zak,zaZ (by rw [<-hil]; exact ha),Bool.true_and]
   simp
  rw [e]
  have F:=g1
  repeat refine sg ?_
  refine oN (by simp only [go_sem,F]; exact iR) ?_
  repeat refine sg ?_
  exact aR
theorem zji (env:Env) (r:Rc) (hl:Lite r):Con Tryz.prog env 15 [.agg (zaQ r)] (B (zai r)):=by
 refine zaa Tryz.func15 rfl Tryz.call15 (by rw [Tryz.ntmps15]; simp) ?_
 rw [Tryz.ntmps15,Tryz.results15]
 obtain⟨l1,l2,l3,l4,l5⟩:=hl
 by_cases h1:(decide (1<=r.chart)&&decide (r.chart<=2147483647))=true
 case neg=>
  have h1:(decide (1<=r.chart)&&decide (r.chart<=2147483647))=false:=by simpa using h1
  have hr:zai r=false:=by simp only [zai,ze6,zcQ,h1,Bool.false_and]
  rw [hr]
  have F:=ai zaQ.eq_1<|h1
  repeat refine sg ?_
  refine cC (zad env r.chart 1 2147483647) ?_
  repeat refine sg ?_
  refine oY (by simp only [go_sem,F]; exact iR) ?_
  repeat refine sg ?_
  exact aR
 by_cases h2:(decide (0<=r.born)&&decide (r.born<=1099511627776))=true
 case neg=>
  have h2:(decide (0<=r.born)&&decide (r.born<=1099511627776))=false:=by simpa using h2
  have hr:zai r=false:=by simp only [zai,ze6,clkB,zcQ,h1,h2,Bool.false_and,Bool.and_false]
  rw [hr]
  have F:=ai zaQ.eq_1<|ai h1<|h2
  repeat refine sg ?_
  refine cC (zad env r.chart 1 2147483647) ?_
  repeat refine sg ?_
  refine cC (zad env r.born 0 1099511627776) ?_
  repeat refine sg ?_
  refine oY (by simp only [go_sem,F]; exact iR) ?_
  repeat refine sg ?_
  exact aR
 by_cases h3:(decide (0<=r.steps)&&decide (r.steps<=1099511627776))=true
 case neg=>
  have h3:(decide (0<=r.steps)&&decide (r.steps<=1099511627776))=false:=by simpa using h3
  have hr:zai r=false:=by simp only [zai,ze6,clkB,zcQ,h1,h2,h3,Bool.false_and,Bool.and_false]
  rw [hr]
  have F:=ai zaQ.eq_1<|ai h1<|ai h2<|h3
  repeat refine sg ?_
  refine cC (zad env r.chart 1 2147483647) ?_
  repeat refine sg ?_
  refine cC (zad env r.born 0 1099511627776) ?_
  repeat refine sg ?_
  refine cC (zad env r.steps 0 1099511627776) ?_
  repeat refine sg ?_
  refine oY (by simp only [go_sem,F]; exact iR) ?_
  repeat refine sg ?_
  exact aR
 have hh:ze6 r=true:=by simp only [ze6,clkB,zcQ,h1,h2,h3,Bool.true_and]
 by_cases h4:zak r.active=true
 case neg=>
  have h4:zak r.active=false:=by simpa using h4
  have hr:zai r=false:=by simp only [zai,h4,Bool.false_and,Bool.and_false]
  rw [hr]
  have F:=ai zaQ.eq_1<|ai h1<|ai h2<|ai h3<|h4
  repeat refine sg ?_
  refine cC (zad env r.chart 1 2147483647) ?_
  repeat refine sg ?_
  refine cC (zad env r.born 0 1099511627776) ?_
  repeat refine sg ?_
  refine cC (zad env r.steps 0 1099511627776) ?_
  repeat refine sg ?_
  refine cC (za3 env r.active l1) ?_
  repeat refine sg ?_
  refine oY (by simp only [go_sem,F]; exact iR) ?_
  repeat refine sg ?_
  exact aR
 by_cases h5:r.vars.length<=8
 case neg=>
  have g5:8< (r.vars.length:Int):=by omega
  have hr:zai r=false:=by simp only [zai,zdy,decide_eq_false h5,Bool.false_and,Bool.and_false]
  rw [hr]
  have F:=ai zaQ.eq_1<|ai h1<|ai h2<|ai h3<|ai h4<|g5
  repeat refine sg ?_
  refine cC (zad env r.chart 1 2147483647) ?_
  repeat refine sg ?_
  refine cC (zad env r.born 0 1099511627776) ?_
  repeat refine sg ?_
  refine cC (zad env r.steps 0 1099511627776) ?_
  repeat refine sg ?_
  refine cC (za3 env r.active l1) ?_
  repeat refine sg ?_
  refine oY (by simp only [go_sem,F]; exact iR) ?_
  repeat refine sg ?_
  exact aR
 have g5: ¬8< (r.vars.length:Int):=by omega
 by_cases h6:r.timers.length<=8
 case neg=>
  have g6:8< (r.timers.length:Int):=by omega
  have hr:zai r=false:=by simp only [zai,zaL,decide_eq_false h6,Bool.false_and,Bool.and_false]
  rw [hr]
  have F:=ai zaQ.eq_1<|ai h1<|ai h2<|ai h3<|ai h4<|ai g5<|g6
  repeat refine sg ?_
  refine cC (zad env r.chart 1 2147483647) ?_
  repeat refine sg ?_
  refine cC (zad env r.born 0 1099511627776) ?_
  repeat refine sg ?_
  refine cC (zad env r.steps 0 1099511627776) ?_
  repeat refine sg ?_
  refine cC (za3 env r.active l1) ?_
  repeat refine sg ?_
  refine oY (by simp only [go_sem,F]; exact iR) ?_
  repeat refine sg ?_
  exact aR
 have g6: ¬8< (r.timers.length:Int):=by omega
 have hr:zai r=(allB r.vars.length (zdu r.vars)&&(rmsB r.mem&&allB r.timers.length (tmAt r.timers))):=by
  simp only [zai,hh,h4,zdy,zaL,decide_eq_true h5,decide_eq_true h6,Bool.true_and,Bool.and_true,Bool.and_assoc]
 rw [hr]
 have F:=ai zaQ.eq_1<|ai h1<|ai h2<|ai h3<|ai h4<|ai g5<|g6
 repeat refine sg ?_
 refine cC (zad env r.chart 1 2147483647) ?_
 repeat refine sg ?_
 refine cC (zad env r.born 0 1099511627776) ?_
 repeat refine sg ?_
 refine cC (zad env r.steps 0 1099511627776) ?_
 repeat refine sg ?_
 refine cC (za3 env r.active l1) ?_
 repeat refine sg ?_
 refine oN (by simp only [go_sem,F]; exact iR) ?_
 repeat refine sg ?_
 try clear h1 h2 h3 h4 hh hr
 have F:=ai g5<|ai g6<|inAV.eq_1
 refine zac (D:=Nat) (fun i vs=>[(1, .loc 1 (vs 1) 0 0),(3, .loc 3 (vs 3) 0 0),(4,I i)]) (fun _ _=>[(3,⟨5,[inAV r],31,false⟩)]) (fun i _ _=>i<=r.vars.length/\ ∀j,j<i->zdu r.vars j=true) (fun i=>r.vars.length-i) 0 ?_ ?_ ?_ ?_
 ·exact⟨Nat.zero_le _,fun j hj=>by omega⟩
 ·(simp only [go_sem,F])
 ·(simp only [go_sem,F])
 rintro i vs esc ⟨hi,ha⟩
 by_cases hlt:i<r.vars.length
 ·have k1:=nlt hlt
  have k2:=zab hlt (by omega)
  obtain⟨x,hx⟩: ∃x,r.vars[i]? =some x:=⟨r.vars[i],List.getElem?_eq_getElem hlt⟩
  by_cases hb:(decide (-2147483647<=x)&&decide (x<=2147483647))=true
  ·have hv:zdu r.vars i=true:=by unfold zdu; rw [zaq hx]; exact hb
   have F:=ai inAV.eq_1<|ai k1<|ai k2<|ai hx<|hb
   repeat (first | refine oO rfl (by simp only [go_sem,intAV,F]; exact⟨rfl,rfl⟩) ?_ | refine gR ?_ | refine gO ?_ | refine oZ (zaA ?_) | refine oZ ?_ | refine oS ?_ | refine gT ?_ | refine gD Tryz.mixed ?_ | refine oB ?_ | refine oK ?_ | (refine oX ?_; simp only [zao,zag, ↓reduceIte,Nat.reduceEqDiff,reduceCtorEq]))
   refine oY (by simp only [go_sem,intAV,F]; exact iR) ?_
   repeat (first | refine oO rfl (by simp only [go_sem,intAV,F]; exact⟨rfl,rfl⟩) ?_ | refine gR ?_ | refine gO ?_ | refine oZ (zaA ?_) | refine oZ ?_ | refine oS ?_ | refine gT ?_ | refine gD Tryz.mixed ?_ | refine oB ?_ | refine oK ?_ | (refine oX ?_; simp only [zao,zag, ↓reduceIte,Nat.reduceEqDiff,reduceCtorEq]))
   refine oC rfl (zad env x (-2147483647) 2147483647) (by simp only [go_sem,intAV,F]; exact iR) (by simp only [go_sem,intAV,F]; exact⟨rfl,rfl⟩) ?_
   repeat (first | refine oO rfl (by simp only [go_sem,intAV,F]; exact⟨rfl,rfl⟩) ?_ | refine gR ?_ | refine gO ?_ | refine oZ (zaA ?_) | refine oZ ?_ | refine oS ?_ | refine gT ?_ | refine gD Tryz.mixed ?_ | refine oB ?_ | refine oK ?_ | (refine oX ?_; simp only [zao,zag, ↓reduceIte,Nat.reduceEqDiff,reduceCtorEq]))
   refine oN (by simp only [go_sem,intAV,F]; exact iR) ?_
   repeat (first | refine oO rfl (by simp only [go_sem,intAV,F]; exact⟨rfl,rfl⟩) ?_ | refine gR ?_ | refine gO ?_ | refine oZ (zaA ?_) | refine oZ ?_ | refine oS ?_ | refine gT ?_ | refine gD Tryz.mixed ?_ | refine oB ?_ | refine oK ?_ | (refine oX ?_; simp only [zao,zag, ↓reduceIte,Nat.reduceEqDiff,reduceCtorEq]))
   refine⟨i+1,⟨hlt,zbx ha hv⟩, ?_, ?_, ?_⟩
   ·(simp only [go_sem,intAV,F])
   ·(simp only [go_sem,intAV,F])
   ·omega
  ·have hb:(decide (-2147483647<=x)&&decide (x<=2147483647))=false:=by simpa using hb
   have hv:zdu r.vars i=false:=by unfold zdu; rw [zaq hx]; exact hb
   rw [zav hlt hv,Bool.false_and]
   have F:=ai inAV.eq_1<|ai k1<|ai k2<|ai hx<|hb
   repeat (first | refine oO rfl (by simp only [go_sem,intAV,F]; exact⟨rfl,rfl⟩) ?_ | refine gR ?_ | refine gO ?_ | refine oZ (zaA ?_) | refine oZ ?_ | refine oS ?_ | refine gT ?_ | refine gD Tryz.mixed ?_ | refine oB ?_ | refine oK ?_ | (refine oX ?_; simp only [zao,zag, ↓reduceIte,Nat.reduceEqDiff,reduceCtorEq]))
   refine oY (by simp only [go_sem,intAV,F]; exact iR) ?_
   repeat (first | refine oO rfl (by simp only [go_sem,intAV,F]; exact⟨rfl,rfl⟩) ?_ | refine gR ?_ | refine gO ?_ | refine oZ (zaA ?_) | refine oZ ?_ | refine oS ?_ | refine gT ?_ | refine gD Tryz.mixed ?_ | refine oB ?_ | refine oK ?_ | (refine oX ?_; simp only [zao,zag, ↓reduceIte,Nat.reduceEqDiff,reduceCtorEq]))
   refine oC rfl (zad env x (-2147483647) 2147483647) (by simp only [go_sem,intAV,F]; exact iR) (by simp only [go_sem,intAV,F]; exact⟨rfl,rfl⟩) ?_
   repeat (first | refine oO rfl (by simp only [go_sem,intAV,F]; exact⟨rfl,rfl⟩) ?_ | refine gR ?_ | refine gO ?_ | refine oZ (zaA ?_) | refine oZ ?_ | refine oS ?_ | refine gT ?_ | refine gD Tryz.mixed ?_ | refine oB ?_ | refine oK ?_ | (refine oX ?_; simp only [zao,zag, ↓reduceIte,Nat.reduceEqDiff,reduceCtorEq]))
   refine oY (by simp only [go_sem,intAV,F]; exact iR) ?_
   repeat (first | refine oO rfl (by simp only [go_sem,intAV,F]; exact⟨rfl,rfl⟩) ?_ | refine gR ?_ | refine gO ?_ | refine oZ (zaA ?_) | refine oZ ?_ | refine oS ?_ | refine gT ?_ | refine gD Tryz.mixed ?_ | refine oB ?_ | refine oK ?_ | (refine oX ?_; simp only [zao,zag, ↓reduceIte,Nat.reduceEqDiff,reduceCtorEq]))
   (refine zah ?_; show (zaG _ _ _).run _=some _; simp only [go_sem,intAV,F])
 have k1: ¬(i:Int)< (r.vars.length:Int):=by omega
 rw [zaZ (n:=r.vars.length) fun j hj=>ha j (by omega),Bool.true_and]
 have F:=ai inAV.eq_1<|k1
 repeat refine sg ?_
 refine oN (by simp only [go_sem,F]; exact iR) ?_
 repeat refine sg ?_
 try clear ha hi hlt k1
 have F:=ai g5<|ai g6<|inAV.eq_1
 refine zac (D:=Nat) (fun i vs=>[(1, .loc 1 (vs 1) 0 0),(3, .loc 3 (vs 3) 0 0),(5,I i)]) (fun _ _=>[(3,⟨5,[inAV r],31,false⟩)]) (fun i _ _=>i<=r.mem.length/\ ∀j,j<i->rmAt r.mem j=true) (fun i=>r.mem.length-i) 0 ?_ ?_ ?_ ?_
 ·exact⟨Nat.zero_le _,fun j hj=>by omega⟩
 ·(simp only [go_sem,F])
 ·(simp only [go_sem,F])
 rintro i vs esc ⟨hi,ha⟩
 by_cases hlt:i<r.mem.length
 ·have k1:=nlt hlt
  have k2:=zab hlt (by omega)
  obtain⟨x,hx⟩: ∃x,r.mem[i]? =some x:=⟨r.mem[i],List.getElem?_eq_getElem hlt⟩
  have hst:=l5 x (zmg hx)
  by_cases hb:(decide (0<=x.1)&&decide (x.1<=31))=true
  case neg=>
   have hb:(decide (0<=x.1)&&decide (x.1<=31))=false:=by simpa using hb
   have hv:rmAt r.mem i=false:=by unfold rmAt; rw [zaq hx,hb]; rfl
   rw [rmsB,zav hlt hv,Bool.false_and]
   have F:=ai inAV.eq_1<|ai k1<|ai k2<|ai hx<|ai hb<|mmAV.eq_1
   repeat refine sg ?_
   refine oY (by simp only [go_sem,F]; exact iR) ?_
   repeat refine sg ?_
   refine cC (zad env x.1 0 31) ?_
   repeat refine sg ?_
   refine oY (by simp only [go_sem,F]; exact iR) ?_
   repeat refine sg ?_
   exact aR
  by_cases hs:zak x.2=true
  case neg=>
   have hs:zak x.2=false:=by simpa using hs
   have hv:rmAt r.mem i=false:=by unfold rmAt; rw [zaq hx,hb,hs]; rfl
   rw [rmsB,zav hlt hv,Bool.false_and]
   have F:=ai inAV.eq_1<|ai k1<|ai k2<|ai hx<|ai hb<|ai mmAV.eq_1<|hs
   repeat refine sg ?_
   refine oY (by simp only [go_sem,F]; exact iR) ?_
   repeat refine sg ?_
   refine cC (zad env x.1 0 31) ?_
   repeat refine sg ?_
   refine cC (za3 env x.2 hst) ?_
   repeat refine sg ?_
   refine oY (by simp only [go_sem,F]; exact iR) ?_
   repeat refine sg ?_
   exact aR
  by_cases h0:i=0
  ·have hv:rmAt r.mem i=true:=by unfold rmAt; rw [zaq hx,hb,hs,decide_eq_true h0]; rfl
   have k3: ¬(0:Int)< (i:Int):=by omega
   have F:=ai inAV.eq_1<|ai k1<|ai k2<|ai hx<|ai hb<|ai mmAV.eq_1<|ai hs<|k3
   repeat refine sg ?_
   refine oY (by simp only [go_sem,F]; exact iR) ?_
   repeat refine sg ?_
   refine cC (zad env x.1 0 31) ?_
   repeat refine sg ?_
   refine cC (za3 env x.2 hst) ?_
   repeat refine sg ?_
   refine oN (by simp only [go_sem,F]; exact iR) ?_
   repeat refine sg ?_
   refine⟨i+1,⟨hlt,zbx ha hv⟩, ?_, ?_, ?_⟩
   ·(simp only [go_sem,F])
   ·(simp only [go_sem,F])
   ·omega
  have k3:(0:Int)< (i:Int):=by omega
  have k4:IntKind.i64.wrap ((i:Int)-1)=((i-1:Nat):Int):=i64m i 1 (by omega) (by omega)
  have k5:((i-1:Nat):Int)< (r.mem.length:Int):=by omega
  obtain⟨y,hy⟩: ∃y,r.mem[i-1]? =some y:=⟨r.mem[i-1],List.getElem?_eq_getElem (by omega)⟩
  have hv:rmAt r.mem i=decide (y.1<x.1):=by unfold rmAt; rw [zaq hx,zaq hy,hb,hs,decide_eq_false h0]; rfl
  by_cases hc:x.1<=y.1
  ·rw [rmsB,zav hlt (by rw [hv,decide_eq_false (by omega)]),Bool.false_and]
   have F:=ai inAV.eq_1<|ai k1<|ai k2<|ai hx<|ai hb<|ai mmAV.eq_1<|ai hs<|ai k3<|ai k4<|ai k5<|ai hy<|hc
   repeat refine sg ?_
   refine oY (by simp only [go_sem,F]; exact iR) ?_
   repeat refine sg ?_
   refine cC (zad env x.1 0 31) ?_
   repeat refine sg ?_
   refine cC (za3 env x.2 hst) ?_
   repeat refine sg ?_
   refine oY (by simp only [go_sem,F]; exact iR) ?_
   repeat refine sg ?_
   exact aR
  ·
   have F:=ai inAV.eq_1<|ai k1<|ai k2<|ai hx<|ai hb<|ai mmAV.eq_1<|ai hs<|ai k3<|ai k4<|ai k5<|ai hy<|hc
   repeat refine sg ?_
   refine oY (by simp only [go_sem,F]; exact iR) ?_
   repeat refine sg ?_
   refine cC (zad env x.1 0 31) ?_
   repeat refine sg ?_
   refine cC (za3 env x.2 hst) ?_
   repeat refine sg ?_
   refine oN (by simp only [go_sem,F]; exact iR) ?_
   repeat refine sg ?_
   refine⟨i+1,⟨hlt,zbx ha (by rw [hv,decide_eq_true (by omega)])⟩, ?_, ?_, ?_⟩
   ·(simp only [go_sem,F])
   ·(simp only [go_sem,F])
   ·omega
 have k1: ¬(i:Int)< (r.mem.length:Int):=by omega
 rw [rmsB,zaZ (n:=r.mem.length) fun j hj=>ha j (by omega),Bool.true_and]
 have F:=ai inAV.eq_1<|k1
 repeat refine sg ?_
 refine oN (by simp only [go_sem,F]; exact iR) ?_
 repeat refine sg ?_
 try clear ha hi hlt k1
 have F:=ai g5<|ai g6<|inAV.eq_1
 refine zac (D:=Nat) (fun i vs=>[(1, .loc 1 (vs 1) 0 0),(3, .loc 3 (vs 3) 0 0),(6,I i)]) (fun _ _=>[(3,⟨5,[inAV r],31,false⟩)]) (fun i _ _=>i<=r.timers.length/\ ∀j,j<i->tmAt r.timers j=true) (fun i=>r.timers.length-i) 0 ?_ ?_ ?_ ?_
 ·exact⟨Nat.zero_le _,fun j hj=>by omega⟩
 ·(simp only [go_sem,F])
 ·(simp only [go_sem,F])
 rintro i vs esc ⟨hi,ha⟩
 by_cases hlt:i<r.timers.length
 ·have k1:=nlt hlt
  have k2:=zab hlt (by omega)
  obtain⟨x,hx⟩: ∃x,r.timers[i]? =some x:=⟨r.timers[i],List.getElem?_eq_getElem hlt⟩
  by_cases hb:zaC x.1=true
  case neg=>
   have hb:zaC x.1=false:=by simpa using hb
   have hv:tmAt r.timers i=false:=by unfold tmAt; rw [zaq hx,hb]; rfl
   rw [zav hlt hv]
   have F:=ai inAV.eq_1<|ai k1<|ai k2<|ai hx<|ai hb<|tmAV.eq_1
   repeat refine sg ?_
   refine oY (by simp only [go_sem,F]; exact iR) ?_
   repeat refine sg ?_
   refine cC (zaX env x.1) ?_
   repeat refine sg ?_
   refine oY (by simp only [go_sem,F]; exact iR) ?_
   repeat refine sg ?_
   exact aR
  by_cases hs:(decide (0<=x.2)&&decide (x.2<=1099511627776))=true
  case neg=>
   have hs:(decide (0<=x.2)&&decide (x.2<=1099511627776))=false:=by simpa using hs
   have hv:tmAt r.timers i=false:=by unfold tmAt clkB; rw [zaq hx,hb,zcQ,hs]; rfl
   rw [zav hlt hv]
   have F:=ai inAV.eq_1<|ai k1<|ai k2<|ai hx<|ai hb<|ai tmAV.eq_1<|hs
   repeat refine sg ?_
   refine oY (by simp only [go_sem,F]; exact iR) ?_
   repeat refine sg ?_
   refine cC (zaX env x.1) ?_
   repeat refine sg ?_
   refine cC (zad env x.2 0 1099511627776) ?_
   repeat refine sg ?_
   refine oY (by simp only [go_sem,F]; exact iR) ?_
   repeat refine sg ?_
   exact aR
  by_cases h0:i=0
  ·have hv:tmAt r.timers i=true:=by unfold tmAt clkB; rw [zaq hx,hb,zcQ,hs,decide_eq_true h0]; rfl
   have k3: ¬(0:Int)< (i:Int):=by omega
   have F:=ai inAV.eq_1<|ai k1<|ai k2<|ai hx<|ai hb<|ai tmAV.eq_1<|ai hs<|k3
   repeat refine sg ?_
   refine oY (by simp only [go_sem,F]; exact iR) ?_
   repeat refine sg ?_
   refine cC (zaX env x.1) ?_
   repeat refine sg ?_
   refine cC (zad env x.2 0 1099511627776) ?_
   repeat refine sg ?_
   refine oN (by simp only [go_sem,F]; exact iR) ?_
   repeat refine sg ?_
   refine⟨i+1,⟨hlt,zbx ha hv⟩, ?_, ?_, ?_⟩
   ·(simp only [go_sem,F])
   ·(simp only [go_sem,F])
   ·omega
  have k3:(0:Int)< (i:Int):=by omega
  have k4:IntKind.i64.wrap ((i:Int)-1)=((i-1:Nat):Int):=i64m i 1 (by omega) (by omega)
  have k5:((i-1:Nat):Int)< (r.timers.length:Int):=by omega
  obtain⟨y,hy⟩: ∃y,r.timers[i-1]? =some y:=⟨r.timers[i-1],List.getElem?_eq_getElem (by omega)⟩
  have hv:tmAt r.timers i= !(Op.bytesLess x.1 y.1||x.1==y.1):=by unfold tmAt clkB; rw [zaq hx,zaq hy,hb,zcQ,hs,decide_eq_false h0,zdU]; rfl
  by_cases hc:(Op.bytesLess x.1 y.1||x.1==y.1)=true
  ·rw [zav hlt (by rw [hv,hc]; rfl)]
   have F:=ai inAV.eq_1<|ai k1<|ai k2<|ai hx<|ai hb<|ai tmAV.eq_1<|ai hs<|ai k3<|ai k4<|ai k5<|ai hy<|hc
   repeat refine sg ?_
   refine oY (by simp only [go_sem,F]; exact iR) ?_
   repeat refine sg ?_
   refine cC (zaX env x.1) ?_
   repeat refine sg ?_
   refine cC (zad env x.2 0 1099511627776) ?_
   repeat refine sg ?_
   refine oY (by simp only [go_sem,F]; exact iR) ?_
   repeat refine sg ?_
   exact aR
  ·have hc:(Op.bytesLess x.1 y.1||x.1==y.1)=false:=by simpa using hc
   have F:=ai inAV.eq_1<|ai k1<|ai k2<|ai hx<|ai hb<|ai tmAV.eq_1<|ai hs<|ai k3<|ai k4<|ai k5<|ai hy<|hc
   repeat refine sg ?_
   refine oY (by simp only [go_sem,F]; exact iR) ?_
   repeat refine sg ?_
   refine cC (zaX env x.1) ?_
   repeat refine sg ?_
   refine cC (zad env x.2 0 1099511627776) ?_
   repeat refine sg ?_
   refine oN (by simp only [go_sem,F]; exact iR) ?_
   repeat refine sg ?_
   refine⟨i+1,⟨hlt,zbx ha (by rw [hv,hc]; rfl)⟩, ?_, ?_, ?_⟩
   ·(simp only [go_sem,F])
   ·(simp only [go_sem,F])
   ·omega
 have k1: ¬(i:Int)< (r.timers.length:Int):=by omega
 rw [zaZ (n:=r.timers.length) fun j hj=>ha j (by omega)]
 have F:=ai inAV.eq_1<|k1
 repeat refine sg ?_
 refine oN (by simp only [go_sem,F]; exact iR) ?_
 repeat refine sg ?_
 exact aR
end

end Go.Proofs.YtnbjaghjdeicmaaGreatDoor