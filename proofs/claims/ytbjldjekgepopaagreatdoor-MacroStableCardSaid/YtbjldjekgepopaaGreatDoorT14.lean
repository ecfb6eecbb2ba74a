/- slices.BinarySearch at strings. -/
import Derived.Test.YtbjldjekgepopaaGreatDoorT13
set_option maxRecDepth 100000
set_option maxHeartbeats 8000000
set_option linter.unusedSimpArgs false
namespace Go.Proofs.YtbjldjekgepopaaGreatDoor
open Go.Proofs.Tryz
section
open Go.RowKit
/-! Rising lists -/
def upB (l:List Int) (j:Nat):Bool:=(j==0)||decide (l.getD (j-1) 0<l.getD j 0)
def ij (l:List Int) (j:Nat):Bool:=(j==0)||decide (¬l.getD j 0<l.getD (j-1) 0)
def fP (l:List Int):Bool:= !l.isEmpty&&(List.range l.length).all (upB l)
def ia (l:List Int):Bool:=(List.range l.length).all (ij l)
theorem zh (l:List Int) (j:Nat) (hj:j<l.length):Lib.keeps l.toArray j=((j==0)||decide (l.getD j 0≠l.getD (j-1) 0)):=by
 unfold Lib.keeps
 have e: ∀k,k<l.length->l.toArray[k]! =l.getD k 0:=fun k hk=>by
  rw[Mw _ k (by simpa using hk),Ko,KV hk];simp
 rw[e j hj,e (j-1) (by omega)];by_cases h:j=0<;>simp[h]
theorem yf (l:List Int):(Lib.compact l).length=l.length↔ ∀j,j<l.length->Lib.keeps l.toArray j=true:=by
 unfold Lib.compact Lib.compactUpTo;rw[Kl]
 conv=>lhs;rhs;rw[<-OH (n:=l.length)]
 rw[List.length_filter_eq_length_iff];simp
theorem IQ (l:List Int):(!l.isEmpty&&ia l&&decide ((Lib.compact l).length=l.length))=fP l:=by
 unfold fP ia;rw[Od]
 congr 1
 rw[LD,KY,K6,yf,K2,K2];simp only[Kr];constructor
 ·rintro⟨h1,h2⟩ j hj;have a:=h1 j hj;have b:=h2 j hj;rw[zh l j hj]at b;unfold upB;unfold ij at a;by_cases h0:j=0
  ·simp[h0]
  ·simp[h0]at a b |-;omega
 ·intro h;refine⟨fun j hj=> ?_,fun j hj=> ?_⟩
  ·have a:=h j hj;unfold upB at a;unfold ij;by_cases h0:j=0
   ·simp[h0]
   ·simp[h0]at a |-;omega
  ·have a:=h j hj;rw[zh l j hj];unfold upB at a;by_cases h0:j=0
   ·simp[h0]
   ·simp[h0]at a |-;omega
theorem j5 {l:List Int} (h:fP l=true):l.Nodup:=by
 unfold fP at h;rw[KY,K2]at h
 have key: ∀i d,i+d+1<l.length->l.getD i 0<l.getD (i+d+1) 0:=fun i d=>by
  induction d with
  | zero=>
    intro hd;have:=h.2 (i+1) (Kr.2 (by omega));unfold upB at this;simpa using this
  | succ d ih=>
    intro hd;have h1:=ih (by omega);have:=h.2 (i+d+1+1) (Kr.2 (by omega));unfold upB at this;have h2:l.getD (i+d+1) 0<l.getD (i+d+1+1) 0:=by simpa using this
    rw[show i+(d+1)+1=i+d+1+1 by omega];omega
 rw[MB,LH];intro i j hi hj hij e;have:=key i (j-i-1) (by omega);rw[show i+(j-i-1)+1=j by omega]at this;simp[Ko,KV hi,KV hj,e]at this
/-! Deep memories -/
def cH (c:ChD) (l:List Int) (i:Int):Bool:=match at_ c i with
 |some s=> !(((s.kind==1)&&decide (1<manyI l (kidsL c i true)))||((s.kind==4)||(s.kind==5)))
 |none=>false
def d9 (c:ChD) (parent i:Int):Bool:=aboveB c parent i&&(kidsL c i true).isEmpty
def deepA (c:ChD) (parent:Int) (l:List Int):List Int:=upsL c l parent++[parent]
def deepB (c:ChD) (parent:Int) (l:List Int):Bool:=fP l&&l.all (d9 c parent)&&decide ((growL c (deepA c parent l)).length=(deepA c parent l).length)&&(growL c (deepA c parent l)).all (cH c (growL c (deepA c parent l)))
def cY (c:ChD) (parent i:Int):Bool:=aboveB c parent i&&(match at_ c i with|some s=> !aS s|none=>false)&&(kidsL c i true).isEmpty
def cZ (c:ChD) (l:List Int) (i:Int):Bool:=match at_ c i with
 |some s=> !(((s.kind==1)&&decide (manyI l (kidsL c i true)≠min (kidsL c i true).length 1))||((s.kind==2)&&decide (manyI l (kidsL c i true)≠(kidsL c i true).length)))
 |none=>false
def deepRA (c:ChD) (parent:Int) (l:List Int):List Int:=zL (pathL c l parent)++[parent]
def rz (c:ChD) (parent:Int) (l:List Int):Bool:=fP l&&l.all (cY c parent)&&(deepRA c parent l).all (cZ c (deepRA c parent l))
theorem vC (c:ChD): ∀(f:Nat) (l t:List Int),∃a,iP c f l t=l++a
 |0,l,t=>⟨[],by simp[iP]⟩
 |f+1,l,[]=>⟨[],by simp[iP]⟩
 | f+1,l,i::r=>by
   obtain⟨a,e⟩:=vC c f (l++im c l i) (r++im c l i);exact⟨im c l i++a,by unfold iP;rw[e,LV]⟩
theorem kA (c:ChD): ∀(f:Nat) (l t:List Int),l.Nodup->(iP c f l t).Nodup
 |0,l,t,h=>h
 |f+1,l,[],h=>h
 | f+1,l,i::r,h=>by
   unfold iP;refine kA c f _ _ ?_;rw[ML];refine⟨h,ej c l i,fun x hx y hy e=> ?_⟩;subst e;have:=(Kb.1 hy).2;simp[hx]at this
theorem FK {c:ChD} (h:Full c) {l:List Int} (hn:l.Nodup):(growL c l).length=l.length↔ ∀x,Gr c l x->x∈l:=by
 obtain⟨a,e⟩:=vC c (missL c l+l.length) l l;have e:growL c l=l++a:=e;constructor
 ·intro hl x hx;have:a=[]:=LJ (by rw[e,K4]at hl;omega);rw[this,Lm]at e;rw[<-e];exact(fX h hn).2 hx
 ·intro hx;have h1:=(kA c (missL c l+l.length) l l hn).length_le_of_subset (l₂:=l) fun x hh=>hx x ((fX h hn).1 hh);have h1:(growL c l).length<=l.length:=h1;rw[e,K4]at h1 |-;omega
theorem gW {l l':List Int} (h: ∀x,x∈l↔x∈l') (ks:List Nat):manyI l ks=manyI l' ks:=by
 unfold manyI
 congr 1
 apply MZ;intro k _;rw[LD,K3,K3];exact h _
theorem qZ {c:ChD} (h:Full c): ∀(n:Nat) (i k:Int),i<n->k∈upL c i->0<=k->al c k=true
 | 0,i,k,hn,hk,h0=>by
   cases hh:inZ c i with
   |true=>have:=aI.1 hh;omega
   |false=>rw[cE hh]at hk;simp at hk
 | n+1,i,k,hn,hk,h0=>by
   cases hh:inZ c i with
   |false=>rw[cE hh]at hk;simp at hk
   | true=>
     rw[cQ h.toRight hh]at hk;have hp:=dH h.toRight hh;rcases hk with rfl|hk
     ·obtain⟨j,s,rfl,hs,_⟩:=dD hh;have:=h.st j s hs;simp only[bq,KY]at this;have:=this.1.1.1.2;rw[dh hs]at h0 |-;simp only[cc,Lb,KY,LW]at this;rcases this with e|⟨_,e⟩
      ·omega
      ·exact e
     ·exact qZ h n _ k (by omega) hk h0
theorem gK {c:ChD} {i:Int} (h:al c i=true): ∃s,at_ c i=some s/\(s.kind=1\/s.kind=2):=by
 unfold al at h;split at h
 ·rename_i s hs;refine⟨s,hs,?_⟩;unfold dw at h;simpa using h
 ·cases h
theorem kS {c:ChD} (h:Full c) {i:Int} {s:StD} (hs:at_ c i=some s):(s.kind=1/\(kidsL c i true=[]\/(0<=lF c i/\lF c i∈kidZ c i)))\/(s.kind=2/\kidsL c i true≠[])\/(s.kind=3/\kidsL c i true=[])\/((s.kind=4\/s.kind=5)/\kidsL c i true=[]):=by
 have hz:0<=i:=by
  unfold at_ at hs;split at hs
  ·assumption
  ·cases hs
 obtain⟨k,rfl⟩: ∃k:Nat,i=k:=⟨i.toNat,by omega⟩;have he:lF c (k:Int)=s.initial:=by unfold lF;rw[hs]
 rw[bH]at hs;rcases h.cases hs with⟨e,⟨e2,_⟩|⟨j,hj,e2⟩⟩|⟨e,_,e2,_⟩|⟨e,e2,_⟩|⟨e,e2,_⟩
 ·exact .inl ⟨e, .inl e2⟩
 ·exact .inl ⟨e, .inr (by rw[he,e2];exact⟨by omega,K9.2 ⟨j,hj,rfl⟩⟩)⟩
 ·exact .inr (.inl ⟨e,e2⟩)
 ·exact .inr (.inr (.inl ⟨e,rH e2⟩))
 ·exact .inr (.inr (.inr ⟨e,rH e2⟩))
theorem bc {c:ChD} {i:Int} {s:StD} (hs:at_ c i=some s):av c i=(s.kind==1):=by unfold av;rw[hs]
theorem jS {l:List Int} {ks:List Nat} :manyI l ks=ks.length↔ ∀k∈zL ks,k∈l:=by
 unfold manyI;rw[List.length_filter_eq_length_iff];constructor
 ·intro h k hk;obtain⟨j,hj,rfl⟩:=K9.1 hk;simpa using h j hj
 ·intro h k hk;simpa using h k (K9.2 ⟨k,hk,rfl⟩)
theorem og {c:ChD} (h:Full c) {parent:Int} (hp:al c parent=true) (l:List Int):deepB c parent l=rz c parent l:=by
 unfold deepB rz;cases hr:fP l with
 |false=>rfl
 |true=>
 simp only[LK];by_cases hleaf:l.all (d9 c parent)=true
 ·rw[hleaf,LK]
  have hz: ∀x∈l,aboveB c parent x=true/\kidsL c x true=[]/\inZ c x=true:=fun x hx=>by
   have:=K2.1 hleaf x hx;unfold d9 at this;rw[KY]at this;refine⟨this.1,by simpa using this.2,?_⟩;cases hh:inZ c x with
   |true=>rfl
   | false=>
     have:=this.1;unfold aboveB at this;rw[cE hh]at this;simp at this
  obtain⟨sp,hsp,hk12⟩:=gK hp
  have hp0:0<=parent:=by
   unfold at_ at hsp;split at hsp
   ·assumption
   ·cases hsp
  obtain⟨un,um⟩:=iV (c:=c) (d:=parent) (l:=l)
  have habove: ∀x∈upsL c l parent,aboveB c parent x=true:=fun x hx=>by
   rcases (um x).1 hx with hx|⟨_,_,_,_,hx⟩
   ·exact(hz x hx).1
   ·exact hx
  have hnp:parent∉upsL c l parent:=fun hh=>by
   have:=habove _ hh;unfold aboveB at this;have:=(jg h.toRight 40 parent parent (K3.1 this)).2;omega
  have hnd:(deepA c parent l).Nodup:=by
   unfold deepA;rw[ML];refine⟨un,by simp,fun x hx y hy e=> ?_⟩;rw[Km.1 hy]at e;rw[e]at hx;exact hnp hx
  have hmem: ∀x,x∈deepRA c parent l↔x∈deepA c parent l:=fun x=>by
   unfold deepRA deepA;rw[Kt,Kt,sZ h.toRight fun x hx=>(hz x hx).2.2]
  have hin: ∀x∈deepA c parent l,x∈l\/al c x=true:=fun x hx=>by
   rcases Kt.1 hx with hx|hx
   ·rcases (um x).1 hx with hx|⟨i,_,h1,h2,_⟩
    ·exact .inl hx
    ·exact .inr (qZ h 40 i x (by
      cases hh:inZ c i with
      |true=>have:=aI.1 hh;have:=h.few;omega
      |false=>rw[cE hh]at h1;simp at h1) h1 h2)
   ·rw[Km.1 hx];exact .inr hp
  have hla: ∀x∈l,x∈deepA c parent l:=fun x hx=>LR _ ((um x).2 (.inl hx))
  have hat: ∀x∈deepA c parent l,∃s,at_ c x=some s:=fun x hx=>by
   rcases hin x hx with hx|hx
   ·obtain⟨_,s,_,_,e⟩:=dD (hz x hx).2.2;exact⟨s,e⟩
   ·obtain⟨s,e,_⟩:=gK hx;exact⟨s,e⟩
  rw[LD,KY,K6,FK h hnd,KY];constructor
  ·rintro⟨hc,hcl⟩
   have gm: ∀x,x∈growL c (deepA c parent l)↔x∈deepA c parent l:=fun x=>by
    rw[fX h hnd];exact⟨hc x, .base⟩
   have hcl: ∀x∈deepA c parent l,cH c (deepA c parent l) x=true:=fun x hx=>by
    have:=K2.1 hcl x ((gm x).2 hx);unfold cH at this |-;obtain⟨s,hs⟩:=hat x hx;rw[hs]at this |-;rw[gW gm]at this;exact this
   refine⟨K2.2 fun x hx=> ?_,K2.2 fun x hx=> ?_⟩
   ·have:=hcl x (hla x hx);unfold cH at this;unfold cY;obtain⟨s,hs⟩:=hat x (hla x hx);rw[hs]at this |-;simp only at this |-;rw[(hz x hx).1,(hz x hx).2.1];unfold aS;simp only[Bool.not_or,KY]at this;simp[this.2.1,this.2.2]at*
   ·have hx:=(hmem x).1 hx;obtain⟨s,hs⟩:=hat x hx;have h1:=hcl x hx;unfold cH at h1;unfold cZ;rw[hs]at h1 |-;simp only at h1 |-;rw[gW hmem];rcases kS h hs with⟨e,e2⟩|⟨e,e2⟩|⟨e,e2⟩|⟨e,e2⟩
    ·have hle:manyI (deepA c parent l) (kidsL c x true)<=1:=by
      rw[e]at h1;simp at h1;exact h1
     have:manyI (deepA c parent l) (kidsL c x true)=min (kidsL c x true).length 1:=by
      rcases e2 with e2|⟨e2,e3⟩
      ·rw[e2];rfl
      ·have hlen:0< (kidsL c x true).length:=by
        cases hq:kidsL c x true with
        |nil=>rw[kidZ,hq]at e3;simp at e3
        |cons=>simp
       have hpos:manyI (deepA c parent l) (kidsL c x true)≠0:=fun h0=>by
        have hno:=kX.1 h0;exact hno _ e3 (hc _ (.ini (.base hx) (by rw[bc hs,e];rfl) hno e2))
       omega
     simp[e,this]
    ·have:manyI (deepA c parent l) (kidsL c x true)=(kidsL c x true).length:=jS.2 fun k hk=>hc k (.par (.base hx) (by rw[bc hs,e];rfl) hk);simp[e,this]
    ·simp[e]
    ·rcases e with e|e<;>simp[e]
  ·rintro⟨hl2,hcd⟩
   have hcd: ∀x∈deepA c parent l,cZ c (deepA c parent l) x=true:=fun x hx=>by
    have:=K2.1 hcd x ((hmem x).2 hx);unfold cZ at this |-;obtain⟨s,hs⟩:=hat x hx;rw[hs]at this |-;rw[gW hmem]at this;exact this
   have hgr: ∀x,Gr c (deepA c parent l) x->x∈deepA c parent l:=fun x g=>by
    induction g with
    |base h=>exact h
    | ini g hpp hn h0 ih=>
      rename_i p
      exfalso
      obtain⟨s,hs⟩:=hat p ih;have h1:=hcd p ih;unfold cZ at h1;rw[hs]at h1;rw[bc hs]at hpp;have hk:s.kind=1:=by simpa using hpp
      have hini:=kQ h (by rw[bc hs,hk];rfl) h0
      have hlen:0< (kidsL c p true).length:=by
       cases hq:kidsL c p true with
       |nil=>rw[kidZ,hq]at hini;simp at hini
       |cons=>simp
      have h0:=kX.2 hn;simp only[hk,h0]at h1;simp at h1;omega
    | par g hpp hk ih=>
      rename_i p k;obtain⟨s,hs⟩:=hat p ih;have h1:=hcd p ih;unfold cZ at h1;rw[hs]at h1;rw[bc hs]at hpp;rcases kS h hs with⟨e,_⟩|⟨e,_⟩|⟨_,e⟩|⟨_,e⟩
      ·rw[e]at hpp;cases hpp
      ·simp[e]at h1;exact jS.1 h1 k hk
      ·rw[kidZ,e]at hk;simp at hk
      ·rw[kidZ,e]at hk;simp at hk
   have gm: ∀x,x∈growL c (deepA c parent l)↔x∈deepA c parent l:=fun x=>by
    rw[fX h hnd];exact⟨hgr x, .base⟩
   refine⟨hgr,K2.2 fun x hx=> ?_⟩;have hx:=(gm x).1 hx;obtain⟨s,hs⟩:=hat x hx;have h1:=hcd x hx;unfold cZ at h1;unfold cH;rw[hs]at h1 |-;simp only at h1 |-;rw[gW gm]
   have hk45:s.kind≠4/\s.kind≠5:=by
    rcases hin x hx with hx|hx
    ·have:=K2.1 hl2 x hx;unfold cY at this;rw[hs]at this;simp only[aS,KY,Bool.not_or]at this;have:=this.1.2;exact⟨by simpa using this.1,by simpa using this.2⟩
    ·obtain⟨s',e,e2⟩:=gK hx;rw[hs]at e;cases e;omega
   have hle:s.kind=1->manyI (deepA c parent l) (kidsL c x true)<=1:=fun e=>by
    simp[e]at h1;omega
   by_cases e:s.kind=1
   ·have:=hle e;simp[e];omega
   ·simp[e,hk45.1,hk45.2]
 ·have hleaf:l.all (d9 c parent)=false:=by simpa using hleaf
  rw[hleaf]
  have:l.all (cY c parent)=false:=by
   rw[M9]at hleaf |-;obtain⟨x,hx,e⟩:=hleaf;refine⟨x,hx,fun hh=>e ?_⟩;unfold cY at hh;unfold d9;simp only[KY]at hh |-;exact⟨hh.1.1,hh.2⟩
  rw[this];rfl
/-! Memories -/
abbrev MemD:=Int×List Int
def kP (c:ChD) (m:MemD):Bool:=match at_ c m.1 with
 |some s=>if s.kind=4 then decide (m.2.length=1)&&(kidZ c s.parent).contains (m.2.getD 0 0) else(s.kind==5)&&deepB c s.parent m.2
 |none=>false
def ll (c:ChD) (l:List MemD) (j:Nat):Bool:=match l[j]? with
 |some m=>kP c m&&((j==0)||decide ((l.getD (j-1) (0,[])).1<m.1))
 |none=>true
def bY (c:ChD) (l:List MemD):Bool:=(List.range l.length).all (ll c l)
end
section
open Go.RowKit Go.ChangeShapes Go.WideShapes Go.ChangeAt
def mmAV (m:MemD):List AV:=[I m.1, .seq 1 (m.2.map intAV)]
def Hk (m:MemD):Prop:=m.2.length<=maxLen
theorem Cc:prog.cellsOf 27=1:=by kernel_rfl
theorem JP:prog.cellsOf 162=2:=by kernel_rfl
section
variable {H:Type} {enc:TypeId×Value->H} {w:World} {base:Nat} {spare:Nat->Bool} {held:Bool}
theorem open_int1 (m:Nat) (cs:List Value) (y:DataW H×List MemPlace) (h:DataW.trod enc prog w base spare held m 3 cs=some y): ∃a:Int,RE w intAV (fun _=>True) cs a:=by
 obtain⟨n,rfl, -, -⟩:=Lr Tryz.underlying3 h;exact⟨n,⟨⟨rfl, .lit _⟩,trivial⟩,trivial⟩
theorem RVs.app {S:Nat->Nat->Prop} {w:World} : ∀ {vs us:List Value} {cs ds:List AV},RVs S w vs cs->RVs S w us ds->RVs S w (vs++us) (cs++ds)
 |[],_,[],_,_,h=>h
 |_::_,_,_::_,_,h1,h2=>⟨h1.1,RVs.app h1.2 h2⟩
end
end
section
open Go.RowKit
theorem KP (a b:Nat) (h:b<=a) (h':a<9223372036854775808):IntKind.i64.wrap ((a:Int)-(b:Int))=((a-b:Nat):Int):=by rw[ae (by omega) (by omega)];omega
abbrev ints34 (l:List Int):AV:= .seq 1 (l.map intAV)
def tmAV (t:List UInt8×Int):List AV:=[Sg t.1,I t.2]
def iF (r:Rc):List AV:=[ints34 r.active,ints34 r.vars, .seq 2 (r.mem.map mmAV), .seq 2 (r.timers.map tmAV),B r.over]
theorem dn {α:Type} {l:List α} {i:Nat} {x d:α} (h:l[i]? =some x):l.getD i d=x:=by rw[Ko,h];rfl
theorem J7 {α:Type} {l:List α} {i:Nat} {x:α} (h:l[i]? =some x):x∈l:=K1 h
theorem sM {i:Nat} {f:Nat->Bool} (ha: ∀j,j<i->f j=true) (h:f i=true): ∀j,j<i+1->f j=true:=fun j hj=>by
 by_cases e:j=i
 ·rw[e];exact h
 ·exact ha j (by omega)
theorem o5: ∀a b:List UInt8,Op.bytesLess b a= !(Op.bytesLess a b||a==b)
 |[],[]=>rfl
 |[],_::_=>rfl
 |_::_,[]=>rfl
 | x::a,y::b=>by
   have ih:=o5 a b;simp only[Op.bytesLess,List.cons_beq_cons,ih];by_cases h:x=y
   ·subst h;simp
   ·have h': ¬y=x:=fun e=>h e.symm;have e1:(x==y)=false:=by simpa using h
    have e2:(y==x)=false:=by simpa using h'
    have e3:decide (y<x)= !decide (x<y):=by
     rw[LD];simp[UInt8.lt_iff_toNat_lt];have:x.toNat≠y.toNat:=fun e=>h (UInt8.toNat_inj.1 e);omega
    simp[e1,e2,e3]
end
section
open Go.RowKit
end
section
open Go.RowKit
def Turned (s s2:St):Prop:= ∀(x:Ctx) (a:Act) (w:World) (m:Mem),Sim x s a w m-> ∃m',Sim x s2 a w m'
theorem Turned.refl (s:St):Turned s s:=fun _ _ _ m h=>⟨m,h⟩
theorem Turned.trans {s s2 s3:St} (h:Turned s s2) (k:Turned s2 s3):Turned s s3:=fun x a w m hh=>by
 obtain⟨m',h2⟩:=h x a w m hh;exact k x a w m' h2
theorem Turned.less {s s2:St} (h:Less s s2):Turned s s2:=fun _ _ _ m hh=>⟨m,hh.less h⟩
theorem Turned.ren {s:St} (r r2:Nat) (row:Row) (hne:r2≠r) (hr:s.rows r=some row) (hr2:s.rows r2=none) (hrz:row.sz≠0) (hp:row.pure=true):Turned s (dv s r r2 row):=fun _ _ _ _ hh=>⟨_,hh.ren r r2 row hne hr hr2 hrz hp⟩
theorem Turned.sees {s:St} (L:List (Nat×Nat×AV)) (hL:qI s L):Turned s (seenSt s L):=fun _ _ _ m hh=>by
 obtain⟨S',k⟩:=hh.sees L hL;exact⟨_,k⟩
theorem Turned.mapSee {s:St} (r:Nat) (row:Row) (hr:s.rows r=some row) (hsz:row.sz=0) (hb:row.es.all (·.all AV.bare)=true):Turned s (xd s r (.fmap row.es)):=fun _ _ _ m hh=>by
 obtain⟨S',k⟩:=hh.mapSee r row hr hsz hb;exact⟨_,k⟩
theorem Turned.head {s:St} {F:List (Nat×AV)} {R:List (Nat×Row)} (hF:cr s F) (hR:cP s R):Turned s (Go.Proofs.YtbjldjekgepopaaGreatDoor.head F R s.vs s.esc):= .less (dA hF hR)
section
variable {P:Program} {env:Env} {nt:Nat} {Q:Exit->St->Prop} {s:St}
theorem eO {c:Code} (h:awp P env nt c (fun e s1=> ∃s2,Turned s1 s2/\Q e s2) s):awp P env nt c Q s:=fun ro x he hn a w m hS=>by
 refine Mo (h ro x he hn a w m hS) ?_;rintro e a' w' ⟨s',m',⟨s2,h1,h2⟩,h3⟩;obtain⟨m2,h4⟩:=h1 _ _ _ _ h3;exact⟨s2,m2,h2,h4⟩
theorem iB {c:Code} {s2:St} (ht:Turned s s2) (h:awp P env nt c Q s2):awp P env nt c Q s:=fun ro x he hn a w m hS=>by
 obtain⟨m2,h4⟩:=ht _ _ _ _ hS;exact h ro x he hn a w m2 h4
end
def rowsAt:Nat->List Row->List (Nat×Row)
 |_,[]=>[]
 |b,r::l=>(b,r)::rowsAt (b+1) l
theorem mU {t:Nat} : ∀ {l:List Row} {b:Nat},ag (rowsAt b l) t=if b<=t then l[t-b]? else none
 |[],b=>by simp[rowsAt,ag]
 | r::l,b=>by
   simp only[rowsAt,ag,mU (l:=l)];by_cases h:t=b
   ·subst h;simp
   ·rw[KZ h];by_cases h2:b<=t
    ·rw[K0 h2,K0 (by omega),show t-b=(t-(b+1))+1 by omega,ME]
    ·rw[KZ h2,KZ (by omega)]
theorem holdR_rowsAt {s:St} : ∀ {l:List Row} {b:Nat},(∀q r,l[q]? =some r->s.rows (q+b)=some r)->cP s (rowsAt b l)
 |[],b,h=>trivial
 | r::l,b,h=>⟨by have:=h 0 r rfl; rwa [Lc] at this,holdR_rowsAt fun q r' hq=>by
    have:=h (q+1) r' (by simpa using hq)
    rwa [show q+1+b=q+(b+1) by omega]at this⟩
theorem lh {p:Nat×Row} : ∀ {l:List Row} {b:Nat},p∈rowsAt b l-> ∃q,l[q]? =some p.2/\p.1=q+b
 |[],b,h=>by simp[rowsAt]at h
 | r::l,b,h=>by
   simp only[rowsAt,Kk]at h;rcases h with rfl|h
   ·exact⟨0,rfl,by simp⟩
   ·obtain⟨q,h1,h2⟩:=lh h;exact⟨q+1,by simpa using h1,by omega⟩
end
section
open Go.RowKit
theorem dC (env:Env) (es:List (List AV)) (hl:es.length<=4096):Con prog env 82 [.seq 1 es] (.own 3 1 es):=by
 cases es with
 | nil=>
   refine Con.empty fun A cap=> ?_;cases A with
   | none=>
     refine qw func82 call82 ntmps82 results82 ?_;repeat refine st0 ?_
     (refine aN ?_;refine⟨_,(by show (an _ _ _).run _=some _;simp only[go_sem];rfl),?_⟩)
     exact ge.own_nil _ _ (by decide)
   | some A=>
     refine qf func82 call82 ntmps82 results82 ?_;repeat refine st0 ?_
     exact aR0
 | cons d l=>
   have g1:Fits ((l.length+1)) 8:=aG (by simpa using hl) (by omega);refine qf func82 call82 ntmps82 results82 ?_;have F:=g1;repeat refine st ?_
   exact aR
theorem sC (env:Env) (es:List (List AV)) (hl:es.length<=4096):Con prog env 122 [.seq 2 es] (.own 92 2 es):=by
 cases es with
 | nil=>
   refine Con.empty fun A cap=> ?_;cases A with
   | none=>
     refine qw func122 call122 ntmps122 results122 ?_;repeat refine st0 ?_
     (refine aN ?_;refine⟨_,(by show (an _ _ _).run _=some _;simp only[go_sem];rfl),?_⟩)
     exact ge.own_nil _ _ (by decide)
   | some A=>
     refine qf func122 call122 ntmps122 results122 ?_;repeat refine st0 ?_
     exact aR0
 | cons d l=>
   have g1:Fits ((l.length+1)) 16:=aG (by simpa using hl) (by omega);refine qf func122 call122 ntmps122 results122 ?_;have F:=g1;repeat refine st ?_
   exact aR
theorem CG (env:Env) (es:List (List AV)) (hl:es.length<=4096):Con prog env 120 [.seq 2 es] (.own 199 2 es):=by
 cases es with
 | nil=>
   refine Con.empty fun A cap=> ?_;cases A with
   | none=>
     refine qw func120 call120 ntmps120 results120 ?_;repeat refine st0 ?_
     (refine aN ?_;refine⟨_,(by show (an _ _ _).run _=some _;simp only[go_sem];rfl),?_⟩)
     exact ge.own_nil _ _ (by decide)
   | some A=>
     refine qf func120 call120 ntmps120 results120 ?_;repeat refine st0 ?_
     exact aR0
 | cons d l=>
   have g1:Fits ((l.length+1)) 24:=aG (by simpa using hl) (by omega);refine qf func120 call120 ntmps120 results120 ?_;have F:=g1;repeat refine st ?_
   exact aR
/-! Few of all -/
def few4 (l:List ActD):Prop:=l.length<=4096/\ ∀a∈l,a.code.length<=4096
structure Small (c:ChD):Prop where
 vars:c.vars.length<=4096
 sts:c.states.length<=4096
 trs:c.trans.length<=4096
 st: ∀s∈c.states,few4 s.inn/\few4 s.out
 tr: ∀t∈c.trans,t.guard.length<=4096/\few4 t.acts
theorem ve {l:List OpD} {vs ss:Int} (h:cB l vs ss=true):l.length<=32:=by
 unfold cB iQ at h;split at h
 ·simp at h
 ·omega
theorem oo {nv ns:Int} {l:List ActD} (h:dy nv ns l=true):few4 l:=by
 unfold dy at h;rw[KY,K6,K2]at h;refine⟨by omega,fun a ha=> ?_⟩;have hb:=h.2 a ha;unfold gd at hb;by_cases e:a.code=[]
 ·rw[e];simp
 ·have:cB a.code nv ns=true:=by
   revert hb
   cases cB a.code nv ns<;>simp[e]
  have:=ve this;omega
theorem mz {c:ChD} (h:(chk c).1=0):Small c:=by
 have hr:=zF h;unfold chk at h;split at h
 ·simp at h
 rename_i h1;split at h
 ·simp at h
 split at h
 ·simp at h
 split at h
 ·simp at h
 rename_i h3;split at h
 ·simp at h
 split at h
 ·simp at h
 rename_i h5;refine⟨by omega,by omega,by omega,fun s hs=> ?_,fun t ht=> ?_⟩
 ·obtain⟨k,hk⟩:=Lw.1 hs;have:=dK h3 k (KW.1 hk).1;unfold km at this;rw[hk]at this;simp only[bq,KY]at this;exact⟨oo this.1.2,oo this.2⟩
 ·obtain⟨k,hk⟩:=Lw.1 ht;have:=dK h5 k (KW.1 hk).1;unfold pw at this;rw[hk]at this;simp only[dP,KY,Lb]at this;refine⟨?_,oo this.1.2⟩;rcases this.1.1.2 with e|e
  ·have:t.guard=[]:=by simpa using e
   rw[this];simp
  ·have:=ve e;omega
theorem jT (env:Env) (l:List ActD) (hl:few4 l):Con prog env 121 [actsAV l] (.own 94 4 (l.map bP)):=by
 have h1:=hl.1;refine qf func121 call121 ntmps121 results121 ?_;repeat refine st0 ?_
 refine aZ 3 3 94 4 ?_;refine lq0 l.length (by omega) (fun j vs=>[(3, .row 3 (vs 3)),(6,actsAV l),(7,I l.length),(8,I j)]) (fun j _=>[(3,⟨4,(l.take j).map bP,94,true⟩)]) (fun j _ esc=>esc 3=false) rfl ?_ ?_
 ·rintro j ws esc hlt g1 g2 e0;obtain⟨a,ha⟩:=gE hlt;have f0:=sC env (a.code.map bp) (by rw[Kl];exact hl.2 a (K1 ha));have htl:(l.take j).length=j:=by rw[Kf];omega
  have hf:Fits (j+1) 56:=aG (by omega) (by omega);have htk:l.take (j+1)=l.take j++[a]:=by rw[Kv,ha];rfl
  have F:=ai7 bP.eq_1 g1 g2 ha htl hf e0;repeat refine tz1 f0 ?_
  refine⟨j+1,⟨hlt,by simp only[go_sem,e0]⟩,?_,?_,by omega⟩
  ·exact qe
  ·have F:=ai3 bP.eq_1 htk @Ki.{0,0};exact qe
 ·rintro ws esc g1 e0;have hta:l.take l.length=l:=Kp;have F:=ai3 g1 hta e0;repeat refine st ?_
  exact aR
theorem oU (env:Env) (c:ChD) (hs:Small c):Con prog env 66 [.agg (aA c)] (.agg (aA c)):=by
 have hn1:=hs.sts;have hn2:=hs.trs;have f0:=CG env (c.vars.map gQ) (by rw[Kl];exact hs.vars);refine qf func66 call66 ntmps66 results66 ?_;have F:=aA.eq_1;repeat refine tz1 f0 ?_
 refine nC 3 9000 0 3 89 6 ?_;refine nC 3 9001 0 4 53 5 ?_
 refine aK (D:=Nat) (fun j vs=>[(1, .loc 1 (vs 1) 0 0),(2, .loc 2 (vs 2) 0 0),(3, .loc 3 (vs 3) 0 0),(17,stsAV c.states),(18,I c.states.length),(19,I j)])
  (fun j vs=>[(1,⟨5,[aA c],26,false⟩),(2,⟨5,[[Sg [],I 0,nilS,nilS,nilS]],26,false⟩),(3,⟨5,[[Sg c.name,I c.initial, .row 14 (vs 14), .row 9000 (vs 9000), .row 9001 (vs 9001)]],26,false⟩),(14,⟨2,c.vars.map gQ,199,true⟩),(9000,⟨6,(c.states.take j).map aL,89,true⟩),(9001,⟨5,[],53,true⟩)])
  (fun j _ esc=>j<=c.states.length/\esc 2=false/\esc 3=false/\esc 14=false/\esc 9000=false/\esc 9001=false) (fun j=>c.states.length-j) 0 ?_ ?_ ?_ ?_
 ·refine⟨Ke _,?_,?_,?_,?_,?_⟩<;>simp only[go_sem]
 ·exact qe
 ·have F:=aA.eq_1;exact qe
 rintro j ws esc ⟨hj,e0,e1,e2,e3,e4⟩;by_cases hlt:j<c.states.length
 ·obtain⟨s,hss⟩:=gE hlt;have g1:=nlt hlt;have g2:=aD hlt (by omega);have f1:=jT env s.inn (hs.st s (K1 hss)).1;have f2:=jT env s.out (hs.st s (K1 hss)).2;have htl:(c.states.take j).length=j:=by rw[Kf];omega
  have hf:Fits (j+1) 88:=aG (by omega) (by omega);have htk:c.states.take (j+1)=c.states.take j++[s]:=by rw[Kv,hss];rfl
  have F:=ai12 aA.eq_1 aL.eq_1 g1 g2 hss htl hf e0 e1 e2 e3 e4;repeat refine tz2 f1 f2 ?_
  refine⟨j+1,⟨hlt,?_,?_,?_,?_,?_⟩,?_,?_,by omega⟩;all_goals (first|(show _=false;simp only[go_sem,e0,e1,e2,e3,e4];done)|skip)
  ·exact qe
  ·have F:=ai9 aA.eq_1 aL.eq_1 htk @Ki.{0,0} e0 e1 e2 e3 e4;exact qe
 obtain rfl:j=c.states.length:=by omega
 have g1:=nl c.states.length;have hta:c.states.take c.states.length=c.states:=Kp;have F:=ai8 aA.eq_1 g1 hta e0 e1 e2 e3 e4;repeat refine st ?_
 refine aK (D:=Nat) (fun j vs=>[(1, .loc 1 (vs 1) 0 0),(2, .loc 2 (vs 2) 0 0),(3, .loc 3 (vs 3) 0 0),(39,trsAV c.trans),(40,I c.trans.length),(41,I j)])
  (fun j vs=>[(1,⟨5,[aA c],26,false⟩),(2,⟨5,[[Sg [],I 0,nilS,nilS,nilS]],26,false⟩),(3,⟨5,[[Sg c.name,I c.initial, .row 14 (vs 14), .row 9000 (vs 9000), .row 9001 (vs 9001)]],26,false⟩),(14,⟨2,c.vars.map gQ,199,true⟩),(9000,⟨6,c.states.map aL,89,true⟩),(9001,⟨5,(c.trans.take j).map bi,53,true⟩)])
  (fun j _ esc=>j<=c.trans.length/\esc 2=false/\esc 3=false/\esc 14=false/\esc 9000=false/\esc 9001=false) (fun j=>c.trans.length-j) 0 ?_ ?_ ?_ ?_
 ·refine⟨Ke _,?_,?_,?_,?_,?_⟩<;>simp only[go_sem,e0,e1,e2,e3,e4]
 ·exact qe
 ·have F:=aA.eq_1;exact qe
 try clear e0 e1 e2 e3 e4
 rintro j ws esc ⟨hj,e0,e1,e2,e3,e4⟩;by_cases hlt:j<c.trans.length
 ·obtain⟨t,hss⟩:=gE hlt;have g1:=nlt hlt;have g2:=aD hlt (by omega);have htm:=hs.tr t (K1 hss);have f1:=sC env (t.guard.map bp) (by rw[Kl];exact htm.1);have f2:=jT env t.acts htm.2;have htl:(c.trans.take j).length=j:=by rw[Kf];omega
  have hf:Fits (j+1) 80:=aG (by omega) (by omega);have htk:c.trans.take (j+1)=c.trans.take j++[t]:=by rw[Kv,hss];rfl
  have F:=ai12 aA.eq_1 bi.eq_1 g1 g2 hss htl hf e0 e1 e2 e3 e4;repeat refine tz2 f1 f2 ?_
  refine⟨j+1,⟨hlt,?_,?_,?_,?_,?_⟩,?_,?_,by omega⟩;all_goals (first|(show _=false;simp only[go_sem,e0,e1,e2,e3,e4];done)|skip)
  ·exact qe
  ·have F:=ai9 aA.eq_1 bi.eq_1 htk @Ki.{0,0} e0 e1 e2 e3 e4;exact qe
 obtain rfl:j=c.trans.length:=by omega
 have g1:=nl c.trans.length;have hta:c.trans.take c.trans.length=c.trans:=Kp;have F:=ai8 aA.eq_1 g1 hta e0 e1 e2 e3 e4;repeat refine st ?_
 exact aR
end
section
open Go.RowKit
def fO (s:List UInt8):List AV:=[Sg s]
theorem kZ (l:List (List UInt8)):bC (l.map Cr)=l.map fO:=by
 unfold bC;rw[Mk];rfl
def bU (c:ChD) (j:Nat):List (List UInt8):=((c.trans.take j).map (·.event)).filter fun e=> !e.isEmpty
def evL (c:ChD):List (List UInt8):=Lib.compact (fq (bU c c.trans.length))
theorem BO {c:ChD} {j:Nat} {t:TrD} (h:c.trans[j]? =some t):bU c (j+1)=if t.event.isEmpty then bU c j else bU c j++[t.event]:=by
 unfold bU;rw[Kv,h,Ki,LL];cases hb:t.event.isEmpty<;>simp[hb]
theorem oW (c:ChD) (j:Nat):(bU c j).length<=j:=by
 unfold bU;exact Kh (Kw ..) (by simp;omega)
theorem Bm (env:Env) (c:ChD) (hc:c.trans.length<=1000000):Con prog env 67 [.agg (aA c)] (.own 9 1 ((evL c).map fO)):=by
 refine qf func67 call67 ntmps67 results67 ?_;have F:=aA.eq_1;repeat refine st ?_
 refine aZ 3 3 9 1 ?_;refine aK (D:=Nat) (fun j vs=>[(3, .row 3 (vs 3)),(7,trsAV c.trans),(8,I c.trans.length),(9,I j)]) (fun j _=>[(3,⟨1,(bU c j).map fO,9,true⟩)]) (fun j _ esc=>j<=c.trans.length/\esc 3=false) (fun j=>c.trans.length-j) 0 ?_ ?_ ?_ ?_
 ·exact⟨Ke _,rfl⟩
 ·exact qe
 ·(simp only[go_sem,F])
  rfl
 rintro j ws esc ⟨hj,e0⟩;by_cases hlt:j<c.trans.length
 ·obtain⟨t,ht⟩:=gE hlt;have g1:=nlt hlt;have g2:=aD hlt (by omega);have hn:=BO ht;have hl:=oW c j;have hf:Fits ((bU c j).length+1) 16:=⟨by omega,by omega⟩;cases hb:t.event.isEmpty with
  | true=>
    rw[hb,K0 rfl]at hn;have hb2:(t.event == [])=true:=by simpa using hb
    have F:=ai6 bi.eq_1 g1 g2 ht hb2 e0;repeat refine st ?_
    refine⟨j+1,⟨hlt,by simp only[go_sem,e0]⟩,?_,?_,by omega⟩
    ·exact qe
    ·have F:=hn;exact qe
  | false=>
    rw[hb,KZ LY]at hn;have hb2:(t.event == [])=false:=by simpa using hb
    have F:=ai7 bi.eq_1 g1 g2 ht hb2 hf e0;repeat refine st ?_
    refine⟨j+1,⟨hlt,by simp only[go_sem,e0]⟩,?_,?_,by omega⟩
    ·exact qe
    ·have F:=ai3 hn fO.eq_1 @Ki.{0,0};exact qe
 ·obtain rfl:j=c.trans.length:=by omega
  have g1:=nl c.trans.length;have hl:=oW c c.trans.length;have F:=ai g1 e0;repeat refine st ?_
  have f1:=yI (bU c c.trans.length) (by omega);have hsl:(fq (bU c c.trans.length)).length<=9223372036854775807:=by simp[fq];omega
  have f2:=Bz (fq (bU c c.trans.length)) hsl;refine mj 3 rfl (row:=⟨1,(bU c c.trans.length).map fO,9,true⟩) f1 (LG 0) rfl (kZ _).symm (by simp only[go_sem,e0];exact iR) (by simp only[go_sem,e0];exact iR) (by simp only[go_sem,e0];exact iR) (by simp only[go_sem,e0];exact iR) ?_;rw[kZ];repeat refine st ?_
  refine tN 3 rfl (row:=⟨1,(fq (bU c c.trans.length)).map fO,9,true⟩) f2 (LG 0) rfl (kZ _).symm (by simp only[go_sem,e0];exact iR) (by simp only[go_sem,e0];exact iR) (by simp only[go_sem,e0];exact iR) (by simp only[go_sem,e0];exact iR) iR ?_;rw[kZ];repeat refine st ?_
  (refine aN ?_;show (an _ _ _).run _=some _;simp only[go_sem,F])
  rfl
end
section
open Go.RowKit
theorem fG: ∀a:List UInt8,Op.bytesLess a a=false
 |[]=>rfl
 |x::a=>by simp[Op.bytesLess,fG a]
theorem eM: ∀ {a b c:List UInt8},Op.bytesLess a b=true->Op.bytesLess b c=true->Op.bytesLess a c=true
 |_,[],_,h,_=>by simp[Op.bytesLess]at h
 |_,_::_,[],_,h=>by simp[Op.bytesLess]at h
 |[],_::_,_::_,_,_=>rfl
 | x::a,y::b,z::c,h,k=>by
   simp only[Op.bytesLess,Lb,K6,KY,LW]at h k |-;rcases h with h|⟨h,h'⟩
   ·rcases k with k|⟨k,k'⟩
    ·exact .inl (UInt8.lt_trans h k)
    ·exact .inl (k ▸ h)
   ·rcases k with k|⟨k,k'⟩
    ·exact .inl (h ▸ k)
    ·exact .inr ⟨h.trans k,eM h' k'⟩
theorem eN: ∀ {a b:List UInt8},Op.bytesLess a b=false->Op.bytesLess b a=false->a=b
 |[],[],_,_=>rfl
 |[],_::_,h,_=>by simp[Op.bytesLess]at h
 |_::_,[],_,h=>by simp[Op.bytesLess]at h
 | x::a,y::b,h,k=>by
   simp only[Op.bytesLess,My,LN,Bool.and_eq_false_iff]at h k;have e:x=y:=UInt8.le_antisymm (UInt8.not_lt.1 k.1) (UInt8.not_lt.1 h.1);subst e;simp only[On,Bool.true_eq_false,false_or]at h k;rw[eN h.2 k.2]
theorem tJ {a b:List UInt8} (h:Op.bytesLess a b=true):Op.bytesLess b a=false:=by
 cases k:Op.bytesLess b a
 ·rfl
 ·have:=eM h k;rw[fG]at this;cases this
end
section
open Go.RowKit
abbrev Str8:=List UInt8
abbrev SL (a b:Str8):Prop:=Op.bytesLess a b=true
/-! Texts in the order of bytes -/
theorem JR: ∀(x y:Str8),Op.bytesLess x y=decide (x<y)
 |[],[]=>by simp[Op.bytesLess]
 |_::_,[]=>by simp[Op.bytesLess]
 |[],_::_=>by simp[Op.bytesLess]
 | a::x,b::y=>by
   rw[Op.bytesLess,JR x y];simp only[List.cons_lt_cons_iff];by_cases h1:a<b<;>by_cases h2:a=b<;>by_cases h3:x<y<;>simp[h1,h2,h3]
theorem ID (x y:Str8):decide (x<=y)= !Op.bytesLess y x:=by
 rw[JR, <-decide_not];rfl
theorem yj {a b c:Str8} (h1:Op.bytesLess b a=false) (h2:Op.bytesLess c b=false):Op.bytesLess c a=false:=by
 cases k:Op.bytesLess c a
 ·rfl
 ·cases k3:Op.bytesLess a b
  ·rw[<-eN k3 h1,k]at h2;cases h2
  ·rw[eM k k3]at h2;cases h2
theorem zB (l:List Str8):(fq l).Pairwise fun a b=>Op.bytesLess b a=false:=by
 have:=OC (le:=fun x y:Str8=>decide (x<=y)) (fun a b c hab hbc=>by
  simp only[ID,L3]at*;exact yj hab hbc) (fun a b=>by
  simp only[ID];cases k:Op.bytesLess b a
  ·simp
  ·rw[tJ k];simp) l
 exact this.imp fun {a b} h=>by simpa[ID]using h
theorem ER {l:List Str8} {x:Str8} :x∈fq l↔x∈l:=List.mem_mergeSort
theorem oh (l:List Str8) (hs:l.Pairwise fun a b=>Op.bytesLess b a=false): ∀m,m<=l.length->(Lib.compactUpTo l.toArray m).Pairwise SL/\ ∀x,x∈Lib.compactUpTo l.toArray m↔x∈l.take m
 |0,_=>by simp[Lib.compactUpTo]
 | m+1,hm=>by
   obtain⟨h1,h2⟩:=oh l hs m (by omega);have ey:l.toArray[m]! =l[m]'(by omega):=by rw[Mw _ m (by simp;omega)];rfl
   have et:l.take (m+1)=l.take m++[l[m]'(by omega)]:=by rw[Kv,KV (by omega)];rfl
   have hle: ∀k (hk:k<m),Op.bytesLess (l[m]'(by omega)) (l[k]'(by omega))=false:=fun k hk=>LH.1 hs k m (by omega) (by omega) hk;rw[Lib.compactUpTo_succ,ey];by_cases hk:Lib.keeps l.toArray m=true
   ·rw[K0 hk];refine⟨Mx.2 ⟨h1,NT ..,fun x hx y hy=> ?_⟩,fun x=>by rw[et,Kt,Kt,h2]⟩;rw[Km.1 hy];rw[h2,Nj]at hx;obtain⟨k,hk2,rfl⟩:=hx;have hkm:k<m:=by omega
    show Op.bytesLess _ _=true;cases hq:Op.bytesLess (l[k]'(by omega)) (l[m]'(by omega)) with
    |true=>rfl
    | false=>
      have e:=eN hq (hle k hkm)
      exfalso
      unfold Lib.keeps at hk;rw[K6]at hk;rcases hk with hk|hk
      ·omega
      ·apply hk;rw[ey,Mw _ (m-1) (by simp;omega)];show l[m]'(by omega)=l[m-1]'(by omega);have e1:=hle (m-1) (by omega);by_cases ek:k=m-1
       ·subst ek;exact e.symm
       ·have e2:=LH.1 hs k (m-1) (by omega) (by omega) (by omega);rw[e]at e2;exact eN e1 e2
   ·rw[KZ hk,Lm];refine⟨h1,fun x=> ?_⟩;rw[h2,et,Kt,Km];refine⟨.inl,fun h=>h.elim id fun h=> ?_⟩;unfold Lib.keeps at hk;rw[K6,O1,OE,ey,Mw _ (m-1) (by simp;omega)]at hk;rw[h,hk.2];exact Nj.2 ⟨m-1,by omega,rfl⟩
theorem xG (c:ChD):(evL c).Pairwise SL:=(oh _ (zB _) _ (K8 _)).1
theorem xk {c:ChD} {s:Str8} :s∈evL c↔s≠[]/\ ∃t∈c.trans,t.event=s:=by
 unfold evL Lib.compact;rw[(oh _ (zB _) _ (K8 _)).2,Kp,ER];unfold bU;rw[Kp,Kb,K9];constructor
 ·rintro⟨⟨t,h1,h2⟩,h3⟩;exact⟨by simpa using h3,t,h1,h2⟩
 ·rintro⟨h,t,h1,h2⟩;exact⟨⟨t,h1,h2⟩,by simpa using h⟩
theorem Io (c:ChD):(evL c).length<=c.trans.length:=by
 have h1:(Lib.compact (fq (bU c c.trans.length))).length<=(fq (bU c c.trans.length)).length:=by
  unfold Lib.compact Lib.compactUpTo;rw[Kl];exact Kh (Kw ..) (by simp)
 have h2:=oW c c.trans.length;unfold evL;have h3:(fq (bU c c.trans.length)).length=(bU c c.trans.length).length:=by simp[fq]
 omega
/-! Where a text stands, or would stand -/
def rA (l:List Str8) (x:Str8):Nat:=(l.filter fun y=>Op.bytesLess y x).length
def Cut (l:List Str8) (x:Str8) (p:Nat):Prop:=p<=l.length/\ ∀k y,l[k]? =some y->(Op.bytesLess y x=true↔k<p)
theorem w5: ∀ {l:List Str8},l.Pairwise SL-> ∀x,Cut l x (rA l x)
 |[],_,x=>⟨Ke _,fun k y h=>by simp at h⟩
 | a::l,h,x=>by
   obtain⟨h1,h2⟩:=MA.1 h;obtain⟨k1,k2⟩:=w5 h2 x;unfold rA at*;rw[MO];by_cases ha:Op.bytesLess a x=true
   ·rw[K0 ha,Kj];refine⟨by simp only[Kj];omega,fun k y hk=> ?_⟩;cases k with
    | zero=>
      obtain rfl:a=y:=by simpa using hk
      exact⟨fun _=>by omega,fun _=>ha⟩
    | succ k=>
      rw[k2 k y (by simpa using hk)];omega
   ·rw[KZ ha];have hno: ∀y∈l,¬Op.bytesLess y x=true:=fun y hy hb=>ha (eM (h1 y hy) hb);have e:(l.filter fun y=>Op.bytesLess y x)=[]:=Mm.2 hno;rw[e];refine⟨Ke _,fun k y hk=>⟨fun hb=> ?_,fun hk=>by simp at hk⟩⟩;cases k with
    | zero=>
      obtain rfl:a=y:=by simpa using hk
      exact absurd hb ha
    |succ k=>exact absurd hb (hno y (K1 (by simpa using hk)))
theorem Hc {l:List Str8} (h:l.Pairwise SL) {x:Str8} (hx:x∈l):l[rA l x]? =some x:=by
 obtain⟨h1,h2⟩:=w5 h x;obtain⟨k,hk⟩:=Lw.1 hx;have h3:=(h2 k x hk);rw[fG]at h3;have h3: ¬k<rA l x:=fun e=>by simpa using h3.2 e
 have hkl:=(KW.1 hk).1;by_cases e:k=rA l x
 ·rw[<-e];exact hk
 ·have hp:rA l x<l.length:=by omega
  have h4:=LH.1 h (rA l x) k hp hkl (by omega);rw[(KW.1 hk).2]at h4;have:=(h2 _ _ (KV hp)).1 h4;omega
def evI (c:ChD) (s:Str8):Int:=if (evL c)[rA (evL c) s]? =some s then(rA (evL c) s:Nat) else -1
theorem tw {c:ChD} {s:Str8} (h:s∈evL c): ∃k:Nat,evI c s=k/\(evL c)[k]? =some s:=⟨rA (evL c) s,by unfold evI;rw[K0 (Hc (xG c) h)],Hc (xG c) h⟩
theorem Db {c:ChD} {s:Str8} (h:s∉evL c):evI c s= -1:=by
 unfold evI;rw[KZ fun e=>h (K1 e)]
theorem Jf {c:ChD} {s t:Str8} (hs:s∈evL c) (ht:t∈evL c) (h:evI c s=evI c t):s=t:=by
 obtain⟨k,h1,h2⟩:=tw hs;obtain⟨j,h3,h4⟩:=tw ht;have:k=j:=by omega
 subst this;exact Lo (h2.symm.trans h4)
theorem xH (c:ChD):evI c []= -1:=Db fun h=>(xk.1 h).1 rfl
/-! A state's transitions -/
def cm (c:ChD) (k:Nat):Int×Int:=match c.trans[k]? with
 |some t=>(t.src,evI c t.event)
 |none=>(-1, -1)
def iH (c:ChD) (j:Nat) (p:Int×Int):List Nat:=(List.range j).filter fun k=>cm c k=p
def keysTo (c:ChD):Nat->List (Int×Int)
 |0=>[]
 |j+1=>if cm c j∈keysTo c j then keysTo c j else keysTo c j++[cm c j]
def atL (c:ChD) (i e:Int):List Nat:=iH c c.trans.length (i,e)
theorem nB (c:ChD) (j:Nat) (p:Int×Int):iH c (j+1) p=if cm c j=p then iH c j p++[j] else iH c j p:=by
 unfold iH;rw[NB,LL];by_cases h:cm c j=p<;>simp[h]
theorem nM {c:ChD} {p:Int×Int} : ∀ {j:Nat},p∈keysTo c j↔ ∃k,k<j/\cm c k=p
 |0=>by simp[keysTo]
 | j+1=>by
   unfold keysTo;split
   ·rename_i h;rw[nM];constructor
    ·rintro⟨k,h1,h2⟩;exact⟨k,by omega,h2⟩
    ·rintro⟨k,h1,h2⟩;by_cases e:k=j
     ·subst e;rw[<-h2];exact nM.1 h
     ·exact⟨k,by omega,h2⟩
   ·rw[Kt,nM,Km];constructor
    ·rintro(⟨k,h1,h2⟩|h)
     ·exact⟨k,by omega,h2⟩
     ·exact⟨j,by omega,h.symm⟩
    ·rintro⟨k,h1,h2⟩;by_cases e:k=j
     ·subst e;exact .inr h2.symm
     ·exact .inl ⟨k,by omega,h2⟩
theorem lx (c:ChD): ∀j,(keysTo c j).Nodup
 |0=> .nil
 | j+1=>by
   unfold keysTo;split
   ·exact lx c j
   ·rename_i h;exact ML.2 ⟨lx c j,by simp,fun a ha b hb e=>h (by rw[Km.1 hb]at e;exact e ▸ ha)⟩
theorem sV {c:ChD} {j:Nat} {p:Int×Int} (h:p∉keysTo c j):iH c j p=[]:=by
 unfold iH;rw[Mm];intro k hk;simp only[K6];exact fun e=>h (nM.2 ⟨k,Kr.1 hk,e⟩)
theorem Ct (c:ChD) (j:Nat) (p:Int×Int):(iH c j p).length<=j:=by
 unfold iH;exact Kh (Kw ..) (by simp)
def qL (p:Int×Int):List (Int×Int)->Nat->Option Nat
 |[],_=>none
 |q::l,i=>if p=q then some i else qL p l (i+1)
theorem od {p:Int×Int} : ∀ {l:List (Int×Int)} {i n:Nat},qL p l i=some n->i<=n/\l[n-i]? =some p
 |[],i,n,h=>by simp[qL]at h
 | q::l,i,n,h=>by
   unfold qL at h;split at h
   ·rename_i e;obtain rfl:i=n:=by simpa using h
    simp[e]
   ·obtain⟨h1,h2⟩:=od h;refine⟨by omega,?_⟩;rw[show n-i=(n-(i+1))+1 by omega,ME];exact h2
theorem kg {p:Int×Int} : ∀ {l:List (Int×Int)} {i:Nat},qL p l i=none->p∉l
 |[],i,h=>by simp
 | q::l,i,h=>by
   unfold qL at h;split at h
   ·cases h
   ·rename_i e;rw[Kk];exact fun hh=>hh.elim e (kg h)
theorem Hw {c:ChD} (i:Int) (s:Str8) (h:s=[]\/s∈evL c):atL c i (evI c s)=(List.range c.trans.length).filter fun k=>match c.trans[k]? with|some t=>decide (t.src=i/\t.event=s)|none=>false:=by
 unfold atL iH;apply MZ;intro k hk;have hk:=Kr.1 hk;have hs:c.trans[k]? =some c.trans[k]:=KV hk;unfold cm;rw[hs];simp only[NP]
 congr 1
 generalize ht:c.trans[k]=t at*;have htm:t∈c.trans:=K1 hs;apply propext;refine and_congr_right fun _=>⟨fun e=> ?_,fun e=>by rw[e]⟩;rcases h with rfl|h
 ·rw[xH]at e;by_cases hn:t.event=[]
  ·exact hn
  ·obtain⟨k,h1,_⟩:=tw (xk.2 ⟨hn,t,htm,rfl⟩);omega
 ·obtain⟨k,h1,_⟩:=tw h;by_cases hn:t.event=[]
  ·rw[hn,xH]at e;omega
  ·exact Jf (xk.2 ⟨hn,t,htm,rfl⟩) h e
end
section
open Go.RowKit
theorem zS (env:Env) (s:List UInt8):Con prog env 209 [Sg s] (B false):=by
 refine qf func209 call209 ntmps209 results209 ?_;repeat refine st0 ?_
 exact aR0
theorem G3 (env:Env) (s:List UInt8):Con prog env 267 [Sg s] (B false):=by
 refine qf func267 call267 ntmps267 results267 ?_;repeat refine st0 ?_
 exact aR0
theorem Eu (env:Env) (s t:List UInt8):Con prog env 208 [Sg s,Sg t] (B (Op.bytesLess s t)):=by
 have f0:=G3 env s;refine qf func208 call208 ntmps208 results208 ?_;repeat refine lZ f0 ?_
 exact aR0
theorem yi (env:Env) (l:List (List UInt8)) (x:List UInt8) (p:Nat) (hp:Cut l x p) (hl:l.length<=1000000):Con prog env 125 [.seq 1 (l.map fO),Sg x] (.tuple [I p,B (l[p]? == some x)]):=by
 have f0:=zS env x;refine qf func125 call125 ntmps125 results125 ?_;repeat refine st0 ?_
 refine lp0 (D:=Nat×Nat) (fun d _=>[(0, .seq 1 (l.map fO)),(1,Sg x),(6,I l.length),(7,I d.1),(8,I d.2)]) (fun _ _=>[]) (fun d _ _=>d.1<=p/\p<=d.2/\d.2<=l.length) (fun d=>d.2-d.1) (0,l.length) ⟨Ke _,hp.1,K8 _⟩ ?_;rintro⟨i,j⟩ ws esc ⟨h1,h2,h3⟩;simp only at h1 h2 h3;by_cases hlt:i<j
 ·have g1:=nlt hlt;have hm:(i+j)/2<l.length:=by omega
  obtain⟨y,hy⟩: ∃y,l[(i+j)/2]? =some y:=⟨l[(i+j)/2],KV hm⟩;have hyp:=hp.2 _ _ hy;have f1:=Eu env y x;have g2:IntKind.i64.wrap ((i:Int)+(j:Int))=((i+j:Nat):Int):=by rw[ae (by omega) (by omega)];omega
  have g3:IntKind.u64.wrap ((i+j:Nat):Int)=((i+j:Nat):Int):=IntWalk.u64_in _ (by omega)
  have g4:IntKind.i64.wrap (((i+j:Nat):Int).fdiv (2^min 1 64))=(((i+j)/2:Nat):Int):=by
   rw[show ((i+j:Nat):Int).fdiv (2^min 1 64)=(((i+j)/2:Nat):Int) from(PH (i+j) 2).symm,ae (by omega) (by omega)]
  have g5:(((i+j)/2:Nat):Int)< (l.length:Int):=by omega
  have g6:=aD (k:=(i+j)/2) (n:=l.length) hm (by omega);generalize hmm:(i+j)/2=mm at*;cases hb:Op.bytesLess y x with
  | true=>
    rw[hb]at f1 hyp;have:=hyp.1 rfl;have F:=ai8 g1 g2 g3 g4 g5 g6 hy fO.eq_1;repeat refine tz1 f1 ?_
    refine⟨(mm+1,j),⟨?_,?_,?_⟩,?_,?_,?_⟩
    ·simp only;omega
    ·exact h2
    ·exact h3
    ·exact qe
    ·exact qe
    ·simp only;omega
  | false=>
    rw[hb]at f1 hyp;have: ¬mm<p:=fun h=>by cases hyp.2 h
    have F:=ai8 g1 g2 g3 g4 g5 g6 hy fO.eq_1;repeat refine tz1 f1 ?_
    refine⟨(i,mm),⟨?_,?_,?_⟩,?_,?_,?_⟩
    ·exact h1
    ·simp only;omega
    ·simp only;omega
    ·exact qe
    ·exact qe
    ·simp only;omega
 ·obtain rfl:i=j:=by omega
  obtain rfl:i=p:=by omega
  have g1:=nl i;by_cases hi:i<l.length
  ·have g2:=nlt hi;obtain⟨y,hy⟩:=gE hi;have f1:=zS env y;cases hb:(y==x) with
   | true=>
     have hr:(l[i]? == some x)=true:=by rw[hy];simpa using hb
     rw[hr];have F:=ai5 g1 g2 hy hb fO.eq_1;repeat refine tz2 f0 f1 ?_
     exact aR
   | false=>
     have hr:(l[i]? == some x)=false:=by rw[hy];simpa using hb
     rw[hr];have F:=ai5 g1 g2 hy hb fO.eq_1;repeat refine tz2 f0 f1 ?_
     exact aR
  ·have g2: ¬(i:Int)< (l.length:Int):=by omega
   have hr:(l[i]? == some x)=false:=by rw[K7 (by omega)];rfl
   rw[hr];have F:=ai3 g1 g2 fO.eq_1;repeat refine tz1 f0 ?_
   exact aR
end

end Go.Proofs.YtbjldjekgepopaaGreatDoor