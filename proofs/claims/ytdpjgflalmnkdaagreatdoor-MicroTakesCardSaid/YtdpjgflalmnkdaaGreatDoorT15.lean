/- A table's map in the making: a row for each key. -/
import Derived.Test.YtdpjgflalmnkdaaGreatDoorT14
set_option maxRecDepth 100000
set_option maxHeartbeats 4000000
set_option linter.unusedSimpArgs false
namespace Go.Proofs.YtdpjgflalmnkdaaGreatDoor
open Go.Proofs.Tryz
open Go.RowKit
section
theorem dJ (env:Env) (es:List (List AV)) (hl:es.length<=4096):Con prog env 70 [.seq 1 es] (.own 3 1 es):=by
 cases es with
 | nil=>
   refine Con.empty fun A cap=> ?_;cases A with
   | none=>
     refine qw func70 call70 ntmps70 results70 ?_;repeat refine st0 ?_
     (refine aM ?_;refine⟨_,(by show (ae _ _ _).run _=some _;simp only[go_sem];rfl),?_⟩)
     exact fo.own_nil _ _ (by decide)
   | some A=>
     refine qf func70 call70 ntmps70 results70 ?_;repeat refine st0 ?_
     exact aR0
 | cons d l=>
   have g1:Fits ((l.length+1)) 8:=aC (by simpa using hl) (by omega);refine qf func70 call70 ntmps70 results70 ?_;have F:=g1;repeat refine st ?_
   exact aR
theorem sF (env:Env) (es:List (List AV)) (hl:es.length<=4096):Con prog env 107 [.seq 2 es] (.own 168 2 es):=by
 cases es with
 | nil=>
   refine Con.empty fun A cap=> ?_;cases A with
   | none=>
     refine qw func107 call107 ntmps107 results107 ?_;repeat refine st0 ?_
     (refine aM ?_;refine⟨_,(by show (ae _ _ _).run _=some _;simp only[go_sem];rfl),?_⟩)
     exact fo.own_nil _ _ (by decide)
   | some A=>
     refine qf func107 call107 ntmps107 results107 ?_;repeat refine st0 ?_
     exact aR0
 | cons d l=>
   have g1:Fits ((l.length+1)) 16:=aC (by simpa using hl) (by omega);refine qf func107 call107 ntmps107 results107 ?_;have F:=g1;repeat refine st ?_
   exact aR
theorem Bv (env:Env) (es:List (List AV)) (hl:es.length<=4096):Con prog env 105 [.seq 2 es] (.own 117 2 es):=by
 cases es with
 | nil=>
   refine Con.empty fun A cap=> ?_;cases A with
   | none=>
     refine qw func105 call105 ntmps105 results105 ?_;repeat refine st0 ?_
     (refine aM ?_;refine⟨_,(by show (ae _ _ _).run _=some _;simp only[go_sem];rfl),?_⟩)
     exact fo.own_nil _ _ (by decide)
   | some A=>
     refine qf func105 call105 ntmps105 results105 ?_;repeat refine st0 ?_
     exact aR0
 | cons d l=>
   have g1:Fits ((l.length+1)) 24:=aC (by simpa using hl) (by omega);refine qf func105 call105 ntmps105 results105 ?_;have F:=g1;repeat refine st ?_
   exact aR
/-! Few of all -/
def few4 (l:List ActD):Prop:=l.length<=4096/\ ∀a∈l,a.code.length<=4096
structure Small (c:ChD):Prop where
 vars:c.vars.length<=4096
 sts:c.states.length<=4096
 trs:c.trans.length<=4096
 st: ∀s∈c.states,few4 s.inn/\few4 s.out
 tr: ∀t∈c.trans,t.guard.length<=4096/\few4 t.acts
theorem vn {l:List OpD} {vs ss:Int} (h:bg l vs ss=true):l.length<=32:=by
 unfold bg iA at h;split at h
 ·simp at h
 ·omega
theorem pD {nv ns:Int} {l:List ActD} (h:eI nv ns l=true):few4 l:=by
 unfold eI at h;rw[K3,Kh,K7]at h;refine⟨by omega,fun a ha=> ?_⟩;have hb:=h.2 a ha;unfold fh at hb;by_cases e:a.code=[]
 ·rw[e];simp
 ·have:bg a.code nv ns=true:=by
   revert hb
   cases bg a.code nv ns<;>simp[e]
  have:=vn this;omega
theorem sb {c:ChD} (h:(chk c).1=0):Small c:=by
 have hr:=zK h;unfold chk at h;split at h
 ·simp at h
 rename_i h1;split at h
 ·simp at h
 split at h
 ·simp at h
 split at h
 ·simp at h
 rename_i h3;split at h
 ·simp at h
 split at h
 ·simp at h
 rename_i h5;refine⟨by omega,by omega,by omega,fun s hs=> ?_,fun t ht=> ?_⟩
 ·obtain⟨k,hk⟩:=MA.1 hs;have:=cP h3 k (K0.1 hk).1;unfold lH at this;rw[hk]at this;simp only[bz,K3]at this;exact⟨pD this.1.2,pD this.2⟩
 ·obtain⟨k,hk⟩:=MA.1 ht;have:=cP h5 k (K0.1 hk).1;unfold qD at this;rw[hk]at this;simp only[dU,K3,Ll]at this;refine⟨?_,pD this.1.2⟩;rcases this.1.1.2 with e|e
  ·have:t.guard=[]:=by simpa using e
   rw[this];simp
  ·have:=vn e;omega
theorem j7 (env:Env) (l:List ActD) (hl:few4 l):Con prog env 106 [actsAV l] (.own 148 4 (l.map au)):=by
 have h1:=hl.1;refine qf func106 call106 ntmps106 results106 ?_;repeat refine st0 ?_
 refine aj 3 3 148 4 ?_;refine lq0 l.length (by omega) (fun j vs=>[(3, .row 3 (vs 3)),(6,actsAV l),(7,I l.length),(8,I j)]) (fun j _=>[(3,⟨4,(l.take j).map au,148,true⟩)]) (fun j _ esc=>esc 3=false) rfl ?_ ?_
 ·rintro j ws esc hlt g1 g2 e0;obtain⟨a,ha⟩:=gE hlt;have f0:=sF env (a.code.map bR) (by rw[Ko];exact hl.2 a (K4 ha));have htl:(l.take j).length=j:=by rw[Kg];omega
  have hf:Fits (j+1) 56:=aC (by omega) (by omega);have htk:l.take (j+1)=l.take j++[a]:=by rw[Ky,ha];rfl
  have F:=ai7 au.eq_1 g1 g2 ha htl hf e0;repeat refine tz1 f0 ?_
  refine⟨j+1,⟨hlt,by simp only[go_sem,e0]⟩,?_,?_,by omega⟩
  ·exact qe
  ·have F:=ai3 au.eq_1 htk @Ka.{0,0};exact qe
 ·rintro ws esc g1 e0;have hta:l.take l.length=l:=Kt;have F:=ai3 g1 hta e0;repeat refine st ?_
  exact aR
theorem oe (env:Env) (c:ChD) (hs:Small c):Con prog env 50 [.agg (aA c)] (.agg (aA c)):=by
 have hn1:=hs.sts;have hn2:=hs.trs;have f0:=Bv env (c.vars.map gh) (by rw[Ko];exact hs.vars);refine qf func50 call50 ntmps50 results50 ?_;have F:=aA.eq_1;repeat refine tz1 f0 ?_
 refine nC 3 9000 0 3 61 6 ?_;refine nC 3 9001 0 4 65 5 ?_
 refine aI (D:=Nat) (fun j vs=>[(1, .loc 1 (vs 1) 0 0),(2, .loc 2 (vs 2) 0 0),(3, .loc 3 (vs 3) 0 0),(17,stsAV c.states),(18,I c.states.length),(19,I j)])
  (fun j vs=>[(1,⟨5,[aA c],26,false⟩),(2,⟨5,[[Sg [],I 0,nilS,nilS,nilS]],26,false⟩),(3,⟨5,[[Sg c.name,I c.initial, .row 14 (vs 14), .row 9000 (vs 9000), .row 9001 (vs 9001)]],26,false⟩),(14,⟨2,c.vars.map gh,117,true⟩),(9000,⟨6,(c.states.take j).map aK,61,true⟩),(9001,⟨5,[],65,true⟩)])
  (fun j _ esc=>j<=c.states.length/\esc 2=false/\esc 3=false/\esc 14=false/\esc 9000=false/\esc 9001=false) (fun j=>c.states.length-j) 0 ?_ ?_ ?_ ?_
 ·refine⟨Kj _,?_,?_,?_,?_,?_⟩<;>simp only[go_sem]
 ·exact qe
 ·have F:=aA.eq_1;exact qe
 rintro j ws esc ⟨hj,e0,e1,e2,e3,e4⟩;by_cases hlt:j<c.states.length
 ·obtain⟨s,hss⟩:=gE hlt;have g1:=nlt hlt;have g2:=aD hlt (by omega);have f1:=j7 env s.inn (hs.st s (K4 hss)).1;have f2:=j7 env s.out (hs.st s (K4 hss)).2;have htl:(c.states.take j).length=j:=by rw[Kg];omega
  have hf:Fits (j+1) 88:=aC (by omega) (by omega);have htk:c.states.take (j+1)=c.states.take j++[s]:=by rw[Ky,hss];rfl
  have F:=ai12 aA.eq_1 aK.eq_1 g1 g2 hss htl hf e0 e1 e2 e3 e4;repeat refine tz2 f1 f2 ?_
  refine⟨j+1,⟨hlt,?_,?_,?_,?_,?_⟩,?_,?_,by omega⟩;all_goals (first|(show _=false;simp only[go_sem,e0,e1,e2,e3,e4];done)|skip)
  ·exact qe
  ·have F:=ai9 aA.eq_1 aK.eq_1 htk @Ka.{0,0} e0 e1 e2 e3 e4;exact qe
 obtain rfl:j=c.states.length:=by omega
 have g1:=nl c.states.length;have hta:c.states.take c.states.length=c.states:=Kt;have F:=ai8 aA.eq_1 g1 hta e0 e1 e2 e3 e4;repeat refine st ?_
 refine aI (D:=Nat) (fun j vs=>[(1, .loc 1 (vs 1) 0 0),(2, .loc 2 (vs 2) 0 0),(3, .loc 3 (vs 3) 0 0),(39,trsAV c.trans),(40,I c.trans.length),(41,I j)])
  (fun j vs=>[(1,⟨5,[aA c],26,false⟩),(2,⟨5,[[Sg [],I 0,nilS,nilS,nilS]],26,false⟩),(3,⟨5,[[Sg c.name,I c.initial, .row 14 (vs 14), .row 9000 (vs 9000), .row 9001 (vs 9001)]],26,false⟩),(14,⟨2,c.vars.map gh,117,true⟩),(9000,⟨6,c.states.map aK,61,true⟩),(9001,⟨5,(c.trans.take j).map az,65,true⟩)])
  (fun j _ esc=>j<=c.trans.length/\esc 2=false/\esc 3=false/\esc 14=false/\esc 9000=false/\esc 9001=false) (fun j=>c.trans.length-j) 0 ?_ ?_ ?_ ?_
 ·refine⟨Kj _,?_,?_,?_,?_,?_⟩<;>simp only[go_sem,e0,e1,e2,e3,e4]
 ·exact qe
 ·have F:=aA.eq_1;exact qe
 try clear e0 e1 e2 e3 e4
 rintro j ws esc ⟨hj,e0,e1,e2,e3,e4⟩;by_cases hlt:j<c.trans.length
 ·obtain⟨t,hss⟩:=gE hlt;have g1:=nlt hlt;have g2:=aD hlt (by omega);have htm:=hs.tr t (K4 hss);have f1:=sF env (t.guard.map bR) (by rw[Ko];exact htm.1);have f2:=j7 env t.acts htm.2;have htl:(c.trans.take j).length=j:=by rw[Kg];omega
  have hf:Fits (j+1) 80:=aC (by omega) (by omega);have htk:c.trans.take (j+1)=c.trans.take j++[t]:=by rw[Ky,hss];rfl
  have F:=ai12 aA.eq_1 az.eq_1 g1 g2 hss htl hf e0 e1 e2 e3 e4;repeat refine tz2 f1 f2 ?_
  refine⟨j+1,⟨hlt,?_,?_,?_,?_,?_⟩,?_,?_,by omega⟩;all_goals (first|(show _=false;simp only[go_sem,e0,e1,e2,e3,e4];done)|skip)
  ·exact qe
  ·have F:=ai9 aA.eq_1 az.eq_1 htk @Ka.{0,0} e0 e1 e2 e3 e4;exact qe
 obtain rfl:j=c.trans.length:=by omega
 have g1:=nl c.trans.length;have hta:c.trans.take c.trans.length=c.trans:=Kt;have F:=ai8 aA.eq_1 g1 hta e0 e1 e2 e3 e4;repeat refine st ?_
 exact aR
end
section
def fp (s:List UInt8):List AV:=[Sg s]
theorem kx (l:List (List UInt8)):bJ (l.map Ch)=l.map fp:=by
 unfold bJ;rw[Ms];rfl
def b9 (c:ChD) (j:Nat):List (List UInt8):=((c.trans.take j).map (·.event)).filter fun e=> !e.isEmpty
def evL (c:ChD):List (List UInt8):=Lib.compact (gL (b9 c c.trans.length))
theorem BN {c:ChD} {j:Nat} {t:TrD} (h:c.trans[j]? =some t):b9 c (j+1)=if t.event.isEmpty then b9 c j else b9 c j++[t.event]:=by
 unfold b9;rw[Ky,h,Ka,LE];cases hb:t.event.isEmpty<;>simp[hb]
theorem oh (c:ChD) (j:Nat):(b9 c j).length<=j:=by
 unfold b9;exact Km (Kq ..) (by simp;omega)
theorem Bh (env:Env) (c:ChD) (hc:c.trans.length<=1000000):Con prog env 51 [.agg (aA c)] (.own 9 1 ((evL c).map fp)):=by
 refine qf func51 call51 ntmps51 results51 ?_;have F:=aA.eq_1;repeat refine st ?_
 refine aj 3 3 9 1 ?_;refine aI (D:=Nat) (fun j vs=>[(3, .row 3 (vs 3)),(7,trsAV c.trans),(8,I c.trans.length),(9,I j)]) (fun j _=>[(3,⟨1,(b9 c j).map fp,9,true⟩)]) (fun j _ esc=>j<=c.trans.length/\esc 3=false) (fun j=>c.trans.length-j) 0 ?_ ?_ ?_ ?_
 ·exact⟨Kj _,rfl⟩
 ·exact qe
 ·(simp only[go_sem,F])
  rfl
 rintro j ws esc ⟨hj,e0⟩;by_cases hlt:j<c.trans.length
 ·obtain⟨t,ht⟩:=gE hlt;have g1:=nlt hlt;have g2:=aD hlt (by omega);have hn:=BN ht;have hl:=oh c j;have hf:Fits ((b9 c j).length+1) 16:=⟨by omega,by omega⟩;cases hb:t.event.isEmpty with
  | true=>
    rw[hb,K5 rfl]at hn;have hb2:(t.event == [])=true:=by simpa using hb
    have F:=ai6 az.eq_1 g1 g2 ht hb2 e0;repeat refine st ?_
    refine⟨j+1,⟨hlt,by simp only[go_sem,e0]⟩,?_,?_,by omega⟩
    ·exact qe
    ·have F:=hn;exact qe
  | false=>
    rw[hb,K2 LO]at hn;have hb2:(t.event == [])=false:=by simpa using hb
    have F:=ai7 az.eq_1 g1 g2 ht hb2 hf e0;repeat refine st ?_
    refine⟨j+1,⟨hlt,by simp only[go_sem,e0]⟩,?_,?_,by omega⟩
    ·exact qe
    ·have F:=ai3 hn fp.eq_1 @Ka.{0,0};exact qe
 ·obtain rfl:j=c.trans.length:=by omega
  have g1:=nl c.trans.length;have hl:=oh c c.trans.length;have F:=ai g1 e0;repeat refine st ?_
  have f1:=yI (b9 c c.trans.length) (by omega);have hsl:(gL (b9 c c.trans.length)).length<=9223372036854775807:=by simp[gL];omega
  have f2:=Bq (gL (b9 c c.trans.length)) hsl;refine nL 3 rfl (row:=⟨1,(b9 c c.trans.length).map fp,9,true⟩) f1 (LL 0) rfl (kx _).symm (by simp only[go_sem,e0];exact iR) (by simp only[go_sem,e0];exact iR) (by simp only[go_sem,e0];exact iR) (by simp only[go_sem,e0];exact iR) ?_;rw[kx];repeat refine st ?_
  refine tX 3 rfl (row:=⟨1,(gL (b9 c c.trans.length)).map fp,9,true⟩) f2 (LL 0) rfl (kx _).symm (by simp only[go_sem,e0];exact iR) (by simp only[go_sem,e0];exact iR) (by simp only[go_sem,e0];exact iR) (by simp only[go_sem,e0];exact iR) iR ?_;rw[kx];repeat refine st ?_
  (refine aM ?_;show (ae _ _ _).run _=some _;simp only[go_sem,F])
  rfl
end
section
theorem eF: ∀a:List UInt8,Op.bytesLess a a=false
 |[]=>rfl
 |x::a=>by simp[Op.bytesLess,eF a]
theorem eX: ∀ {a b c:List UInt8},Op.bytesLess a b=true->Op.bytesLess b c=true->Op.bytesLess a c=true
 |_,[],_,h,_=>by simp[Op.bytesLess]at h
 |_,_::_,[],_,h=>by simp[Op.bytesLess]at h
 |[],_::_,_::_,_,_=>rfl
 | x::a,y::b,z::c,h,k=>by
   simp only[Op.bytesLess,Ll,Kh,K3,L5]at h k |-;rcases h with h|⟨h,h'⟩
   ·rcases k with k|⟨k,k'⟩
    ·exact .inl (UInt8.lt_trans h k)
    ·exact .inl (k ▸ h)
   ·rcases k with k|⟨k,k'⟩
    ·exact .inl (h ▸ k)
    ·exact .inr ⟨h.trans k,eX h' k'⟩
theorem de: ∀ {a b:List UInt8},Op.bytesLess a b=false->Op.bytesLess b a=false->a=b
 |[],[],_,_=>rfl
 |[],_::_,h,_=>by simp[Op.bytesLess]at h
 |_::_,[],_,h=>by simp[Op.bytesLess]at h
 | x::a,y::b,h,k=>by
   simp only[Op.bytesLess,Np,LZ,Bool.and_eq_false_iff]at h k;have e:x=y:=UInt8.le_antisymm (UInt8.not_lt.1 k.1) (UInt8.not_lt.1 h.1);subst e;simp only[Ow,Bool.true_eq_false,false_or]at h k;rw[de h.2 k.2]
theorem oE {a b:List UInt8} (h:Op.bytesLess a b=true):Op.bytesLess b a=false:=by
 cases k:Op.bytesLess b a
 ·rfl
 ·have:=eX h k;rw[eF]at this;cases this
end
section
abbrev Str8:=List UInt8
abbrev SL (a b:Str8):Prop:=Op.bytesLess a b=true
/-! Texts in the order of bytes -/
theorem J2: ∀(x y:Str8),Op.bytesLess x y=decide (x<y)
 |[],[]=>by simp[Op.bytesLess]
 |_::_,[]=>by simp[Op.bytesLess]
 |[],_::_=>by simp[Op.bytesLess]
 | a::x,b::y=>by
   rw[Op.bytesLess,J2 x y];simp only[List.cons_lt_cons_iff];by_cases h1:a<b<;>by_cases h2:a=b<;>by_cases h3:x<y<;>simp[h1,h2,h3]
theorem IX (x y:Str8):decide (x<=y)= !Op.bytesLess y x:=by
 rw[J2, <-decide_not];rfl
theorem yo {a b c:Str8} (h1:Op.bytesLess b a=false) (h2:Op.bytesLess c b=false):Op.bytesLess c a=false:=by
 cases k:Op.bytesLess c a
 ·rfl
 ·cases k3:Op.bytesLess a b
  ·rw[<-de k3 h1,k]at h2;cases h2
  ·rw[eX k k3]at h2;cases h2
theorem zH (l:List Str8):(gL l).Pairwise fun a b=>Op.bytesLess b a=false:=by
 have:=OO (le:=fun x y:Str8=>decide (x<=y)) (fun a b c hab hbc=>by
  simp only[IX,Lm]at*;exact yo hab hbc) (fun a b=>by
  simp only[IX];cases k:Op.bytesLess b a
  ·simp
  ·rw[oE k];simp) l
 exact this.imp fun {a b} h=>by simpa[IX]using h
theorem EP {l:List Str8} {x:Str8} :x∈gL l↔x∈l:=List.mem_mergeSort
theorem pA (l:List Str8) (hs:l.Pairwise fun a b=>Op.bytesLess b a=false): ∀m,m<=l.length->(Lib.compactUpTo l.toArray m).Pairwise SL/\ ∀x,x∈Lib.compactUpTo l.toArray m↔x∈l.take m
 |0,_=>by simp[Lib.compactUpTo]
 | m+1,hm=>by
   obtain⟨h1,h2⟩:=pA l hs m (by omega);have ey:l.toArray[m]! =l[m]'(by omega):=by rw[NA _ m (by simp;omega)];rfl
   have et:l.take (m+1)=l.take m++[l[m]'(by omega)]:=by rw[Ky,KZ (by omega)];rfl
   have hle: ∀k (hk:k<m),Op.bytesLess (l[m]'(by omega)) (l[k]'(by omega))=false:=fun k hk=>LQ.1 hs k m (by omega) (by omega) hk;rw[Lib.compactUpTo_succ,ey];by_cases hk:Lib.keeps l.toArray m=true
   ·rw[K5 hk];refine⟨NB.2 ⟨h1,NF ..,fun x hx y hy=> ?_⟩,fun x=>by rw[et,Kx,Kx,h2]⟩;rw[Kl.1 hy];rw[h2,Nv]at hx;obtain⟨k,hk2,rfl⟩:=hx;have hkm:k<m:=by omega
    show Op.bytesLess _ _=true;cases hq:Op.bytesLess (l[k]'(by omega)) (l[m]'(by omega)) with
    |true=>rfl
    | false=>
      have e:=de hq (hle k hkm)
      exfalso
      unfold Lib.keeps at hk;rw[Kh]at hk;rcases hk with hk|hk
      ·omega
      ·apply hk;rw[ey,NA _ (m-1) (by simp;omega)];show l[m]'(by omega)=l[m-1]'(by omega);have e1:=hle (m-1) (by omega);by_cases ek:k=m-1
       ·subst ek;exact e.symm
       ·have e2:=LQ.1 hs k (m-1) (by omega) (by omega) (by omega);rw[e]at e2;exact de e1 e2
   ·rw[K2 hk,Lo];refine⟨h1,fun x=> ?_⟩;rw[h2,et,Kx,Kl];refine⟨.inl,fun h=>h.elim id fun h=> ?_⟩;unfold Lib.keeps at hk;rw[Kh,Oi,Nf,ey,NA _ (m-1) (by simp;omega)]at hk;rw[h,hk.2];exact Nv.2 ⟨m-1,by omega,rfl⟩
theorem xK (c:ChD):(evL c).Pairwise SL:=(pA _ (zH _) _ (Kc _)).1
theorem xi {c:ChD} {s:Str8} :s∈evL c↔s≠[]/\ ∃t∈c.trans,t.event=s:=by
 unfold evL Lib.compact;rw[(pA _ (zH _) _ (Kc _)).2,Kt,EP];unfold b9;rw[Kt,Ke,Kb];constructor
 ·rintro⟨⟨t,h1,h2⟩,h3⟩;exact⟨by simpa using h3,t,h1,h2⟩
 ·rintro⟨h,t,h1,h2⟩;exact⟨⟨t,h1,h2⟩,by simpa using h⟩
theorem JE (c:ChD):(evL c).length<=c.trans.length:=by
 have h1:(Lib.compact (gL (b9 c c.trans.length))).length<=(gL (b9 c c.trans.length)).length:=by
  unfold Lib.compact Lib.compactUpTo;rw[Ko];exact Km (Kq ..) (by simp)
 have h2:=oh c c.trans.length;unfold evL;have h3:(gL (b9 c c.trans.length)).length=(b9 c c.trans.length).length:=by simp[gL]
 omega
/-! Where a text stands, or would stand -/
def rC (l:List Str8) (x:Str8):Nat:=(l.filter fun y=>Op.bytesLess y x).length
def Cut (l:List Str8) (x:Str8) (p:Nat):Prop:=p<=l.length/\ ∀k y,l[k]? =some y->(Op.bytesLess y x=true↔k<p)
theorem wq: ∀ {l:List Str8},l.Pairwise SL-> ∀x,Cut l x (rC l x)
 |[],_,x=>⟨Kj _,fun k y h=>by simp at h⟩
 | a::l,h,x=>by
   obtain⟨h1,h2⟩:=MI.1 h;obtain⟨k1,k2⟩:=wq h2 x;unfold rC at*;rw[MZ];by_cases ha:Op.bytesLess a x=true
   ·rw[K5 ha,Ks];refine⟨by simp only[Ks];omega,fun k y hk=> ?_⟩;cases k with
    | zero=>
      obtain rfl:a=y:=by simpa using hk
      exact⟨fun _=>by omega,fun _=>ha⟩
    | succ k=>
      rw[k2 k y (by simpa using hk)];omega
   ·rw[K2 ha];have hno: ∀y∈l,¬Op.bytesLess y x=true:=fun y hy hb=>ha (eX (h1 y hy) hb);have e:(l.filter fun y=>Op.bytesLess y x)=[]:=Mu.2 hno;rw[e];refine⟨Kj _,fun k y hk=>⟨fun hb=> ?_,fun hk=>by simp at hk⟩⟩;cases k with
    | zero=>
      obtain rfl:a=y:=by simpa using hk
      exact absurd hb ha
    |succ k=>exact absurd hb (hno y (K4 (by simpa using hk)))
theorem Hs {l:List Str8} (h:l.Pairwise SL) {x:Str8} (hx:x∈l):l[rC l x]? =some x:=by
 obtain⟨h1,h2⟩:=wq h x;obtain⟨k,hk⟩:=MA.1 hx;have h3:=(h2 k x hk);rw[eF]at h3;have h3: ¬k<rC l x:=fun e=>by simpa using h3.2 e
 have hkl:=(K0.1 hk).1;by_cases e:k=rC l x
 ·rw[<-e];exact hk
 ·have hp:rC l x<l.length:=by omega
  have h4:=LQ.1 h (rC l x) k hp hkl (by omega);rw[(K0.1 hk).2]at h4;have:=(h2 _ _ (KZ hp)).1 h4;omega
def evI (c:ChD) (s:Str8):Int:=if (evL c)[rC (evL c) s]? =some s then(rC (evL c) s:Nat) else -1
theorem uI {c:ChD} {s:Str8} (h:s∈evL c): ∃k:Nat,evI c s=k/\(evL c)[k]? =some s:=⟨rC (evL c) s,by unfold evI;rw[K5 (Hs (xK c) h)],Hs (xK c) h⟩
theorem D8 {c:ChD} {s:Str8} (h:s∉evL c):evI c s= -1:=by
 unfold evI;rw[K2 fun e=>h (K4 e)]
theorem Jm {c:ChD} {s t:Str8} (hs:s∈evL c) (ht:t∈evL c) (h:evI c s=evI c t):s=t:=by
 obtain⟨k,h1,h2⟩:=uI hs;obtain⟨j,h3,h4⟩:=uI ht;have:k=j:=by omega
 subst this;exact MF (h2.symm.trans h4)
theorem xL (c:ChD):evI c []= -1:=D8 fun h=>(xi.1 h).1 rfl
/-! A state's transitions -/
def dA (c:ChD) (k:Nat):Int×Int:=match c.trans[k]? with
 |some t=>(t.src,evI c t.event)
 |none=>(-1, -1)
def iU (c:ChD) (j:Nat) (p:Int×Int):List Nat:=(List.range j).filter fun k=>dA c k=p
def keysTo (c:ChD):Nat->List (Int×Int)
 |0=>[]
 |j+1=>if dA c j∈keysTo c j then keysTo c j else keysTo c j++[dA c j]
def atL (c:ChD) (i e:Int):List Nat:=iU c c.trans.length (i,e)
theorem nQ (c:ChD) (j:Nat) (p:Int×Int):iU c (j+1) p=if dA c j=p then iU c j p++[j] else iU c j p:=by
 unfold iU;rw[Mb,LE];by_cases h:dA c j=p<;>simp[h]
theorem nf {c:ChD} {p:Int×Int} : ∀ {j:Nat},p∈keysTo c j↔ ∃k,k<j/\dA c k=p
 |0=>by simp[keysTo]
 | j+1=>by
   unfold keysTo;split
   ·rename_i h;rw[nf];constructor
    ·rintro⟨k,h1,h2⟩;exact⟨k,by omega,h2⟩
    ·rintro⟨k,h1,h2⟩;by_cases e:k=j
     ·subst e;rw[<-h2];exact nf.1 h
     ·exact⟨k,by omega,h2⟩
   ·rw[Kx,nf,Kl];constructor
    ·rintro(⟨k,h1,h2⟩|h)
     ·exact⟨k,by omega,h2⟩
     ·exact⟨j,by omega,h.symm⟩
    ·rintro⟨k,h1,h2⟩;by_cases e:k=j
     ·subst e;exact .inr h2.symm
     ·exact .inl ⟨k,by omega,h2⟩
theorem mL (c:ChD): ∀j,(keysTo c j).Nodup
 |0=> .nil
 | j+1=>by
   unfold keysTo;split
   ·exact mL c j
   ·rename_i h;exact MW.2 ⟨mL c j,by simp,fun a ha b hb e=>h (by rw[Kl.1 hb]at e;exact e ▸ ha)⟩
theorem sd {c:ChD} {j:Nat} {p:Int×Int} (h:p∉keysTo c j):iU c j p=[]:=by
 unfold iU;rw[Mu];intro k hk;simp only[Kh];exact fun e=>h (nf.2 ⟨k,Kw.1 hk,e⟩)
theorem Cl (c:ChD) (j:Nat) (p:Int×Int):(iU c j p).length<=j:=by
 unfold iU;exact Km (Kq ..) (by simp)
def qN (p:Int×Int):List (Int×Int)->Nat->Option Nat
 |[],_=>none
 |q::l,i=>if p=q then some i else qN p l (i+1)
theorem ox {p:Int×Int} : ∀ {l:List (Int×Int)} {i n:Nat},qN p l i=some n->i<=n/\l[n-i]? =some p
 |[],i,n,h=>by simp[qN]at h
 | q::l,i,n,h=>by
   unfold qN at h;split at h
   ·rename_i e;obtain rfl:i=n:=by simpa using h
    simp[e]
   ·obtain⟨h1,h2⟩:=ox h;refine⟨by omega,?_⟩;rw[show n-i=(n-(i+1))+1 by omega,ML];exact h2
theorem lB {p:Int×Int} : ∀ {l:List (Int×Int)} {i:Nat},qN p l i=none->p∉l
 |[],i,h=>by simp
 | q::l,i,h=>by
   unfold qN at h;split at h
   ·cases h
   ·rename_i e;rw[Kr];exact fun hh=>hh.elim e (lB h)
theorem IL {c:ChD} (i:Int) (s:Str8) (h:s=[]\/s∈evL c):atL c i (evI c s)=(List.range c.trans.length).filter fun k=>match c.trans[k]? with|some t=>decide (t.src=i/\t.event=s)|none=>false:=by
 unfold atL iU;apply MG;intro k hk;have hk:=Kw.1 hk;have hs:c.trans[k]? =some c.trans[k]:=KZ hk;unfold dA;rw[hs];simp only[NW]
 congr 1
 generalize ht:c.trans[k]=t at*;have htm:t∈c.trans:=K4 hs;apply propext;refine and_congr_right fun _=>⟨fun e=> ?_,fun e=>by rw[e]⟩;rcases h with rfl|h
 ·rw[xL]at e;by_cases hn:t.event=[]
  ·exact hn
  ·obtain⟨k,h1,_⟩:=uI (xi.2 ⟨hn,t,htm,rfl⟩);omega
 ·obtain⟨k,h1,_⟩:=uI h;by_cases hn:t.event=[]
  ·rw[hn,xL]at e;omega
  ·exact Jm (xi.2 ⟨hn,t,htm,rfl⟩) h e
end
section
theorem zY (env:Env) (s:List UInt8):Con prog env 173 [Sg s] (B false):=by
 refine qf func173 call173 ntmps173 results173 ?_;repeat refine st0 ?_
 exact aR0
theorem Ga (env:Env) (s:List UInt8):Con prog env 215 [Sg s] (B false):=by
 refine qf func215 call215 ntmps215 results215 ?_;repeat refine st0 ?_
 exact aR0
theorem Ev (env:Env) (s t:List UInt8):Con prog env 172 [Sg s,Sg t] (B (Op.bytesLess s t)):=by
 have f0:=Ga env s;refine qf func172 call172 ntmps172 results172 ?_;repeat refine kB f0 ?_
 exact aR0
theorem yn (env:Env) (l:List (List UInt8)) (x:List UInt8) (p:Nat) (hp:Cut l x p) (hl:l.length<=1000000):Con prog env 110 [.seq 1 (l.map fp),Sg x] (.tuple [I p,B (l[p]? == some x)]):=by
 have f0:=zY env x;refine qf func110 call110 ntmps110 results110 ?_;repeat refine st0 ?_
 refine lp0 (D:=Nat×Nat) (fun d _=>[(0, .seq 1 (l.map fp)),(1,Sg x),(6,I l.length),(7,I d.1),(8,I d.2)]) (fun _ _=>[]) (fun d _ _=>d.1<=p/\p<=d.2/\d.2<=l.length) (fun d=>d.2-d.1) (0,l.length) ⟨Kj _,hp.1,Kc _⟩ ?_;rintro⟨i,j⟩ ws esc ⟨h1,h2,h3⟩;simp only at h1 h2 h3;by_cases hlt:i<j
 ·have g1:=nlt hlt;have hm:(i+j)/2<l.length:=by omega
  obtain⟨y,hy⟩: ∃y,l[(i+j)/2]? =some y:=⟨l[(i+j)/2],KZ hm⟩;have hyp:=hp.2 _ _ hy;have f1:=Ev env y x;have g2:IntKind.i64.wrap ((i:Int)+(j:Int))=((i+j:Nat):Int):=by rw[aU (by omega) (by omega)];omega
  have g3:IntKind.u64.wrap ((i+j:Nat):Int)=((i+j:Nat):Int):=IntWalk.u64_in _ (by omega)
  have g4:IntKind.i64.wrap (((i+j:Nat):Int).fdiv (2^min 1 64))=(((i+j)/2:Nat):Int):=by
   rw[show ((i+j:Nat):Int).fdiv (2^min 1 64)=(((i+j)/2:Nat):Int) from(PN (i+j) 2).symm,aU (by omega) (by omega)]
  have g5:(((i+j)/2:Nat):Int)< (l.length:Int):=by omega
  have g6:=aD (k:=(i+j)/2) (n:=l.length) hm (by omega);generalize hmm:(i+j)/2=mm at*;cases hb:Op.bytesLess y x with
  | true=>
    rw[hb]at f1 hyp;have:=hyp.1 rfl;have F:=ai8 g1 g2 g3 g4 g5 g6 hy fp.eq_1;repeat refine tz1 f1 ?_
    refine⟨(mm+1,j),⟨?_,?_,?_⟩,?_,?_,?_⟩
    ·simp only;omega
    ·exact h2
    ·exact h3
    ·exact qe
    ·exact qe
    ·simp only;omega
  | false=>
    rw[hb]at f1 hyp;have: ¬mm<p:=fun h=>by cases hyp.2 h
    have F:=ai8 g1 g2 g3 g4 g5 g6 hy fp.eq_1;repeat refine tz1 f1 ?_
    refine⟨(i,mm),⟨?_,?_,?_⟩,?_,?_,?_⟩
    ·exact h1
    ·simp only;omega
    ·simp only;omega
    ·exact qe
    ·exact qe
    ·simp only;omega
 ·obtain rfl:i=j:=by omega
  obtain rfl:i=p:=by omega
  have g1:=nl i;by_cases hi:i<l.length
  ·have g2:=nlt hi;obtain⟨y,hy⟩:=gE hi;have f1:=zY env y;cases hb:(y==x) with
   | true=>
     have hr:(l[i]? == some x)=true:=by rw[hy];simpa using hb
     rw[hr];have F:=ai5 g1 g2 hy hb fp.eq_1;repeat refine tz2 f0 f1 ?_
     exact aR
   | false=>
     have hr:(l[i]? == some x)=false:=by rw[hy];simpa using hb
     rw[hr];have F:=ai5 g1 g2 hy hb fp.eq_1;repeat refine tz2 f0 f1 ?_
     exact aR
  ·have g2: ¬(i:Int)< (l.length:Int):=by omega
   have hr:(l[i]? == some x)=false:=by rw[Kf (by omega)];rfl
   rw[hr];have F:=ai3 g1 g2 fp.eq_1;repeat refine tz1 f0 ?_
   exact aR
end
section
theorem mT (env:Env) (c:ChD) (h:Full c): ∀(n i:Nat),i<c.states.length->c.states.length<=i+n->Con prog env 54 [.agg (aA c),I i] (.own 3 1 ((bgL c i).map aB))
 |0,i,hi,hn=>by omega
 | n+1,i,hi,hn=>by
   have hlen:=h.few;obtain⟨s,hs⟩:=gE hi;have hb:=J3 h hs;have hbl:=IJ h hi;have g0:((i:Nat):Int)< (c.states.length:Int):=by omega
   by_cases e1:s.kind=1
   ·by_cases e2:0<=s.initial
    ·obtain⟨j,hj,e3⟩:=xC h hs e1 e2;have hg:=bE h.toRight (aX hj).1;rw[K5 ⟨e1,e2⟩,e3,Ln]at hb;have f0:=mT env c h n j (by omega) (by omega);rw[hb]at hbl;have hf:Fits (1+(bgL c j).length) 8:=aC (by simp at hbl;omega) (by omega);rw[hb];refine qf func54 call54 ntmps54 results54 ?_;have F:=ai8 aA.eq_1 aK.eq_1 hs e1 e3 g0 aB.eq_1 hf;repeat refine tz1 f0 ?_
     exact aR
    ·rw[K2 fun e=>e2 e.2,K2 (by omega)]at hb;rw[hb];refine qf func54 call54 ntmps54 results54 ?_;have F:=ai7 aA.eq_1 aK.eq_1 hs e1 e2 g0 aB.eq_1;repeat refine st ?_
     exact aR
   ·rw[K2 fun e=>e1 e.1]at hb;have e1':(s.kind==1)=false:=by simpa using e1
    by_cases e2:s.kind=2
    ·rw[K5 e2]at hb;have f1:=gX env c i (by omega);generalize hK:kidsL c i true=K at*
     have hKm: ∀k∈K,i<k/\k<c.states.length:=fun k hk=>by
      rw[<-hK]at hk;have:=bE h.toRight (aX hk).1;omega
     have hKl:K.length<=32:=by
      have:=(bO c i true).length_le_of_subset (l₂:=List.range c.states.length) fun m hm=>Kw.2 (hKm m (hK ▸ hm)).2;rw[hK]at this;simp at this;omega
     have hpre: ∀j,(i::(K.take j).flatMap (bgL c)).length<=32:=fun j=>by
      have e:(K.take j).flatMap (bgL c)++(K.drop j).flatMap (bgL c)=K.flatMap (bgL c):=by rw[<-MY,Mh]
      have:=LF List.length e;rw[hb]at hbl;simp only[Ks,K8]at*;omega
     refine qf func54 call54 ntmps54 results54 ?_;have F:=ai7 aA.eq_1 aK.eq_1 hs e1' e2 g0 aB.eq_1;repeat refine tz1 f1 ?_
     have F:=ai3 aA.eq_1 aB.eq_1 @List.flatMap_nil.{0,0};refine lq K.length (by omega) (fun j vs=>[(2, .loc 2 (vs 2) 0 0),(5, .row 10 (vs 10)),(37, .row 37 (vs 37)),(38,I K.length),(39,I j)]) (fun j _=>[(2,⟨5,[aA c],26,false⟩),(10,⟨1,(i::(K.take j).flatMap (bgL c)).map aB,3,true⟩),(37,⟨1,K.map aB,3,true⟩)]) (fun j _ esc=>esc 10=false) rfl ?_ ?_
     ·rintro j ws esc hlt q1 q2 e0;obtain⟨k,hk⟩:=gE hlt;have hkm:=hKm k (K4 hk);have f0:=mT env c h n k (by omega) (by omega);have htk:(K.take (j+1)).flatMap (bgL c)=(K.take j).flatMap (bgL c)++bgL c k:=by rw[Ky,hk,MY];simp
      have hp:=hpre (j+1);rw[htk]at hp;have hf:Fits (((K.take j).flatMap (bgL c)).length+1+(bgL c k).length) 8:=aC (by simp only[Ks,K8]at hp;omega) (by omega);have F:=ai7 aA.eq_1 aB.eq_1 hk q1 q2 hf e0;repeat refine tz1 f0 ?_
      refine⟨j+1,⟨hlt,by simp only[go_sem,e0]⟩,?_,?_,by omega⟩
      ·exact qe
      ·have F:=ai4 aA.eq_1 aB.eq_1 htk @Ka.{0,0};exact qe
     ·rintro ws esc q1 e0;have hta:K.take K.length=K:=Kt;rw[hb];have F:=ai4 aB.eq_1 q1 hta e0;repeat refine st ?_
      exact aR
    ·rw[K2 e2]at hb;have e2':(s.kind==2)=false:=by simpa using e2
     rw[hb];refine qf func54 call54 ntmps54 results54 ?_;have F:=ai7 aA.eq_1 aK.eq_1 hs e1' e2' g0 aB.eq_1;repeat refine st ?_
     exact aR
theorem v7 (env:Env) (c:ChD) (hc:c.trans.length<=1000000) (x y:AV) (s:List UInt8):Con prog env 52 [.ref 9 [[Sg c.name,I c.initial,varsAV c.vars,stsAV c.states,trsAV c.trans,aP c, .seq 1 ((evL c).map fp),x,y]] 0 0,Sg s] (I (evI c s)):=by
 have hl:=JE c;have f0:=yn env (evL c) s (rC (evL c) s) (wq (xK c) s) (by omega);unfold evI;by_cases h:(evL c)[rC (evL c) s]? =some s
 ·have hb:((evL c)[rC (evL c) s]? == some s)=true:=by simpa using h
  rw[hb]at f0;rw[K5 h];refine qf func52 call52 ntmps52 results52 ?_;repeat refine kB f0 ?_
  exact aR0
 ·have hb:((evL c)[rC (evL c) s]? == some s)=false:=by simpa using h
  rw[hb]at f0;rw[K2 h];refine qf func52 call52 ntmps52 results52 ?_;repeat refine kB f0 ?_
  exact aR0
end
section
def dW (c:ChD) (j:Nat) (vs:Nat->Nat):List (List AV):=(keysTo c j).mapIdx fun q p=>[.agg [I p.1,I p.2], .row (q+6000) (vs (q+6000))]
def keyRows (c:ChD) (j:Nat):List Row:=(keysTo c j).map fun p=>⟨1,(iU c j p).map aB,3,true⟩
def ej (c:ChD):List (List AV):=(keysTo c c.trans.length).map fun p=>[.agg [I p.1,I p.2], .seq 1 ((iU c c.trans.length p).map aB)]
def pg (c:ChD) (j:Nat):List (List AV):=(List.range j).map fun i=>[.seq 1 ((sbL c i).map aB)]
def tabCells (c:ChD):List AV:=[Sg c.name,I c.initial,varsAV c.vars,stsAV c.states,trsAV c.trans,aP c, .seq 1 ((evL c).map fp), .fmap (ej c), .seq 1 (pg c c.states.length)]
def aJ (c:ChD):AV:= .ref 9 [tabCells c] 0 0
theorem ga (c:ChD) (j:Nat) (vs:Nat->Nat):(dW c j vs).length=(keysTo c j).length:=by simp[dW]
theorem db (c:ChD) (j:Nat) (vs:Nat->Nat) (q:Nat):(dW c j vs)[q]? =((keysTo c j)[q]?).map fun p=>[.agg [I p.1,I p.2], .row (q+6000) (vs (q+6000))]:=by simp[dW]
theorem br (c:ChD) (j q:Nat):(keyRows c j)[q]? =((keysTo c j)[q]?).map fun p=>⟨1,(iU c j p).map aB,3,true⟩:=by simp[keyRows]
theorem ww (p:Int×Int) (f:Nat->AV): ∀(l:List (Int×Int)) (i:Nat),mfind prog 114 (.agg [I p.1,I p.2]) (l.mapIdx fun q k=>[.agg [I k.1,I k.2],f q]) i=some (qN p l i)
 |[],i=>rfl
 |(a,b)::l,i=>by
   have ih:=ww p (fun q=>f (q+1)) l (i+1);obtain⟨kn,ks⟩:=p;rw[List.mapIdx_cons];by_cases h:kn=a/\ks=b
   ·obtain⟨rfl,rfl⟩:=h;have e1:(kn==kn)=true:=by simp
    have e2:(ks==ks)=true:=by simp
    simp only[go_sem,qP,cN,e1,e2,qN]
   ·have e1:(kn==a&&(ks==b))=false:=by
     rw[Mt];intro e;simp only[K3,L5]at e;exact h e
    have e2: ¬((kn,ks):Int×Int)=(a,b):=fun e=>h (by simpa using e);simp only at ih;simp only[go_sem,qP,cN,e1,qN,e2,ih]
theorem En (c:ChD) (j:Nat) (vs:Nat->Nat) (a b:Int):mfind prog 114 (.agg [I a,I b]) (dW c j vs) 0=some (qN (a,b) (keysTo c j) 0):=ww (a,b) (fun q=> .row (q+6000) (vs (q+6000))) (keysTo c j) 0
theorem Cw (c:ChD) (a b:Int):mfind prog 114 (.agg [I a,I b]) (ej c) 0=some (qN (a,b) (keysTo c c.trans.length) 0):=by
 have:ej c=(keysTo c c.trans.length).mapIdx fun q k=>[.agg [I k.1,I k.2],((ej c)[q]?.bind (·[1]?)).getD .any]:=by
  apply LY;intro q;rw[List.getElem?_mapIdx];unfold ej;rw[K9];cases (keysTo c c.trans.length)[q]? with
  |none=>rfl
  |some p=>rfl
 rw[this];exact ww (a,b) _ _ 0
/-! The state at the head of the loop -/
def nG (c:ChD) (g:Nat->Nat):Row:=⟨9,[[Sg c.name,I c.initial,varsAV c.vars,stsAV c.states,trsAV c.trans,aP c, .seq 1 ((evL c).map fp), .mp 25 (g 25),nilS]],111,false⟩
def RA (c:ChD) (j:Nat) (g:Nat->Nat):List (Nat×Row):=(1,⟨5,[aA c],26,false⟩)::(27,nG c g)::(25,⟨0,dW c j g,108,false⟩)::rowsAt 6000 (keyRows c j)
theorem nM (c:ChD) (j:Nat) (q:Nat):al (rowsAt 6000 (keyRows c j)) (q+6000)=(keyRows c j)[q]? :=by
 rw[ml,K5 (by omega),show q+6000-6000=q by omega]
theorem BW {c:ChD} {j q:Nat} {p:Int×Int} {g g':Nat->Nat} (hk:keysTo c (j+1)=keysTo c j) (hq:(keysTo c j)[q]? =some p) (h1: ∀k,k≠q->g' (k+6000)=g (k+6000)) {v:Nat} (h2:g' (q+6000)=v):(dW c j g).set q [.agg [I p.1,I p.2], .row (q+6000) v]=dW c (j+1) g':=by
 apply LY;intro k;rw[Lu,db,db,ga,hk];by_cases e:q=k
 ·subst e;rw[K5 rfl,K5 (K0.1 hq).1,hq, <-h2];rfl
 ·rw[K2 e];cases (keysTo c j)[k]? with
  |none=>rfl
  |some p'=>simp only[Kp,h1 k (MU e)]
theorem BU {c:ChD} {j q:Nat} {p:Int×Int} {g:Nat->Nat} (hq:(keysTo c j)[q]? =some p):(dW c j g).set q [.agg [I p.1,I p.2], .row (q+6000) (g (q+6000))]=dW c j g:=by
 apply LY;intro k;rw[Lu,db,ga];by_cases e:q=k
 ·subst e;rw[K5 rfl,K5 (K0.1 hq).1,hq];rfl
 ·rw[K2 e]
theorem BV {c:ChD} {j:Nat} {g g':Nat->Nat} (hk:keysTo c (j+1)=keysTo c j++[dA c j]) (h1: ∀k,k< (keysTo c j).length->g' (k+6000)=g (k+6000)) {v:Nat} (h2:g' ((keysTo c j).length+6000)=v):dW c j g++[[.agg [I (dA c j).1,I (dA c j).2], .row ((keysTo c j).length+6000) v]]=dW c (j+1) g':=by
 apply LY;intro k;rw[db,hk];by_cases hlt:k< (keysTo c j).length
 ·rw[LH (by rw[ga];exact hlt),LH hlt,db,KZ hlt];simp only[Kp,h1 k hlt]
 ·rw[LA (by rw[ga];omega),LA (by omega),ga];by_cases e:k=(keysTo c j).length
  ·subst e;simp[h2]
  ·rw[Kf (by simp;omega),Kf (by simp;omega)];rfl
theorem wU {c:ChD} {j q:Nat} {p:Int×Int} (hk:keysTo c (j+1)=keysTo c j) (hp:dA c j=p) (hn:(keysTo c j).Nodup) (hq:(keysTo c j)[q]? =some p) (k:Nat):(keyRows c (j+1))[k]? =if k=q then some ⟨1,(iU c j p).map aB++[[I j]],3,true⟩ else(keyRows c j)[k]? :=by
 rw[br,br,hk];by_cases e:k=q
 ·subst e;rw[K5 rfl,hq];simp only[Kp,nQ,hp,L1,Ka,LR,MD,aB]
 ·rw[K2 e];cases hk2:(keysTo c j)[k]? with
  |none=>rfl
  | some p'=>
    have hne: ¬p=p':=fun e2=>by
     subst e2;obtain⟨a1,b1⟩:=K0.1 hq;obtain⟨a2,b2⟩:=K0.1 hk2;have hpw:=LQ.1 (MJ.1 hn);rcases NO k q with hlt|hlt|hlt
     ·exact hpw k q a2 a1 hlt (b2.trans b1.symm)
     ·exact e hlt
     ·exact hpw q k a1 a2 hlt (b1.trans b2.symm)
    simp only[Kp,nQ,hp,K2 hne]
theorem wT {c:ChD} {j:Nat} (hk:keysTo c (j+1)=keysTo c j++[dA c j]) (hno:dA c j∉keysTo c j) (k:Nat):(keyRows c (j+1))[k]? =if k=(keysTo c j).length then some ⟨1,[[I j]],3,true⟩ else(keyRows c j)[k]? :=by
 rw[br,br,hk];by_cases e:k=(keysTo c j).length
 ·subst e;simp only[L1,LA (Kc _),N5,LV,Kp,nQ,sd hno,Mw,LR,MD,aB]
 ·rw[K2 e];by_cases hlt:k< (keysTo c j).length
  ·rw[LH hlt,KZ hlt];have hne: ¬dA c j=(keysTo c j)[k]:=fun e2=>hno (e2 ▸ MS hlt);simp only[Kp,nQ,K2 hne]
  ·rw[Kf (by simp;omega),Kf (by omega)];rfl
def FA (c:ChD) (j:Nat) (g:Nat->Nat):List (Nat×AV):=[(1, .loc 1 (g 1) 0 0),(2, .lit (.pointer none)),(3, .lit .nilIface),(4,aP c),(6, .loc 27 (g 27) 0 0),(32,trsAV c.trans),(33,I c.trans.length),(34,I j)]
def RN (c:ChD) (j:Nat) (g:Nat->Nat):List (Nat×Row):=(1,⟨5,[aA c],26,false⟩)::(27,nG c g)::(25,⟨0,dW c j g++[[.agg [I (dA c j).1,I (dA c j).2], .row 55 (g 55)]],108,false⟩)::(55,⟨1,[[I j]],3,true⟩)::rowsAt 6000 (keyRows c j)
theorem Ep (c:ChD) (j:Nat) (vs:Nat->Nat) {g gm:Nat->Nat->Option AV} (h: ∀q v,g (q+6000) v=none):(dW c j vs).map (·.map (AV.see g gm))=dW c j vs:=by
 apply LY;intro q;rw[K9,db];cases (keysTo c j)[q]? with
 |none=>rfl
 |some p=>simp only[Kp,LR,MD,AV.see,AV.see.seeL,h,M5]
theorem AN (c:ChD) (vs:Nat->Nat) {g gm:Nat->Nat->Option AV} (h: ∀v,gm 25 v=none):(nG c vs).see g gm=nG c vs:=by
 simp only[Row.see,nG,LR,MD,AV.see,AV.see.seeL,h,M5,aP,Ku,Ld]
theorem C5 (c:ChD) {g gm:Nat->Nat->Option AV} :(aA c).map (AV.see g gm)=aA c:=rfl
theorem kp {s:St} {r r2:Nat} {row:Row} {k:Nat} :(fF s r r2 row).rows k=if k=r2 then some row else if k=r then none else(s.rows k).map (Row.see (qA r (s.vs r) r2 (s.vs r2+1)) fun _ _=>none):=rfl
theorem EX (v n v2 q w:Nat):qA 55 v n v2 (q+6000) w=none:=by unfold qA;rw[K2 (by omega)]
theorem Ik {c:ChD} {j:Nat} (hk:keysTo c (j+1)=keysTo c j++[dA c j]) (hno:dA c j∉keysTo c j) (F:Nat) {g:Nat->Nat} {e:Nat->Bool} (he:e 27=false): ∃g' e',e' 27=false/\Turned (head (FA c F g) (RN c j g) g e) (head (FA c F g') (RA c (j+1) g') g' e'):=by
 generalize hn:(keysTo c j).length=n at*;have hr0:(keyRows c j)[n]? =none:=by rw[br,Kf (by omega)];rfl
 have hrow:(head (FA c F g) (RN c j g) g e).rows 55=some ⟨1,[[I j]],3,true⟩:=by simp[head,RN,al]
 have hfree:(head (FA c F g) (RN c j g) g e).rows (n+6000)=none:=by
  have:=nM c j n;rw[hr0]at this;simp only[head,RN,al];rw[K2 (by omega),K2 (by omega),K2 (by omega),K2 (by omega),this]
 have t1:=Turned.ren (s:=head (FA c F g) (RN c j g) g e) 55 (n+6000) ⟨1,[[I j]],3,true⟩ (by omega) hrow hfree (LL 0) rfl;have hg: ∀t,t≠n+6000->upd g (n+6000) (g (n+6000)+1) t=g t:=fun t ht=>upd_ne _ _ _ ht;refine⟨upd g (n+6000) (g (n+6000)+1),upd e (n+6000) (e 55),by rw[upd_ne _ _ _ (by omega)];exact he,t1.trans (Turned.head ?_ ?_)⟩
 ·simp only[cG,FA,fF,head,mN,AV.see,aP,hg 1 (by omega),hg 27 (by omega),L1,Nat.reduceEqDiff,Ld,Kk,reduceCtorEq]
 ·refine⟨?_,?_,?_,holdR_rowsAt fun q r hq=> ?_⟩
  ·show (fF _ _ _ _).rows 1=some _;rw[kp,K2 (by omega),K2 (by omega)];simp only[head,RN,al,L1,Kp,Row.see,LR,MD,C5,Ku,Ld]
  ·show (fF _ _ _ _).rows 27=some _;rw[kp,K2 (by omega),K2 (by omega)];simp only[head,RN,al,L1,Kp,Nat.reduceEqDiff,Ld];rw[AN _ _ fun _=>rfl];simp only[nG,hg 25 (by omega)]
  ·show (fF _ _ _ _).rows 25=some _;rw[kp,K2 (by omega),K2 (by omega)];simp only[head,RN,al,L1,Kp,Nat.reduceEqDiff,Ld,Row.see,Ku,Ka,LR,MD];rw[Ep _ _ _ fun q v=>EX ..];have:=BV (c:=c) (j:=j) (g:=g) (g':=upd g (n+6000) (g (n+6000)+1)) hk (fun k hk=>hg _ (by omega)) (v:=g (n+6000)+1) (by rw[hn,upd_same]);rw[hn]at this;rw[<-this];simp[AV.see,AV.see.seeL,qA]
  ·rw[wT hk hno,hn]at hq;show (fF _ _ _ _).rows (q+6000)=some _;rw[kp];by_cases e0:q=n
   ·subst e0;rw[K5 rfl]at hq |-;exact hq
   ·rw[K2 e0]at hq;rw[K2 (by omega),K2 (by omega)];simp only[head,RN,al];rw[K2 (by omega),K2 (by omega),K2 (by omega),K2 (by omega),nM,hq]
    have hpu:r.pure=true:=by
     rw[br]at hq;obtain⟨p,_,rfl⟩:=Lc.1 hq;rfl
    simp only[Kp,Row.see,hpu,L1]
/-! The map, frozen -/
theorem lz {g:Nat->Nat} {r v:Nat} : ∀ {l:List Row} {b:Nat},fB (seesR g (rowsAt b l)) r v=if b<=r/\v=g r then(l[r-b]?).map fun row=> .seq row.sz row.es else none
 |[],b=>by simp[rowsAt,seesR,fB]
 | x::l,b=>by
   have ih:=lz (g:=g) (r:=r) (v:=v) (l:=l) (b:=b+1);simp only[seesR]at ih;simp only[rowsAt,seesR,LR,fB,ih];by_cases h:r=b
   ·subst h;by_cases hv:v=g r
    ·subst hv;simp
    ·simp[hv]
   ·rw[K2 fun e=>h e.1];by_cases h2:b+1<=r
    ·by_cases hv:v=g r
     ·rw[K5 ⟨h2,hv⟩,K5 ⟨by omega,hv⟩,show r-b=(r-(b+1))+1 by omega,ML]
     ·rw[K2 fun e=>hv e.2,K2 fun e=>hv e.2]
    ·rw[K2 fun e=>h2 e.1,K2 fun e=>by omega]
def KC (c:ChD):Row:=⟨9,[[Sg c.name,I c.initial,varsAV c.vars,stsAV c.states,trsAV c.trans,aP c, .seq 1 ((evL c).map fp), .fmap (ej c),nilS]],111,false⟩
theorem Bd {c:ChD} (F:Nat) {g:Nat->Nat} {e:Nat->Bool} (he:e 27=false): ∃e',e' 27=false/\Turned (head (FA c F g) (RA c c.trans.length g) g e) (head (FA c F g) [(1,⟨5,[aA c],26,false⟩),(27,KC c)] g e'):=by
 generalize hn:c.trans.length=n at*
 have hL:qL (head (FA c F g) (RA c n g) g e) (seesR g (rowsAt 6000 (keyRows c n))):=by
  intro p hp;obtain⟨x,hx,rfl⟩:=Kb.1 hp;obtain⟨q,h1,h2⟩:=mB hx;refine⟨rfl,x.2,?_,?_,?_,rfl⟩
  ·simp only[head,RA,al,h2];rw[K2 (by omega),K2 (by omega),K2 (by omega),nM];exact h1
  ·rw[br]at h1;obtain⟨p,_,e0⟩:=Lc.1 h1;rw[<-e0];exact LL 0
  ·rw[br]at h1;obtain⟨p,_,e0⟩:=Lc.1 h1;rw[<-e0]
 have t1:=Turned.sees _ hL
 have hes:(dW c n g).map (·.map (AV.see (fB (seesR g (rowsAt 6000 (keyRows c n)))) fun _ _=>none))=ej c:=by
  apply LY;intro q;unfold ej;rw[hn,K9,db,K9];cases hq:(keysTo c n)[q]? with
  |none=>rfl
  | some p=>
    have hs:fB (seesR g (rowsAt 6000 (keyRows c n))) (q+6000) (g (q+6000))=some (.seq 1 ((iU c n p).map aB)):=by
     rw[lz,K5 ⟨by omega,rfl⟩,show q+6000-6000=q by omega,br,hq];rfl
    simp only[Kp,LR,MD,AV.see,AV.see.seeL,hs,Lb]
 have hlow: ∀r v,r<6000->fB (seesR g (rowsAt 6000 (keyRows c n))) r v=none:=fun r v h=>by
  rw[lz,K2 fun e=>by omega]
 generalize hG:fB (seesR g (rowsAt 6000 (keyRows c n)))=G at*
 have t2:Turned (seenSt (head (FA c F g) (RA c n g) g e) (seesR g (rowsAt 6000 (keyRows c n)))) (head (FA c F g) [(1,⟨5,[aA c],26,false⟩),(27,nG c g),(25,⟨0,ej c,108,false⟩)] g _):=Turned.head (s:=seenSt (head (FA c F g) (RA c n g) g e) (seesR g (rowsAt 6000 (keyRows c n)))) (by
  simp only[cG,FA,seenSt,head,mN,AV.see,aP,L1,Nat.reduceEqDiff,Ld,Kk,reduceCtorEq]) (by
  refine⟨?_,?_,?_,trivial⟩
  ·simp only[seenSt,hG,head,RA,al,L1,Kp,Row.see,LR,MD,C5,Ku,Ld]
  ·simp only[seenSt,hG,head,RA,al,L1,Kp,Nat.reduceEqDiff,Ld];rw[AN _ _ fun _=>rfl]
  ·simp only[seenSt,hG,head,RA,al,L1,Kp,Nat.reduceEqDiff,Ld,Row.see,Ku,hes])
 have hesc:(seenSt (head (FA c F g) (RA c n g) g e) (seesR g (rowsAt 6000 (keyRows c n)))).esc 27=false:=by
  show (e 27||_)=false;rw[he,M2,Nh];intro p hp;obtain⟨x,hx,rfl⟩:=Kb.1 hp;obtain⟨q,_,h2⟩:=mB hx;simp;omega
 have t3:=t1.trans t2;generalize (seenSt (head (FA c F g) (RA c n g) g e) (seesR g (rowsAt 6000 (keyRows c n)))).esc=e2 at t3 hesc
 have t4:=t3.trans (Turned.mapSee 25 ⟨0,ej c,108,false⟩ (by simp[head,al]) rfl (by
  rw[K7];intro x hx;unfold ej at hx;obtain⟨p,_,rfl⟩:=Kb.1 hx
  rfl))
 refine⟨e2,hesc,t4.trans (Turned.head ?_ ?_)⟩
 ·simp only[cG,FA,xb,head,mN,AV.see,aP,L1,Nat.reduceEqDiff,Ld,Kk,reduceCtorEq]
 ·refine⟨?_,?_,trivial⟩
  ·simp only[xb,head,al,L1,Kp,Nat.reduceEqDiff,Ld,Row.see,LR,MD,C5,Ku]
  ·simp only[xb,head,al,L1,Kp,Nat.reduceEqDiff,Ld,Row.see,nG,KC,LR,MD,AV.see,aP,Ku,Kk,Lb]
end

end Go.Proofs.YtdpjgflalmnkdaaGreatDoor