/- Pairs put in the order of their keys, one by one and by a sort: plain. No program is named here. -/
import Derived.Test.YtlmekdfleciejaaGreatDoorD25
import Derived.Test.YtlmekdfleciejaaGreatDoorD7
import Derived.Test.YtlmekdfleciejaaGreatDoorD14
import Derived.Test.YtlmekdfleciejaaGreatDoorD1
set_option maxRecDepth 100000
set_option maxHeartbeats 4000000
set_option linter.unusedSimpArgs false
namespace Go.Proofs.YtlmekdfleciejaaGreatDoor
open Go.RowKit
section
abbrev U32 (m:Nat):AV:= .lit (.int .u32 m)
theorem zkP (env:Env) (c:ChD):Con Tryz.prog env 42 [zal c] (I c.states.length):=by
 refine zaa Tryz.func42 rfl Tryz.call42 (by rw [Tryz.ntmps42]; simp) ?_
 rw [Tryz.ntmps42,Tryz.results42]
 have F:=zal.eq_1
 repeat refine st ?_
 exact aR
theorem zhy (env:Env) (c:ChD) (i:Int):Con Tryz.prog env 140 [zal c,I i] (B (inZ c i)):=by
 have f0:=zkP env c
 refine zaa Tryz.func140 rfl Tryz.call140 (by rw [Tryz.ntmps140]; simp) ?_
 rw [Tryz.ntmps140,Tryz.results140]
 unfold inZ
 by_cases h0:0<=i
 ·by_cases h1:i< (c.states.length:Int)
  ·have F:=ai h0<|h1
   repeat (first | refine st ?_ | refine cC f0 ?_)
   exact aR
  ·have F:=ai h0<|h1
   repeat (first | refine st ?_ | refine cC f0 ?_)
   exact aR
 ·have F:=h0
  repeat (first | refine st ?_ | refine cC f0 ?_)
  exact aR
theorem zmW (env:Env) (c:ChD) (hc:Right c) (i:Int):Con Tryz.prog env 128 [zal c,I i] (.own 3 1 ((upL c i).map fun k=>[I k])):=by
 have hlen:=hc.few
 refine zaa Tryz.func128 rfl Tryz.call128 (by rw [Tryz.ntmps128]; simp) ?_
 rw [Tryz.ntmps128,Tryz.results128]
 repeat refine st0 ?_
 refine zbo 5 5 3 1 ?_
 have hul:(upL c i).length<=40:=zfQ 40 i
 refine zab (D:=Int×List Int) (fun d vs=>[(0,zal c),(1,I d.1),(5, .row 5 (vs 5))]) (fun d _=>[(5,⟨1,d.2.map fun k=>[I k],3,true⟩)]) (fun d _ esc=>upL c i=d.2++upL c d.1/\esc 5=false) (fun d=>(d.1+1).toNat) (i,[]) ?_ ?_ ?_ ?_
 ·exact⟨rfl,rfl⟩
 ·(simp only [go_sem])
 ·(simp only [go_sem])
 rintro⟨d,l⟩ ws esc ⟨hu,e0⟩
 simp only at hu
 have f0:=zhy env c d
 cases hz:inZ c d with
 | false=>
   rw [zbq hz,List.append_nil] at hu
   rw [hz] at f0
   have F:=ai hu<|e0
   repeat (first | refine st ?_ | refine cC f0 ?_)
   exact aR
 | true=>
   obtain⟨k,s,rfl,hs,ha⟩:=zb0 hz
   have hp:=zcx hs
   have hlt:=zbF hc hz
   rw [hp] at hlt
   rw [zhw hc hz,hp] at hu
   rw [hz] at f0
   have hl:l.length+1<=40:=by
    have:=congrArg List.length hu
    rw [List.length_append,List.length_cons] at this
    omega
   have g1:((k:Nat):Int)< (c.states.length:Int):=by have:=(zag.1 hz).2; omega
   have hf:Fits (l.length+1) 8:=⟨by omega,by omega⟩
   have F:=ai zal.eq_1<|ai g1<|ai hs<|ai hf<|e0
   repeat (first | refine st ?_ | refine cC f0 ?_)
   refine⟨(s.parent,l++[s.parent]),⟨?_, ?_⟩, ?_, ?_, ?_⟩
   ·show upL c i=(l++[s.parent])++upL c s.parent
    rw [hu,List.append_assoc]
    rfl
   ·show _=false
    simp only [go_sem,e0]
   ·have F:=zal.eq_1
    (simp only [go_sem,F])
   ·have F:=zal.eq_1
    (simp only [go_sem,List.map_append,F])
   ·show (s.parent+1).toNat< ((k:Int)+1).toNat
    omega
theorem zkQ (env:Env) (m:Nat) (hm:m<4294967296) (k:Nat) (hk:k<32):Con Tryz.prog env 175 [U32 m,I k] (B (m.testBit k)):=by
 have hq:m/2^k<4294967296:=Nat.lt_of_le_of_lt (Nat.div_le_self ..) hm
 have g0:((m:Int)).fdiv (2^min k 32)=((m/2^k:Nat):Int):=by
  rw [show min k 32=k by omega,show ((2:Int)^k)=((2^k:Nat):Int) by rw [Int.natCast_pow]; rfl]
  exact(Int.ofNat_fdiv _ _).symm
 have g1:bitV .and .u32 ((m/2^k:Nat):Int) 1=((m/2^k%2:Nat):Int):=by
  have:=u32_and (m/2^k) 1 hq (by decide)
  rw [Nat.and_one_is_mod] at this
  exact this
 have g2:((((m/2^k%2:Nat):Int))==1)=m.testBit k:=by
  rw [<-zoK]
  rcases Nat.mod_two_eq_zero_or_one (m/2^k) with h | h<;>rw [h]<;>rfl
 refine zaa Tryz.func175 rfl Tryz.call175 (by rw [Tryz.ntmps175]; simp) ?_
 rw [Tryz.ntmps175,Tryz.results175]
 have F:=ai g0<|ai g1<|g2
 repeat refine st ?_
 exact aR
def zgK (m:Nat) (l:List Nat) (j:Nat):List Nat:=(l.take j).filter fun k=>m.testBit k
theorem znm {m:Nat} {l:List Nat} {j k:Nat} (h:l[j]? =some k):zgK m l (j+1)=if m.testBit k then zgK m l j++[k] else zgK m l j:=by
 unfold zgK
 rw [List.take_add_one,h,List.filter_append]
 cases hb:m.testBit k<;>simp [hb]
theorem zpc (m:Nat) (l:List Nat) (j:Nat):(zgK m l j).length<=l.length:=by
 unfold zgK
 exact Nat.le_trans (List.length_filter_le ..) (by rw [List.length_take]; omega)
theorem zjQ (env:Env) (c:ChD) (hc:Right c) (m:Nat) (hm:m<4294967296):Con Tryz.prog env 130 [zal c,U32 m] (.own 3 1 (((walkL c (-1)).filter fun k=>m.testBit k).map zae)):=by
 have hlen:=hc.few
 have hwl:=zkM hc
 have htop:=zkL hc
 refine zaa Tryz.func130 rfl Tryz.call130 (by rw [Tryz.ntmps130]; simp) ?_
 rw [Tryz.ntmps130,Tryz.results130]
 have F:=zal.eq_1
 repeat refine st ?_
 generalize walkL c (-1)=W at*
 refine zbo 5 5 3 1 ?_
 refine zab (D:=Nat) (fun j vs=>[(1,U32 m),(5, .row 5 (vs 5)),(13, .seq 1 (W.map zae)),(14,I W.length),(15,I j)]) (fun j _=>[(5,⟨1,(zgK m W j).map zae,3,true⟩)]) (fun j _ esc=>j<=W.length/\esc 5=false) (fun j=>W.length-j) 0 ?_ ?_ ?_ ?_
 ·exact⟨Nat.zero_le _,rfl⟩
 ·(simp only [go_sem,F])
 ·(simp only [go_sem,F])
  rfl
 rintro j ws esc ⟨hj,e0⟩
 by_cases hlt:j<W.length
 ·obtain⟨k,hk⟩: ∃k,W[j]? =some k:=⟨W[j],List.getElem?_eq_getElem hlt⟩
  have hk32:k<32:=by have:=(htop k).1 (List.mem_of_getElem? hk); omega
  have f0:=zkQ env m hm k hk32
  have g1:=nlt hlt
  have g2:=zac hlt (by omega)
  have hpl:=zpc m W j
  have hf:Fits ((zgK m W j).length+1) 8:=⟨by omega,by omega⟩
  have hn:=znm (m:=m) hk
  cases hb:m.testBit k with
  | true=>
    rw [hb] at f0
    rw [hb,if_pos rfl] at hn
    have F:=ai g1<|ai g2<|ai hk<|ai zae.eq_1<|ai hf<|e0
    repeat (first | refine st ?_ | refine cC f0 ?_)
    refine⟨j+1,⟨hlt,by simp only [go_sem,e0]⟩, ?_, ?_,by omega⟩
    ·(simp only [go_sem,F])
    ·have F:=ai hn<|zae.eq_1
     (simp only [go_sem,List.map_append,F])
  | false=>
    rw [hb] at f0
    rw [hb,if_neg Bool.false_ne_true] at hn
    have F:=ai g1<|ai g2<|ai hk<|ai zae.eq_1<|ai hf<|e0
    repeat (first | refine st ?_ | refine cC f0 ?_)
    refine⟨j+1,⟨hlt,by simp only [go_sem,e0]⟩, ?_, ?_,by omega⟩
    ·(simp only [go_sem,F])
    ·have F:=ai hn<|zae.eq_1
     (simp only [go_sem,List.map_append,F])
 ·obtain rfl:j=W.length:=by omega
  have g1: ¬(W.length:Int)< (W.length:Int):=by omega
  have hall:zgK m W W.length=W.filter fun k=>m.testBit k:=by unfold zgK; rw [List.take_length]
  have F:=ai g1<|ai hall<|e0
  repeat refine st ?_
  exact aR
def orTo (l:List Int) (j:Nat):Nat:=(l.take j).foldl (fun m k=>m||| 2^k.toNat) 0
theorem znu {l:List Int} {j:Nat} {k:Int} (h:l[j]? =some k):orTo l (j+1)=orTo l j||| 2^k.toNat:=by
 unfold orTo
 rw [List.take_add_one,h,List.foldl_append]
 rfl
theorem zhZ: ∀(l:List Int) (m b:Nat),(l.foldl (fun m k=>m||| 2^k.toNat) m).testBit b=(m.testBit b||l.any fun k=>k.toNat==b)
 | [],m,b=>by simp
 | k::l,m,b=>by
   rw [List.foldl_cons,zhZ l,Nat.testBit_or,Nat.testBit_two_pow,List.any_cons,Bool.or_assoc]
   rfl
theorem zgV {c:ChD} (hc:Right c) {l:List Int} : ∀ {j:Nat},(∀k∈l.take j,inZ c k=true)->orTo l j<4294967296:=fun {j} h=>by
 have hlen:=hc.few
 apply Nat.lt_pow_two_of_testBit (n:=32)
 intro b hb
 unfold orTo
 rw [zhZ,Nat.zero_testBit,Bool.false_or,List.any_eq_false]
 intro k hk
 have:=zag.1 (h k hk)
 simp
 omega
theorem znv {c:ChD} {l:List Int} (h:l.all (inZ c)=true):((walkL c (-1)).filter fun k=>(orTo l l.length).testBit k)=sortL c l:=by
 unfold sortL
 rw [if_pos h]
 apply List.filter_congr
 intro k _
 unfold orTo
 rw [zhZ,Nat.zero_testBit,Bool.false_or,List.take_length,Bool.eq_iff_iff,List.any_eq_true,List.contains_iff_mem]
 constructor
 ·rintro⟨x,h1,h2⟩
  have:=(zag.1 (List.all_eq_true.1 h x h1)).1
  have h2:x.toNat=k:=by simpa using h2
  rw [show (k:Int)=x by omega]
  exact h1
 ·exact fun h1=>⟨k,h1,by simp⟩
theorem zkR {c:ChD} {l:List Int} {j:Nat} {k:Int} (h:(l.take j).all (inZ c)=true) (hk:l[j]? =some k) (hz:inZ c k=true):(l.take (j+1)).all (inZ c)=true:=by
 rw [List.take_add_one,hk,List.all_append,h]
 simp [hz]
theorem zkS {c:ChD} {l:List Int} {j:Nat} {k:Int} (hk:l[j]? =some k) (hz:inZ c k=false):sortL c l=[]:=by
 unfold sortL
 rw [if_neg]
 intro h
 have:=List.all_eq_true.1 h k (List.mem_of_getElem? hk)
 rw [hz] at this
 cases this
abbrev intAV (k:Int):List AV:=[I k]
theorem zfS (env:Env) (c:ChD) (hc:Right c) (l:List Int) (hl:l.length<=1000000):Con Tryz.prog env 90 [zal c, .seq 1 (l.map intAV)] (.own 3 1 ((sortL c l).map zae)):=by
 have hlen:=hc.few
 refine zaj Tryz.func90 rfl Tryz.call90 (by rw [Tryz.ntmps90]; simp) ?_
 rw [Tryz.ntmps90,Tryz.results90]
 repeat refine st0 ?_
 refine zab (D:=Nat) (fun j _=>[(0,zal c),(5,U32 (orTo l j)),(8, .seq 1 (l.map intAV)),(9,I l.length),(10,I j)]) (fun _ _=>[]) (fun j _ _=>j<=l.length/\(l.take j).all (inZ c)=true) (fun j=>l.length-j) 0 ?_ ?_ ?_ ?_
 ·exact⟨Nat.zero_le _,rfl⟩
 ·(simp only [go_sem])
  rfl
 ·(simp only [go_sem])
 rintro j ws esc ⟨hj,hall⟩
 by_cases hlt:j<l.length
 ·obtain⟨k,hk⟩: ∃k,l[j]? =some k:=⟨l[j],List.getElem?_eq_getElem hlt⟩
  have g1:=nlt hlt
  have g2:=zac hlt (by omega)
  have f0:=zhy env c k
  cases hz:inZ c k with
  | false=>
    rw [hz] at f0
    have F:=ai g1<|ai g2<|hk
    repeat (first | refine st ?_ | refine cC f0 ?_)
    (refine zak ?_; refine⟨_,(by show (zaz _ _ _).run _=some _; simp only [go_sem,F]; rfl), ?_⟩)
    rw [zkS hk hz]
    exact RStr.own_nil _ _ (by decide)
  | true=>
    rw [hz] at f0
    have hr:=zag.1 hz
    obtain⟨p,rfl⟩: ∃p:Nat,k=p:=⟨k.toNat,by omega⟩
    have g3:=zhE (p:=p) (by omega)
    have hsm:=zgV hc (j:=j) (fun k hk=>List.all_eq_true.1 hall k hk)
    have g4:=zk1 hsm (zdb p (by omega))
    have hn:=znu hk
    rw [Int.toNat_natCast] at hn
    have F:=ai g1<|ai g2<|ai g3<|ai g4<|hk
    repeat (first | refine st ?_ | refine cC f0 ?_)
    refine⟨j+1,⟨hlt,zkR hall hk hz⟩, ?_, ?_,by omega⟩
    ·have F:=ai g1<|ai g2<|ai g3<|ai g4<|ai hk<|hn
     (simp only [go_sem,F])
    ·(simp only [go_sem,g1,g2,g3,g4,hk,hn])
 ·obtain rfl:j=l.length:=by omega
  have g1: ¬(l.length:Int)< (l.length:Int):=by omega
  have hsm:=zgV hc (j:=l.length) (fun k hk=>List.all_eq_true.1 hall k hk)
  rw [List.take_length] at hall
  have f1:=zjQ env c hc _ hsm
  rw [znv hall] at f1
  have F:=g1
  repeat (first | refine st ?_ | refine cC f1 ?_)
  (refine zak ?_; refine⟨_,(by show (zaz _ _ _).run _=some _; simp only [go_sem,F]; rfl), ?_⟩)
  exact RStr.refl _
end
section
def zcv (s:List UInt8):List AV:=[Sg s]
theorem zel (l:List (List UInt8)):zaS (l.map strC)=l.map zcv:=by
 unfold zaS
 rw [List.map_map]
 rfl
def zaZ (c:ChD) (j:Nat):List (List UInt8):=((c.trans.take j).map (·.event)).filter fun e=> !e.isEmpty
def evL (c:ChD):List (List UInt8):=Lib.compact (zda (zaZ c c.trans.length))
theorem zl7 {c:ChD} {j:Nat} {t:TrD} (h:c.trans[j]? =some t):zaZ c (j+1)=if t.event.isEmpty then zaZ c j else zaZ c j++[t.event]:=by
 unfold zaZ
 rw [List.take_add_one,h,List.map_append,List.filter_append]
 cases hb:t.event.isEmpty<;>simp [hb]
theorem zgd (c:ChD) (j:Nat):(zaZ c j).length<=j:=by
 unfold zaZ
 exact Nat.le_trans (List.length_filter_le ..) (by simp; omega)
theorem zml (env:Env) (c:ChD) (hc:c.trans.length<=1000000):Con Tryz.prog env 89 [.agg (chAV c)] (.own 9 1 ((evL c).map zcv)):=by
 refine zaa Tryz.func89 rfl Tryz.call89 (by rw [Tryz.ntmps89]; simp) ?_
 rw [Tryz.ntmps89,Tryz.results89]
 have F:=chAV.eq_1
 repeat refine st ?_
 refine zbo 3 3 9 1 ?_
 refine zab (D:=Nat) (fun j vs=>[(3, .row 3 (vs 3)),(7,trsAV c.trans),(8,I c.trans.length),(9,I j)]) (fun j _=>[(3,⟨1,(zaZ c j).map zcv,9,true⟩)]) (fun j _ esc=>j<=c.trans.length/\esc 3=false) (fun j=>c.trans.length-j) 0 ?_ ?_ ?_ ?_
 ·exact⟨Nat.zero_le _,rfl⟩
 ·(simp only [go_sem,F])
 ·(simp only [go_sem,F])
  rfl
 rintro j ws esc ⟨hj,e0⟩
 by_cases hlt:j<c.trans.length
 ·obtain⟨t,ht⟩: ∃t,c.trans[j]? =some t:=⟨c.trans[j],List.getElem?_eq_getElem hlt⟩
  have g1:=nlt hlt
  have g2:=zac hlt (by omega)
  have hn:=zl7 ht
  have hl:=zgd c j
  have hf:Fits ((zaZ c j).length+1) 16:=⟨by omega,by omega⟩
  cases hb:t.event.isEmpty with
  | true=>
    rw [hb,if_pos rfl] at hn
    have hb2:(t.event == [])=true:=by simpa using hb
    have F:=ai trAV.eq_1<|ai g1<|ai g2<|ai ht<|ai hb2<|e0
    repeat refine st ?_
    refine⟨j+1,⟨hlt,by simp only [go_sem,e0]⟩, ?_, ?_,by omega⟩
    ·(simp only [go_sem,F])
    ·have F:=hn
     (simp only [go_sem,F])
  | false=>
    rw [hb,if_neg Bool.false_ne_true] at hn
    have hb2:(t.event == [])=false:=by simpa using hb
    have F:=ai trAV.eq_1<|ai g1<|ai g2<|ai ht<|ai hb2<|ai hf<|e0
    repeat refine st ?_
    refine⟨j+1,⟨hlt,by simp only [go_sem,e0]⟩, ?_, ?_,by omega⟩
    ·(simp only [go_sem,F])
    ·have F:=ai hn<|zcv.eq_1
     (simp only [go_sem,List.map_append,F])
 ·obtain rfl:j=c.trans.length:=by omega
  have g1: ¬(c.trans.length:Int)< (c.trans.length:Int):=by omega
  have hl:=zgd c c.trans.length
  have F:=ai g1<|e0
  repeat refine st ?_
  have f1:=zj2 (zaZ c c.trans.length) (by omega)
  have hsl:(zda (zaZ c c.trans.length)).length<=9223372036854775807:=by simp [zda]; omega
  have f2:=zms (zda (zaZ c c.trans.length)) hsl
  refine zn9 3 rfl (row:=⟨1,(zaZ c c.trans.length).map zcv,9,true⟩) f1 (Nat.succ_ne_zero 0) rfl (zel _).symm (by simp only [go_sem,e0]; exact iR) (by simp only [go_sem,e0]; exact iR) (by simp only [go_sem,e0]; exact iR) (by simp only [go_sem,e0]; exact iR) ?_
  rw [zel]
  repeat refine st ?_
  refine zfP 3 rfl (row:=⟨1,(zda (zaZ c c.trans.length)).map zcv,9,true⟩) f2 (Nat.succ_ne_zero 0) rfl (zel _).symm (by simp only [go_sem,e0]; exact iR) (by simp only [go_sem,e0]; exact iR) (by simp only [go_sem,e0]; exact iR) (by simp only [go_sem,e0]; exact iR) iR ?_
  rw [zel]
  repeat refine st ?_
  (refine zak ?_; show (zaz _ _ _).run _=some _; simp only [go_sem,F])
  rfl
end
section
theorem zjH: ∀a:List UInt8,Op.bytesLess a a=false
 | []=>rfl
 | x::a=>by simp [Op.bytesLess,zjH a]
theorem zfL: ∀ {a b c:List UInt8},Op.bytesLess a b=true->Op.bytesLess b c=true->Op.bytesLess a c=true
 | _,[],_,h,_=>by simp [Op.bytesLess] at h
 | _,_::_,[],_,h=>by simp [Op.bytesLess] at h
 | [],_::_,_::_,_,_=>rfl
 | x::a,y::b,z::c,h,k=>by
   simp only [Op.bytesLess,Bool.or_eq_true,decide_eq_true_eq,Bool.and_eq_true,beq_iff_eq] at h k |-
   rcases h with h | ⟨h,h'⟩
   ·rcases k with k | ⟨k,k'⟩
    ·exact .inl (UInt8.lt_trans h k)
    ·exact .inl (k ▸ h)
   ·rcases k with k | ⟨k,k'⟩
    ·exact .inl (h ▸ k)
    ·exact .inr ⟨h.trans k,zfL h' k'⟩
theorem zfM: ∀ {a b:List UInt8},Op.bytesLess a b=false->Op.bytesLess b a=false->a=b
 | [],[],_,_=>rfl
 | [],_::_,h,_=>by simp [Op.bytesLess] at h
 | _::_,[],_,h=>by simp [Op.bytesLess] at h
 | x::a,y::b,h,k=>by
   simp only [Op.bytesLess,Bool.or_eq_false_iff,decide_eq_false_iff_not,Bool.and_eq_false_iff] at h k
   have e:x=y:=UInt8.le_antisymm (UInt8.not_lt.1 k.1) (UInt8.not_lt.1 h.1)
   subst e
   simp only [beq_self_eq_true,Bool.true_eq_false,false_or] at h k
   rw [zfM h.2 k.2]
theorem zpM {a b:List UInt8} (h:Op.bytesLess a b=true):Op.bytesLess b a=false:=by
 cases k:Op.bytesLess b a
 ·rfl
 ·have:=zfL h k
  rw [zjH] at this
  cases this
end

end Go.Proofs.YtlmekdfleciejaaGreatDoor