/- record.Check: whether a record is right. -/
import Derived.Test.YtnbjaghjdeicmaaGreatDoorD13
import Derived.Test.YtnbjaghjdeicmaaGreatDoorD8
import Derived.Test.YtnbjaghjdeicmaaGreatDoorD6
import Derived.Test.YtnbjaghjdeicmaaGreatDoorD10
import Derived.Test.YtnbjaghjdeicmaaGreatDoorD11
import Derived.Shelf.Slices.In.SortNone
import Derived.Lib.SlicesCompact
import Derived.Test.YtnbjaghjdeicmaaGreatDoorD5
import Derived.Test.YtnbjaghjdeicmaaGreatDoorD7
set_option maxRecDepth 100000
set_option maxHeartbeats 8000000
set_option linter.unusedSimpArgs false
namespace Go.Proofs.YtnbjaghjdeicmaaGreatDoor
section
open Go.RowKit
abbrev U32 (m:Nat):AV:= .lit (.int .u32 m)
theorem zmM (env:Env) (c:ChD):Con Tryz.prog env 211 [zaq c] (I c.states.length):=by
 refine zaa Tryz.func211 rfl Tryz.call211 (by rw [Tryz.ntmps211]; simp) ?_
 rw [Tryz.ntmps211,Tryz.results211]
 have F:=zaq.eq_1
 repeat refine st ?_
 exact aR
theorem ziG (env:Env) (c:ChD) (i:Int):Con Tryz.prog env 133 [zaq c,I i] (B (inZ c i)):=by
 have f0:=zmM env c
 refine zaa Tryz.func133 rfl Tryz.call133 (by rw [Tryz.ntmps133]; simp) ?_
 rw [Tryz.ntmps133,Tryz.results133]
 unfold inZ
 by_cases h0:0<=i
 ·by_cases h1:i< (c.states.length:Int)
  ·have F:=ai h0<|h1
   repeat (first | refine st ?_ | refine cC f0 ?_)
   exact aR
  ·have F:=ai h0<|h1
   repeat (first | refine st ?_ | refine cC f0 ?_)
   exact aR
 ·have F:=h0
  repeat (first | refine st ?_ | refine cC f0 ?_)
  exact aR
theorem ziE (env:Env) (c:ChD) (hc:Right c) (i:Int):Con Tryz.prog env 146 [zaq c,I i] (.own 3 1 ((upL c i).map fun k=>[I k])):=by
 have hlen:=hc.few
 refine zaa Tryz.func146 rfl Tryz.call146 (by rw [Tryz.ntmps146]; simp) ?_
 rw [Tryz.ntmps146,Tryz.results146]
 repeat refine st0 ?_
 refine zaX 5 5 3 1 ?_
 have hul:(upL c i).length<=40:=zeU 40 i
 refine zac (D:=Int×List Int) (fun d vs=>[(0,zaq c),(1,I d.1),(5, .row 5 (vs 5))]) (fun d _=>[(5,⟨1,d.2.map fun k=>[I k],3,true⟩)]) (fun d _ esc=>upL c i=d.2++upL c d.1/\esc 5=false) (fun d=>(d.1+1).toNat) (i,[]) ?_ ?_ ?_ ?_
 ·exact⟨rfl,rfl⟩
 ·(simp only [go_sem])
 ·(simp only [go_sem])
 rintro⟨d,l⟩ ws esc ⟨hu,e0⟩
 simp only at hu
 have f0:=ziG env c d
 cases hz:inZ c d with
 | false=>
   rw [zbM hz,List.append_nil] at hu
   rw [hz] at f0
   have F:=ai hu<|e0
   repeat (first | refine st ?_ | refine cC f0 ?_)
   exact aR
 | true=>
   obtain⟨k,s,rfl,hs,ha⟩:=zcL hz
   have hp:=zc1 hs
   have hlt:=zbZ hc hz
   rw [hp] at hlt
   rw [ziD hc hz,hp] at hu
   rw [hz] at f0
   have hl:l.length+1<=40:=by
    have:=congrArg List.length hu
    rw [List.length_append,List.length_cons] at this
    omega
   have g1:((k:Nat):Int)< (c.states.length:Int):=by have:=(zak.1 hz).2; omega
   have hf:Fits (l.length+1) 8:=⟨by omega,by omega⟩
   have F:=ai zaq.eq_1<|ai g1<|ai hs<|ai hf<|e0
   repeat (first | refine st ?_ | refine cC f0 ?_)
   refine⟨(s.parent,l++[s.parent]),⟨?_, ?_⟩, ?_, ?_, ?_⟩
   ·show upL c i=(l++[s.parent])++upL c s.parent
    rw [hu,List.append_assoc]
    rfl
   ·show _=false
    simp only [go_sem,e0]
   ·have F:=zaq.eq_1
    (simp only [go_sem,F])
   ·have F:=zaq.eq_1
    (simp only [go_sem,List.map_append,F])
   ·show (s.parent+1).toNat< ((k:Int)+1).toNat
    omega
theorem zmN (env:Env) (m:Nat) (hm:m<4294967296) (k:Nat) (hk:k<32):Con Tryz.prog env 212 [U32 m,I k] (B (m.testBit k)):=by
 have hq:m/2^k<4294967296:=Nat.lt_of_le_of_lt (Nat.div_le_self ..) hm
 have g0:((m:Int)).fdiv (2^min k 32)=((m/2^k:Nat):Int):=by
  rw [show min k 32=k by omega,show ((2:Int)^k)=((2^k:Nat):Int) by rw [Int.natCast_pow]; rfl]
  exact(Int.ofNat_fdiv _ _).symm
 have g1:bitV .and .u32 ((m/2^k:Nat):Int) 1=((m/2^k%2:Nat):Int):=by
  have:=u32_and (m/2^k) 1 hq (by decide)
  rw [Nat.and_one_is_mod] at this
  exact this
 have g2:((((m/2^k%2:Nat):Int))==1)=m.testBit k:=by
  rw [<-zrx]
  rcases Nat.mod_two_eq_zero_or_one (m/2^k) with h | h<;>rw [h]<;>rfl
 refine zaa Tryz.func212 rfl Tryz.call212 (by rw [Tryz.ntmps212]; simp) ?_
 rw [Tryz.ntmps212,Tryz.results212]
 have F:=ai g0<|ai g1<|g2
 repeat refine st ?_
 exact aR
def zhI (m:Nat) (l:List Nat) (j:Nat):List Nat:=(l.take j).filter fun k=>m.testBit k
theorem zp5 {m:Nat} {l:List Nat} {j k:Nat} (h:l[j]? =some k):zhI m l (j+1)=if m.testBit k then zhI m l j++[k] else zhI m l j:=by
 unfold zhI
 rw [List.take_add_one,h,List.filter_append]
 cases hb:m.testBit k<;>simp [hb]
theorem zsa (m:Nat) (l:List Nat) (j:Nat):(zhI m l j).length<=l.length:=by
 unfold zhI
 exact Nat.le_trans (List.length_filter_le ..) (by rw [List.length_take]; omega)
theorem zlu (env:Env) (c:ChD) (hc:Right c) (m:Nat) (hm:m<4294967296):Con Tryz.prog env 134 [zaq c,U32 m] (.own 3 1 (((walkL c (-1)).filter fun k=>m.testBit k).map zad)):=by
 have hlen:=hc.few
 have hwl:=zmJ hc
 have htop:=zdh hc
 refine zaa Tryz.func134 rfl Tryz.call134 (by rw [Tryz.ntmps134]; simp) ?_
 rw [Tryz.ntmps134,Tryz.results134]
 have F:=zaq.eq_1
 repeat refine st ?_
 generalize walkL c (-1)=W at*
 refine zaX 5 5 3 1 ?_
 refine zac (D:=Nat) (fun j vs=>[(1,U32 m),(5, .row 5 (vs 5)),(13, .seq 1 (W.map zad)),(14,I W.length),(15,I j)]) (fun j _=>[(5,⟨1,(zhI m W j).map zad,3,true⟩)]) (fun j _ esc=>j<=W.length/\esc 5=false) (fun j=>W.length-j) 0 ?_ ?_ ?_ ?_
 ·exact⟨Nat.zero_le _,rfl⟩
 ·(simp only [go_sem,F])
 ·(simp only [go_sem,F])
  rfl
 rintro j ws esc ⟨hj,e0⟩
 by_cases hlt:j<W.length
 ·obtain⟨k,hk⟩: ∃k,W[j]? =some k:=⟨W[j],List.getElem?_eq_getElem hlt⟩
  have hk32:k<32:=by have:=(htop k).1 (List.mem_of_getElem? hk); omega
  have f0:=zmN env m hm k hk32
  have g1:=nlt hlt
  have g2:=zab hlt (by omega)
  have hpl:=zsa m W j
  have hf:Fits ((zhI m W j).length+1) 8:=⟨by omega,by omega⟩
  have hn:=zp5 (m:=m) hk
  cases hb:m.testBit k with
  | true=>
    rw [hb] at f0
    rw [hb,if_pos rfl] at hn
    have F:=ai g1<|ai g2<|ai hk<|ai zad.eq_1<|ai hf<|e0
    repeat (first | refine st ?_ | refine cC f0 ?_)
    refine⟨j+1,⟨hlt,by simp only [go_sem,e0]⟩, ?_, ?_,by omega⟩
    ·(simp only [go_sem,F])
    ·have F:=ai hn<|zad.eq_1
     (simp only [go_sem,List.map_append,F])
  | false=>
    rw [hb] at f0
    rw [hb,if_neg Bool.false_ne_true] at hn
    have F:=ai g1<|ai g2<|ai hk<|ai zad.eq_1<|ai hf<|e0
    repeat (first | refine st ?_ | refine cC f0 ?_)
    refine⟨j+1,⟨hlt,by simp only [go_sem,e0]⟩, ?_, ?_,by omega⟩
    ·(simp only [go_sem,F])
    ·have F:=ai hn<|zad.eq_1
     (simp only [go_sem,List.map_append,F])
 ·obtain rfl:j=W.length:=by omega
  have g1: ¬(W.length:Int)< (W.length:Int):=by omega
  have hall:zhI m W W.length=W.filter fun k=>m.testBit k:=by unfold zhI; rw [List.take_length]
  have F:=ai g1<|ai hall<|e0
  repeat refine st ?_
  exact aR
def orTo (l:List Int) (j:Nat):Nat:=(l.take j).foldl (fun m k=>m||| 2^k.toNat) 0
theorem zqd {l:List Int} {j:Nat} {k:Int} (h:l[j]? =some k):orTo l (j+1)=orTo l j||| 2^k.toNat:=by
 unfold orTo
 rw [List.take_add_one,h,List.foldl_append]
 rfl
theorem zjn: ∀(l:List Int) (m b:Nat),(l.foldl (fun m k=>m||| 2^k.toNat) m).testBit b=(m.testBit b||l.any fun k=>k.toNat==b)
 | [],m,b=>by simp
 | k::l,m,b=>by
   rw [List.foldl_cons,zjn l,Nat.testBit_or,Nat.testBit_two_pow,List.any_cons,Bool.or_assoc]
   rfl
theorem zh0 {c:ChD} (hc:Right c) {l:List Int} : ∀ {j:Nat},(∀k∈l.take j,inZ c k=true)->orTo l j<4294967296:=fun {j} h=>by
 have hlen:=hc.few
 apply Nat.lt_pow_two_of_testBit (n:=32)
 intro b hb
 unfold orTo
 rw [zjn,Nat.zero_testBit,Bool.false_or,List.any_eq_false]
 intro k hk
 have:=zak.1 (h k hk)
 simp
 omega
theorem zqe {c:ChD} {l:List Int} (h:l.all (inZ c)=true):((walkL c (-1)).filter fun k=>(orTo l l.length).testBit k)=sortL c l:=by
 unfold sortL
 rw [if_pos h]
 apply List.filter_congr
 intro k _
 unfold orTo
 rw [zjn,Nat.zero_testBit,Bool.false_or,List.take_length,Bool.eq_iff_iff,List.any_eq_true,List.contains_iff_mem]
 constructor
 ·rintro⟨x,h1,h2⟩
  have:=(zak.1 (List.all_eq_true.1 h x h1)).1
  have h2:x.toNat=k:=by simpa using h2
  rw [show (k:Int)=x by omega]
  exact h1
 ·exact fun h1=>⟨k,h1,by simp⟩
theorem zmO {c:ChD} {l:List Int} {j:Nat} {k:Int} (h:(l.take j).all (inZ c)=true) (hk:l[j]? =some k) (hz:inZ c k=true):(l.take (j+1)).all (inZ c)=true:=by
 rw [List.take_add_one,hk,List.all_append,h]
 simp [hz]
theorem zmP {c:ChD} {l:List Int} {j:Nat} {k:Int} (hk:l[j]? =some k) (hz:inZ c k=false):sortL c l=[]:=by
 unfold sortL
 rw [if_neg]
 intro h
 have:=List.all_eq_true.1 h k (List.mem_of_getElem? hk)
 rw [hz] at this
 cases this
abbrev intAV (k:Int):List AV:=[I k]
theorem zcw (env:Env) (c:ChD) (hc:Right c) (l:List Int) (hl:l.length<=1000000):Con Tryz.prog env 53 [zaq c, .seq 1 (l.map intAV)] (.own 3 1 ((sortL c l).map zad)):=by
 have hlen:=hc.few
 refine zan Tryz.func53 rfl Tryz.call53 (by rw [Tryz.ntmps53]; simp) ?_
 rw [Tryz.ntmps53,Tryz.results53]
 repeat refine st0 ?_
 refine zac (D:=Nat) (fun j _=>[(0,zaq c),(5,U32 (orTo l j)),(8, .seq 1 (l.map intAV)),(9,I l.length),(10,I j)]) (fun _ _=>[]) (fun j _ _=>j<=l.length/\(l.take j).all (inZ c)=true) (fun j=>l.length-j) 0 ?_ ?_ ?_ ?_
 ·exact⟨Nat.zero_le _,rfl⟩
 ·(simp only [go_sem])
  rfl
 ·(simp only [go_sem])
 rintro j ws esc ⟨hj,hall⟩
 by_cases hlt:j<l.length
 ·obtain⟨k,hk⟩: ∃k,l[j]? =some k:=⟨l[j],List.getElem?_eq_getElem hlt⟩
  have g1:=nlt hlt
  have g2:=zab hlt (by omega)
  have f0:=ziG env c k
  cases hz:inZ c k with
  | false=>
    rw [hz] at f0
    have F:=ai g1<|ai g2<|hk
    repeat (first | refine st ?_ | refine cC f0 ?_)
    (refine zaf ?_; refine⟨_,(by show (zao _ _ _).run _=some _; simp only [go_sem,F]; rfl), ?_⟩)
    rw [zmP hk hz]
    exact RStr.own_nil _ _ (by decide)
  | true=>
    rw [hz] at f0
    have hr:=zak.1 hz
    obtain⟨p,rfl⟩: ∃p:Nat,k=p:=⟨k.toNat,by omega⟩
    have g3:=ziP (p:=p) (by omega)
    have hsm:=zh0 hc (j:=j) (fun k hk=>List.all_eq_true.1 hall k hk)
    have g4:=zmZ hsm (zdL p (by omega))
    have hn:=zqd hk
    rw [Int.toNat_natCast] at hn
    have F:=ai g1<|ai g2<|ai g3<|ai g4<|hk
    repeat (first | refine st ?_ | refine cC f0 ?_)
    refine⟨j+1,⟨hlt,zmO hall hk hz⟩, ?_, ?_,by omega⟩
    ·have F:=ai g1<|ai g2<|ai g3<|ai g4<|ai hk<|hn
     (simp only [go_sem,F])
    ·(simp only [go_sem,g1,g2,g3,g4,hk,hn])
 ·obtain rfl:j=l.length:=by omega
  have g1: ¬(l.length:Int)< (l.length:Int):=by omega
  have hsm:=zh0 hc (j:=l.length) (fun k hk=>List.all_eq_true.1 hall k hk)
  rw [List.take_length] at hall
  have f1:=zlu env c hc _ hsm
  rw [zqe hall] at f1
  have F:=g1
  repeat (first | refine st ?_ | refine cC f1 ?_)
  (refine zaf ?_; refine⟨_,(by show (zao _ _ _).run _=some _; simp only [go_sem,F]; rfl), ?_⟩)
  exact RStr.refl _
end
section
open Go.RowKit Go.Sort Go.Shelf Go.Lib
def flagA (n:Nat) (act:List Int):List (List AV):=(List.range n).map fun k:Nat=>[B (act.contains (k:Int))]
theorem zdr (n:Nat) (act:List Int):(flagA n act).length=n:=by unfold flagA; simp
theorem zhk {n:Nat} {act:List Int} {k:Nat} (hk:k<n):(flagA n act)[k]? =some [B (act.contains (k:Int))]:=by
 unfold flagA
 rw [List.getElem?_map,List.getElem?_range hk]
 rfl
theorem zqT (n:Nat):List.replicate n [B false]=flagA n []:=by
 unfold flagA
 apply List.ext_getElem?
 intro j
 rw [List.getElem?_map]
 by_cases h:j<n
 ·rw [List.getElem?_range h,List.getElem?_replicate_of_lt h]
  rfl
 ·rw [List.getElem?_eq_none (by simp; omega),List.getElem?_eq_none (by simp; omega)]
  rfl
theorem zng {n:Nat} {act:List Int} {i:Int} (h: ∀k:Nat,k<n->(k:Int)≠i):flagA n (act++[i])=flagA n act:=by
 unfold flagA
 apply List.map_congr_left
 intro k hk
 have:=h k (List.mem_range.1 hk)
 simp
 exact fun e=>absurd e this
theorem zsz {n:Nat} {act:List Int} {k:Nat} (hk:k<n):(flagA n act).set k [B true]=flagA n (act++[(k:Int)]):=by
 apply List.ext_getElem?
 intro j
 by_cases hj:j<n
 ·rw [zhk hj]
  by_cases e:k=j
  ·subst e
   rw [List.getElem?_set_self (by rw [zdr]; exact hk)]
   simp
  ·rw [List.getElem?_set_ne e,zhk hj]
   simp
   exact fun e2=>absurd (by omega) e
 ·rw [List.getElem?_eq_none (by rw [List.length_set,zdr]; omega),List.getElem?_eq_none (by rw [zdr]; omega)]
theorem zl0 {act:List Int} {ks:List Nat} {j k:Nat} (hk:ks[j]? =some k):manyI act (ks.take (j+1))=manyI act (ks.take j)+if act.contains (k:Int)=true then 1 else 0:=by
 unfold manyI
 rw [List.take_add_one,hk,List.filter_append,List.length_append]
 simp only [Option.toList_some,List.filter_cons,List.filter_nil]
 split<;>rfl
theorem zcP (l:List Nat):(zL l).map intAV=l.map zad:=by simp only [zL,List.map_map]; rfl
theorem zcn (l:List Nat):(zL l).length=l.length:=List.length_map ..
/-! slices.Sort of ints -/
def intC (k:Int):List Value:=[.int .i64 k]
def zhH (l:List Int):List Int:=l.mergeSort fun x y=>decide (x<=y)
theorem zh9 {w:World} {g:Nat} {l:List Int} (h:Holds id w g 0 (l.map (Value.int .i64)).toArray):Holds (Value.int .i64) w g 0 l.toArray:=fun j hj=>by
 have hj':j<l.length:=by simpa using hj
 have:=h j (by simpa using hj')
 rw [getElem!_pos _ j (by simpa using hj')] at this
 rw [getElem!_pos _ j hj]
 simpa using this
theorem Tryz.sortIEnter: ∀(args:Array Value) (w:World),(callFunc 236 args).run Tryz.prog w= .ok (.enter 236 args) w:=enters_of Tryz.func236 (by kernel_rfl) rfl
theorem zlG (l:List Int) (hl:l.length<4611686018427387904):Turns Tryz.prog 236 [] 3 1 (l.map intC) ((zhH l).map intC):=by
 by_cases h0:l=[]
 ·subst h0
  rw [show zhH []=[] by simp [zhH]]
  exact zfu Tryz.sortIEnter fun p cap w=>Any.slices_Sort_int_none Tryz.sortI p cap w
 ·refine zfv (by rw [List.length_map]; exact List.length_pos_iff.2 h0) Tryz.sortIEnter (by simp [zhH]) (fun x hx=> ?_) (fun x hx=> ?_) fun w g cap hH hg=> ?_
  ·obtain⟨y,_,rfl⟩:=List.mem_map.1 hx; rfl
  ·obtain⟨y,_,rfl⟩:=List.mem_map.1 hx
   exact⟨rfl,fun u hu=>by rw [List.mem_singleton.1 hu]; rfl⟩
  ·have hH:Holds id w g 0 (l.map (Value.int .i64)).toArray:=by rw [<-zbU]; exact hH
   have:=Any.slices_Sort_int Tryz.sortI g 0 cap l w (zh9 hH) hg hl
   rw [List.length_map]
   refine(show Calls Tryz.prog 236 #[.slice (some ⟨g,0,none⟩) l.length cap] w _ from this).mono ?_
   rintro ex w' ⟨rfl,n,os,rfl⟩
   refine⟨rfl,n,os, ?_⟩
   rw [zdS,show ((zhH l).map intC).flatten=(zhH l).map (Value.int .i64) from zbU (Value.int .i64) _]
   simp [zhH]
end
section
open Go.RowKit
def zbu (c:ChD) (i:Int):Bool:=match at_ c i with
 | some s=>s.kind==1
 | none=>false
def iniZ (c:ChD) (i:Int):Int:=match at_ c i with
 | some s=>s.initial
 | none=> -1
def aboveB (c:ChD) (k i:Int):Bool:=(upL c i).contains k
def domP (c:ChD) (tg i:Int):Bool:=decide (i<0)||(zbu c i&&aboveB c i tg)
def domE (c:ChD) (src tg:Int):Int:=((upL c src).find? (domP c tg)).getD (-1)
theorem zhl {α:Type} {p:α->Bool} {l:List α} {j:Nat} {x:α} (h:l[j]? =some x):(l.drop j).find? p=if p x=true then some x else(l.drop (j+1)).find? p:=by
 obtain⟨hj,rfl⟩:=List.getElem?_eq_some_iff.1 h
 rw [List.drop_eq_getElem_cons hj,List.find?_cons]
 cases p l[j]<;>rfl
abbrev kidZ (c:ChD) (i:Int):List Int:=zL (kidsL c i true)
theorem zeL {c:ChD} (h:Right c) {i k:Int} (hk:k∈kidZ c i):inZ c k=true/\parZ c k=i/\i<k:=by
 obtain⟨j,hj,rfl⟩:=List.mem_map.1 hk
 obtain⟨s,hs,hp,_⟩:=zti hj
 refine⟨zaS.2 (List.getElem?_eq_some_iff.1 hs).1,by rw [zc1 hs,hp], ?_⟩
 have:=h.par j s hs
 omega
theorem zh7 (c:ChD) (i:Int):(kidZ c i).Nodup:=by
 unfold kidZ zL
 exact List.Pairwise.map _ (fun a b hne he=>hne (by omega)) (zcD c i true)
/-! What comes with a state -/
def newK (c:ChD) (l:List Int) (i:Int):List Int:=
 if zbu c i=true then(if (kidZ c i).any (fun k=>l.contains k)=true then [] else if 0<=iniZ c i then [iniZ c i] else []) else kidZ c i
def addK (c:ChD) (l:List Int) (i:Int):List Int:=(newK c l i).filter fun k=> !l.contains k
def zeu (c:ChD):Nat->List Int->List Int->List Int
 | 0,l,_=>l
 | _+1,l,[]=>l
 | f+1,l,i::r=>zeu c f (l++addK c l i) (r++addK c l i)
def missL (c:ChD) (l:List Int):Nat:=((List.range c.states.length).filter fun k:Nat=> !l.contains (k:Int)).length
def growL (c:ChD) (l:List Int):List Int:=zeu c (missL c l+l.length) l l
inductive Gr (c:ChD) (l:List Int):Int->Prop
 | base {x:Int} (h:x∈l):Gr c l x
 | ini {p:Int} (h:Gr c l p) (hp:zbu c p=true) (hn: ∀k∈kidZ c p,k∉l) (h0:0<=iniZ c p):Gr c l (iniZ c p)
 | par {p k:Int} (h:Gr c l p) (hp:zbu c p=false) (hk:k∈kidZ c p):Gr c l k
theorem zje {c:ChD} (h:Full c) {p:Int} (hp:zbu c p=true) (h0:0<=iniZ c p):iniZ c p∈kidZ c p:=by
 unfold zbu at hp
 unfold iniZ at h0 |-
 cases ha:at_ c p with
 | none=>rw [ha] at hp; cases hp
 | some s=>
   rw [ha] at hp h0
   simp only at hp h0 |-
   have hz:0<=p:=by
    unfold at_ at ha
    split at ha
    ·assumption
    ·cases ha
   obtain⟨k,rfl⟩: ∃k:Nat,p=k:=⟨p.toNat,by omega⟩
   rw [zbV] at ha
   have hk:s.kind=1:=by simpa using hp
   rcases h.cases ha with⟨_,h2 | ⟨j,hj,e⟩⟩ | ⟨e,_⟩ | ⟨e,_⟩ | ⟨e | e,_⟩
   ·omega
   ·rw [e]; exact List.mem_map.2 ⟨j,hj,rfl⟩
   all_goals omega
theorem zm1 {c:ChD} (h:Full c) {l:List Int} {i k:Int} (hk:k∈newK c l i):k∈kidZ c i:=by
 unfold newK at hk
 split at hk
 ·rename_i hp
  split at hk
  ·cases hk
  ·split at hk
   ·rename_i h0
    rw [List.mem_singleton.1 hk]
    exact zje h hp h0
   ·cases hk
 ·exact hk
theorem zcM {c:ChD} (h:Full c) {l:List Int} {i k:Int} (hk:k∈addK c l i):k∉l/\inZ c k=true/\parZ c k=i:=by
 obtain⟨h1,h2⟩:=List.mem_filter.1 hk
 obtain⟨q1,q2,_⟩:=zeL h.toRight (zm1 h h1)
 exact⟨by simpa using h2,q1,q2⟩
theorem zh4 (c:ChD) (l:List Int) (i:Int):(newK c l i).Nodup:=by
 unfold newK
 split
 ·split
  ·exact List.nodup_nil
  ·split
   ·simp
   ·exact List.nodup_nil
 ·exact zh7 c i
theorem zcv (c:ChD) (l:List Int) (i:Int):(addK c l i).Nodup:=(zh4 c l i).sublist List.filter_sublist
theorem zie {α:Type} (p q:α->Bool): ∀l:List α,(l.filter fun x=>p x&& !q x).length+(l.filter fun x=>p x&&q x).length=(l.filter p).length
 | []=>rfl
 | x::l=>by
   have:=zie p q l
   simp only [List.filter_cons]
   cases p x<;>cases q x<;>simp<;>omega
theorem zgn {c:ChD} {l a:List Int} (hn:a.Nodup) (ha: ∀k∈a,k∉l/\inZ c k=true):missL c (l++a)+a.length<=missL c l:=by
 have e:=zie (fun k:Nat=> !l.contains (k:Int)) (fun k:Nat=>a.contains (k:Int)) (List.range c.states.length)
 have e1:missL c (l++a)=((List.range c.states.length).filter fun k:Nat=> !l.contains (k:Int)&& !a.contains (k:Int)).length:=by
  unfold missL
  congr 1
  apply List.filter_congr
  intro k _
  simp [List.contains_eq_mem]
 have e2:a.length<=((List.range c.states.length).filter fun k:Nat=> !l.contains (k:Int)&&a.contains (k:Int)).length:=by
  have:(a.map Int.toNat).Nodup:=by
   refine List.Pairwise.map (R:=fun x y=>x≠y/\0<=x/\0<=y) _ (fun x y hxy=>by omega) ?_
   refine List.Pairwise.imp_of_mem ?_ hn
   intro x y hx hy hne
   exact⟨hne,(zak.1 (ha x hx).2).1,(zak.1 (ha y hy).2).1⟩
  have:=this.length_le_of_subset (l₂:=(List.range c.states.length).filter fun k:Nat=> !l.contains (k:Int)&&a.contains (k:Int)) fun x hx=>by
   obtain⟨y,hy,rfl⟩:=List.mem_map.1 hx
   obtain⟨y1,y2⟩:=ha y hy
   have y3:=zak.1 y2
   rw [List.mem_filter,List.mem_range]
   have e:((y.toNat:Nat):Int)=y:=by omega
   refine⟨by omega, ?_⟩
   rw [e]
   simp [y1,hy]
  simpa using this
 unfold missL at e1 |-
 omega
structure Grown (c:ChD) (l0 l t:List Int):Prop where
 sub: ∀x∈l0,x∈l
 todo: ∀x∈t,x∈l
 nd:t.Nodup
 gr: ∀x∈l,Gr c l0 x
 par: ∀x∈l,x∉l0->parZ c x∈l/\parZ c x∉t
 done: ∀p∈l,p∉t->(zbu c p=true->(∀k∈kidZ c p,k∉l0)->0<=iniZ c p->iniZ c p∈l)/\(zbu c p=false-> ∀k∈kidZ c p,k∈l)
theorem Grown.step {c:ChD} (h:Full c) {l0 l r:List Int} {i:Int} (g:Grown c l0 l (i::r)):Grown c l0 (l++addK c l i) (r++addK c l i):=by
 have hi:=g.todo i (by simp)
 obtain⟨n1,n2⟩:=List.nodup_cons.1 g.nd
 have old: ∀k∈kidZ c i,k∈l->k∈l0:=fun k hk hl=>Classical.byContradiction fun hn=>by
  have:=(g.par k hl hn).2
  rw [(zeL h.toRight hk).2.1] at this
  exact this (by simp)
 have hgr: ∀x∈addK c l i,Gr c l0 x:=fun x hx=>by
  obtain⟨h1,h2⟩:=List.mem_filter.1 hx
  have h1':=h1
  unfold newK at h1
  split at h1
  ·rename_i hp
   split at h1
   ·cases h1
   ·rename_i hany
    split at h1
    ·rename_i h0
     rw [List.mem_singleton.1 h1]
     refine .ini (g.gr i hi) hp (fun k hk hl=>hany ?_) h0
     rw [List.any_eq_true]
     exact⟨k,hk,by simpa using g.sub k hl⟩
    ·cases h1
  ·rename_i hp
   exact .par (g.gr i hi) (by simpa using hp) h1
 refine⟨fun x hx=>List.mem_append_left _ (g.sub x hx),fun x hx=> ?_, ?_,fun x hx=> ?_,fun x hx hn=> ?_,fun p hp hpt=> ?_⟩
 ·rcases List.mem_append.1 hx with hx | hx
  ·exact List.mem_append_left _ (g.todo x (List.mem_cons_of_mem _ hx))
  ·exact List.mem_append_right _ hx
 ·rw [List.nodup_append]
  refine⟨n2,zcv c l i,fun x hx y hy e=> ?_⟩
  subst e
  exact(zcM h hy).1 (g.todo x (List.mem_cons_of_mem _ hx))
 ·rcases List.mem_append.1 hx with hx | hx
  ·exact g.gr x hx
  ·exact hgr x hx
 ·rcases List.mem_append.1 hx with hx | hx
  ·obtain⟨q1,q2⟩:=g.par x hx hn
   refine⟨List.mem_append_left _ q1,fun hh=> ?_⟩
   rcases List.mem_append.1 hh with hh | hh
   ·exact q2 (List.mem_cons_of_mem _ hh)
   ·exact(zcM h hh).1 q1
  ·obtain⟨q1,_,q3⟩:=zcM h hx
   rw [q3]
   refine⟨List.mem_append_left _ hi,fun hh=> ?_⟩
   rcases List.mem_append.1 hh with hh | hh
   ·exact n1 hh
   ·exact(zcM h hh).1 hi
 ·have hpl:p∈l:=by
   rcases List.mem_append.1 hp with hp | hp
   ·exact hp
   ·exact absurd (List.mem_append_right _ hp) hpt
  by_cases e:p=i
  ·subst e
   have key: ∀k∈newK c l p,k∈l++addK c l p:=fun k hk=>by
    by_cases hl:k∈l
    ·exact List.mem_append_left _ hl
    ·exact List.mem_append_right _ (List.mem_filter.2 ⟨hk,by simpa using hl⟩)
   refine⟨fun hpp hno h0=>key _ ?_,fun hpp k hk=>key k ?_⟩
   ·unfold newK
    rw [if_pos hpp,if_neg ?_,if_pos h0]
    ·simp
    ·rw [List.any_eq_true]
     rintro⟨k,hk,hl⟩
     exact hno k hk (old k hk (by simpa using hl))
   ·unfold newK
    rw [if_neg (by rw [hpp]; simp)]
    exact hk
  ·have hpt':p∉i::r:=fun hh=>by
    rcases List.mem_cons.1 hh with rfl | hh
    ·exact e rfl
    ·exact hpt (List.mem_append_left _ hh)
   obtain⟨q1,q2⟩:=g.done p hpl hpt'
   exact⟨fun a b d=>List.mem_append_left _ (q1 a b d),fun a k hk=>List.mem_append_left _ (q2 a k hk)⟩
theorem Grown.all {c:ChD} {l0 l:List Int} (g:Grown c l0 l []) {x:Int} :x∈l↔Gr c l0 x:=by
 refine⟨g.gr x,fun h=> ?_⟩
 induction h with
 | base h=>exact g.sub _ h
 | ini _ hp hn h0 ih=>exact(g.done _ ih (by simp)).1 hp hn h0
 | par _ hp hk ih=>exact(g.done _ ih (by simp)).2 hp _ hk
theorem Grown.grow {c:ChD} (h:Full c) {l0:List Int} : ∀(f:Nat) (l t:List Int),Grown c l0 l t->missL c l+t.length<=f->Grown c l0 (zeu c f l t) []
 | 0,l,t,g,hf=>by
   have:t=[]:=List.eq_nil_of_length_eq_zero (by omega)
   subst this
   exact g
 | f+1,l,[],g,hf=>g
 | f+1,l,i::r,g,hf=>by
   unfold zeu
   refine Grown.grow h f _ _ (g.step h) ?_
   have:=zgn (c:=c) (l:=l) (zcv c l i) fun k hk=>⟨(zcM h hk).1,(zcM h hk).2.1⟩
   simp only [List.length_append,List.length_cons] at hf |-
   omega
theorem zkC {c:ChD} (h:Full c) {l0:List Int} : ∀ {f g:Nat} {l t:List Int},Grown c l0 l t->missL c l+t.length<=f->missL c l+t.length<=g->zeu c f l t=zeu c g l t
 | 0,0,_,_,_,_,_=>rfl
 | 0,g+1,l,t,_,hf,_=>by
   have:t=[]:=List.eq_nil_of_length_eq_zero (by omega)
   subst this
   rfl
 | f+1,0,l,t,_,_,hg=>by
   have:t=[]:=List.eq_nil_of_length_eq_zero (by omega)
   subst this
   rfl
 | f+1,g+1,l,[],_,_,_=>rfl
 | f+1,g+1,l,i::r,gr,hf,hg=>by
   have:=zgn (c:=c) (l:=l) (zcv c l i) fun k hk=>⟨(zcM h hk).1,(zcM h hk).2.1⟩
   simp only [List.length_cons] at hf hg
   unfold zeu
   exact zkC h (gr.step h) (by rw [List.length_append]; omega) (by rw [List.length_append]; omega)
theorem zhg {c:ChD} {l:List Int} (hn:l.Nodup):Grown c l l l:=⟨fun _ h=>h,fun _ h=>h,hn,fun _ h=> .base h,fun _ h hh=>absurd h hh,fun _ h hh=>absurd h hh⟩
theorem zen {c:ChD} (h:Full c) {l:List Int} (hn:l.Nodup) {x:Int} :x∈growL c l↔Gr c l x:=((zhg hn).grow h _ _ _ (Nat.le_refl _)).all
theorem Gr.real {c:ChD} (h:Full c) {l:List Int} {x:Int} (g:Gr c l x):x∈l\/(x∈kidZ c (parZ c x)/\Gr c l (parZ c x)/\(zbu c (parZ c x)=true->x=iniZ c (parZ c x)/\ ∀k∈kidZ c (parZ c x),k∉l)):=by
 cases g with
 | base h=>exact .inl h
 | ini g hp hn h0=>
   rename_i p
   have hk:=zje h hp h0
   have e:=(zeL h.toRight hk).2.1
   rw [e]
   exact .inr ⟨hk,g,fun _=>⟨rfl,hn⟩⟩
 | par g hp hk=>
   have e:=(zeL h.toRight hk).2.1
   rw [e]
   exact .inr ⟨hk,g,fun hh=>by rw [hp] at hh; cases hh⟩
theorem Gr.in {c:ChD} (h:Full c) {l:List Int} (hl: ∀x∈l,inZ c x=true) {x:Int} (g:Gr c l x):inZ c x=true:=by
 rcases g.real h with hx | ⟨hx,_⟩
 ·exact hl x hx
 ·exact(zeL h.toRight hx).1
theorem Gr.congr {c:ChD} {l l':List Int} (h: ∀x,x∈l↔x∈l') {x:Int} (g:Gr c l x):Gr c l' x:=by
 induction g with
 | base hx=>exact .base ((h _).1 hx)
 | ini _ hp hn h0 ih=>exact .ini ih hp (fun k hk hh=>hn k hk ((h k).2 hh)) h0
 | par _ hp hk ih=>exact .par ih hp hk
/-! As the document says -/
theorem zko {l:List Int} {ks:List Nat} :manyI l ks=0↔ ∀k∈zL ks,k∉l:=by
 unfold manyI
 rw [List.length_eq_zero_iff,List.filter_eq_nil_iff]
 constructor
 ·intro h k hk
  obtain⟨j,hj,rfl⟩:=List.mem_map.1 hk
  simpa using h j hj
 ·intro h k hk
  simpa using h k (List.mem_map.2 ⟨k,hk,rfl⟩)
theorem ztR (c:ChD) (l:List Int):missL c l<=c.states.length:=by
 unfold missL
 exact Nat.le_trans (List.length_filter_le ..) (by simp)
/-! The ways up of some states -/
def addU (o:List Int) (i:Int):List Int:=if o.contains i=true then o else o++[i]
def upTo (c:ChD) (d:Int) (o U:List Int) (m:Nat):List Int:=(U.take m).foldl (fun o k=>if 0<=k/\aboveB c d k=true then addU o k else o) o
def upsTo (c:ChD) (d:Int) (l:List Int) (j:Nat):List Int:=(l.take j).foldl (fun o i=>upTo c d (addU o i) (upL c i) (upL c i).length) []
def upsL (c:ChD) (l:List Int) (d:Int):List Int:=upsTo c d l l.length
theorem zbJ {α β:Type} (f:β->α->β) (b:β) {l:List α} {j:Nat} {x:α} (h:l[j]? =some x):(l.take (j+1)).foldl f b=f ((l.take j).foldl f b) x:=by
 rw [List.take_add_one,h,List.foldl_append]
 rfl
theorem zjE {o:List Int} {i x:Int} :x∈addU o i↔x∈o\/x=i:=by
 unfold addU
 split
 ·rename_i h
  have h:=List.contains_iff_mem.1 h
  exact⟨.inl,fun hh=>hh.elim id fun e=>e ▸ h⟩
 ·rw [List.mem_append,List.mem_singleton]
theorem zfT {o:List Int} (h:o.Nodup) (i:Int):(addU o i).Nodup:=by
 unfold addU
 split
 ·exact h
 ·rename_i hh
  rw [List.nodup_append]
  refine⟨h,by simp,fun x hx y hy e=> ?_⟩
  rw [List.mem_singleton.1 hy] at e
  subst e
  exact hh (List.contains_iff_mem.2 hx)
theorem zlt {c:ChD} {d:Int} {U:List Int} : ∀(m:Nat) {o:List Int},m<=U.length->o.Nodup->(upTo c d o U m).Nodup/\ ∀x,x∈upTo c d o U m↔x∈o\/(x∈U.take m/\0<=x/\aboveB c d x=true)
 | 0,o,_,hn=>⟨hn,fun x=>by simp [upTo]⟩
 | m+1,o,hm,hn=>by
   obtain⟨k,hk⟩: ∃k,U[m]? =some k:=⟨U[m],List.getElem?_eq_getElem (by omega)⟩
   obtain⟨q1,q2⟩:=zlt (c:=c) (d:=d) (U:=U) m (o:=o) (by omega) hn
   have e:upTo c d o U (m+1)=if 0<=k/\aboveB c d k=true then addU (upTo c d o U m) k else upTo c d o U m:=zbJ _ _ hk
   have e2: ∀x,x∈U.take (m+1)↔x∈U.take m\/x=k:=fun x=>by rw [List.take_add_one,hk]; simp
   rw [e]
   split
   ·rename_i hc
    refine⟨zfT q1 k,fun x=> ?_⟩
    rw [zjE,q2,e2]
    constructor
    ·rintro((a | ⟨a,b⟩) | rfl)
     ·exact .inl a
     ·exact .inr ⟨.inl a,b⟩
     ·exact .inr ⟨.inr rfl,hc⟩
    ·rintro(a | ⟨a | rfl,b⟩)
     ·exact .inl (.inl a)
     ·exact .inl (.inr ⟨a,b⟩)
     ·exact .inr rfl
   ·rename_i hc
    refine⟨q1,fun x=> ?_⟩
    rw [q2,e2]
    constructor
    ·rintro(a | ⟨a,b⟩)
     ·exact .inl a
     ·exact .inr ⟨.inl a,b⟩
    ·rintro(a | ⟨a | rfl,b⟩)
     ·exact .inl a
     ·exact .inr ⟨a,b⟩
     ·exact absurd b hc
theorem ziA {c:ChD} {d:Int} {l:List Int} : ∀(j:Nat),j<=l.length->(upsTo c d l j).Nodup/\ ∀x,x∈upsTo c d l j↔x∈l.take j\/ ∃i∈l.take j,x∈upL c i/\0<=x/\aboveB c d x=true
 | 0,_=>⟨List.nodup_nil,fun x=>by simp [upsTo]⟩
 | j+1,hj=>by
   obtain⟨k,hk⟩: ∃k,l[j]? =some k:=⟨l[j],List.getElem?_eq_getElem (by omega)⟩
   obtain⟨q1,q2⟩:=ziA (c:=c) (d:=d) (l:=l) j (by omega)
   have e:upsTo c d l (j+1)=upTo c d (addU (upsTo c d l j) k) (upL c k) (upL c k).length:=zbJ _ _ hk
   have e2: ∀x,x∈l.take (j+1)↔x∈l.take j\/x=k:=fun x=>by rw [List.take_add_one,hk]; simp
   obtain⟨p1,p2⟩:=zlt (c:=c) (d:=d) (U:=upL c k) _ (Nat.le_refl _) (zfT q1 k)
   rw [e]
   refine⟨p1,fun x=> ?_⟩
   rw [p2,zjE,q2,List.take_length]
   simp only [e2]
   constructor
   ·rintro(((a | ⟨i,a,b⟩) | rfl) | b)
    ·exact .inl (.inl a)
    ·exact .inr ⟨i, .inl a,b⟩
    ·exact .inl (.inr rfl)
    ·exact .inr ⟨k, .inr rfl,b⟩
   ·rintro((a | rfl) | ⟨i,a | rfl,b⟩)
    ·exact .inl (.inl (.inl a))
    ·exact .inl (.inr rfl)
    ·exact .inl (.inl (.inr ⟨i,a,b⟩))
    ·exact .inr b
theorem zeT {c:ChD} {d:Int} {l:List Int} :(upsL c l d).Nodup/\ ∀x,x∈upsL c l d↔x∈l\/ ∃i∈l,x∈upL c i/\0<=x/\aboveB c d x=true:=by
 have:=ziA (c:=c) (d:=d) (l:=l) _ (Nat.le_refl _)
 rw [List.take_length] at this
 exact this
def zi4 (c:ChD) (l:List Int) (d:Int) (i:Nat):Bool:=l.contains (i:Int)||l.any fun k=>aboveB c (i:Int) k&&aboveB c d (i:Int)
def pathL (c:ChD) (l:List Int) (d:Int):List Nat:=(List.range c.states.length).filter (zi4 c l d)
theorem zcZ {c:ChD} (h:Right c) {k i:Int} (ha:k∈upL c i) (h0:0<=k):inZ c k=true/\k<i:=by
 have:=zfs h 40 i k ha
 have hi:inZ c i=true:=by
  cases hh:inZ c i with
  | true=>rfl
  | false=>rw [zbM hh] at ha; simp at ha
 have:=zak.1 hi
 exact⟨zak.2 ⟨h0,by omega⟩,by omega⟩
theorem zmY {c:ChD} (h:Right c) {l:List Int} (hl: ∀x∈l,inZ c x=true) {d x:Int} :x∈zL (pathL c l d)↔x∈upsL c l d:=by
 rw [zeT.2]
 constructor
 ·intro hx
  obtain⟨i,hi,rfl⟩:=List.mem_map.1 hx
  obtain⟨_,hb⟩:=List.mem_filter.1 hi
  unfold zi4 at hb
  rw [Bool.or_eq_true,List.any_eq_true] at hb
  rcases hb with hb | ⟨k,hk,hb⟩
  ·exact .inl (by simpa using hb)
  ·rw [Bool.and_eq_true] at hb
   exact .inr ⟨k,hk,by simpa [aboveB] using hb.1,by omega,hb.2⟩
 ·intro hx
  have hz:inZ c x=true:=by
   rcases hx with hx | ⟨i,_,h1,h2,_⟩
   ·exact hl x hx
   ·exact(zcZ h h1 h2).1
  have h3:=zak.1 hz
  refine List.mem_map.2 ⟨x.toNat,List.mem_filter.2 ⟨List.mem_range.2 (by omega), ?_⟩,by omega⟩
  have e:((x.toNat:Nat):Int)=x:=by omega
  unfold zi4
  rw [e,Bool.or_eq_true,List.any_eq_true]
  rcases hx with hx | ⟨i,h0,h1,h2,h4⟩
  ·exact .inl (by simpa using hx)
  ·exact .inr ⟨i,h0,by rw [Bool.and_eq_true]; exact⟨by simpa [aboveB] using h1,h4⟩⟩
end
section
open Go.RowKit
/-! Rising lists -/
def upB (l:List Int) (j:Nat):Bool:=(j==0)||decide (l.getD (j-1) 0<l.getD j 0)
def zdW (l:List Int) (j:Nat):Bool:=(j==0)||decide (¬l.getD j 0<l.getD (j-1) 0)
def zdN (l:List Int):Bool:= !l.isEmpty&&(List.range l.length).all (upB l)
def zdK (l:List Int):Bool:=(List.range l.length).all (zdW l)
theorem zm8 (l:List Int) (j:Nat) (hj:j<l.length):Lib.keeps l.toArray j=((j==0)||decide (l.getD j 0≠l.getD (j-1) 0)):=by
 unfold Lib.keeps
 have e: ∀k,k<l.length->l.toArray[k]! =l.getD k 0:=fun k hk=>by
  rw [getElem!_pos _ k (by simpa using hk),List.getD_eq_getElem?_getD,List.getElem?_eq_getElem hk]
  simp
 rw [e j hj,e (j-1) (by omega)]
 by_cases h:j=0<;>simp [h]
theorem zmr (l:List Int):(Lib.compact l).length=l.length↔ ∀j,j<l.length->Lib.keeps l.toArray j=true:=by
 unfold Lib.compact Lib.compactUpTo
 rw [List.length_map]
 conv=>lhs; rhs; rw [<-List.length_range (n:=l.length)]
 rw [List.length_filter_eq_length_iff]
 simp
theorem ztH (l:List Int):(!l.isEmpty&&zdK l&&decide ((Lib.compact l).length=l.length))=zdN l:=by
 unfold zdN zdK
 rw [Bool.and_assoc]
 congr 1
 rw [Bool.eq_iff_iff,Bool.and_eq_true,decide_eq_true_eq,zmr,List.all_eq_true,List.all_eq_true]
 simp only [List.mem_range]
 constructor
 ·rintro⟨h1,h2⟩ j hj
  have a:=h1 j hj
  have b:=h2 j hj
  rw [zm8 l j hj] at b
  unfold upB
  unfold zdW at a
  by_cases h0:j=0
  ·simp [h0]
  ·simp [h0] at a b |-
   omega
 ·intro h
  refine⟨fun j hj=> ?_,fun j hj=> ?_⟩
  ·have a:=h j hj
   unfold upB at a
   unfold zdW
   by_cases h0:j=0
   ·simp [h0]
   ·simp [h0] at a |-
    omega
  ·have a:=h j hj
   rw [zm8 l j hj]
   unfold upB at a
   by_cases h0:j=0
   ·simp [h0]
   ·simp [h0] at a |-
    omega
theorem zei {l:List Int} (h:zdN l=true):l.Nodup:=by
 unfold zdN at h
 rw [Bool.and_eq_true,List.all_eq_true] at h
 have key: ∀i d,i+d+1<l.length->l.getD i 0<l.getD (i+d+1) 0:=fun i d=>by
  induction d with
  | zero=>
    intro hd
    have:=h.2 (i+1) (List.mem_range.2 (by omega))
    unfold upB at this
    simpa using this
  | succ d ih=>
    intro hd
    have h1:=ih (by omega)
    have:=h.2 (i+d+1+1) (List.mem_range.2 (by omega))
    unfold upB at this
    have h2:l.getD (i+d+1) 0<l.getD (i+d+1+1) 0:=by simpa using this
    rw [show i+(d+1)+1=i+d+1+1 by omega]
    omega
 rw [List.nodup_iff_pairwise_ne,List.pairwise_iff_getElem]
 intro i j hi hj hij e
 have:=key i (j-i-1) (by omega)
 rw [show i+(j-i-1)+1=j by omega] at this
 simp [List.getD_eq_getElem?_getD,List.getElem?_eq_getElem hi,List.getElem?_eq_getElem hj,e] at this
/-! Deep memories -/
def zbm (c:ChD) (l:List Int) (i:Int):Bool:=match at_ c i with
 | some s=> !(((s.kind==1)&&decide (1<manyI l (kidsL c i true)))||((s.kind==4)||(s.kind==5)))
 | none=>false
def zcp (c:ChD) (parent i:Int):Bool:=aboveB c parent i&&(kidsL c i true).isEmpty
def deepA (c:ChD) (parent:Int) (l:List Int):List Int:=upsL c l parent++[parent]
def deepB (c:ChD) (parent:Int) (l:List Int):Bool:=zdN l&&l.all (zcp c parent)&&decide ((growL c (deepA c parent l)).length=(deepA c parent l).length)&&(growL c (deepA c parent l)).all (zbm c (growL c (deepA c parent l)))
def zbO (c:ChD) (parent i:Int):Bool:=aboveB c parent i&&(match at_ c i with | some s=> !zaD s | none=>false)&&(kidsL c i true).isEmpty
def zbQ (c:ChD) (l:List Int) (i:Int):Bool:=match at_ c i with
 | some s=> !(((s.kind==1)&&decide (manyI l (kidsL c i true)≠min (kidsL c i true).length 1))||((s.kind==2)&&decide (manyI l (kidsL c i true)≠(kidsL c i true).length)))
 | none=>false
def deepRA (c:ChD) (parent:Int) (l:List Int):List Int:=zL (pathL c l parent)++[parent]
def zoR (c:ChD) (parent:Int) (l:List Int):Bool:=zdN l&&l.all (zbO c parent)&&(deepRA c parent l).all (zbQ c (deepRA c parent l))
theorem zkD (c:ChD): ∀(f:Nat) (l t:List Int),∃a,zeu c f l t=l++a
 | 0,l,t=>⟨[],by simp [zeu]⟩
 | f+1,l,[]=>⟨[],by simp [zeu]⟩
 | f+1,l,i::r=>by
   obtain⟨a,e⟩:=zkD c f (l++addK c l i) (r++addK c l i)
   exact⟨addK c l i++a,by unfold zeu; rw [e,List.append_assoc]⟩
theorem zeN (c:ChD): ∀(f:Nat) (l t:List Int),l.Nodup->(zeu c f l t).Nodup
 | 0,l,t,h=>h
 | f+1,l,[],h=>h
 | f+1,l,i::r,h=>by
   unfold zeu
   refine zeN c f _ _ ?_
   rw [List.nodup_append]
   refine⟨h,zcv c l i,fun x hx y hy e=> ?_⟩
   subst e
   have:=(List.mem_filter.1 hy).2
   simp [hx] at this
theorem zqQ {c:ChD} (h:Full c) {l:List Int} (hn:l.Nodup):(growL c l).length=l.length↔ ∀x,Gr c l x->x∈l:=by
 obtain⟨a,e⟩:=zkD c (missL c l+l.length) l l
 have e:growL c l=l++a:=e
 constructor
 ·intro hl x hx
  have:a=[]:=List.eq_nil_of_length_eq_zero (by rw [e,List.length_append] at hl; omega)
  rw [this,List.append_nil] at e
  rw [<-e]
  exact(zen h hn).2 hx
 ·intro hx
  have h1:=(zeN c (missL c l+l.length) l l hn).length_le_of_subset (l₂:=l) fun x hh=>hx x ((zen h hn).1 hh)
  have h1:(growL c l).length<=l.length:=h1
  rw [e,List.length_append] at h1 |-
  omega
theorem zem {l l':List Int} (h: ∀x,x∈l↔x∈l') (ks:List Nat):manyI l ks=manyI l' ks:=by
 unfold manyI
 congr 1
 apply List.filter_congr
 intro k _
 rw [Bool.eq_iff_iff,List.contains_iff_mem,List.contains_iff_mem]
 exact h _
theorem ziC {c:ChD} (h:Full c): ∀(n:Nat) (i k:Int),i<n->k∈upL c i->0<=k->zaA c k=true
 | 0,i,k,hn,hk,h0=>by
   cases hh:inZ c i with
   | true=>have:=zak.1 hh; omega
   | false=>rw [zbM hh] at hk; simp at hk
 | n+1,i,k,hn,hk,h0=>by
   cases hh:inZ c i with
   | false=>rw [zbM hh] at hk; simp at hk
   | true=>
     rw [zbN h.toRight hh] at hk
     have hp:=zbZ h.toRight hh
     rcases hk with rfl | hk
     ·obtain⟨j,s,rfl,hs,_⟩:=zcL hh
      have:=h.st j s hs
      simp only [zay,Bool.and_eq_true] at this
      have:=this.1.1.1.2
      rw [zc1 hs] at h0 |-
      simp only [zaR,Bool.or_eq_true,Bool.and_eq_true,beq_iff_eq] at this
      rcases this with e | ⟨_,e⟩
      ·omega
      ·exact e
     ·exact ziC h n _ k (by omega) hk h0
theorem zda {c:ChD} {i:Int} (h:zaA c i=true): ∃s,at_ c i=some s/\(s.kind=1\/s.kind=2):=by
 unfold zaA at h
 split at h
 ·rename_i s hs
  refine⟨s,hs, ?_⟩
  unfold zcc at h
  simpa using h
 ·cases h
theorem znL {c:ChD} (h:Full c) {i:Int} {s:StD} (hs:at_ c i=some s):(s.kind=1/\(kidsL c i true=[]\/(0<=iniZ c i/\iniZ c i∈kidZ c i)))\/(s.kind=2/\kidsL c i true≠[])\/(s.kind=3/\kidsL c i true=[])\/((s.kind=4\/s.kind=5)/\kidsL c i true=[]):=by
 have hz:0<=i:=by
  unfold at_ at hs
  split at hs
  ·assumption
  ·cases hs
 obtain⟨k,rfl⟩: ∃k:Nat,i=k:=⟨i.toNat,by omega⟩
 have he:iniZ c (k:Int)=s.initial:=by unfold iniZ; rw [hs]
 rw [zbV] at hs
 rcases h.cases hs with⟨e,⟨e2,_⟩ | ⟨j,hj,e2⟩⟩ | ⟨e,_,e2,_⟩ | ⟨e,e2,_⟩ | ⟨e,e2,_⟩
 ·exact .inl ⟨e, .inl e2⟩
 ·exact .inl ⟨e, .inr (by rw [he,e2]; exact⟨by omega,List.mem_map.2 ⟨j,hj,rfl⟩⟩)⟩
 ·exact .inr (.inl ⟨e,e2⟩)
 ·exact .inr (.inr (.inl ⟨e,zi5 e2⟩))
 ·exact .inr (.inr (.inr ⟨e,zi5 e2⟩))
theorem zc8 {c:ChD} {i:Int} {s:StD} (hs:at_ c i=some s):zbu c i=(s.kind==1):=by unfold zbu; rw [hs]
theorem zf1 {l:List Int} {ks:List Nat} :manyI l ks=ks.length↔ ∀k∈zL ks,k∈l:=by
 unfold manyI
 rw [List.length_filter_eq_length_iff]
 constructor
 ·intro h k hk
  obtain⟨j,hj,rfl⟩:=List.mem_map.1 hk
  simpa using h j hj
 ·intro h k hk
  simpa using h k (List.mem_map.2 ⟨k,hk,rfl⟩)
theorem zk9 {c:ChD} (h:Full c) {parent:Int} (hp:zaA c parent=true) (l:List Int):deepB c parent l=zoR c parent l:=by
 unfold deepB zoR
 cases hr:zdN l with
 | false=>rfl
 | true=>
 simp only [Bool.true_and]
 by_cases hleaf:l.all (zcp c parent)=true
 ·rw [hleaf,Bool.true_and]
  have hz: ∀x∈l,aboveB c parent x=true/\kidsL c x true=[]/\inZ c x=true:=fun x hx=>by
   have:=List.all_eq_true.1 hleaf x hx
   unfold zcp at this
   rw [Bool.and_eq_true] at this
   refine⟨this.1,by simpa using this.2, ?_⟩
   cases hh:inZ c x with
   | true=>rfl
   | false=>
     have:=this.1
     unfold aboveB at this
     rw [zbM hh] at this
     simp at this
  obtain⟨sp,hsp,hk12⟩:=zda hp
  have hp0:0<=parent:=by
   unfold at_ at hsp
   split at hsp
   ·assumption
   ·cases hsp
  obtain⟨un,um⟩:=zeT (c:=c) (d:=parent) (l:=l)
  have habove: ∀x∈upsL c l parent,aboveB c parent x=true:=fun x hx=>by
   rcases (um x).1 hx with hx | ⟨_,_,_,_,hx⟩
   ·exact(hz x hx).1
   ·exact hx
  have hnp:parent∉upsL c l parent:=fun hh=>by
   have:=habove _ hh
   unfold aboveB at this
   have:=(zfs h.toRight 40 parent parent (List.contains_iff_mem.1 this)).2
   omega
  have hnd:(deepA c parent l).Nodup:=by
   unfold deepA
   rw [List.nodup_append]
   refine⟨un,by simp,fun x hx y hy e=> ?_⟩
   rw [List.mem_singleton.1 hy] at e
   rw [e] at hx
   exact hnp hx
  have hmem: ∀x,x∈deepRA c parent l↔x∈deepA c parent l:=fun x=>by
   unfold deepRA deepA
   rw [List.mem_append,List.mem_append,zmY h.toRight fun x hx=>(hz x hx).2.2]
  have hin: ∀x∈deepA c parent l,x∈l\/zaA c x=true:=fun x hx=>by
   rcases List.mem_append.1 hx with hx | hx
   ·rcases (um x).1 hx with hx | ⟨i,_,h1,h2,_⟩
    ·exact .inl hx
    ·exact .inr (ziC h 40 i x (by
      cases hh:inZ c i with
      | true=>have:=zak.1 hh; have:=h.few; omega
      | false=>rw [zbM hh] at h1; simp at h1) h1 h2)
   ·rw [List.mem_singleton.1 hx]; exact .inr hp
  have hla: ∀x∈l,x∈deepA c parent l:=fun x hx=>List.mem_append_left _ ((um x).2 (.inl hx))
  have hat: ∀x∈deepA c parent l,∃s,at_ c x=some s:=fun x hx=>by
   rcases hin x hx with hx | hx
   ·obtain⟨_,s,_,_,e⟩:=zcL (hz x hx).2.2
    exact⟨s,e⟩
   ·obtain⟨s,e,_⟩:=zda hx
    exact⟨s,e⟩
  rw [Bool.eq_iff_iff,Bool.and_eq_true,decide_eq_true_eq,zqQ h hnd,Bool.and_eq_true]
  constructor
  ·rintro⟨hc,hcl⟩
   have gm: ∀x,x∈growL c (deepA c parent l)↔x∈deepA c parent l:=fun x=>by
    rw [zen h hnd]
    exact⟨hc x, .base⟩
   have hcl: ∀x∈deepA c parent l,zbm c (deepA c parent l) x=true:=fun x hx=>by
    have:=List.all_eq_true.1 hcl x ((gm x).2 hx)
    unfold zbm at this |-
    obtain⟨s,hs⟩:=hat x hx
    rw [hs] at this |-
    rw [zem gm] at this
    exact this
   refine⟨List.all_eq_true.2 fun x hx=> ?_,List.all_eq_true.2 fun x hx=> ?_⟩
   ·have:=hcl x (hla x hx)
    unfold zbm at this
    unfold zbO
    obtain⟨s,hs⟩:=hat x (hla x hx)
    rw [hs] at this |-
    simp only at this |-
    rw [(hz x hx).1,(hz x hx).2.1]
    unfold zaD
    simp only [Bool.not_or,Bool.and_eq_true] at this
    simp [this.2.1,this.2.2] at*
   ·have hx:=(hmem x).1 hx
    obtain⟨s,hs⟩:=hat x hx
    have h1:=hcl x hx
    unfold zbm at h1
    unfold zbQ
    rw [hs] at h1 |-
    simp only at h1 |-
    rw [zem hmem]
    rcases znL h hs with⟨e,e2⟩ | ⟨e,e2⟩ | ⟨e,e2⟩ | ⟨e,e2⟩
    ·have hle:manyI (deepA c parent l) (kidsL c x true)<=1:=by
      rw [e] at h1
      simp at h1
      exact h1
     have:manyI (deepA c parent l) (kidsL c x true)=min (kidsL c x true).length 1:=by
      rcases e2 with e2 | ⟨e2,e3⟩
      ·rw [e2]; rfl
      ·have hlen:0< (kidsL c x true).length:=by
        cases hq:kidsL c x true with
        | nil=>rw [kidZ,hq] at e3; simp at e3
        | cons=>simp
       have hpos:manyI (deepA c parent l) (kidsL c x true)≠0:=fun h0=>by
        have hno:=zko.1 h0
        exact hno _ e3 (hc _ (.ini (.base hx) (by rw [zc8 hs,e]; rfl) hno e2))
       omega
     simp [e,this]
    ·have:manyI (deepA c parent l) (kidsL c x true)=(kidsL c x true).length:=zf1.2 fun k hk=>hc k (.par (.base hx) (by rw [zc8 hs,e]; rfl) hk)
     simp [e,this]
    ·simp [e]
    ·rcases e with e | e<;>simp [e]
  ·rintro⟨hl2,hcd⟩
   have hcd: ∀x∈deepA c parent l,zbQ c (deepA c parent l) x=true:=fun x hx=>by
    have:=List.all_eq_true.1 hcd x ((hmem x).2 hx)
    unfold zbQ at this |-
    obtain⟨s,hs⟩:=hat x hx
    rw [hs] at this |-
    rw [zem hmem] at this
    exact this
   have hgr: ∀x,Gr c (deepA c parent l) x->x∈deepA c parent l:=fun x g=>by
    induction g with
    | base h=>exact h
    | ini g hpp hn h0 ih=>
      rename_i p
      exfalso
      obtain⟨s,hs⟩:=hat p ih
      have h1:=hcd p ih
      unfold zbQ at h1
      rw [hs] at h1
      rw [zc8 hs] at hpp
      have hk:s.kind=1:=by simpa using hpp
      have hini:=zje h (by rw [zc8 hs,hk]; rfl) h0
      have hlen:0< (kidsL c p true).length:=by
       cases hq:kidsL c p true with
       | nil=>rw [kidZ,hq] at hini; simp at hini
       | cons=>simp
      have h0:=zko.2 hn
      simp only [hk,h0] at h1
      simp at h1
      omega
    | par g hpp hk ih=>
      rename_i p k
      obtain⟨s,hs⟩:=hat p ih
      have h1:=hcd p ih
      unfold zbQ at h1
      rw [hs] at h1
      rw [zc8 hs] at hpp
      rcases znL h hs with⟨e,_⟩ | ⟨e,_⟩ | ⟨_,e⟩ | ⟨_,e⟩
      ·rw [e] at hpp; cases hpp
      ·simp [e] at h1
       exact zf1.1 h1 k hk
      ·rw [kidZ,e] at hk; simp at hk
      ·rw [kidZ,e] at hk; simp at hk
   have gm: ∀x,x∈growL c (deepA c parent l)↔x∈deepA c parent l:=fun x=>by
    rw [zen h hnd]
    exact⟨hgr x, .base⟩
   refine⟨hgr,List.all_eq_true.2 fun x hx=> ?_⟩
   have hx:=(gm x).1 hx
   obtain⟨s,hs⟩:=hat x hx
   have h1:=hcd x hx
   unfold zbQ at h1
   unfold zbm
   rw [hs] at h1 |-
   simp only at h1 |-
   rw [zem gm]
   have hk45:s.kind≠4/\s.kind≠5:=by
    rcases hin x hx with hx | hx
    ·have:=List.all_eq_true.1 hl2 x hx
     unfold zbO at this
     rw [hs] at this
     simp only [zaD,Bool.and_eq_true,Bool.not_or] at this
     have:=this.1.2
     exact⟨by simpa using this.1,by simpa using this.2⟩
    ·obtain⟨s',e,e2⟩:=zda hx
     rw [hs] at e
     cases e
     omega
   have hle:s.kind=1->manyI (deepA c parent l) (kidsL c x true)<=1:=fun e=>by
    simp [e] at h1
    omega
   by_cases e:s.kind=1
   ·have:=hle e
    simp [e]
    omega
   ·simp [e,hk45.1,hk45.2]
 ·have hleaf:l.all (zcp c parent)=false:=by simpa using hleaf
  rw [hleaf]
  have:l.all (zbO c parent)=false:=by
   rw [List.all_eq_false] at hleaf |-
   obtain⟨x,hx,e⟩:=hleaf
   refine⟨x,hx,fun hh=>e ?_⟩
   unfold zbO at hh
   unfold zcp
   simp only [Bool.and_eq_true] at hh |-
   exact⟨hh.1.1,hh.2⟩
  rw [this]
  rfl
/-! Memories -/
abbrev MemD:=Int×List Int
def memB (c:ChD) (m:MemD):Bool:=match at_ c m.1 with
 | some s=>if s.kind=4 then decide (m.2.length=1)&&(kidZ c s.parent).contains (m.2.getD 0 0) else(s.kind==5)&&deepB c s.parent m.2
 | none=>false
def zhK (c:ChD) (l:List MemD) (j:Nat):Bool:=match l[j]? with
 | some m=>memB c m&&((j==0)||decide ((l.getD (j-1) (0,[])).1<m.1))
 | none=>true
def zeI (c:ChD) (l:List MemD):Bool:=(List.range l.length).all (zhK c l)
end
section
open Go.RowKit Go.ChangeShapes Go.WideShapes Go.ChangeAt
def mmAV (m:MemD):List AV:=[I m.1, .seq 1 (m.2.map intAV)]
def zux (m:MemD):Prop:=m.2.length<=maxLen
theorem zrs:Tryz.prog.cellsOf 27=1:=by kernel_rfl
theorem zuO:Tryz.prog.cellsOf 85=2:=by kernel_rfl
section
variable {H:Type} {enc:TypeId×Value->H} {w:World} {base:Nat} {spare:Nat->Bool} {held:Bool}
theorem open_int1 (m:Nat) (cs:List Value) (y:DataW H×List MemPlace) (h:DataW.trod enc Tryz.prog w base spare held m 3 cs=some y): ∃a:Int,RE w intAV (fun _=>True) cs a:=by
 obtain⟨n,rfl, -, -⟩:=DataW.trod_int Tryz.underlying3 h
 exact⟨n,⟨⟨rfl, .lit _⟩,trivial⟩,trivial⟩
theorem RVs.app {S:Nat->Nat->Prop} {w:World} : ∀ {vs us:List Value} {cs ds:List AV},RVs S w vs cs->RVs S w us ds->RVs S w (vs++us) (cs++ds)
 | [],_,[],_,_,h=>h
 | _::_,_,_::_,_,h1,h2=>⟨h1.1,RVs.app h1.2 h2⟩
end
end
section
open Go.RowKit
theorem i64m (a b:Nat) (h:b<=a) (h':a<9223372036854775808):IntKind.i64.wrap ((a:Int)-(b:Int))=((a-b:Nat):Int):=by rw [zaC (by omega) (by omega)]; omega
abbrev ints34 (l:List Int):AV:= .seq 1 (l.map intAV)
def tmAV (t:List UInt8×Int):List AV:=[Sg t.1,I t.2]
def inAV (r:Rc):List AV:=[ints34 r.active,ints34 r.vars, .seq 2 (r.mem.map mmAV), .seq 2 (r.timers.map tmAV),B r.over]
theorem zcj {α:Type} {l:List α} {i:Nat} {x d:α} (h:l[i]? =some x):l.getD i d=x:=by rw [List.getD_eq_getElem?_getD,h]; rfl
theorem zur {α:Type} {l:List α} {i:Nat} {x:α} (h:l[i]? =some x):x∈l:=List.mem_of_getElem? h
theorem zjC {i:Nat} {f:Nat->Bool} (ha: ∀j,j<i->f j=true) (h:f i=true): ∀j,j<i+1->f j=true:=fun j hj=>by
 by_cases e:j=i
 ·rw [e]; exact h
 ·exact ha j (by omega)
theorem zg4: ∀a b:List UInt8,Op.bytesLess b a= !(Op.bytesLess a b||a==b)
 | [],[]=>rfl
 | [],_::_=>rfl
 | _::_,[]=>rfl
 | x::a,y::b=>by
   have ih:=zg4 a b
   simp only [Op.bytesLess,List.cons_beq_cons,ih]
   by_cases h:x=y
   ·subst h
    simp
   ·have h': ¬y=x:=fun e=>h e.symm
    have e1:(x==y)=false:=by simpa using h
    have e2:(y==x)=false:=by simpa using h'
    have e3:decide (y<x)= !decide (x<y):=by
     rw [Bool.eq_iff_iff]
     simp [UInt8.lt_iff_toNat_lt]
     have:x.toNat≠y.toNat:=fun e=>h (UInt8.toNat_inj.1 e)
     omega
    simp [e1,e2,e3]
end
section
open Go.RowKit
end

end Go.Proofs.YtnbjaghjdeicmaaGreatDoor