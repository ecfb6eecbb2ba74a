/- Pairs put in the order of their keys, one by one and by a sort: plain. No program is named here. -/
import Derived.Test.YtbpmkofnfgdegaaGreatDoorM13
import Derived.Test.YtbpmkofnfgdegaaGreatDoorM8
import Derived.Test.YtbpmkofnfgdegaaGreatDoorM6
import Derived.Test.YtbpmkofnfgdegaaGreatDoorM10
import Derived.Test.YtbpmkofnfgdegaaGreatDoorM11
import Derived.Shelf.Slices.In.SortNone
import Derived.Lib.SlicesCompact
import Derived.Test.YtbpmkofnfgdegaaGreatDoorM5
import Derived.Test.YtbpmkofnfgdegaaGreatDoorM9
import Derived.Test.YtbpmkofnfgdegaaGreatDoorM1
set_option maxRecDepth 100000
set_option maxHeartbeats 8000000
set_option linter.unusedSimpArgs false
namespace Go.Proofs.YtbpmkofnfgdegaaGreatDoor
open Go.Proofs.Tryz
section
open Go.RowKit
abbrev U32 (m:Nat):AV:= .lit (.int .u32 m)
theorem zlM (env:Env) (c:ChD):Con prog env 183 [zan c] (I c.states.length):=by
 refine qf func183 call183 ntmps183 results183 ?_;have F:=zan.eq_1;repeat refine st ?_
 exact aR
theorem zhW (env:Env) (c:ChD) (i:Int):Con prog env 124 [zan c,I i] (B (inZ c i)):=by
 have f0:=zlM env c;refine qf func124 call124 ntmps124 results124 ?_;unfold inZ;by_cases h0:0<=i
 ·by_cases h1:i< (c.states.length:Int)
  ·have F:=ai h0 h1;repeat (first | refine st ?_ | refine cC f0 ?_)
   exact aR
  ·have F:=ai h0 h1;repeat (first | refine st ?_ | refine cC f0 ?_)
   exact aR
 ·have F:=h0;repeat (first | refine st ?_ | refine cC f0 ?_)
  exact aR
theorem zkC (env:Env) (c:ChD) (hc:Right c) (i:Int):Con prog env 81 [zan c,I i] (.own 3 1 ((upL c i).map fun k=>[I k])):=by
 have hlen:=hc.few;refine qf func81 call81 ntmps81 results81 ?_;repeat refine st0 ?_
 refine zaT 5 5 3 1 ?_;have hul:(upL c i).length<=40:=zof 40 i;refine zab (D:=Int×List Int) (fun d vs=>[(0,zan c),(1,I d.1),(5, .row 5 (vs 5))]) (fun d _=>[(5,⟨1,d.2.map fun k=>[I k],3,true⟩)]) (fun d _ esc=>upL c i=d.2++upL c d.1/\esc 5=false) (fun d=>(d.1+1).toNat) (i,[]) ?_ ?_ ?_ ?_
 ·exact⟨rfl,rfl⟩
 ·exact qe0
 ·exact qe0
 rintro⟨d,l⟩ ws esc ⟨hu,e0⟩;simp only at hu;have f0:=zhW env c d;cases hz:inZ c d with
 | false=>
   rw [zel hz,List.append_nil] at hu;rw [hz] at f0;have F:=ai hu e0;repeat (first | refine st ?_ | refine cC f0 ?_)
   exact aR
 | true=>
   obtain⟨k,s,rfl,hs,ha⟩:=zgR hz;have hp:=zd9 hs;have hlt:=zcA hc hz;rw [hp] at hlt;rw [zkB hc hz,hp] at hu;rw [hz] at f0
   have hl:l.length+1<=40:=by
    have:=congrArg List.length hu;rw [List.length_append,List.length_cons] at this;omega
   have g1:((k:Nat):Int)< (c.states.length:Int):=by have:=(zas.1 hz).2; omega
   have hf:Fits (l.length+1) 8:=⟨by omega,by omega⟩;have F:=ai5 zan.eq_1 g1 hs hf e0;repeat (first | refine st ?_ | refine cC f0 ?_)
   refine⟨(s.parent,l++[s.parent]),⟨?_, ?_⟩, ?_, ?_, ?_⟩
   ·show upL c i=(l++[s.parent])++upL c s.parent;rw [hu,List.append_assoc];rfl
   ·show _=false;simp only [go_sem,e0]
   ·have F:=zan.eq_1;exact qe
   ·have F:=ai zan.eq_1 @List.map_append.{0,0};exact qe
   ·show (s.parent+1).toNat< ((k:Int)+1).toNat;omega
theorem zlN (env:Env) (m:Nat) (hm:m<4294967296) (k:Nat) (hk:k<32):Con prog env 151 [U32 m,I k] (B (m.testBit k)):=by
 have hq:m/2^k<4294967296:=Nat.lt_of_le_of_lt (Nat.div_le_self ..) hm
 have g0:((m:Int)).fdiv (2^min k 32)=((m/2^k:Nat):Int):=by
  rw [show min k 32=k by omega,show ((2:Int)^k)=((2^k:Nat):Int) by rw [Int.natCast_pow]; rfl];exact(Int.ofNat_fdiv _ _).symm
 have g1:bitV .and .u32 ((m/2^k:Nat):Int) 1=((m/2^k%2:Nat):Int):=by
  have:=u32_and (m/2^k) 1 hq (by decide);rw [Nat.and_one_is_mod] at this;exact this
 have g2:((((m/2^k%2:Nat):Int))==1)=m.testBit k:=by
  rw [<-zqp];rcases Nat.mod_two_eq_zero_or_one (m/2^k) with h | h<;>rw [h]<;>rfl
 refine qf func151 call151 ntmps151 results151 ?_;have F:=ai3 g0 g1 g2;repeat refine st ?_
 exact aR
def zg2 (m:Nat) (l:List Nat) (j:Nat):List Nat:=(l.take j).filter fun k=>m.testBit k
theorem zoT {m:Nat} {l:List Nat} {j k:Nat} (h:l[j]? =some k):zg2 m l (j+1)=if m.testBit k then zg2 m l j++[k] else zg2 m l j:=by
 unfold zg2;rw [List.take_add_one,h,List.filter_append];cases hb:m.testBit k<;>simp [hb]
theorem zq4 (m:Nat) (l:List Nat) (j:Nat):(zg2 m l j).length<=l.length:=by
 unfold zg2;exact Nat.le_trans (List.length_filter_le ..) (by rw [List.length_take]; omega)
theorem zkD (env:Env) (c:ChD) (hc:Right c) (m:Nat) (hm:m<4294967296):Con prog env 125 [zan c,U32 m] (.own 3 1 (((walkL c (-1)).filter fun k=>m.testBit k).map zae)):=by
 have hlen:=hc.few;have hwl:=zhR hc;have htop:=zej hc;refine qf func125 call125 ntmps125 results125 ?_;have F:=zan.eq_1;repeat refine st ?_
 generalize walkL c (-1)=W at*;refine zaT 5 5 3 1 ?_;refine zab (D:=Nat) (fun j vs=>[(1,U32 m),(5, .row 5 (vs 5)),(13, .seq 1 (W.map zae)),(14,I W.length),(15,I j)]) (fun j _=>[(5,⟨1,(zg2 m W j).map zae,3,true⟩)]) (fun j _ esc=>j<=W.length/\esc 5=false) (fun j=>W.length-j) 0 ?_ ?_ ?_ ?_
 ·exact⟨Nat.zero_le _,rfl⟩
 ·exact qe
 ·(simp only [go_sem,F])
  rfl
 rintro j ws esc ⟨hj,e0⟩;by_cases hlt:j<W.length
 ·obtain⟨k,hk⟩: ∃k,W[j]? =some k:=⟨W[j],List.getElem?_eq_getElem hlt⟩;have hk32:k<32:=by have:=(htop k).1 (List.mem_of_getElem? hk); omega
  have f0:=zlN env m hm k hk32;have g1:=nlt hlt;have g2:=zaa hlt (by omega);have hpl:=zq4 m W j;have hf:Fits ((zg2 m W j).length+1) 8:=⟨by omega,by omega⟩;have hn:=zoT (m:=m) hk;cases hb:m.testBit k with
  | true=>
    rw [hb] at f0;rw [hb,if_pos rfl] at hn;have F:=ai6 g1 g2 hk zae.eq_1 hf e0;repeat (first | refine st ?_ | refine cC f0 ?_)
    refine⟨j+1,⟨hlt,by simp only [go_sem,e0]⟩, ?_, ?_,by omega⟩
    ·exact qe
    ·have F:=ai3 hn zae.eq_1 @List.map_append.{0,0};exact qe
  | false=>
    rw [hb] at f0;rw [hb,if_neg Bool.false_ne_true] at hn;have F:=ai6 g1 g2 hk zae.eq_1 hf e0;repeat (first | refine st ?_ | refine cC f0 ?_)
    refine⟨j+1,⟨hlt,by simp only [go_sem,e0]⟩, ?_, ?_,by omega⟩
    ·exact qe
    ·have F:=ai3 hn zae.eq_1 @List.map_append.{0,0};exact qe
 ·obtain rfl:j=W.length:=by omega
  have g1: ¬(W.length:Int)< (W.length:Int):=by omega
  have hall:zg2 m W W.length=W.filter fun k=>m.testBit k:=by unfold zg2; rw [List.take_length]
  have F:=ai3 g1 hall e0;repeat refine st ?_
  exact aR
def orTo (l:List Int) (j:Nat):Nat:=(l.take j).foldl (fun m k=>m||| 2^k.toNat) 0
theorem zo2 {l:List Int} {j:Nat} {k:Int} (h:l[j]? =some k):orTo l (j+1)=orTo l j||| 2^k.toNat:=by
 unfold orTo;rw [List.take_add_one,h,List.foldl_append];rfl
theorem ziv: ∀(l:List Int) (m b:Nat),(l.foldl (fun m k=>m||| 2^k.toNat) m).testBit b=(m.testBit b||l.any fun k=>k.toNat==b)
 | [],m,b=>by simp
 | k::l,m,b=>by
   rw [List.foldl_cons,ziv l,Nat.testBit_or,Nat.testBit_two_pow,List.any_cons,Bool.or_assoc];rfl
theorem zhm {c:ChD} (hc:Right c) {l:List Int} : ∀ {j:Nat},(∀k∈l.take j,inZ c k=true)->orTo l j<4294967296:=fun {j} h=>by
 have hlen:=hc.few;apply Nat.lt_pow_two_of_testBit (n:=32);intro b hb;unfold orTo;rw [ziv,Nat.zero_testBit,Bool.false_or,List.any_eq_false];intro k hk;have:=zas.1 (h k hk);simp;omega
theorem zo3 {c:ChD} {l:List Int} (h:l.all (inZ c)=true):((walkL c (-1)).filter fun k=>(orTo l l.length).testBit k)=sortL c l:=by
 unfold sortL;rw [if_pos h];apply List.filter_congr;intro k _;unfold orTo;rw [ziv,Nat.zero_testBit,Bool.false_or,List.take_length,Bool.eq_iff_iff,List.any_eq_true,List.contains_iff_mem];constructor
 ·rintro⟨x,h1,h2⟩;have:=(zas.1 (List.all_eq_true.1 h x h1)).1;have h2:x.toNat=k:=by simpa using h2
  rw [show (k:Int)=x by omega];exact h1
 ·exact fun h1=>⟨k,h1,by simp⟩
theorem zlP {c:ChD} {l:List Int} {j:Nat} {k:Int} (h:(l.take j).all (inZ c)=true) (hk:l[j]? =some k) (hz:inZ c k=true):(l.take (j+1)).all (inZ c)=true:=by
 rw [List.take_add_one,hk,List.all_append,h];simp [hz]
theorem zlR {c:ChD} {l:List Int} {j:Nat} {k:Int} (hk:l[j]? =some k) (hz:inZ c k=false):sortL c l=[]:=by
 unfold sortL;rw [if_neg];intro h;have:=List.all_eq_true.1 h k (List.mem_of_getElem? hk);rw [hz] at this;cases this
abbrev intAV (k:Int):List AV:=[I k]
theorem zbU (env:Env) (c:ChD) (hc:Right c) (l:List Int) (hl:l.length<=1000000):Con prog env 66 [zan c, .seq 1 (l.map intAV)] (.own 3 1 ((sortL c l).map zae)):=by
 have hlen:=hc.few;refine qw func66 call66 ntmps66 results66 ?_;repeat refine st0 ?_
 refine zab (D:=Nat) (fun j _=>[(0,zan c),(5,U32 (orTo l j)),(8, .seq 1 (l.map intAV)),(9,I l.length),(10,I j)]) (fun _ _=>[]) (fun j _ _=>j<=l.length/\(l.take j).all (inZ c)=true) (fun j=>l.length-j) 0 ?_ ?_ ?_ ?_
 ·exact⟨Nat.zero_le _,rfl⟩
 ·(simp only [go_sem])
  rfl
 ·exact qe0
 rintro j ws esc ⟨hj,hall⟩;by_cases hlt:j<l.length
 ·obtain⟨k,hk⟩: ∃k,l[j]? =some k:=⟨l[j],List.getElem?_eq_getElem hlt⟩;have g1:=nlt hlt;have g2:=zaa hlt (by omega);have f0:=zhW env c k;cases hz:inZ c k with
  | false=>
    rw [hz] at f0;have F:=ai3 g1 g2 hk;repeat (first | refine st ?_ | refine cC f0 ?_)
    (refine zak ?_; refine⟨_,(by show (zaz _ _ _).run _=some _; simp only [go_sem,F]; rfl), ?_⟩)
    rw [zlR hk hz];exact RStr.own_nil _ _ (by decide)
  | true=>
    rw [hz] at f0;have hr:=zas.1 hz;obtain⟨p,rfl⟩: ∃p:Nat,k=p:=⟨k.toNat,by omega⟩;have g3:=zh3 (p:=p) (by omega);have hsm:=zhm hc (j:=j) (fun k hk=>List.all_eq_true.1 hall k hk);have g4:=zl2 hsm (zdo p (by omega));have hn:=zo2 hk;rw [Int.toNat_natCast] at hn;have F:=ai5 g1 g2 g3 g4 hk;repeat (first | refine st ?_ | refine cC f0 ?_)
    refine⟨j+1,⟨hlt,zlP hall hk hz⟩, ?_, ?_,by omega⟩
    ·have F:=ai6 g1 g2 g3 g4 hk hn;exact qe
    ·(simp only [go_sem,g1,g2,g3,g4,hk,hn])
 ·obtain rfl:j=l.length:=by omega
  have g1: ¬(l.length:Int)< (l.length:Int):=by omega
  have hsm:=zhm hc (j:=l.length) (fun k hk=>List.all_eq_true.1 hall k hk);rw [List.take_length] at hall;have f1:=zkD env c hc _ hsm;rw [zo3 hall] at f1;have F:=g1;repeat (first | refine st ?_ | refine cC f1 ?_)
  (refine zak ?_; refine⟨_,(by show (zaz _ _ _).run _=some _; simp only [go_sem,F]; rfl), ?_⟩)
  exact RStr.refl _
end
section
open Go.RowKit Go.Sort Go.Shelf Go.Lib
def flagA (n:Nat) (act:List Int):List (List AV):=(List.range n).map fun k:Nat=>[B (act.contains (k:Int))]
theorem zce (n:Nat) (act:List Int):(flagA n act).length=n:=by unfold flagA; simp
theorem zed {n:Nat} {act:List Int} {k:Nat} (hk:k<n):(flagA n act)[k]? =some [B (act.contains (k:Int))]:=by
 unfold flagA;rw [List.getElem?_map,List.getElem?_range hk];rfl
theorem zpH (n:Nat):List.replicate n [B false]=flagA n []:=by
 unfold flagA;apply List.ext_getElem?;intro j;rw [List.getElem?_map];by_cases h:j<n
 ·rw [List.getElem?_range h,List.getElem?_replicate_of_lt h];rfl
 ·rw [List.getElem?_eq_none (by simp; omega),List.getElem?_eq_none (by simp; omega)];rfl
theorem zmh {n:Nat} {act:List Int} {i:Int} (h: ∀k:Nat,k<n->(k:Int)≠i):flagA n (act++[i])=flagA n act:=by
 unfold flagA;apply List.map_congr_left;intro k hk;have:=h k (List.mem_range.1 hk);simp;exact fun e=>absurd e this
theorem zrw {n:Nat} {act:List Int} {k:Nat} (hk:k<n):(flagA n act).set k [B true]=flagA n (act++[(k:Int)]):=by
 apply List.ext_getElem?;intro j;by_cases hj:j<n
 ·rw [zed hj];by_cases e:k=j
  ·subst e;rw [List.getElem?_set_self (by rw [zce]; exact hk)];simp
  ·rw [List.getElem?_set_ne e,zed hj];simp;exact fun e2=>absurd (by omega) e
 ·rw [List.getElem?_eq_none (by rw [List.length_set,zce]; omega),List.getElem?_eq_none (by rw [zce]; omega)]
theorem zpb {act:List Int} {ks:List Nat} {j k:Nat} (hk:ks[j]? =some k):manyI act (ks.take (j+1))=manyI act (ks.take j)+if act.contains (k:Int)=true then 1 else 0:=by
 unfold manyI;rw [List.take_add_one,hk,List.filter_append,List.length_append];simp only [Option.toList_some,List.filter_cons,List.filter_nil];split<;>rfl
theorem zg9 (l:List Nat):(zL l).map intAV=l.map zae:=by simp only [zL,List.map_map]; rfl
theorem zcj (l:List Nat):(zL l).length=l.length:=List.length_map ..
theorem zkw {l:List Nat} {j k:Nat} (h:l[j]? =some k):(zL l)[j]? =some (k:Int):=by unfold zL; rw [List.getElem?_map,h]; rfl
/-! slices.Sort of ints -/
def intC (k:Int):List Value:=[.int .i64 k]
def zaR (l:List Int):List Int:=l.mergeSort fun x y=>decide (x<=y)
theorem zhs {w:World} {g:Nat} {l:List Int} (h:Holds id w g 0 (l.map (Value.int .i64)).toArray):Holds (Value.int .i64) w g 0 l.toArray:=fun j hj=>by
 have hj':j<l.length:=by simpa using hj
 have:=h j (by simpa using hj');rw [getElem!_pos _ j (by simpa using hj')] at this;rw [getElem!_pos _ j hj];simpa using this
theorem Tryz.sortIEnter: ∀(args:Array Value) (w:World),(callFunc 161 args).run prog w= .ok (.enter 161 args) w:=enters_of func161 (by kernel_rfl) rfl
theorem zf2 (l:List Int) (hl:l.length<4611686018427387904):Turns prog 161 [] 3 1 (l.map intC) ((zaR l).map intC):=by
 by_cases h0:l=[]
 ·subst h0;rw [show zaR []=[] by simp [zaR]];exact zeP Tryz.sortIEnter fun p cap w=>Any.slices_Sort_int_none Tryz.sortI p cap w
 ·refine zdJ (by rw [List.length_map]; exact List.length_pos_iff.2 h0) Tryz.sortIEnter (by simp [zaR]) (fun x hx=> ?_) (fun x hx=> ?_) fun w g cap hH hg=> ?_
  ·obtain⟨y,_,rfl⟩:=List.mem_map.1 hx; rfl
  ·obtain⟨y,_,rfl⟩:=List.mem_map.1 hx;exact⟨rfl,fun u hu=>by rw [List.mem_singleton.1 hu]; rfl⟩
  ·have hH:Holds id w g 0 (l.map (Value.int .i64)).toArray:=by rw [<-zcd]; exact hH
   have:=Any.slices_Sort_int Tryz.sortI g 0 cap l w (zhs hH) hg hl;rw [List.length_map];refine(show Calls prog 161 #[.slice (some ⟨g,0,none⟩) l.length cap] w _ from this).mono ?_;rintro ex w' ⟨rfl,n,os,rfl⟩;refine⟨rfl,n,os, ?_⟩;rw [zew,show ((zaR l).map intC).flatten=(zaR l).map (Value.int .i64) from zcd (Value.int .i64) _];simp [zaR]
end
section
open Go.RowKit
def zda (c:ChD) (i:Int):Bool:=match at_ c i with
 | some s=>s.kind==1
 | none=>false
def iniZ (c:ChD) (i:Int):Int:=match at_ c i with
 | some s=>s.initial
 | none=> -1
def aboveB (c:ChD) (k i:Int):Bool:=(upL c i).contains k
def domP (c:ChD) (tg i:Int):Bool:=decide (i<0)||(zda c i&&aboveB c i tg)
def domE (c:ChD) (src tg:Int):Int:=((upL c src).find? (domP c tg)).getD (-1)
theorem zpL {α:Type} {p:α->Bool} {l:List α} {j:Nat} {x:α} (h:l[j]? =some x):(l.drop j).find? p=if p x=true then some x else(l.drop (j+1)).find? p:=by
 obtain⟨hj,rfl⟩:=List.getElem?_eq_some_iff.1 h;rw [List.drop_eq_getElem_cons hj,List.find?_cons];cases p l[j]<;>rfl
abbrev kidZ (c:ChD) (i:Int):List Int:=zL (kidsL c i true)
theorem zgs {c:ChD} (h:Right c) {i k:Int} (hk:k∈kidZ c i):inZ c k=true/\parZ c k=i/\i<k:=by
 obtain⟨j,hj,rfl⟩:=List.mem_map.1 hk;obtain⟨s,hs,hp,_⟩:=ztB hj;refine⟨zay.2 (List.getElem?_eq_some_iff.1 hs).1,by rw [zd9 hs,hp], ?_⟩;have:=h.par j s hs;omega
theorem znx (c:ChD) (i:Int):(kidZ c i).Nodup:=by
 unfold kidZ zL;exact List.Pairwise.map _ (fun a b hne he=>hne (by omega)) (zbs c i true)
/-! What comes with a state -/
def newK (c:ChD) (l:List Int) (i:Int):List Int:=
 if zda c i=true then(if (kidZ c i).any (fun k=>l.contains k)=true then [] else if 0<=iniZ c i then [iniZ c i] else []) else kidZ c i
def addK (c:ChD) (l:List Int) (i:Int):List Int:=(newK c l i).filter fun k=> !l.contains k
def zru (c:ChD):Nat->List Int->List Int->List Int
 | 0,l,_=>l
 | _+1,l,[]=>l
 | f+1,l,i::r=>zru c f (l++addK c l i) (r++addK c l i)
def zk2 (c:ChD) (l:List Int):Nat:=((List.range c.states.length).filter fun k:Nat=> !l.contains (k:Int)).length
def zrt (c:ChD) (l:List Int):List Int:=zru c (zk2 c l+l.length) l l
inductive Gr (c:ChD) (l:List Int):Int->Prop
 | base {x:Int} (h:x∈l):Gr c l x
 | ini {p:Int} (h:Gr c l p) (hp:zda c p=true) (hn: ∀k∈kidZ c p,k∉l) (h0:0<=iniZ c p):Gr c l (iniZ c p)
 | par {p k:Int} (h:Gr c l p) (hp:zda c p=false) (hk:k∈kidZ c p):Gr c l k
theorem zmd {c:ChD} (h:Full c) {p:Int} (hp:zda c p=true) (h0:0<=iniZ c p):iniZ c p∈kidZ c p:=by
 unfold zda at hp;unfold iniZ at h0 |-;cases ha:at_ c p with
 | none=>rw [ha] at hp; cases hp
 | some s=>
   rw [ha] at hp h0;simp only at hp h0 |-
   have hz:0<=p:=by
    unfold at_ at ha;split at ha
    ·assumption
    ·cases ha
   obtain⟨k,rfl⟩: ∃k:Nat,p=k:=⟨p.toNat,by omega⟩;rw [zbd] at ha;have hk:s.kind=1:=by simpa using hp
   rcases h.cases ha with⟨_,h2 | ⟨j,hj,e⟩⟩ | ⟨e,_⟩ | ⟨e,_⟩ | ⟨e | e,_⟩
   ·omega
   ·rw [e]; exact List.mem_map.2 ⟨j,hj,rfl⟩
   all_goals omega
theorem zrb {c:ChD} (h:Full c) {l:List Int} {i k:Int} (hk:k∈newK c l i):k∈kidZ c i:=by
 unfold newK at hk;split at hk
 ·rename_i hp;split at hk
  ·cases hk
  ·split at hk
   ·rename_i h0;rw [List.mem_singleton.1 hk];exact zmd h hp h0
   ·cases hk
 ·exact hk
theorem zfb {c:ChD} (h:Full c) {l:List Int} {i k:Int} (hk:k∈addK c l i):k∉l/\inZ c k=true/\parZ c k=i:=by
 obtain⟨h1,h2⟩:=List.mem_filter.1 hk;obtain⟨q1,q2,_⟩:=zgs h.toRight (zrb h h1);exact⟨by simpa using h2,q1,q2⟩
theorem znk (c:ChD) (l:List Int) (i:Int):(newK c l i).Nodup:=by
 unfold newK;split
 ·split
  ·exact List.nodup_nil
  ·split
   ·simp
   ·exact List.nodup_nil
 ·exact znx c i
theorem zhO (c:ChD) (l:List Int) (i:Int):(addK c l i).Nodup:=(znk c l i).sublist List.filter_sublist
theorem zhx {α:Type} (p q:α->Bool): ∀l:List α,(l.filter fun x=>p x&& !q x).length+(l.filter fun x=>p x&&q x).length=(l.filter p).length
 | []=>rfl
 | x::l=>by
   have:=zhx p q l;simp only [List.filter_cons];cases p x<;>cases q x<;>simp<;>omega
theorem zrh {c:ChD} {l a:List Int} (hn:a.Nodup) (ha: ∀k∈a,k∉l/\inZ c k=true):zk2 c (l++a)+a.length<=zk2 c l:=by
 have e:=zhx (fun k:Nat=> !l.contains (k:Int)) (fun k:Nat=>a.contains (k:Int)) (List.range c.states.length)
 have e1:zk2 c (l++a)=((List.range c.states.length).filter fun k:Nat=> !l.contains (k:Int)&& !a.contains (k:Int)).length:=by
  unfold zk2
  congr 1
  apply List.filter_congr;intro k _;simp [List.contains_eq_mem]
 have e2:a.length<=((List.range c.states.length).filter fun k:Nat=> !l.contains (k:Int)&&a.contains (k:Int)).length:=by
  have:(a.map Int.toNat).Nodup:=by
   refine List.Pairwise.map (R:=fun x y=>x≠y/\0<=x/\0<=y) _ (fun x y hxy=>by omega) ?_;refine List.Pairwise.imp_of_mem ?_ hn;intro x y hx hy hne;exact⟨hne,(zas.1 (ha x hx).2).1,(zas.1 (ha y hy).2).1⟩
  have:=this.length_le_of_subset (l₂:=(List.range c.states.length).filter fun k:Nat=> !l.contains (k:Int)&&a.contains (k:Int)) fun x hx=>by
   obtain⟨y,hy,rfl⟩:=List.mem_map.1 hx;obtain⟨y1,y2⟩:=ha y hy;have y3:=zas.1 y2;rw [List.mem_filter,List.mem_range];have e:((y.toNat:Nat):Int)=y:=by omega
   refine⟨by omega, ?_⟩;rw [e];simp [y1,hy]
  simpa using this
 unfold zk2 at e1 |-;omega
structure Grown (c:ChD) (l0 l t:List Int):Prop where
 sub: ∀x∈l0,x∈l
 todo: ∀x∈t,x∈l
 nd:t.Nodup
 gr: ∀x∈l,Gr c l0 x
 par: ∀x∈l,x∉l0->parZ c x∈l/\parZ c x∉t
 done: ∀p∈l,p∉t->(zda c p=true->(∀k∈kidZ c p,k∉l0)->0<=iniZ c p->iniZ c p∈l)/\(zda c p=false-> ∀k∈kidZ c p,k∈l)
theorem Grown.step {c:ChD} (h:Full c) {l0 l r:List Int} {i:Int} (g:Grown c l0 l (i::r)):Grown c l0 (l++addK c l i) (r++addK c l i):=by
 have hi:=g.todo i (by simp);obtain⟨n1,n2⟩:=List.nodup_cons.1 g.nd
 have old: ∀k∈kidZ c i,k∈l->k∈l0:=fun k hk hl=>Classical.byContradiction fun hn=>by
  have:=(g.par k hl hn).2;rw [(zgs h.toRight hk).2.1] at this;exact this (by simp)
 have hgr: ∀x∈addK c l i,Gr c l0 x:=fun x hx=>by
  obtain⟨h1,h2⟩:=List.mem_filter.1 hx;have h1':=h1;unfold newK at h1;split at h1
  ·rename_i hp;split at h1
   ·cases h1
   ·rename_i hany;split at h1
    ·rename_i h0;rw [List.mem_singleton.1 h1];refine .ini (g.gr i hi) hp (fun k hk hl=>hany ?_) h0;rw [List.any_eq_true];exact⟨k,hk,by simpa using g.sub k hl⟩
    ·cases h1
  ·rename_i hp;exact .par (g.gr i hi) (by simpa using hp) h1
 refine⟨fun x hx=>List.mem_append_left _ (g.sub x hx),fun x hx=> ?_, ?_,fun x hx=> ?_,fun x hx hn=> ?_,fun p hp hpt=> ?_⟩
 ·rcases List.mem_append.1 hx with hx | hx
  ·exact List.mem_append_left _ (g.todo x (List.mem_cons_of_mem _ hx))
  ·exact List.mem_append_right _ hx
 ·rw [List.nodup_append];refine⟨n2,zhO c l i,fun x hx y hy e=> ?_⟩;subst e;exact(zfb h hy).1 (g.todo x (List.mem_cons_of_mem _ hx))
 ·rcases List.mem_append.1 hx with hx | hx
  ·exact g.gr x hx
  ·exact hgr x hx
 ·rcases List.mem_append.1 hx with hx | hx
  ·obtain⟨q1,q2⟩:=g.par x hx hn;refine⟨List.mem_append_left _ q1,fun hh=> ?_⟩;rcases List.mem_append.1 hh with hh | hh
   ·exact q2 (List.mem_cons_of_mem _ hh)
   ·exact(zfb h hh).1 q1
  ·obtain⟨q1,_,q3⟩:=zfb h hx;rw [q3];refine⟨List.mem_append_left _ hi,fun hh=> ?_⟩;rcases List.mem_append.1 hh with hh | hh
   ·exact n1 hh
   ·exact(zfb h hh).1 hi
 ·have hpl:p∈l:=by
   rcases List.mem_append.1 hp with hp | hp
   ·exact hp
   ·exact absurd (List.mem_append_right _ hp) hpt
  by_cases e:p=i
  ·subst e
   have key: ∀k∈newK c l p,k∈l++addK c l p:=fun k hk=>by
    by_cases hl:k∈l
    ·exact List.mem_append_left _ hl
    ·exact List.mem_append_right _ (List.mem_filter.2 ⟨hk,by simpa using hl⟩)
   refine⟨fun hpp hno h0=>key _ ?_,fun hpp k hk=>key k ?_⟩
   ·unfold newK;rw [if_pos hpp,if_neg ?_,if_pos h0]
    ·simp
    ·rw [List.any_eq_true];rintro⟨k,hk,hl⟩;exact hno k hk (old k hk (by simpa using hl))
   ·unfold newK;rw [if_neg (by rw [hpp]; simp)];exact hk
  ·have hpt':p∉i::r:=fun hh=>by
    rcases List.mem_cons.1 hh with rfl | hh
    ·exact e rfl
    ·exact hpt (List.mem_append_left _ hh)
   obtain⟨q1,q2⟩:=g.done p hpl hpt';exact⟨fun a b d=>List.mem_append_left _ (q1 a b d),fun a k hk=>List.mem_append_left _ (q2 a k hk)⟩
theorem Grown.all {c:ChD} {l0 l:List Int} (g:Grown c l0 l []) {x:Int} :x∈l↔Gr c l0 x:=by
 refine⟨g.gr x,fun h=> ?_⟩
 induction h with
 | base h=>exact g.sub _ h
 | ini _ hp hn h0 ih=>exact(g.done _ ih (by simp)).1 hp hn h0
 | par _ hp hk ih=>exact(g.done _ ih (by simp)).2 hp _ hk
theorem Grown.grow {c:ChD} (h:Full c) {l0:List Int} : ∀(f:Nat) (l t:List Int),Grown c l0 l t->zk2 c l+t.length<=f->Grown c l0 (zru c f l t) []
 | 0,l,t,g,hf=>by
   have:t=[]:=List.eq_nil_of_length_eq_zero (by omega);subst this;exact g
 | f+1,l,[],g,hf=>g
 | f+1,l,i::r,g,hf=>by
   unfold zru;refine Grown.grow h f _ _ (g.step h) ?_;have:=zrh (c:=c) (l:=l) (zhO c l i) fun k hk=>⟨(zfb h hk).1,(zfb h hk).2.1⟩;simp only [List.length_append,List.length_cons] at hf |-;omega
theorem Gr.real {c:ChD} (h:Full c) {l:List Int} {x:Int} (g:Gr c l x):x∈l\/(x∈kidZ c (parZ c x)/\Gr c l (parZ c x)/\(zda c (parZ c x)=true->x=iniZ c (parZ c x)/\ ∀k∈kidZ c (parZ c x),k∉l)):=by
 cases g with
 | base h=>exact .inl h
 | ini g hp hn h0=>
   rename_i p;have hk:=zmd h hp h0;have e:=(zgs h.toRight hk).2.1;rw [e];exact .inr ⟨hk,g,fun _=>⟨rfl,hn⟩⟩
 | par g hp hk=>
   have e:=(zgs h.toRight hk).2.1;rw [e];exact .inr ⟨hk,g,fun hh=>by rw [hp] at hh; cases hh⟩
theorem Gr.in {c:ChD} (h:Full c) {l:List Int} (hl: ∀x∈l,inZ c x=true) {x:Int} (g:Gr c l x):inZ c x=true:=by
 rcases g.real h with hx | ⟨hx,_⟩
 ·exact hl x hx
 ·exact(zgs h.toRight hx).1
theorem Gr.congr {c:ChD} {l l':List Int} (h: ∀x,x∈l↔x∈l') {x:Int} (g:Gr c l x):Gr c l' x:=by
 induction g with
 | base hx=>exact .base ((h _).1 hx)
 | ini _ hp hn h0 ih=>exact .ini ih hp (fun k hk hh=>hn k hk ((h k).2 hh)) h0
 | par _ hp hk ih=>exact .par ih hp hk
/-! As the document says -/
/-! The ways up of some states -/
def addU (o:List Int) (i:Int):List Int:=if o.contains i=true then o else o++[i]
def upTo (c:ChD) (d:Int) (o U:List Int) (m:Nat):List Int:=(U.take m).foldl (fun o k=>if 0<=k/\aboveB c d k=true then addU o k else o) o
def zt2 (c:ChD) (d:Int) (l:List Int) (j:Nat):List Int:=(l.take j).foldl (fun o i=>upTo c d (addU o i) (upL c i) (upL c i).length) []
def upsL (c:ChD) (l:List Int) (d:Int):List Int:=zt2 c d l l.length
theorem zsb {c:ChD} (h:Right c) {k i:Int} (ha:k∈upL c i) (h0:0<=k):inZ c k=true/\k<i:=by
 have:=zhV h 40 i k ha
 have hi:inZ c i=true:=by
  cases hh:inZ c i with
  | true=>rfl
  | false=>rw [zel hh] at ha; simp at ha
 have:=zas.1 hi;exact⟨zas.2 ⟨h0,by omega⟩,by omega⟩
end
section
open Go.RowKit
/-! Rising lists -/
def upB (l:List Int) (j:Nat):Bool:=(j==0)||decide (l.getD (j-1) 0<l.getD j 0)
def zt4 (l:List Int):Bool:= !l.isEmpty&&(List.range l.length).all (upB l)
/-! Deep memories -/
def zrU (c:ChD) (l:List Int) (i:Int):Bool:=match at_ c i with
 | some s=> !(((s.kind==1)&&decide (1<manyI l (kidsL c i true)))||((s.kind==4)||(s.kind==5)))
 | none=>false
def ztz (c:ChD) (parent i:Int):Bool:=aboveB c parent i&&(kidsL c i true).isEmpty
def zrM (c:ChD) (parent:Int) (l:List Int):List Int:=upsL c l parent++[parent]
def zue (c:ChD) (parent:Int) (l:List Int):Bool:=zt4 l&&l.all (ztz c parent)&&decide ((zrt c (zrM c parent l)).length=(zrM c parent l).length)&&(zrt c (zrM c parent l)).all (zrU c (zrt c (zrM c parent l)))
/-! Memories -/
abbrev MemD:=Int×List Int
def memB (c:ChD) (m:MemD):Bool:=match at_ c m.1 with
 | some s=>if s.kind=4 then decide (m.2.length=1)&&(kidZ c s.parent).contains (m.2.getD 0 0) else(s.kind==5)&&zue c s.parent m.2
 | none=>false
def zt6 (c:ChD) (l:List MemD) (j:Nat):Bool:=match l[j]? with
 | some m=>memB c m&&((j==0)||decide ((l.getD (j-1) (0,[])).1<m.1))
 | none=>true
def zjq (c:ChD) (l:List MemD):Bool:=(List.range l.length).all (zt6 c l)
end
section
open Go.RowKit Go.ChangeShapes Go.WideShapes Go.ChangeAt
def mmAV (m:MemD):List AV:=[I m.1, .seq 1 (m.2.map intAV)]
def ztE (m:MemD):Prop:=m.2.length<=maxLen
section
variable {H:Type} {enc:TypeId×Value->H} {w:World} {base:Nat} {spare:Nat->Bool} {held:Bool}
theorem RVs.app {S:Nat->Nat->Prop} {w:World} : ∀ {vs us:List Value} {cs ds:List AV},RVs S w vs cs->RVs S w us ds->RVs S w (vs++us) (cs++ds)
 | [],_,[],_,_,h=>h
 | _::_,_,_::_,_,h1,h2=>⟨h1.1,RVs.app h1.2 h2⟩
end
end
section
open Go.RowKit
theorem i64m (a b:Nat) (h:b<=a) (h':a<9223372036854775808):IntKind.i64.wrap ((a:Int)-(b:Int))=((a-b:Nat):Int):=by rw [zaw (by omega) (by omega)]; omega
abbrev ints34 (l:List Int):AV:= .seq 1 (l.map intAV)
def tmAV (t:List UInt8×Int):List AV:=[Sg t.1,I t.2]
def inAV (r:Rc):List AV:=[ints34 r.active,ints34 r.vars, .seq 2 (r.mem.map mmAV), .seq 2 (r.timers.map tmAV),B r.over]
theorem zb5 {α:Type} {l:List α} {i:Nat} {x d:α} (h:l[i]? =some x):l.getD i d=x:=by rw [List.getD_eq_getElem?_getD,h]; rfl
theorem ztt {α:Type} {l:List α} {i:Nat} {x:α} (h:l[i]? =some x):x∈l:=List.mem_of_getElem? h
theorem ziN {i:Nat} {f:Nat->Bool} (ha: ∀j,j<i->f j=true) (h:f i=true): ∀j,j<i+1->f j=true:=fun j hj=>by
 by_cases e:j=i
 ·rw [e]; exact h
 ·exact ha j (by omega)
theorem zgp: ∀a b:List UInt8,Op.bytesLess b a= !(Op.bytesLess a b||a==b)
 | [],[]=>rfl
 | [],_::_=>rfl
 | _::_,[]=>rfl
 | x::a,y::b=>by
   have ih:=zgp a b;simp only [Op.bytesLess,List.cons_beq_cons,ih];by_cases h:x=y
   ·subst h;simp
   ·have h': ¬y=x:=fun e=>h e.symm;have e1:(x==y)=false:=by simpa using h
    have e2:(y==x)=false:=by simpa using h'
    have e3:decide (y<x)= !decide (x<y):=by
     rw [Bool.eq_iff_iff];simp [UInt8.lt_iff_toNat_lt];have:x.toNat≠y.toNat:=fun e=>h (UInt8.toNat_inj.1 e);omega
    simp [e1,e2,e3]
end
section
open Go.RowKit
end
section
open Go.RowKit
def Turned (s s2:St):Prop:= ∀(x:Ctx) (a:Act) (w:World) (m:Mem),Sim x s a w m-> ∃m',Sim x s2 a w m'
theorem Turned.refl (s:St):Turned s s:=fun _ _ _ m h=>⟨m,h⟩
theorem Turned.trans {s s2 s3:St} (h:Turned s s2) (k:Turned s2 s3):Turned s s3:=fun x a w m hh=>by
 obtain⟨m',h2⟩:=h x a w m hh;exact k x a w m' h2
theorem Turned.less {s s2:St} (h:Less s s2):Turned s s2:=fun _ _ _ m hh=>⟨m,hh.less h⟩
theorem Turned.ren {s:St} (r r2:Nat) (row:Row) (hne:r2≠r) (hr:s.rows r=some row) (hr2:s.rows r2=none) (hrz:row.sz≠0) (hp:row.pure=true):Turned s (zcO s r r2 row):=fun _ _ _ _ hh=>⟨_,hh.ren r r2 row hne hr hr2 hrz hp⟩
theorem Turned.sees {s:St} (L:List (Nat×Nat×AV)) (hL:zhP s L):Turned s (seenSt s L):=fun _ _ _ m hh=>by
 obtain⟨S',k⟩:=hh.sees L hL;exact⟨_,k⟩
theorem Turned.mapSee {s:St} (r:Nat) (row:Row) (hr:s.rows r=some row) (hsz:row.sz=0) (hb:row.es.all (·.all AV.bare)=true):Turned s (znn s r (.fmap row.es)):=fun _ _ _ m hh=>by
 obtain⟨S',k⟩:=hh.mapSee r row hr hsz hb;exact⟨_,k⟩
theorem Turned.head {s:St} {F:List (Nat×AV)} {R:List (Nat×Row)} (hF:zdV s F) (hR:zdf s R):Turned s (Go.Proofs.YtbpmkofnfgdegaaGreatDoor.head F R s.vs s.esc):= .less (zbx hF hR)
section
variable {P:Program} {env:Env} {nt:Nat} {Q:Exit->St->Prop} {s:St}
theorem zfO {c:Code} (h:awp P env nt c (fun e s1=> ∃s2,Turned s1 s2/\Q e s2) s):awp P env nt c Q s:=fun ro x he hn a w m hS=>by
 refine wpIn_mono (h ro x he hn a w m hS) ?_;rintro e a' w' ⟨s',m',⟨s2,h1,h2⟩,h3⟩;obtain⟨m2,h4⟩:=h1 _ _ _ _ h3;exact⟨s2,m2,h2,h4⟩
theorem ziJ {c:Code} {s2:St} (ht:Turned s s2) (h:awp P env nt c Q s2):awp P env nt c Q s:=fun ro x he hn a w m hS=>by
 obtain⟨m2,h4⟩:=ht _ _ _ _ hS;exact h ro x he hn a w m2 h4
end
def rowsAt:Nat->List Row->List (Nat×Row)
 | _,[]=>[]
 | b,r::l=>(b,r)::rowsAt (b+1) l
theorem zfj {t:Nat} : ∀ {l:List Row} {b:Nat},zaA (rowsAt b l) t=if b<=t then l[t-b]? else none
 | [],b=>by simp [rowsAt,zaA]
 | r::l,b=>by
   simp only [rowsAt,zaA,zfj (l:=l)];by_cases h:t=b
   ·subst h; simp
   ·rw [if_neg h];by_cases h2:b<=t
    ·rw [if_pos h2,if_pos (by omega),show t-b=(t-(b+1))+1 by omega,List.getElem?_cons_succ]
    ·rw [if_neg h2,if_neg (by omega)]
theorem holdR_rowsAt {s:St} : ∀ {l:List Row} {b:Nat},(∀q r,l[q]? =some r->s.rows (q+b)=some r)->zdf s (rowsAt b l)
 | [],b,h=>trivial
 | r::l,b,h=>⟨by have:=h 0 r rfl; rwa [Nat.zero_add] at this,holdR_rowsAt fun q r' hq=>by
    have:=h (q+1) r' (by simpa using hq)
    rwa [show q+1+b=q+(b+1) by omega] at this⟩
theorem zeS {p:Nat×Row} : ∀ {l:List Row} {b:Nat},p∈rowsAt b l-> ∃q,l[q]? =some p.2/\p.1=q+b
 | [],b,h=>by simp [rowsAt] at h
 | r::l,b,h=>by
   simp only [rowsAt,List.mem_cons] at h;rcases h with rfl | h
   ·exact⟨0,rfl,by simp⟩
   ·obtain⟨q,h1,h2⟩:=zeS h;exact⟨q+1,by simpa using h1,by omega⟩
end
section
open Go.RowKit
theorem zdR (env:Env) (es:List (List AV)) (hl:es.length<=4096):Con prog env 70 [.seq 1 es] (.own 3 1 es):=by
 cases es with
 | nil=>
   refine Con.empty fun A cap=> ?_;cases A with
   | none=>
     refine qw func70 call70 ntmps70 results70 ?_;repeat refine st0 ?_
     (refine zak ?_; refine⟨_,(by show (zaz _ _ _).run _=some _; simp only [go_sem]; rfl), ?_⟩)
     exact RStr.own_nil _ _ (by decide)
   | some A=>
     refine qf func70 call70 ntmps70 results70 ?_;repeat refine st0 ?_
     exact aR0
 | cons d l=>
   have g1:Fits ((l.length+1)) 8:=zaf (by simpa using hl) (by omega);refine qf func70 call70 ntmps70 results70 ?_;have F:=g1;repeat refine st ?_
   exact aR
theorem zhF (env:Env) (es:List (List AV)) (hl:es.length<=4096):Con prog env 108 [.seq 2 es] (.own 165 2 es):=by
 cases es with
 | nil=>
   refine Con.empty fun A cap=> ?_;cases A with
   | none=>
     refine qw func108 call108 ntmps108 results108 ?_;repeat refine st0 ?_
     (refine zak ?_; refine⟨_,(by show (zaz _ _ _).run _=some _; simp only [go_sem]; rfl), ?_⟩)
     exact RStr.own_nil _ _ (by decide)
   | some A=>
     refine qf func108 call108 ntmps108 results108 ?_;repeat refine st0 ?_
     exact aR0
 | cons d l=>
   have g1:Fits ((l.length+1)) 16:=zaf (by simpa using hl) (by omega);refine qf func108 call108 ntmps108 results108 ?_;have F:=g1;repeat refine st ?_
   exact aR
theorem znL (env:Env) (es:List (List AV)) (hl:es.length<=4096):Con prog env 106 [.seq 2 es] (.own 110 2 es):=by
 cases es with
 | nil=>
   refine Con.empty fun A cap=> ?_;cases A with
   | none=>
     refine qw func106 call106 ntmps106 results106 ?_;repeat refine st0 ?_
     (refine zak ?_; refine⟨_,(by show (zaz _ _ _).run _=some _; simp only [go_sem]; rfl), ?_⟩)
     exact RStr.own_nil _ _ (by decide)
   | some A=>
     refine qf func106 call106 ntmps106 results106 ?_;repeat refine st0 ?_
     exact aR0
 | cons d l=>
   have g1:Fits ((l.length+1)) 24:=zaf (by simpa using hl) (by omega);refine qf func106 call106 ntmps106 results106 ?_;have F:=g1;repeat refine st ?_
   exact aR
/-! Few of all -/
def few4 (l:List ActD):Prop:=l.length<=4096/\ ∀a∈l,a.code.length<=4096
structure Small (c:ChD):Prop where
 vars:c.vars.length<=4096
 sts:c.states.length<=4096
 trs:c.trans.length<=4096
 st: ∀s∈c.states,few4 s.inn/\few4 s.out
 tr: ∀t∈c.trans,t.guard.length<=4096/\few4 t.acts
theorem zkj {l:List OpD} {vs ss:Int} (h:zaF l vs ss=true):l.length<=32:=by
 unfold zaF zdU at h;split at h
 ·simp at h
 ·omega
theorem zgT {nv ns:Int} {l:List ActD} (h:zbq nv ns l=true):few4 l:=by
 unfold zbq at h;rw [Bool.and_eq_true,decide_eq_true_eq,List.all_eq_true] at h;refine⟨by omega,fun a ha=> ?_⟩;have hb:=h.2 a ha;unfold actB at hb;by_cases e:a.code=[]
 ·rw [e]; simp
 ·have:zaF a.code nv ns=true:=by
   revert hb
   cases zaF a.code nv ns<;>simp [e]
  have:=zkj this;omega
theorem zh2 {c:ChD} (h:(chk c).1=0):Small c:=by
 have hr:=zfD h;unfold chk at h;split at h
 ·simp at h
 rename_i h1;split at h
 ·simp at h
 split at h
 ·simp at h
 split at h
 ·simp at h
 rename_i h3;split at h
 ·simp at h
 split at h
 ·simp at h
 rename_i h5;refine⟨by omega,by omega,by omega,fun s hs=> ?_,fun t ht=> ?_⟩
 ·obtain⟨k,hk⟩:=List.mem_iff_getElem?.1 hs;have:=zbc h3 k (List.getElem?_eq_some_iff.1 hk).1;unfold zfy at this;rw [hk] at this;simp only [zaq,Bool.and_eq_true] at this;exact⟨zgT this.1.2,zgT this.2⟩
 ·obtain⟨k,hk⟩:=List.mem_iff_getElem?.1 ht;have:=zbc h5 k (List.getElem?_eq_some_iff.1 hk).1;unfold ziG at this;rw [hk] at this;simp only [zck,Bool.and_eq_true,Bool.or_eq_true] at this;refine⟨?_,zgT this.1.2⟩;rcases this.1.1.2 with e | e
  ·have:t.guard=[]:=by simpa using e
   rw [this]; simp
  ·have:=zkj e;omega
theorem zdD (env:Env) (l:List ActD) (hl:few4 l):Con prog env 107 [actsAV l] (.own 156 4 (l.map zam)):=by
 have h1:=hl.1;refine qf func107 call107 ntmps107 results107 ?_;repeat refine st0 ?_
 refine zaT 3 3 156 4 ?_;refine zab (D:=Nat) (fun j vs=>[(3, .row 3 (vs 3)),(6,actsAV l),(7,I l.length),(8,I j)]) (fun j _=>[(3,⟨4,(l.take j).map zam,156,true⟩)]) (fun j _ esc=>j<=l.length/\esc 3=false) (fun j=>l.length-j) 0 ?_ ?_ ?_ ?_
 ·exact⟨Nat.zero_le _,rfl⟩
 ·exact qe0
 ·exact qe0
 rintro j ws esc ⟨hj,e0⟩;by_cases hlt:j<l.length
 ·obtain⟨a,ha⟩: ∃a,l[j]? =some a:=⟨l[j],List.getElem?_eq_getElem hlt⟩;have g1:=nlt hlt;have g2:=zaa hlt (by omega);have f0:=zhF env (a.code.map opAV) (by rw [List.length_map]; exact hl.2 a (List.mem_of_getElem? ha));have htl:(l.take j).length=j:=by rw [List.length_take]; omega
  have hf:Fits (j+1) 56:=zaf (by omega) (by omega);have htk:l.take (j+1)=l.take j++[a]:=by rw [List.take_add_one,ha]; rfl
  have F:=ai7 zam.eq_1 g1 g2 ha htl hf e0;repeat (first | refine st ?_ | refine cC f0 ?_)
  refine⟨j+1,⟨hlt,by simp only [go_sem,e0]⟩, ?_, ?_,by omega⟩
  ·exact qe
  ·have F:=ai3 zam.eq_1 htk @List.map_append.{0,0};exact qe
 ·obtain rfl:j=l.length:=by omega
  have g1: ¬(l.length:Int)< (l.length:Int):=by omega
  have hta:l.take l.length=l:=List.take_length;have F:=ai3 g1 hta e0;repeat refine st ?_
  exact aR
theorem zex (env:Env) (c:ChD) (hs:Small c):Con prog env 58 [.agg (chAV c)] (.agg (chAV c)):=by
 have hn1:=hs.sts;have hn2:=hs.trs;have f0:=znL env (c.vars.map zca) (by rw [List.length_map]; exact hs.vars);refine qf func58 call58 ntmps58 results58 ?_;have F:=chAV.eq_1;repeat (first | refine st ?_ | refine cC f0 ?_)
 refine nC 3 9000 0 3 72 6 ?_;refine nC 3 9001 0 4 52 5 ?_
 refine zab (D:=Nat) (fun j vs=>[(1, .loc 1 (vs 1) 0 0),(2, .loc 2 (vs 2) 0 0),(3, .loc 3 (vs 3) 0 0),(17,stsAV c.states),(18,I c.states.length),(19,I j)])
  (fun j vs=>[(1,⟨5,[chAV c],26,false⟩),(2,⟨5,[[Sg [],I 0,nilS,nilS,nilS]],26,false⟩),(3,⟨5,[[Sg c.name,I c.initial, .row 14 (vs 14), .row 9000 (vs 9000), .row 9001 (vs 9001)]],26,false⟩),(14,⟨2,c.vars.map zca,110,true⟩),(9000,⟨6,(c.states.take j).map stAV,72,true⟩),(9001,⟨5,[],52,true⟩)])
  (fun j _ esc=>j<=c.states.length/\esc 2=false/\esc 3=false/\esc 14=false/\esc 9000=false/\esc 9001=false) (fun j=>c.states.length-j) 0 ?_ ?_ ?_ ?_
 ·refine⟨Nat.zero_le _, ?_, ?_, ?_, ?_, ?_⟩<;>simp only [go_sem]
 ·exact qe
 ·have F:=chAV.eq_1;exact qe
 rintro j ws esc ⟨hj,e0,e1,e2,e3,e4⟩;by_cases hlt:j<c.states.length
 ·obtain⟨s,hss⟩: ∃s,c.states[j]? =some s:=⟨c.states[j],List.getElem?_eq_getElem hlt⟩;have g1:=nlt hlt;have g2:=zaa hlt (by omega);have f1:=zdD env s.inn (hs.st s (List.mem_of_getElem? hss)).1;have f2:=zdD env s.out (hs.st s (List.mem_of_getElem? hss)).2;have htl:(c.states.take j).length=j:=by rw [List.length_take]; omega
  have hf:Fits (j+1) 88:=zaf (by omega) (by omega);have htk:c.states.take (j+1)=c.states.take j++[s]:=by rw [List.take_add_one,hss]; rfl
  have F:=ai12 chAV.eq_1 stAV.eq_1 g1 g2 hss htl hf e0 e1 e2 e3 e4;repeat (first | refine st ?_ | refine cC f1 ?_ | refine cC f2 ?_)
  refine⟨j+1,⟨hlt, ?_, ?_, ?_, ?_, ?_⟩, ?_, ?_,by omega⟩;all_goals (first | (show _=false; simp only [go_sem,e0,e1,e2,e3,e4]; done) | skip)
  ·exact qe
  ·have F:=ai9 chAV.eq_1 stAV.eq_1 htk @List.map_append.{0,0} e0 e1 e2 e3 e4;exact qe
 obtain rfl:j=c.states.length:=by omega
 have g1: ¬(c.states.length:Int)< (c.states.length:Int):=by omega
 have hta:c.states.take c.states.length=c.states:=List.take_length;have F:=ai8 chAV.eq_1 g1 hta e0 e1 e2 e3 e4;repeat refine st ?_
 refine zab (D:=Nat) (fun j vs=>[(1, .loc 1 (vs 1) 0 0),(2, .loc 2 (vs 2) 0 0),(3, .loc 3 (vs 3) 0 0),(39,trsAV c.trans),(40,I c.trans.length),(41,I j)])
  (fun j vs=>[(1,⟨5,[chAV c],26,false⟩),(2,⟨5,[[Sg [],I 0,nilS,nilS,nilS]],26,false⟩),(3,⟨5,[[Sg c.name,I c.initial, .row 14 (vs 14), .row 9000 (vs 9000), .row 9001 (vs 9001)]],26,false⟩),(14,⟨2,c.vars.map zca,110,true⟩),(9000,⟨6,c.states.map stAV,72,true⟩),(9001,⟨5,(c.trans.take j).map trAV,52,true⟩)])
  (fun j _ esc=>j<=c.trans.length/\esc 2=false/\esc 3=false/\esc 14=false/\esc 9000=false/\esc 9001=false) (fun j=>c.trans.length-j) 0 ?_ ?_ ?_ ?_
 ·refine⟨Nat.zero_le _, ?_, ?_, ?_, ?_, ?_⟩<;>simp only [go_sem,e0,e1,e2,e3,e4]
 ·exact qe
 ·have F:=chAV.eq_1;exact qe
 try clear e0 e1 e2 e3 e4
 rintro j ws esc ⟨hj,e0,e1,e2,e3,e4⟩;by_cases hlt:j<c.trans.length
 ·obtain⟨t,hss⟩: ∃s,c.trans[j]? =some s:=⟨c.trans[j],List.getElem?_eq_getElem hlt⟩;have g1:=nlt hlt;have g2:=zaa hlt (by omega);have htm:=hs.tr t (List.mem_of_getElem? hss);have f1:=zhF env (t.guard.map opAV) (by rw [List.length_map]; exact htm.1);have f2:=zdD env t.acts htm.2;have htl:(c.trans.take j).length=j:=by rw [List.length_take]; omega
  have hf:Fits (j+1) 80:=zaf (by omega) (by omega);have htk:c.trans.take (j+1)=c.trans.take j++[t]:=by rw [List.take_add_one,hss]; rfl
  have F:=ai12 chAV.eq_1 trAV.eq_1 g1 g2 hss htl hf e0 e1 e2 e3 e4;repeat (first | refine st ?_ | refine cC f1 ?_ | refine cC f2 ?_)
  refine⟨j+1,⟨hlt, ?_, ?_, ?_, ?_, ?_⟩, ?_, ?_,by omega⟩;all_goals (first | (show _=false; simp only [go_sem,e0,e1,e2,e3,e4]; done) | skip)
  ·exact qe
  ·have F:=ai9 chAV.eq_1 trAV.eq_1 htk @List.map_append.{0,0} e0 e1 e2 e3 e4;exact qe
 obtain rfl:j=c.trans.length:=by omega
 have g1: ¬(c.trans.length:Int)< (c.trans.length:Int):=by omega
 have hta:c.trans.take c.trans.length=c.trans:=List.take_length;have F:=ai8 chAV.eq_1 g1 hta e0 e1 e2 e3 e4;repeat refine st ?_
 exact aR
end
section
open Go.RowKit
def zcW (s:List UInt8):List AV:=[Sg s]
theorem zeA (l:List (List UInt8)):zaL (l.map strC)=l.map zcW:=by
 unfold zaL;rw [List.map_map];rfl
def za6 (c:ChD) (j:Nat):List (List UInt8):=((c.trans.take j).map (·.event)).filter fun e=> !e.isEmpty
def evL (c:ChD):List (List UInt8):=Lib.compact (zdn (za6 c c.trans.length))
theorem znl {c:ChD} {j:Nat} {t:TrD} (h:c.trans[j]? =some t):za6 c (j+1)=if t.event.isEmpty then za6 c j else za6 c j++[t.event]:=by
 unfold za6;rw [List.take_add_one,h,List.map_append,List.filter_append];cases hb:t.event.isEmpty<;>simp [hb]
theorem zgn (c:ChD) (j:Nat):(za6 c j).length<=j:=by
 unfold za6;exact Nat.le_trans (List.length_filter_le ..) (by simp; omega)
theorem znD (env:Env) (c:ChD) (hc:c.trans.length<=1000000):Con prog env 64 [.agg (chAV c)] (.own 9 1 ((evL c).map zcW)):=by
 refine qf func64 call64 ntmps64 results64 ?_;have F:=chAV.eq_1;repeat refine st ?_
 refine zaT 3 3 9 1 ?_;refine zab (D:=Nat) (fun j vs=>[(3, .row 3 (vs 3)),(7,trsAV c.trans),(8,I c.trans.length),(9,I j)]) (fun j _=>[(3,⟨1,(za6 c j).map zcW,9,true⟩)]) (fun j _ esc=>j<=c.trans.length/\esc 3=false) (fun j=>c.trans.length-j) 0 ?_ ?_ ?_ ?_
 ·exact⟨Nat.zero_le _,rfl⟩
 ·exact qe
 ·(simp only [go_sem,F])
  rfl
 rintro j ws esc ⟨hj,e0⟩;by_cases hlt:j<c.trans.length
 ·obtain⟨t,ht⟩: ∃t,c.trans[j]? =some t:=⟨c.trans[j],List.getElem?_eq_getElem hlt⟩;have g1:=nlt hlt;have g2:=zaa hlt (by omega);have hn:=znl ht;have hl:=zgn c j;have hf:Fits ((za6 c j).length+1) 16:=⟨by omega,by omega⟩;cases hb:t.event.isEmpty with
  | true=>
    rw [hb,if_pos rfl] at hn;have hb2:(t.event == [])=true:=by simpa using hb
    have F:=ai6 trAV.eq_1 g1 g2 ht hb2 e0;repeat refine st ?_
    refine⟨j+1,⟨hlt,by simp only [go_sem,e0]⟩, ?_, ?_,by omega⟩
    ·exact qe
    ·have F:=hn;exact qe
  | false=>
    rw [hb,if_neg Bool.false_ne_true] at hn;have hb2:(t.event == [])=false:=by simpa using hb
    have F:=ai7 trAV.eq_1 g1 g2 ht hb2 hf e0;repeat refine st ?_
    refine⟨j+1,⟨hlt,by simp only [go_sem,e0]⟩, ?_, ?_,by omega⟩
    ·exact qe
    ·have F:=ai3 hn zcW.eq_1 @List.map_append.{0,0};exact qe
 ·obtain rfl:j=c.trans.length:=by omega
  have g1: ¬(c.trans.length:Int)< (c.trans.length:Int):=by omega
  have hl:=zgn c c.trans.length;have F:=ai g1 e0;repeat refine st ?_
  have f1:=zkN (za6 c c.trans.length) (by omega);have hsl:(zdn (za6 c c.trans.length)).length<=9223372036854775807:=by simp [zdn]; omega
  have f2:=znJ (zdn (za6 c c.trans.length)) hsl;refine zgz 3 rfl (row:=⟨1,(za6 c c.trans.length).map zcW,9,true⟩) f1 (Nat.succ_ne_zero 0) rfl (zeA _).symm (by simp only [go_sem,e0]; exact iR) (by simp only [go_sem,e0]; exact iR) (by simp only [go_sem,e0]; exact iR) (by simp only [go_sem,e0]; exact iR) ?_;rw [zeA];repeat refine st ?_
  refine zr9 3 rfl (row:=⟨1,(zdn (za6 c c.trans.length)).map zcW,9,true⟩) f2 (Nat.succ_ne_zero 0) rfl (zeA _).symm (by simp only [go_sem,e0]; exact iR) (by simp only [go_sem,e0]; exact iR) (by simp only [go_sem,e0]; exact iR) (by simp only [go_sem,e0]; exact iR) iR ?_;rw [zeA];repeat refine st ?_
  (refine zak ?_; show (zaz _ _ _).run _=some _; simp only [go_sem,F])
  rfl
end
section
open Go.RowKit
theorem zcv: ∀a:List UInt8,Op.bytesLess a a=false
 | []=>rfl
 | x::a=>by simp [Op.bytesLess,zcv a]
theorem zcG: ∀ {a b c:List UInt8},Op.bytesLess a b=true->Op.bytesLess b c=true->Op.bytesLess a c=true
 | _,[],_,h,_=>by simp [Op.bytesLess] at h
 | _,_::_,[],_,h=>by simp [Op.bytesLess] at h
 | [],_::_,_::_,_,_=>rfl
 | x::a,y::b,z::c,h,k=>by
   simp only [Op.bytesLess,Bool.or_eq_true,decide_eq_true_eq,Bool.and_eq_true,beq_iff_eq] at h k |-;rcases h with h | ⟨h,h'⟩
   ·rcases k with k | ⟨k,k'⟩
    ·exact .inl (UInt8.lt_trans h k)
    ·exact .inl (k ▸ h)
   ·rcases k with k | ⟨k,k'⟩
    ·exact .inl (h ▸ k)
    ·exact .inr ⟨h.trans k,zcG h' k'⟩
theorem zbS: ∀ {a b:List UInt8},Op.bytesLess a b=false->Op.bytesLess b a=false->a=b
 | [],[],_,_=>rfl
 | [],_::_,h,_=>by simp [Op.bytesLess] at h
 | _::_,[],_,h=>by simp [Op.bytesLess] at h
 | x::a,y::b,h,k=>by
   simp only [Op.bytesLess,Bool.or_eq_false_iff,decide_eq_false_iff_not,Bool.and_eq_false_iff] at h k;have e:x=y:=UInt8.le_antisymm (UInt8.not_lt.1 k.1) (UInt8.not_lt.1 h.1);subst e;simp only [beq_self_eq_true,Bool.true_eq_false,false_or] at h k;rw [zbS h.2 k.2]
theorem zfM {a b:List UInt8} (h:Op.bytesLess a b=true):Op.bytesLess b a=false:=by
 cases k:Op.bytesLess b a
 ·rfl
 ·have:=zcG h k;rw [zcv] at this;cases this
end

end Go.Proofs.YtbpmkofnfgdegaaGreatDoor