/- Package legal: Check. -/
import Derived.Test.YtbpmkofnfgdegaaGreatDoorM15
import Derived.Test.YtbpmkofnfgdegaaGreatDoorM8
import Derived.Test.YtbpmkofnfgdegaaGreatDoorM6
import Derived.Test.YtbpmkofnfgdegaaGreatDoorM11
import Derived.Test.YtbpmkofnfgdegaaGreatDoorM16
import Derived.Test.YtbpmkofnfgdegaaGreatDoorM4
import Derived.Test.YtbpmkofnfgdegaaGreatDoorM14
set_option maxRecDepth 100000
set_option maxHeartbeats 8000000
set_option linter.unusedSimpArgs false
namespace Go.Proofs.YtbpmkofnfgdegaaGreatDoor
open Go.Proofs.Tryz
open Go.RowKit
section
theorem zi5 (env:Env) (l m:List Nat) (hl:l.length<=1000000):Con prog env 20 [.seq 1 (l.map zae), .seq 1 (m.map zae)] (B (decide (l=m))):=by
 by_cases h0:l.length=m.length
 ·refine qf func20 call20 ntmps20 results20 ?_;have g0:((l.length:Int) != (m.length:Int))=false:=by simp [h0]
  have F:=g0;repeat refine st ?_
  refine zab (D:=Nat) (fun j _=>[(0, .seq 1 (l.map zae)),(1, .seq 1 (m.map zae)),(4,B false),(5,I j)]) (fun _ _=>[]) (fun j _ _=>j<=l.length/\l.take j=m.take j) (fun j=>l.length-j) 0 ?_ ?_ ?_ ?_
  ·exact⟨Nat.zero_le _,rfl⟩
  ·exact qe
  ·exact qe
  rintro j ws esc ⟨hj,ht⟩;by_cases hlt:j<l.length
  ·have hlt2:j<m.length:=by omega
   obtain⟨a,ha⟩: ∃a,l[j]? =some a:=⟨l[j],List.getElem?_eq_getElem hlt⟩;obtain⟨b,hb⟩: ∃b,m[j]? =some b:=⟨m[j],List.getElem?_eq_getElem hlt2⟩;have g1:=nlt hlt;have g4:=nlt hlt2;have g2:=zaa hlt (by omega);by_cases e:a=b
   ·have g3:((a:Int) != (b:Int))=false:=by simp [e]
    have F:=ai7 g1 g2 g4 ha hb zae.eq_1 g3;repeat refine st ?_
    refine⟨j+1,⟨hlt, ?_⟩, ?_, ?_,by omega⟩
    ·rw [List.take_add_one,List.take_add_one,ht,ha,hb,e]
    ·exact qe
    ·exact qe
   ·have g3:((a:Int) != (b:Int))=true:=by simp; omega
    have hr:decide (l=m)=false:=decide_eq_false fun e2=>e (by rw [e2] at ha; exact Option.some.inj (ha.symm.trans hb));rw [hr];have F:=ai7 g1 g2 g4 ha hb zae.eq_1 g3;repeat refine st ?_
    exact aR
  ·obtain rfl:j=l.length:=by omega
   have g1: ¬(l.length:Int)< (l.length:Int):=by omega
   have hr:decide (l=m)=true:=decide_eq_true (by rwa [List.take_length,List.take_of_length_le (by omega)] at ht);rw [hr];have F:=g1;repeat refine st ?_
   exact aR
 ·have g0:((l.length:Int) != (m.length:Int))=true:=by simp; omega
  have hr:decide (l=m)=false:=decide_eq_false fun e=>h0 (by rw [e]);rw [hr];refine qf func20 call20 ntmps20 results20 ?_;have F:=g0;repeat refine st ?_
  exact aR
theorem zid (env:Env) (c:ChD) (i:Int):Con prog env 86 [.agg (chAV c),I i] (B (inZ c i)):=by
 unfold inZ;by_cases h0:0<=i
 ·by_cases h1:i< (c.states.length:Int)
  ·refine qf func86 call86 ntmps86 results86 ?_;have F:=ai3 chAV.eq_1 h0 h1;repeat refine st ?_
   exact aR
  ·refine qf func86 call86 ntmps86 results86 ?_;have F:=ai3 chAV.eq_1 h0 h1;repeat refine st ?_
   exact aR
 ·refine qf func86 call86 ntmps86 results86 ?_;have F:=ai chAV.eq_1 h0;repeat refine st ?_
  exact aR
theorem zbF {c:ChD} (h:Right c) (i:Int) (real:Bool):(kidsL c i real).length<=32:=by
 have h1:=za4 c i real c.states.length;have h2:=h.few;have h1:(kidsL c i real).length<=c.states.length:=h1;omega
theorem zhS {c:ChD} (h:Right c) {i:Int} (hi: -1<=i):(walkL c i).length<=32:=by
 have hf:=h.few;have:=(zdG h 40 i hi (by omega)).length_le_of_subset (l₂:=List.range c.states.length) fun m hm=>List.mem_range.2 ((zdH h 40 i m hi (by omega)).1 hm).1;simp at this;omega
theorem zmg {α β:Type} (f:α->List β) (K:List α) (j:Nat):((K.take j).flatMap f).length<=(K.flatMap f).length:=by
 have e:(K.take j).flatMap f++(K.drop j).flatMap f=K.flatMap f:=by rw [<-List.flatMap_append,List.take_append_drop]
 have:=congrArg List.length e;simp only [List.length_append] at this;omega
theorem zjL {α β:Type} (f:α->List β) {K:List α} {j:Nat} {k:α} (hk:K[j]? =some k):(K.take (j+1)).flatMap f=(K.take j).flatMap f++f k:=by rw [List.take_add_one,hk,List.flatMap_append]; simp
theorem zge (env:Env) (c:ChD) (h:Right c): ∀(n:Nat) (i:Int), -1<=i->(c.states.length:Int)<=i+n->Con prog env 92 [.agg (chAV c),I i] (.own 3 1 ((walkL c i).map zae))
 | n,i,hi,hn=>by
   have hlen:=h.few;have f0:=zbo env c i false (by omega);have hw:=walk_eq h hi;have hwl:=zhS h hi;have hKl:=zbF h i false;have hKm: ∀k∈kidsL c i false,i< (k:Int)/\k<c.states.length:=fun k hk=>zaG h hk;generalize kidsL c i false=K at*;rw [hw] at hwl;refine qf func92 call92 ntmps92 results92 ?_;have F:=chAV.eq_1;repeat (first | refine st ?_ | refine cC f0 ?_)
   refine zab (D:=Nat) (fun j vs=>[(2, .loc 2 (vs 2) 0 0),(5, .row 8 (vs 8)),(6, .row 11 (vs 11)),(7,I j)]) (fun j _=>[(2,⟨5,[chAV c],26,false⟩),(8,⟨1,((K.take j).flatMap fun k=>k::walkL c k).map zae,3,true⟩),(11,⟨1,K.map zae,3,true⟩)]) (fun j _ esc=>j<=K.length/\esc 8=false) (fun j=>K.length-j) 0 ?_ ?_ ?_ ?_
   ·exact⟨Nat.zero_le _,rfl⟩
   ·exact qe
   ·have F:=chAV.eq_1
    (simp only [go_sem,F])
    try rfl
   rintro j ws esc ⟨hj,e0⟩;by_cases hlt:j<K.length
   ·obtain⟨k,hk⟩: ∃k,K[j]? =some k:=⟨K[j],List.getElem?_eq_getElem hlt⟩;have hkm:=hKm k (List.mem_of_getElem? hk);have q1:=nlt hlt;have q2:=zaa hlt (by omega)
    match n,hn with
    | 0,hn=>omega
    | n+1,hn=>
    have f1:=zge env c h n k (by omega) (by omega);have hp:=zmg (fun k=>k::walkL c k) K (j+1);have hsu:=zjL (fun k=>k::walkL c k) hk;rw [hsu] at hp;simp only [List.length_append,List.length_cons] at hp;generalize hA:(K.take j).flatMap (fun k=>k::walkL c k)=A at*;have hf1:Fits (A.length+1) 8:=zaf (by omega) (by omega);have hf2:Fits (A.length+1+(walkL c k).length) 8:=zaf (by omega) (by omega);have F:=ai8 chAV.eq_1 zae.eq_1 hk q1 q2 hf1 hf2 e0;repeat (first | refine st ?_ | refine cC f1 ?_)
    refine⟨j+1,⟨hlt,by simp only [go_sem,e0]⟩, ?_, ?_,by omega⟩
    ·exact qe
    ·have F:=ai5 chAV.eq_1 zae.eq_1 hsu @List.map_append.{0,0} @List.append_assoc.{0};exact qe
   ·obtain rfl:j=K.length:=by omega
    have q1: ¬(K.length:Int)< (K.length:Int):=by omega
    have hta:K.take K.length=K:=List.take_length;rw [hw];have F:=ai4 zae.eq_1 q1 hta e0;repeat refine st ?_
    exact aR
termination_by n=>n
def inTo (l W:List Nat) (j:Nat):List Nat:=(W.take j).filter fun k:Nat=>inL l (k:Int)
theorem zpr {l W:List Nat} {j k:Nat} (h:W[j]? =some k):inTo l W (j+1)=if inL l (k:Int) then inTo l W j++[k] else inTo l W j:=by
 unfold inTo;rw [List.take_add_one,h,List.filter_append];cases hb:inL l (k:Int)<;>simp [hb]
theorem zrr (l W:List Nat) (j:Nat):(inTo l W j).length<=W.length:=by
 unfold inTo;exact Nat.le_trans (List.length_filter_le ..) (by rw [List.length_take]; omega)
theorem zuc (l:List Nat) (n:Int):inL l n=(zL l).contains n:=by
 rw [Bool.eq_iff_iff,zio,List.contains_iff_mem];unfold zL;rw [List.mem_map]
theorem zop {c:ChD} {l:List Nat} {j k:Nat} (h:((zL l).take j).all (inZ c)=true) (hk:l[j]? =some k) (hz:inZ c k=true):((zL l).take (j+1)).all (inZ c)=true:=by
 have:(zL l)[j]? =some ((k:Nat):Int):=by unfold zL; rw [List.getElem?_map,hk]; rfl
 exact zlP h this hz
theorem zoM (env:Env) (c:ChD) (h:Right c) (l:List Nat) (hl:l.length<=1000000):Con prog env 47 [.agg (chAV c), .seq 1 (l.map zae)] (.own 3 1 ((sortL c (zL l)).map zae)):=by
 have hlen:=h.few;refine qw func47 call47 ntmps47 results47 ?_;have F:=chAV.eq_1;repeat refine st ?_
 refine zab (D:=Nat) (fun j vs=>[(1, .seq 1 (l.map zae)),(2, .loc 2 (vs 2) 0 0),(5,I j)]) (fun _ _=>[(2,⟨5,[chAV c],26,false⟩)]) (fun j _ _=>j<=l.length/\((zL l).take j).all (inZ c)=true) (fun j=>l.length-j) 0 ?_ ?_ ?_ ?_
 ·exact⟨Nat.zero_le _,rfl⟩
 ·exact qe
 ·have F:=chAV.eq_1;exact qe
 rintro j ws esc ⟨hj,hall⟩;by_cases hlt:j<l.length
 ·obtain⟨k,hk⟩: ∃k,l[j]? =some k:=⟨l[j],List.getElem?_eq_getElem hlt⟩;have q1:=nlt hlt;have q2:=zaa hlt (by omega);have f0:=zid env c k;cases hz:inZ c k with
  | false=>
    rw [hz] at f0;have F:=ai5 chAV.eq_1 zae.eq_1 q1 q2 hk;repeat (first | refine st ?_ | refine cC f0 ?_)
    (refine zak ?_; refine⟨_,(by show (zaz _ _ _).run _=some _; simp only [go_sem,F]; rfl), ?_⟩)
    rw [show sortL c (zL l)=[] from zlR (show (zL l)[j]? =some ((k:Nat):Int) by unfold zL; rw [List.getElem?_map,hk]; rfl) hz];exact RStr.own_nil _ _ (by decide)
  | true=>
    rw [hz] at f0;have F:=ai5 chAV.eq_1 zae.eq_1 q1 q2 hk;repeat (first | refine st ?_ | refine cC f0 ?_)
    refine⟨j+1,⟨hlt,zop hall hk hz⟩, ?_, ?_,by omega⟩
    ·exact qe
    ·exact qe
 obtain rfl:j=l.length:=by omega
 have q1: ¬(l.length:Int)< (l.length:Int):=by omega
 have f1:=zge env c h 40 (-1) (by omega) (by omega);have hwl:=zhS h (show (-1:Int)<= -1 by omega);have hall:(zL l).all (inZ c)=true:=by rwa [List.take_of_length_le (by simp [zL])] at hall
 have hsort:sortL c (zL l)=inTo l (walkL c (-1)) (walkL c (-1)).length:=by
  unfold sortL inTo;rw [if_pos hall,List.take_length];apply List.filter_congr;intro k _;rw [zuc]
 rw [hsort];generalize walkL c (-1)=W at*;have F:=ai chAV.eq_1 q1;repeat (first | refine st ?_ | refine cC f1 ?_)
 refine zab (D:=Nat) (fun j vs=>[(1, .seq 1 (l.map zae)),(6, .row 22 (vs 22)),(7, .row 24 (vs 24)),(8,I j)]) (fun j _=>[(22,⟨1,(inTo l W j).map zae,3,true⟩),(24,⟨1,W.map zae,3,true⟩)]) (fun j _ esc=>j<=W.length/\esc 22=false) (fun j=>W.length-j) 0 ?_ ?_ ?_ ?_
 ·exact⟨Nat.zero_le _,rfl⟩
 ·exact qe
 ·(simp only [go_sem,F])
  try rfl
 try clear q1
 rintro j ws esc ⟨hj,e0⟩;by_cases hlt:j<W.length
 ·obtain⟨k,hk⟩: ∃k,W[j]? =some k:=⟨W[j],List.getElem?_eq_getElem hlt⟩;have q1:=nlt hlt;have q2:=zaa hlt (by omega);have f0:=zgg env l k (by omega);have hil:=zrr l W j;have hf:Fits ((inTo l W j).length+1) 8:=zaf (by omega) (by omega);have hn:=zpr (l:=l) hk;cases hb:inL l k with
  | true=>
    rw [hb] at f0;rw [hb,if_pos rfl] at hn;have F:=ai6 zae.eq_1 q1 q2 hk hf e0;repeat (first | refine st ?_ | refine cC f0 ?_)
    refine⟨j+1,⟨hlt,by simp only [go_sem,e0]⟩, ?_, ?_,by omega⟩
    ·exact qe
    ·have F:=ai3 zae.eq_1 hn @List.map_append.{0,0};exact qe
  | false=>
    rw [hb] at f0;rw [hb,if_neg Bool.false_ne_true] at hn;have F:=ai6 zae.eq_1 q1 q2 hk hf e0;repeat (first | refine st ?_ | refine cC f0 ?_)
    refine⟨j+1,⟨hlt,by simp only [go_sem,e0]⟩, ?_, ?_,by omega⟩
    ·exact qe
    ·have F:=ai3 zae.eq_1 hn @List.map_append.{0,0};exact qe
 ·obtain rfl:j=W.length:=by omega
  have q1: ¬(W.length:Int)< (W.length:Int):=by omega
  have F:=ai q1 e0;repeat refine st ?_
  (refine zak ?_; refine⟨_,(by show (zaz _ _ _).run _=some _; simp only [go_sem,F]; rfl), ?_⟩)
  exact RStr.refl _
end
section
theorem znM (env:Env):Con prog env 70 [nilS] (.own 3 1 []):=(zdR env [] (by simp)).args (Strs.cons (Str.nil 1) Strs.nil)
theorem zaM (env:Env) (c:ChD):Con prog env 74 [zai c] (zan c):=by
 refine qf func74 call74 ntmps74 results74 ?_;have F:=ai3 zai.eq_1 tabCells.eq_1 zan.eq_1;repeat refine st ?_
 exact aR
theorem zav (env:Env) (c:ChD) (hs:Small c):Con prog env 31 [zai c] (.agg (chAV c)):=by
 have f0:=zex env c hs;unfold chAV at f0;refine qf func31 call31 ntmps31 results31 ?_;have F:=ai zai.eq_1 tabCells.eq_1;repeat (first | refine st ?_ | refine cC f0 ?_)
 (refine zak ?_; show (zaz _ _ _).run _=some _; simp only [go_sem,F])
 rfl
theorem ziY (env:Env) (c:ChD) (hc:c.trans.length<=4096) (s:List UInt8):Con prog env 65 [zai c,Sg s] (I (evI c s)):=zjY env c (by omega) _ _ s
def tatL (c:ChD) (i e:Int):List Nat:=if e<0 then [] else atL c i e
theorem zs8 (c:ChD) (i e:Int):(atL c i e).length<=c.trans.length:=zoG ..
theorem zr5 {c:ChD} {i e:Int} {q:Nat} (hq:idxP (i,e) (keysTo c c.trans.length) 0=some q):(zcz c)[q]? =some [.agg [I i,I e], .seq 1 ((atL c i e).map zae)]:=by
 have:=(zgu hq).2;unfold zcz;rw [List.getElem?_map,Nat.sub_zero] at*;rw [this];rfl
theorem zor (env:Env) (c:ChD) (hc:c.trans.length<=4096) (i e:Int):Con prog env 150 [zai c,I i,I e] (.own 3 1 ((tatL c i e).map zae)):=by
 have hl:=zs8 c i e;have hm:=zsP c i e;unfold tatL;by_cases h:e<0
 ·rw [if_pos h];refine qw func150 call150 ntmps150 results150 ?_;have F:=ai3 zai.eq_1 tabCells.eq_1 h;repeat refine st ?_
  (refine zak ?_; refine⟨_,(by show (zaz _ _ _).run _=some _; simp only [go_sem,F]; rfl), ?_⟩)
  exact RStr.own_nil _ _ (by decide)
 ·rw [if_neg h];cases hq:idxP (i,e) (keysTo c c.trans.length) 0 with
  | none=>
    rw [hq] at hm;have f0:=znM env;rw [show atL c i e=[] from zlV (zgv hq)];refine qf func150 call150 ntmps150 results150 ?_;have F:=ai4 zai.eq_1 tabCells.eq_1 h hm;repeat (first | refine st ?_ | refine cC f0 ?_)
    exact aR
  | some q=>
    rw [hq] at hm;have hk:=zr5 hq;have f0:=zdR env ((atL c i e).map zae) (by rw [List.length_map]; omega);refine qf func150 call150 ntmps150 results150 ?_;have F:=ai5 zai.eq_1 tabCells.eq_1 h hm hk;repeat (first | refine st ?_ | refine cC f0 ?_)
    exact aR
theorem zeo (env:Env) (c:ChD) (i:Int):Con prog env 111 [zai c,I i] (B (inZ c i)):=by
 unfold inZ;by_cases h0:0<=i
 ·by_cases h1:i< (c.states.length:Int)
  ·refine qf func111 call111 ntmps111 results111 ?_;have F:=ai4 zai.eq_1 tabCells.eq_1 h0 h1;repeat refine st ?_
   exact aR
  ·refine qf func111 call111 ntmps111 results111 ?_;have F:=ai4 zai.eq_1 tabCells.eq_1 h0 h1;repeat refine st ?_
   exact aR
 ·refine qf func111 call111 ntmps111 results111 ?_;have F:=ai3 zai.eq_1 tabCells.eq_1 h0;repeat refine st ?_
  exact aR
def tbegL (c:ChD) (i:Int):List Nat:=if inZ c (if i= -1 then c.initial else i)=true then sbL c (if i= -1 then c.initial else i).toNat else []
theorem zfe (env:Env) (c:ChD) (h:Full c) (i:Int):Con prog env 60 [zai c,I i] (.own 3 1 ((tbegL c i).map zae)):=by
 have hlen:=h.few;unfold tbegL;by_cases e:i= -1
 ·subst e;simp only [if_true];obtain⟨s,hs,hini,_⟩:=h.topS;have hi:=(List.getElem?_eq_some_iff.1 hs).1;have f0:=zeo env c c.initial;have hz:inZ c c.initial=true:=by rw [hini]; exact zay.2 hi
  rw [hz] at f0;rw [hz,if_pos rfl];have f1:=zdR env ((sbL c (iniN c)).map zae) (by rw [List.length_map]; have:=zlS h (iniN c); omega);have hb:(begE c c.states.length)[iniN c]? =some [.seq 1 ((sbL c (iniN c)).map zae)]:=by unfold begE; rw [List.getElem?_map,List.getElem?_range hi]; rfl
  have hbl:(begE c c.states.length).length=c.states.length:=by simp [begE]
  have g0:((iniN c:Nat):Int)< (c.states.length:Int):=by omega
  rw [hini] at f0 |-;rw [Int.toNat_natCast];unfold zai tabCells at f0 |-;rw [hini] at f0 |-;refine qf func60 call60 ntmps60 results60 ?_;have F:=ai3 hb hbl g0;repeat (first | refine st ?_ | refine cC f0 ?_ | refine cC f1 ?_)
  exact aR
 ·rw [if_neg e];have e1:(i == -1)=false:=by simpa using e
  have f0:=zeo env c i;cases hz:inZ c i with
  | false=>
    rw [hz] at f0;rw [if_neg (by simp)];unfold zai tabCells at f0 |-;refine qw func60 call60 ntmps60 results60 ?_;have F:=e1;repeat (first | refine st ?_ | refine cC f0 ?_)
    (refine zak ?_; refine⟨_,(by show (zaz _ _ _).run _=some _; simp only [go_sem,F]; rfl), ?_⟩)
    exact RStr.own_nil _ _ (by decide)
  | true=>
    obtain⟨k,s,rfl,hs,ha⟩:=zgR hz;have hi:=(List.getElem?_eq_some_iff.1 hs).1;rw [hz] at f0;rw [if_pos rfl,Int.toNat_natCast];have f1:=zdR env ((sbL c k).map zae) (by rw [List.length_map]; have:=zlS h k; omega);have hb:(begE c c.states.length)[k]? =some [.seq 1 ((sbL c k).map zae)]:=by unfold begE; rw [List.getElem?_map,List.getElem?_range hi]; rfl
    have hbl:(begE c c.states.length).length=c.states.length:=by simp [begE]
    have g0:((k:Nat):Int)< (c.states.length:Int):=by omega
    unfold zai tabCells at f0 |-;refine qf func60 call60 ntmps60 results60 ?_;have F:=ai4 hb hbl g0 e1;repeat (first | refine st ?_ | refine cC f0 ?_ | refine cC f1 ?_)
    exact aR
theorem zcl (env:Env) (c:ChD) (h:Full c) (i:Int):Con prog env 145 [zai c,I i] (.own 3 1 ((if i= -1\/inZ c i=true then kidsL c i true else []).map zae)):=by
 have hlen:=h.few;have f0:=zeo env c i;have f1:=zcQ env c i (by omega);unfold chAV at f1;unfold zai tabCells at f0 |-;by_cases e:i= -1
 ·subst e;have hz:inZ c (-1)=false:=by unfold inZ; simp
  rw [hz] at f0;rw [if_pos (.inl rfl)];refine qf func145 call145 ntmps145 results145 ?_;repeat (first | refine st0 ?_ | refine cC0 f0 ?_ | refine cC0 f1 ?_)
  exact aR0
 ·have e1:(i != -1)=true:=by simpa using e
  cases hz:inZ c i with
  | false=>
    rw [hz] at f0;rw [if_neg (by simp [e])];refine qw func145 call145 ntmps145 results145 ?_;have F:=e1;repeat (first | refine st ?_ | refine cC f0 ?_ | refine cC f1 ?_)
    (refine zak ?_; refine⟨_,(by show (zaz _ _ _).run _=some _; simp only [go_sem,F]; rfl), ?_⟩)
    exact RStr.own_nil _ _ (by decide)
  | true=>
    rw [hz] at f0;rw [if_pos (.inr rfl)];refine qf func145 call145 ntmps145 results145 ?_;have F:=e1;repeat (first | refine st ?_ | refine cC f0 ?_ | refine cC f1 ?_)
    exact aR
def memP (c:ChD) (i:Int) (k:Nat):Bool:=match c.states[k]? with
 | some s=>inZ c i&&((s.parent==i)&&zaI s)
 | none=>false
def memL (c:ChD) (i:Int):List Nat:=(List.range c.states.length).filter (memP c i)
theorem zri {c:ChD} (i:Int) (hz:inZ c i=true):memL c i=(kidsL c i false).filter fun k:Nat=> !inL (kidsL c i true) (k:Int):=by
 unfold memL kidsL zaY;rw [List.filter_filter];apply List.filter_congr;intro k hk;have hk:=List.mem_range.1 hk;obtain⟨s,hs⟩: ∃s,c.states[k]? =some s:=⟨c.states[k],List.getElem?_eq_getElem hk⟩;have e1:zbN c i false k=(s.parent==i):=by unfold zbN; rw [hs]; simp
 have e2:inL ((List.range c.states.length).filter (zbN c i true)) (k:Int)=((s.parent==i)&& !zaI s):=by
  rw [Bool.eq_iff_iff,zio];constructor
  ·rintro⟨j,hj,e⟩;have:j=k:=by omega
   subst this;have:=(List.mem_filter.1 hj).2;unfold zbN at this;rw [hs] at this;simpa using this
  ·intro e;refine⟨k,List.mem_filter.2 ⟨List.mem_range.2 hk, ?_⟩,rfl⟩;unfold zbN;rw [hs];simpa using e
 unfold memP;rw [e1,e2,hs];simp only [hz,Bool.true_and];cases (s.parent==i)<;>cases zaI s<;>rfl
def zg3 (K R:List Nat) (j:Nat):List Nat:=(K.take j).filter fun k:Nat=> !inL R (k:Int)
theorem znm {K R:List Nat} {j k:Nat} (h:K[j]? =some k):zg3 K R (j+1)=if inL R (k:Int) then zg3 K R j else zg3 K R j++[k]:=by
 unfold zg3;rw [List.take_add_one,h,List.filter_append];cases hb:inL R (k:Int)<;>simp [hb]
theorem zo8 (K R:List Nat) (j:Nat):(zg3 K R j).length<=K.length:=by
 unfold zg3;exact Nat.le_trans (List.length_filter_le ..) (by rw [List.length_take]; omega)
theorem zmO (env:Env) (c:ChD) (h:Full c) (i:Int):Con prog env 187 [zai c,I i] (.own 3 1 ((memL c i).map zae)):=by
 have hlen:=h.few;have f0:=zeo env c i;cases hz:inZ c i with
 | false=>
   rw [hz] at f0
   have hm:memL c i=[]:=by
    unfold memL;rw [List.filter_eq_nil_iff];intro k _;unfold memP;cases c.states[k]? with
    | none=>simp
    | some s=>simp [hz]
   rw [hm];unfold zai tabCells at f0 |-;refine qw func187 call187 ntmps187 results187 ?_;repeat (first | refine st0 ?_ | refine cC0 f0 ?_)
   (refine zak ?_; refine⟨_,(by show (zaz _ _ _).run _=some _; simp only [go_sem]; rfl), ?_⟩)
   exact RStr.own_nil _ _ (by decide)
 | true=>
   rw [hz] at f0;rw [zri i hz];have f1:=zcQ env c i (by omega);have f2:=zgj env c i (by omega);unfold chAV at f1 f2;have hKl:=zbF h.toRight i false;have hRl:=zbF h.toRight i true;generalize kidsL c i true=R at*;generalize kidsL c i false=K at*;unfold zai tabCells at f0 |-;refine qf func187 call187 ntmps187 results187 ?_;repeat (first | refine st0 ?_ | refine cC0 f0 ?_ | refine cC0 f1 ?_ | refine cC0 f2 ?_)
   refine zaT 6 6 3 1 ?_;refine zab (D:=Nat) (fun j vs=>[(5, .row 18 (vs 18)),(6, .row 6 (vs 6)),(24, .row 24 (vs 24)),(25,I K.length),(26,I j)]) (fun j _=>[(6,⟨1,(zg3 K R j).map zae,3,true⟩),(18,⟨1,R.map zae,3,true⟩),(24,⟨1,K.map zae,3,true⟩)]) (fun j _ esc=>j<=K.length/\esc 6=false) (fun j=>K.length-j) 0 ?_ ?_ ?_ ?_
   ·exact⟨Nat.zero_le _,rfl⟩
   ·exact qe0
   ·(simp only [go_sem])
    try rfl
   rintro j ws esc ⟨hj,e0⟩;by_cases hlt:j<K.length
   ·obtain⟨k,hk⟩: ∃k,K[j]? =some k:=⟨K[j],List.getElem?_eq_getElem hlt⟩;have q1:=nlt hlt;have q2:=zaa hlt (by omega);have f3:=zdE env R k (by omega);have hil:=zo8 K R j;have hf:Fits ((zg3 K R j).length+1) 8:=zaf (by omega) (by omega);have hn:=znm (R:=R) hk;cases hb:inL R k with
    | true=>
      rw [hb] at f3;rw [hb,if_pos rfl] at hn;have F:=ai6 zae.eq_1 q1 q2 hk hf e0;repeat (first | refine st ?_ | refine cC f3 ?_)
      refine⟨j+1,⟨hlt,by simp only [go_sem,e0]⟩, ?_, ?_,by omega⟩
      ·exact qe
      ·have F:=ai3 zae.eq_1 hn @List.map_append.{0,0};exact qe
    | false=>
      rw [hb] at f3;rw [hb,if_neg Bool.false_ne_true] at hn;have F:=ai6 zae.eq_1 q1 q2 hk hf e0;repeat (first | refine st ?_ | refine cC f3 ?_)
      refine⟨j+1,⟨hlt,by simp only [go_sem,e0]⟩, ?_, ?_,by omega⟩
      ·exact qe
      ·have F:=ai3 zae.eq_1 hn @List.map_append.{0,0};exact qe
   ·obtain rfl:j=K.length:=by omega
    have q1: ¬(K.length:Int)< (K.length:Int):=by omega
    have hall:zg3 K R K.length=K.filter fun k:Nat=> !inL R (k:Int):=by unfold zg3; rw [List.take_length]
    have F:=ai3 q1 hall e0;repeat refine st ?_
    exact aR
end
section
theorem Str.seq {sz:Nat} {es' es:List (List AV)} (hl:es'.length=es.length) (hs: ∀(i:Nat) (e' e:List AV),es'[i]? =some e'->es[i]? =some e->Strs e' e):Str (.seq sz es') (.seq sz es):=fun S w v h=>by
 have cell: ∀ {i j:Nat} {c:AV},cellAt es i j=some c-> ∃c',cellAt es' i j=some c'/\Str c' c:=fun {i j c} hc=>by
  unfold cellAt at hc |-;cases he:es[i]? with
  | none=>rw [he] at hc; cases hc
  | some e=>
    rw [he] at hc;have hi:=(List.getElem?_eq_some_iff.1 he).1;have he':es'[i]? =some es'[i]:=List.getElem?_eq_getElem (by omega);obtain⟨h1,h2⟩:=hs i _ e he' he;have hj:=(List.getElem?_eq_some_iff.1 (show e[j]? =some c from hc)).1;rw [he'];exact⟨es'[i][j],List.getElem?_eq_getElem (by omega),h2 j _ c (List.getElem?_eq_getElem (by omega)) hc⟩
 cases h with
 | seq A n cap sz es' b o u hn hcap hA hz hc hr=>
   refine .seq A n cap sz es b o u (by omega) hcap hA (fun i e he=> ?_) (fun i j c h=> ?_) fun i j c h=> ?_
   ·have hi:=(List.getElem?_eq_some_iff.1 he).1;have he':es'[i]? =some es'[i]:=List.getElem?_eq_getElem (by omega);rw [<-(hs i _ e he' he).1];exact hz i _ he'
   ·obtain⟨c',h1,_⟩:=cell h;exact hc i j c' h1
   ·obtain⟨c',h1,h2⟩:=cell h;exact h2 _ _ _ (hr i j c' h1)
theorem Strs.one {c' c:AV} (h:Str c' c):Strs [c'] [c]:= .cons h .nil
def Strss (es' es:List (List AV)):Prop:=es'.length=es.length/\ ∀(i:Nat) (e' e:List AV),es'[i]? =some e'->es[i]? =some e->Strs e' e
theorem Strss.nil:Strss [] []:=⟨rfl,fun i c' c h _=>by simp at h⟩
theorem Strss.cons {e' e:List AV} {es' es:List (List AV)} (h:Strs e' e) (hs:Strss es' es):Strss (e'::es') (e::es):=⟨by simp [hs.1],fun i a b ha hb=>by
 cases i with
 | zero=>
   simp only [List.getElem?_cons_zero,Option.some.injEq] at ha hb;subst ha hb;exact h
 | succ i=>exact hs.2 i a b (by simpa using ha) (by simpa using hb)⟩
theorem Str.seqs {sz:Nat} {es' es:List (List AV)} (h:Strss es' es):Str (.seq sz es') (.seq sz es):= .seq h.1 h.2
end
section
def zgo (c:ChD):Bool:=decide ((c.states.length:Int)<=40)&&decide ((c.trans.length:Int)<=70)&&decide ((c.vars.length:Int)<=10)
theorem zeT (env:Env) (c:ChD):Con prog env 23 [.agg (chAV c)] (B ((chk c).1==0)):=by
 have f0:=znb env c;unfold chkT at f0;refine qf func23 call23 ntmps23 results23 ?_;repeat (first | refine st0 ?_ | refine cC0 f0 ?_)
 exact aR0
def zg4 (c:ChD):Bool:=zgo c&&((chk c).1==0)
theorem ztQ {c:ChD} (h:(chk c).1=0):chk c=(0, -1):=by
 unfold chk at h |-;split at h
 ·simp at h
 rename_i h1;rw [if_neg h1];split at h
 ·simp at h
 rename_i h2;rw [if_neg h2];split at h
 ·simp at h
 rename_i h3;try simp only at h |-
 split at h
 ·simp at h
 rename_i h4;try simp only at h |-
 split at h
 ·simp at h
 rename_i h5;rw [if_neg h5];split at h
 ·simp at h
 ·rfl
theorem zpG {c:ChD} (h:zg4 c=true):Full c:=by
 unfold zg4 at h;rw [Bool.and_eq_true,beq_iff_eq] at h;exact full_of h.2
end
section
theorem zjk (p:Nat->Bool) (j:Nat):(List.range (j+1)).filter p=if p j then(List.range j).filter p++[j] else(List.range j).filter p:=by
 rw [List.range_succ,List.filter_append];cases hb:p j<;>simp [hb]
theorem zkY (p:Nat->Bool) (j:Nat):((List.range j).filter p).length<=j:=Nat.le_trans (List.length_filter_le ..) (by simp)
theorem zgh (env:Env) (c:ChD) (h:Full c): ∀(n i:Nat),i<c.states.length->c.states.length<=i+n->Con prog env 116 [.agg (chAV c),I i] (.own 3 1 ((bgL c i).map zae))
 | 0,i,hi,hn=>by omega
 | n+1,i,hi,hn=>by
   have hlen:=h.few;obtain⟨s,hs⟩: ∃s,c.states[i]? =some s:=⟨c.states[i],List.getElem?_eq_getElem hi⟩;have hb:=zft h hs;have hbl:=zmB h hi;have g0:((i:Nat):Int)< (c.states.length:Int):=by omega
   have f0:=zbo env c i true (by omega);have hKl:=zbF h.toRight i true
   have hKm: ∀k∈kidsL c i true,i<k/\k<c.states.length:=fun k hk=>by
    have:=zaG h.toRight (zao hk).1;omega
   generalize kidsL c i true=K at*;rw [hb];rw [hb] at hbl;simp only [List.length_cons] at hbl;refine qf func116 call116 ntmps116 results116 ?_;have F:=ai chAV.eq_1 zae.eq_1;repeat (first | refine st ?_ | refine cC f0 ?_)
   refine zab (D:=Nat) (fun j vs=>[(1,I i),(2, .loc 2 (vs 2) 0 0),(5, .row 9 (vs 9)),(6, .row 12 (vs 12)),(7,I j)]) (fun j _=>[(2,⟨5,[chAV c],26,false⟩),(9,⟨1,(i::(K.take j).flatMap fun k=>if s.kind=2\/s.initial=(k:Nat) then bgL c k else []).map zae,3,true⟩),(12,⟨1,K.map zae,3,true⟩)]) (fun j _ esc=>j<=K.length/\esc 9=false) (fun j=>K.length-j) 0 ?_ ?_ ?_ ?_
   ·exact⟨Nat.zero_le _,rfl⟩
   ·exact qe
   ·have F:=ai3 chAV.eq_1 zae.eq_1 @List.flatMap_nil.{0,0}
    (simp only [go_sem,F])
    try rfl
   rintro j ws esc ⟨hj,e0⟩;by_cases hlt:j<K.length
   ·obtain⟨k,hk⟩: ∃k,K[j]? =some k:=⟨K[j],List.getElem?_eq_getElem hlt⟩;have hkm:=hKm k (List.mem_of_getElem? hk);have q1:=nlt hlt;have q2:=zaa hlt (by omega);have f1:=zgh env c h n k (by omega) (by omega);have hp:=zmg (fun k:Nat=>if s.kind=2\/s.initial=(k:Nat) then bgL c k else []) K (j+1);have hsu:=zjL (fun k:Nat=>if s.kind=2\/s.initial=(k:Nat) then bgL c k else []) hk;rw [hsu] at hp;simp only [List.length_append] at hp;generalize hA:(K.take j).flatMap (fun k:Nat=>if s.kind=2\/s.initial=(k:Nat) then bgL c k else [])=A at*;by_cases h2:s.kind=2
    ·have b1:(s.kind==2)=true:=by simpa using h2
     rw [if_pos (.inl h2)] at hp hsu;have hf:Fits (A.length+1+(bgL c k).length) 8:=zaf (by omega) (by omega);have F:=ai11 chAV.eq_1 stAV.eq_1 zae.eq_1 hs hk q1 q2 g0 b1 hf e0;repeat (first | refine st ?_ | refine cC f1 ?_)
     refine⟨j+1,⟨hlt,by simp only [go_sem,e0]⟩, ?_, ?_,by omega⟩
     ·exact qe
     ·have F:=ai4 chAV.eq_1 zae.eq_1 hsu @List.map_append.{0,0};exact qe
    ·have b1:(s.kind==2)=false:=by simpa using h2
     by_cases h3:s.initial=(k:Nat)
     ·have b2:(s.initial==((k:Nat):Int))=true:=by simpa using h3
      rw [if_pos (.inr h3)] at hp hsu;have hf:Fits (A.length+1+(bgL c k).length) 8:=zaf (by omega) (by omega);have F:=ai12 chAV.eq_1 stAV.eq_1 zae.eq_1 hs hk q1 q2 g0 b1 b2 hf e0;repeat (first | refine st ?_ | refine cC f1 ?_)
      refine⟨j+1,⟨hlt,by simp only [go_sem,e0]⟩, ?_, ?_,by omega⟩
      ·exact qe
      ·have F:=ai4 chAV.eq_1 zae.eq_1 hsu @List.map_append.{0,0};exact qe
     ·have b2:(s.initial==((k:Nat):Int))=false:=by simpa using h3
      rw [if_neg (by simp [h2,h3]),List.append_nil] at hsu;have F:=ai11 chAV.eq_1 stAV.eq_1 zae.eq_1 hs hk q1 q2 g0 b1 b2 e0;repeat (first | refine st ?_ | refine cC f1 ?_)
      refine⟨j+1,⟨hlt,by simp only [go_sem,e0]⟩, ?_, ?_,by omega⟩
      ·exact qe
      ·have F:=ai4 chAV.eq_1 zae.eq_1 hsu @List.map_append.{0,0};exact qe
   ·obtain rfl:j=K.length:=by omega
    have q1: ¬(K.length:Int)< (K.length:Int):=by omega
    have hta:K.take K.length=K:=List.take_length;have F:=ai4 zae.eq_1 q1 hta e0;repeat refine st ?_
    exact aR
theorem znc (env:Env) (c:ChD) (h:Full c) (i:Int):Con prog env 62 [.agg (chAV c),I i] (.own 3 1 ((tbegL c i).map zae)):=by
 have hlen:=h.few
 have key: ∀(k:Nat),k<c.states.length-> ∀(x:Int),(x= -1/\c.initial=k\/x=k)->Con prog env 62 [.agg (chAV c),I x] (.own 3 1 ((sbL c k).map zae)):=fun k hk x hx=>by
  obtain⟨s,hs⟩: ∃s,c.states[k]? =some s:=⟨c.states[k],List.getElem?_eq_getElem hk⟩;have f0:=zid env c k;rw [show inZ c k=true from zay.2 hk] at f0;have f1:=za9 env s;have f2:=zgh env c h 40 k hk (by omega);have f3:=zoM env c h.toRight (bgL c k) (by have:=zmB h hk; omega);change Con _ _ _ _ (.own _ 1 ((sbL c k).map zae)) at f3;have g0:((k:Nat):Int)< (c.states.length:Int):=by omega
  rcases hx with⟨rfl,hx⟩ | rfl
  ·cases hm:zaI s with
   | true=>
     rw [hm] at f1;rw [zlT h hs hm];refine qf func62 call62 ntmps62 results62 ?_;have F:=ai6 chAV.eq_1 stAV.eq_1 hx hs g0 zae.eq_1;repeat (first | refine st ?_ | refine cC f0 ?_ | refine cC f1 ?_)
     exact aR
   | false=>
     rw [hm] at f1;refine qf func62 call62 ntmps62 results62 ?_;have F:=ai5 chAV.eq_1 stAV.eq_1 hx hs g0;repeat (first | refine st ?_ | refine cC f0 ?_ | refine cC f1 ?_ | refine cC f2 ?_ | refine cC f3 ?_)
     exact aR
  ·have b0:((k:Int) == -1)=false:=beq_false_of_ne (by omega);cases hm:zaI s with
   | true=>
     rw [hm] at f1;rw [zlT h hs hm];refine qf func62 call62 ntmps62 results62 ?_;have F:=ai6 chAV.eq_1 stAV.eq_1 hs g0 zae.eq_1 b0;repeat (first | refine st ?_ | refine cC f0 ?_ | refine cC f1 ?_)
     exact aR
   | false=>
     rw [hm] at f1;refine qf func62 call62 ntmps62 results62 ?_;have F:=ai5 chAV.eq_1 stAV.eq_1 hs g0 b0;repeat (first | refine st ?_ | refine cC f0 ?_ | refine cC f1 ?_ | refine cC f2 ?_ | refine cC f3 ?_)
     exact aR
 unfold tbegL;by_cases e:i= -1
 ·subst e;simp only [if_true];obtain⟨s,hs,hini,_⟩:=h.topS;have hi:=(List.getElem?_eq_some_iff.1 hs).1;rw [hini,if_pos (zay.2 hi),Int.toNat_natCast];exact key _ hi (-1) (.inl ⟨rfl,hini⟩)
 ·rw [if_neg e];cases hz:inZ c i with
  | false=>
    have f0:=zid env c i;rw [hz] at f0;rw [if_neg (by simp)];have b0:(i == -1)=false:=by simpa using e
    refine qw func62 call62 ntmps62 results62 ?_;have F:=ai chAV.eq_1 b0;repeat (first | refine st ?_ | refine cC f0 ?_)
    (refine zak ?_; refine⟨_,(by show (zaz _ _ _).run _=some _; simp only [go_sem,F]; rfl), ?_⟩)
    exact RStr.own_nil _ _ (by decide)
  | true=>
    obtain⟨k,s,rfl,hs,ha⟩:=zgR hz;rw [if_pos rfl,Int.toNat_natCast];exact key k (List.getElem?_eq_some_iff.1 hs).1 k (.inr rfl)
end
section
theorem zdx (env:Env) (c:ChD) (hc:c.states.length<=4000) (act:List Int) (hl:act.length<=1000000):Con prog env 141 [zai c, .seq 1 (act.map intAV)] (.own 4 1 (flagA c.states.length act)):=by
 have f0:=zaM env c;have f1:=zlM env c;have hz:=zpH c.states.length;have m1: ¬(16777216:Int)< (c.states.length:Int):=by omega
 have m2: ¬(281474976710656:Int)<1*(c.states.length:Int):=by omega
 have m3: ¬(c.states.length:Int)<0:=by omega
 have m4: ¬(281474976710656:Int)< (c.states.length:Int):=by omega
 unfold zan at f0 f1;unfold zai at f0 |-;refine qf func141 call141 ntmps141 results141 ?_;have F:=ai4 m1 m2 m3 m4;repeat (first | refine st ?_ | refine cC f0 ?_ | refine cC f1 ?_)
 refine zab (D:=Nat) (fun j vs=>[(5, .row 11 (vs 11)),(12, .seq 1 (act.map intAV)),(13,I act.length),(14,I j)]) (fun j _=>[(11,⟨1,flagA c.states.length (act.take j),4,true⟩)]) (fun j _ esc=>j<=act.length/\esc 11=false) (fun j=>act.length-j) 0 ?_ ?_ ?_ ?_
 ·exact⟨Nat.zero_le _,rfl⟩
 ·exact qe
 ·have F:=hz;exact qe
 rintro j ws esc ⟨hj,e0⟩;by_cases hlt:j<act.length
 ·obtain⟨x,hx⟩: ∃x,act[j]? =some x:=⟨act[j],List.getElem?_eq_getElem hlt⟩;have q1:=nlt hlt;have q2:=zaa hlt (by omega);have ht:act.take (j+1)=act.take j++[x]:=by rw [List.take_add_one,hx]; rfl
  have hfl:=zce c.states.length (act.take j);by_cases h0:0<=x
  ·obtain⟨k,rfl⟩:=zcB h0;by_cases h1:k<c.states.length
   ·have q3:=nlt h1;have hs:=zrw (act:=act.take j) h1;have hat:=zed (act:=act.take j) h1;rw [<-ht] at hs;have F:=ai8 hx q1 q2 q3 hat hs hfl e0;repeat refine st ?_
    refine⟨j+1,⟨hlt,by simp only [go_sem,e0]⟩, ?_, ?_,by omega⟩
    ·exact qe
    ·exact qe
   ·have q3: ¬(k:Int)< (c.states.length:Int):=by omega
    have hs:=zmh (n:=c.states.length) (act:=act.take j) (i:=(k:Int)) (fun m hm=>by omega);rw [<-ht] at hs;have F:=ai6 hx q1 q2 q3 hfl e0;repeat refine st ?_
    refine⟨j+1,⟨hlt,by simp only [go_sem,e0]⟩, ?_, ?_,by omega⟩
    ·exact qe
    ·have F:=hs;exact qe
  ·have hs:=zmh (n:=c.states.length) (act:=act.take j) (i:=x) (fun m hm=>by omega);rw [<-ht] at hs;have F:=ai6 hx q1 q2 h0 hfl e0;repeat refine st ?_
   refine⟨j+1,⟨hlt,by simp only [go_sem,e0]⟩, ?_, ?_,by omega⟩
   ·exact qe
   ·have F:=hs;exact qe
 ·obtain rfl:j=act.length:=by omega
  have q1: ¬(act.length:Int)< (act.length:Int):=by omega
  have hta:act.take act.length=act:=List.take_length;have F:=ai3 q1 hta e0;repeat refine st ?_
  exact aR
theorem zih (env:Env) (n:Nat) (act:List Int) (ks:List Nat) (_hn:n<=4000) (hl:ks.length<=4000) (hk: ∀k∈ks,k<n):Con prog env 144 [.seq 1 (flagA n act), .seq 1 (ks.map zae)] (I (manyI act ks:Nat)):=by
 have hfl:=zce n act;have z0:manyI act []=0:=rfl;refine qf func144 call144 ntmps144 results144 ?_;repeat refine st0 ?_
 refine zab (D:=Nat) (fun j _=>[(0, .seq 1 (flagA n act)),(5,I (manyI act (ks.take j):Nat)),(8, .seq 1 (ks.map zae)),(9,I ks.length),(10,I j)]) (fun _ _=>[]) (fun j _ _=>j<=ks.length) (fun j=>ks.length-j) 0 ?_ ?_ ?_ ?_
 ·exact Nat.zero_le _
 ·have F:=z0;exact qe
 ·(simp only [go_sem,z0])
 rintro j ws esc hj;by_cases hlt:j<ks.length
 ·obtain⟨k,hk2⟩: ∃k,ks[j]? =some k:=⟨ks[j],List.getElem?_eq_getElem hlt⟩;have hkn:=hk k (List.mem_of_getElem? hk2);have q1:=nlt hlt;have q2:=zaa hlt (by omega);have q3:=nlt hkn;have hat:=zed (act:=act) hkn;have hm:=zpb (act:=act) hk2;have hle:=zpc act (ks.take j);rw [List.length_take] at hle;have q4:=zaa (show manyI act (ks.take j)<ks.length by omega) (by omega);cases hb:act.contains (k:Int) with
  | true=>
    rw [hb] at hat hm;rw [if_pos rfl] at hm;have F:=ai8 zae.eq_1 hk2 q1 q2 q3 q4 hat hfl;repeat refine st ?_
    refine⟨j+1,hlt, ?_, ?_,by omega⟩
    ·have F:=hm;exact qe
    ·(simp only [go_sem,hm])
  | false=>
    rw [hb] at hat hm;rw [if_neg Bool.false_ne_true,Nat.add_zero] at hm;have F:=ai7 zae.eq_1 hk2 q1 q2 q3 hat hfl;repeat refine st ?_
    refine⟨j+1,hlt, ?_, ?_,by omega⟩
    ·have F:=hm;exact qe
    ·(simp only [go_sem,hm])
 ·obtain rfl:j=ks.length:=by omega
  have q1: ¬(ks.length:Int)< (ks.length:Int):=by omega
  have hta:ks.take ks.length=ks:=List.take_length;have F:=ai q1 hta;repeat refine st ?_
  exact aR
theorem zoW {c:ChD} (h:Right c) {k:Nat} {s:StD} (hs:c.states[k]? =some s) (act:List Int):(s.parent<0/\decide (s.parent<0)=true)\/(¬s.parent<0/\decide (s.parent<0)=false/\0<=s.parent/\s.parent< (c.states.length:Int)/\(flagA c.states.length act)[s.parent.toNat]? =some [B (act.contains s.parent)]):=by
 have hi:=(List.getElem?_eq_some_iff.1 hs).1;have h2:=(h.par k s hs).2;by_cases e:s.parent<0
 ·exact .inl ⟨e,decide_eq_true e⟩
 ·refine .inr ⟨e,decide_eq_false e,by omega,by omega, ?_⟩;rw [zed (by omega)];rw [show ((s.parent.toNat:Nat):Int)=s.parent by omega]
theorem zrx (env:Env) (c:ChD) (h:Full c) (act:List Int) (k:Nat) (s:StD) (hs:c.states[k]? =some s):Con prog env 142 [.agg (chAV c),zai c, .seq 1 (flagA c.states.length act),I k] (B (fitB c act k s)):=by
 have hlen:=h.few;have hi:=(List.getElem?_eq_some_iff.1 hs).1;have q0:((k:Nat):Int)< (c.states.length:Int):=by omega
 have f0:=zcl env c h k;rw [if_pos (.inr (zay.2 hi))] at f0;have hK:=zbF h.toRight k true;have hKm: ∀j∈kidsL c k true,j<c.states.length:=fun j hj=>by have:=zaG h.toRight (zao hj).1; omega
 have f1:=zih env c.states.length act (kidsL c k true) (by omega) (by omega) hKm;have hfl:=zce c.states.length act;have hp:=zoW h.toRight hs act;have hF:fitB c act k s=(!zaI s&&(decide (s.parent<0)||act.contains s.parent)&&(if s.kind=1/\kidsL c k true≠[] then manyI act (kidsL c k true)==1 else if s.kind=2 then manyI act (kidsL c k true)==(kidsL c k true).length else true)):=rfl;rw [hF];try clear hF
 generalize kidsL c k true=K at*;unfold zai at f0 |-;by_cases e4:s.kind=4
 ·have b4:(s.kind==4)=true:=by simpa using e4
  have hm:zaI s=true:=by unfold zaI; rw [b4]; rfl
  rw [hm];refine qf func142 call142 ntmps142 results142 ?_;have F:=ai5 chAV.eq_1 stAV.eq_1 hs q0 b4;repeat (first | refine st ?_ | refine cC f0 ?_)
  exact aR
 have b4:(s.kind==4)=false:=by simpa using e4
 by_cases e5:s.kind=5
 ·have b5:(s.kind==5)=true:=by simpa using e5
  have hm:zaI s=true:=by unfold zaI; rw [b5,Bool.or_true]
  rw [hm];refine qf func142 call142 ntmps142 results142 ?_;have F:=ai6 chAV.eq_1 stAV.eq_1 hs q0 b4 b5;repeat (first | refine st ?_ | refine cC f0 ?_)
  exact aR
 have b5:(s.kind==5)=false:=by simpa using e5
 have hm:zaI s=false:=by unfold zaI; rw [b4,b5]; rfl
 rw [hm];by_cases e1:s.kind=1
 ·have b1:(s.kind==1)=true:=by simpa using e1
  by_cases hk0:K=[]
  ·rw [if_neg (by simp [hk0]),if_neg (by omega)];have q1: ¬(0:Int)< (K.length:Int):=by rw [hk0]; simp
   rcases hp with⟨g0,g1⟩ | ⟨g0,g1,g2,g3,g4⟩
   ·refine qf func142 call142 ntmps142 results142 ?_;have F:=ai10 chAV.eq_1 stAV.eq_1 hs q0 b4 b5 b1 q1 g0 g1;repeat (first | refine st ?_ | refine cC f0 ?_)
    exact aR
   ·refine qf func142 call142 ntmps142 results142 ?_;have F:=ai14 chAV.eq_1 stAV.eq_1 hs q0 b4 b5 b1 q1 g0 g1 g2 g3 g4 hfl;repeat (first | refine st ?_ | refine cC f0 ?_)
    exact aR
  ·rw [if_pos ⟨e1,hk0⟩];have q1:(0:Int)< (K.length:Int):=by have:=List.length_pos_iff.2 hk0; omega
   by_cases hm1:manyI act K=1
   ·have hmi:((manyI act K:Nat):Int)=1:=by omega
    rw [hm1];rcases hp with⟨g0,g1⟩ | ⟨g0,g1,g2,g3,g4⟩
    ·refine qf func142 call142 ntmps142 results142 ?_;have F:=ai11 chAV.eq_1 stAV.eq_1 hs q0 b4 b5 b1 q1 hmi g0 g1;repeat (first | refine st ?_ | refine cC f0 ?_ | refine cC f1 ?_)
     exact aR
    ·refine qf func142 call142 ntmps142 results142 ?_;have F:=ai15 chAV.eq_1 stAV.eq_1 hs q0 b4 b5 b1 q1 hmi g0 g1 g2 g3 g4 hfl;repeat (first | refine st ?_ | refine cC f0 ?_ | refine cC f1 ?_)
     exact aR
   ·have hmi:(((manyI act K:Nat):Int) != 1)=true:=by simp; omega
    have hmb:(manyI act K==1)=false:=by simpa using hm1
    rw [hmb];refine qf func142 call142 ntmps142 results142 ?_;have F:=ai9 chAV.eq_1 stAV.eq_1 hs q0 b4 b5 b1 q1 hmi;repeat (first | refine st ?_ | refine cC f0 ?_ | refine cC f1 ?_)
    exact aR
 have b1:(s.kind==1)=false:=by simpa using e1
 rw [if_neg (fun e=>e1 e.1)];by_cases e2:s.kind=2
 ·have b2:(s.kind==2)=true:=by simpa using e2
  rw [if_pos e2];by_cases hm1:manyI act K=K.length
  ·have hmi:(((manyI act K:Nat):Int) != (K.length:Int))=false:=by simp; omega
   rw [hm1];rcases hp with⟨g0,g1⟩ | ⟨g0,g1,g2,g3,g4⟩
   ·refine qf func142 call142 ntmps142 results142 ?_;have F:=ai11 chAV.eq_1 stAV.eq_1 hs q0 b4 b5 b1 b2 hmi g0 g1;repeat (first | refine st ?_ | refine cC f0 ?_ | refine cC f1 ?_)
    exact aR
   ·refine qf func142 call142 ntmps142 results142 ?_;have F:=ai15 chAV.eq_1 stAV.eq_1 hs q0 b4 b5 b1 b2 hmi g0 g1 g2 g3 g4 hfl;repeat (first | refine st ?_ | refine cC f0 ?_ | refine cC f1 ?_)
    exact aR
  ·have hmi:(((manyI act K:Nat):Int) != (K.length:Int))=true:=by simp; omega
   have hmb:(manyI act K==K.length)=false:=by simpa using hm1
   rw [hmb];refine qf func142 call142 ntmps142 results142 ?_;have F:=ai9 chAV.eq_1 stAV.eq_1 hs q0 b4 b5 b1 b2 hmi;repeat (first | refine st ?_ | refine cC f0 ?_ | refine cC f1 ?_)
   exact aR
 ·have b2:(s.kind==2)=false:=by simpa using e2
  rw [if_neg e2];rcases hp with⟨g0,g1⟩ | ⟨g0,g1,g2,g3,g4⟩
  ·refine qf func142 call142 ntmps142 results142 ?_;have F:=ai10 chAV.eq_1 stAV.eq_1 hs q0 b4 b5 b1 b2 g0 g1;repeat (first | refine st ?_ | refine cC f0 ?_)
   exact aR
  ·refine qf func142 call142 ntmps142 results142 ?_;have F:=ai14 chAV.eq_1 stAV.eq_1 hs q0 b4 b5 b1 b2 g0 g1 g2 g3 g4 hfl;repeat (first | refine st ?_ | refine cC f0 ?_)
   exact aR
theorem zqr (env:Env) (a1 a8:Addr) (he:ChEnv env a1 a8) (p:Int) (hp: -1<=p):Con prog env 143 [I p] (errV p (sentV a1)):=by
 have g1:=zgx he.e1;have f0:=zpT env [108,101,103,97,108,46,67,104,101,99,107] p a1 hp;refine qf func143 call143 ntmps143 results143 ?_;have F:=g1;repeat (first | refine st ?_ | refine cC f0 ?_)
 exact aR
def chkE (a1:Addr) (c:ChD) (act:List Int):AV:=if lgB c act=true then nilE else errV (zeB c act).2 (sentV a1)
theorem zmv {a1:Addr} {c:ChD} {act:List Int} {p:Int} (h:zeB c act=(1,p)):chkE a1 c act=errV p (sentV a1):=by
 unfold chkE lgB;rw [h];rfl
theorem zs2 {a1:Addr} {c:ChD} {act:List Int} {p:Int} (h:zeB c act=(0,p)):chkE a1 c act=nilE:=by
 unfold chkE lgB;rw [h];rfl
theorem zk8 {c:ChD} {act:List Int} {j:Nat} {x:Int} (hx:act[j]? =some x):lgAt c act j=((j==0||decide (act.getD (j-1) 0<x))&&fitI c act x):=by unfold lgAt; rw [hx]
theorem zmj {c:ChD} {act:List Int} {k:Nat} {s:StD} (hs:c.states[k]? =some s):fitI c act (k:Int)=fitB c act k s:=by
 unfold fitI;rw [zbd,hs];rfl
theorem ziw {c:ChD} {act:List Int} {x:Int} (hz:inZ c x=false):fitI c act x=false:=by
 unfold fitI at_;unfold inZ at hz;by_cases h0:0<=x
 ·rw [if_pos h0];rw [decide_eq_true h0,Bool.true_and,decide_eq_false_iff_not] at hz;rw [List.getElem?_eq_none (by omega)]
 ·rw [if_neg h0]
end
section
theorem zoQ {act:List Int} {j:Nat} (h0:0<j) (hj:j<act.length):act[j-1]? =some (act.getD (j-1) 0):=by
 rw [List.getD_eq_getElem?_getD,List.getElem?_eq_getElem (show j-1<act.length by omega)];rfl
theorem litEs_int (l:List Int):zaL (l.map intC)=l.map intAV:=by
 unfold zaL;rw [List.map_map];rfl
end

end Go.Proofs.YtbpmkofnfgdegaaGreatDoor