/- The law of tables: its small functions; awake. -/
import Derived.Test.YtlmekdfleciejaaGreatDoorD27
import Derived.Test.YtlmekdfleciejaaGreatDoorD7
import Derived.Test.YtlmekdfleciejaaGreatDoorD32
import Derived.Test.YtlmekdfleciejaaGreatDoorD29
import Derived.Test.YtlmekdfleciejaaGreatDoorD4
set_option maxRecDepth 100000
set_option maxHeartbeats 4000000
set_option linter.unusedSimpArgs false
namespace Go.Proofs.YtlmekdfleciejaaGreatDoor
open Go.RowKit
section
theorem zfb (env:Env) (l m:List Nat) (hl:l.length<=1000000):Con Tryz.prog env 21 [.seq 1 (l.map zae), .seq 1 (m.map zae)] (B (decide (l=m))):=by
 by_cases h0:l.length=m.length
 ·refine zaa Tryz.func21 rfl Tryz.call21 (by rw [Tryz.ntmps21]; simp) ?_
  rw [Tryz.ntmps21,Tryz.results21]
  have g0:((l.length:Int) != (m.length:Int))=false:=by simp [h0]
  have F:=g0
  repeat refine st ?_
  refine zab (D:=Nat) (fun j _=>[(0, .seq 1 (l.map zae)),(1, .seq 1 (m.map zae)),(4,B false),(5,I j)]) (fun _ _=>[]) (fun j _ _=>j<=l.length/\l.take j=m.take j) (fun j=>l.length-j) 0 ?_ ?_ ?_ ?_
  ·exact⟨Nat.zero_le _,rfl⟩
  ·(simp only [go_sem,F])
  ·(simp only [go_sem,F])
  rintro j ws esc ⟨hj,ht⟩
  by_cases hlt:j<l.length
  ·have hlt2:j<m.length:=by omega
   obtain⟨a,ha⟩: ∃a,l[j]? =some a:=⟨l[j],List.getElem?_eq_getElem hlt⟩
   obtain⟨b,hb⟩: ∃b,m[j]? =some b:=⟨m[j],List.getElem?_eq_getElem hlt2⟩
   have g1:=nlt hlt
   have g4:=nlt hlt2
   have g2:=zac hlt (by omega)
   by_cases e:a=b
   ·have g3:((a:Int) != (b:Int))=false:=by simp [e]
    have F:=ai g1<|ai g2<|ai g4<|ai ha<|ai hb<|ai zae.eq_1<|g3
    repeat refine st ?_
    refine⟨j+1,⟨hlt, ?_⟩, ?_, ?_,by omega⟩
    ·rw [List.take_add_one,List.take_add_one,ht,ha,hb,e]
    ·(simp only [go_sem,F])
    ·(simp only [go_sem,F])
   ·have g3:((a:Int) != (b:Int))=true:=by simp; omega
    have hr:decide (l=m)=false:=decide_eq_false fun e2=>e (by rw [e2] at ha; exact Option.some.inj (ha.symm.trans hb))
    rw [hr]
    have F:=ai g1<|ai g2<|ai g4<|ai ha<|ai hb<|ai zae.eq_1<|g3
    repeat refine st ?_
    exact aR
  ·obtain rfl:j=l.length:=by omega
   have g1: ¬(l.length:Int)< (l.length:Int):=by omega
   have hr:decide (l=m)=true:=decide_eq_true (by rwa [List.take_length,List.take_of_length_le (by omega)] at ht)
   rw [hr]
   have F:=g1
   repeat refine st ?_
   exact aR
 ·have g0:((l.length:Int) != (m.length:Int))=true:=by simp; omega
  have hr:decide (l=m)=false:=decide_eq_false fun e=>h0 (by rw [e])
  rw [hr]
  refine zaa Tryz.func21 rfl Tryz.call21 (by rw [Tryz.ntmps21]; simp) ?_
  rw [Tryz.ntmps21,Tryz.results21]
  have F:=g0
  repeat refine st ?_
  exact aR
theorem zka (env:Env) (c:ChD) (i:Int):Con Tryz.prog env 49 [.agg (chAV c),I i] (B (inZ c i)):=by
 unfold inZ
 by_cases h0:0<=i
 ·by_cases h1:i< (c.states.length:Int)
  ·refine zaa Tryz.func49 rfl Tryz.call49 (by rw [Tryz.ntmps49]; simp) ?_
   rw [Tryz.ntmps49,Tryz.results49]
   have F:=ai chAV.eq_1<|ai h0<|h1
   repeat refine st ?_
   exact aR
  ·refine zaa Tryz.func49 rfl Tryz.call49 (by rw [Tryz.ntmps49]; simp) ?_
   rw [Tryz.ntmps49,Tryz.results49]
   have F:=ai chAV.eq_1<|ai h0<|h1
   repeat refine st ?_
   exact aR
 ·refine zaa Tryz.func49 rfl Tryz.call49 (by rw [Tryz.ntmps49]; simp) ?_
  rw [Tryz.ntmps49,Tryz.results49]
  have F:=ai chAV.eq_1<|h0
  repeat refine st ?_
  exact aR
theorem zbz {c:ChD} (h:Right c) (i:Int) (real:Bool):(kidsL c i real).length<=32:=by
 have h1:=zaX c i real c.states.length
 have h2:=h.few
 have h1:(kidsL c i real).length<=c.states.length:=h1
 omega
theorem zhr {c:ChD} (h:Right c) {i:Int} (hi: -1<=i):(walkL c i).length<=32:=by
 have hf:=h.few
 have:=(zeF h 40 i hi (by omega)).length_le_of_subset (l₂:=List.range c.states.length) fun m hm=>List.mem_range.2 ((zdx h 40 i m hi (by omega)).1 hm).1
 simp at this
 omega
theorem zpt {α β:Type} (f:α->List β) (K:List α) (j:Nat):((K.take j).flatMap f).length<=(K.flatMap f).length:=by
 have e:(K.take j).flatMap f++(K.drop j).flatMap f=K.flatMap f:=by rw [<-List.flatMap_append,List.take_append_drop]
 have:=congrArg List.length e
 simp only [List.length_append] at this
 omega
theorem zoa {α β:Type} (f:α->List β) {K:List α} {j:Nat} {k:α} (hk:K[j]? =some k):(K.take (j+1)).flatMap f=(K.take j).flatMap f++f k:=by rw [List.take_add_one,hk,List.flatMap_append]; simp
theorem ziu (env:Env) (c:ChD) (h:Right c): ∀(n:Nat) (i:Int), -1<=i->(c.states.length:Int)<=i+n->Con Tryz.prog env 127 [.agg (chAV c),I i] (.own 3 1 ((walkL c i).map zae))
 | n,i,hi,hn=>by
   have hlen:=h.few
   have f0:=zbw env c i false (by omega)
   have hw:=walk_eq h hi
   have hwl:=zhr h hi
   have hKl:=zbz h i false
   have hKm: ∀k∈kidsL c i false,i< (k:Int)/\k<c.states.length:=fun k hk=>za0 h hk
   generalize kidsL c i false=K at*
   rw [hw] at hwl
   refine zaa Tryz.func127 rfl Tryz.call127 (by rw [Tryz.ntmps127]; simp) ?_
   rw [Tryz.ntmps127,Tryz.results127]
   have F:=chAV.eq_1
   repeat (first | refine st ?_ | refine cC f0 ?_)
   refine zab (D:=Nat) (fun j vs=>[(2, .loc 2 (vs 2) 0 0),(5, .row 8 (vs 8)),(6, .row 11 (vs 11)),(7,I j)]) (fun j _=>[(2,⟨5,[chAV c],26,false⟩),(8,⟨1,((K.take j).flatMap fun k=>k::walkL c k).map zae,3,true⟩),(11,⟨1,K.map zae,3,true⟩)]) (fun j _ esc=>j<=K.length/\esc 8=false) (fun j=>K.length-j) 0 ?_ ?_ ?_ ?_
   ·exact⟨Nat.zero_le _,rfl⟩
   ·(simp only [go_sem,F])
   ·have F:=chAV.eq_1
    (simp only [go_sem,F])
    try rfl
   rintro j ws esc ⟨hj,e0⟩
   by_cases hlt:j<K.length
   ·obtain⟨k,hk⟩: ∃k,K[j]? =some k:=⟨K[j],List.getElem?_eq_getElem hlt⟩
    have hkm:=hKm k (List.mem_of_getElem? hk)
    have q1:=nlt hlt
    have q2:=zac hlt (by omega)
    match n,hn with
    | 0,hn=>omega
    | n+1,hn=>
    have f1:=ziu env c h n k (by omega) (by omega)
    have hp:=zpt (fun k=>k::walkL c k) K (j+1)
    have hsu:=zoa (fun k=>k::walkL c k) hk
    rw [hsu] at hp
    simp only [List.length_append,List.length_cons] at hp
    generalize hA:(K.take j).flatMap (fun k=>k::walkL c k)=A at*
    have hf1:Fits (A.length+1) 8:=zah (by omega) (by omega)
    have hf2:Fits (A.length+1+(walkL c k).length) 8:=zah (by omega) (by omega)
    have F:=ai chAV.eq_1<|ai zae.eq_1<|ai hk<|ai q1<|ai q2<|ai hf1<|ai hf2<|e0
    repeat (first | refine st ?_ | refine cC f1 ?_)
    refine⟨j+1,⟨hlt,by simp only [go_sem,e0]⟩, ?_, ?_,by omega⟩
    ·(simp only [go_sem,F])
    ·have F:=ai chAV.eq_1<|ai zae.eq_1<|hsu
     (simp only [go_sem,List.map_append,List.append_assoc,F])
   ·obtain rfl:j=K.length:=by omega
    have q1: ¬(K.length:Int)< (K.length:Int):=by omega
    have hta:K.take K.length=K:=List.take_length
    rw [hw]
    have F:=ai zae.eq_1<|ai q1<|ai hta<|e0
    repeat refine st ?_
    exact aR
termination_by n=>n
def inTo (l W:List Nat) (j:Nat):List Nat:=(W.take j).filter fun k:Nat=>inL l (k:Int)
theorem znV {l W:List Nat} {j k:Nat} (h:W[j]? =some k):inTo l W (j+1)=if inL l (k:Int) then inTo l W j++[k] else inTo l W j:=by
 unfold inTo
 rw [List.take_add_one,h,List.filter_append]
 cases hb:inL l (k:Int)<;>simp [hb]
theorem zpq (l W:List Nat) (j:Nat):(inTo l W j).length<=W.length:=by
 unfold inTo
 exact Nat.le_trans (List.length_filter_le ..) (by rw [List.length_take]; omega)
theorem zrn (l:List Nat) (n:Int):inL l n=(zL l).contains n:=by
 rw [Bool.eq_iff_iff,zhV,List.contains_iff_mem]
 unfold zL
 rw [List.mem_map]
theorem zmZ {c:ChD} {l:List Nat} {j k:Nat} (h:((zL l).take j).all (inZ c)=true) (hk:l[j]? =some k) (hz:inZ c k=true):((zL l).take (j+1)).all (inZ c)=true:=by
 have:(zL l)[j]? =some ((k:Nat):Int):=by unfold zL; rw [List.getElem?_map,hk]; rfl
 exact zkR h this hz
theorem znf (env:Env) (c:ChD) (h:Right c) (l:List Nat) (hl:l.length<=1000000):Con Tryz.prog env 77 [.agg (chAV c), .seq 1 (l.map zae)] (.own 3 1 ((sortL c (zL l)).map zae)):=by
 have hlen:=h.few
 refine zaj Tryz.func77 rfl Tryz.call77 (by rw [Tryz.ntmps77]; simp) ?_
 rw [Tryz.ntmps77,Tryz.results77]
 have F:=chAV.eq_1
 repeat refine st ?_
 refine zab (D:=Nat) (fun j vs=>[(1, .seq 1 (l.map zae)),(2, .loc 2 (vs 2) 0 0),(5,I j)]) (fun _ _=>[(2,⟨5,[chAV c],26,false⟩)]) (fun j _ _=>j<=l.length/\((zL l).take j).all (inZ c)=true) (fun j=>l.length-j) 0 ?_ ?_ ?_ ?_
 ·exact⟨Nat.zero_le _,rfl⟩
 ·(simp only [go_sem,F])
 ·have F:=chAV.eq_1
  (simp only [go_sem,F])
 rintro j ws esc ⟨hj,hall⟩
 by_cases hlt:j<l.length
 ·obtain⟨k,hk⟩: ∃k,l[j]? =some k:=⟨l[j],List.getElem?_eq_getElem hlt⟩
  have q1:=nlt hlt
  have q2:=zac hlt (by omega)
  have f0:=zka env c k
  cases hz:inZ c k with
  | false=>
    rw [hz] at f0
    have F:=ai chAV.eq_1<|ai zae.eq_1<|ai q1<|ai q2<|hk
    repeat (first | refine st ?_ | refine cC f0 ?_)
    (refine zak ?_; refine⟨_,(by show (zaz _ _ _).run _=some _; simp only [go_sem,F]; rfl), ?_⟩)
    rw [show sortL c (zL l)=[] from zkS (show (zL l)[j]? =some ((k:Nat):Int) by unfold zL; rw [List.getElem?_map,hk]; rfl) hz]
    exact RStr.own_nil _ _ (by decide)
  | true=>
    rw [hz] at f0
    have F:=ai chAV.eq_1<|ai zae.eq_1<|ai q1<|ai q2<|hk
    repeat (first | refine st ?_ | refine cC f0 ?_)
    refine⟨j+1,⟨hlt,zmZ hall hk hz⟩, ?_, ?_,by omega⟩
    ·(simp only [go_sem,F])
    ·(simp only [go_sem,F])
 obtain rfl:j=l.length:=by omega
 have q1: ¬(l.length:Int)< (l.length:Int):=by omega
 have f1:=ziu env c h 40 (-1) (by omega) (by omega)
 have hwl:=zhr h (show (-1:Int)<= -1 by omega)
 have hall:(zL l).all (inZ c)=true:=by rwa [List.take_of_length_le (by simp [zL])] at hall
 have hsort:sortL c (zL l)=inTo l (walkL c (-1)) (walkL c (-1)).length:=by
  unfold sortL inTo
  rw [if_pos hall,List.take_length]
  apply List.filter_congr
  intro k _
  rw [zrn]
 rw [hsort]
 generalize walkL c (-1)=W at*
 have F:=ai chAV.eq_1<|q1
 repeat (first | refine st ?_ | refine cC f1 ?_)
 refine zab (D:=Nat) (fun j vs=>[(1, .seq 1 (l.map zae)),(6, .row 22 (vs 22)),(7, .row 24 (vs 24)),(8,I j)]) (fun j _=>[(22,⟨1,(inTo l W j).map zae,3,true⟩),(24,⟨1,W.map zae,3,true⟩)]) (fun j _ esc=>j<=W.length/\esc 22=false) (fun j=>W.length-j) 0 ?_ ?_ ?_ ?_
 ·exact⟨Nat.zero_le _,rfl⟩
 ·(simp only [go_sem,F])
 ·(simp only [go_sem,F])
  try rfl
 try clear q1
 rintro j ws esc ⟨hj,e0⟩
 by_cases hlt:j<W.length
 ·obtain⟨k,hk⟩: ∃k,W[j]? =some k:=⟨W[j],List.getElem?_eq_getElem hlt⟩
  have q1:=nlt hlt
  have q2:=zac hlt (by omega)
  have f0:=zhM env l k (by omega)
  have hil:=zpq l W j
  have hf:Fits ((inTo l W j).length+1) 8:=zah (by omega) (by omega)
  have hn:=znV (l:=l) hk
  cases hb:inL l k with
  | true=>
    rw [hb] at f0
    rw [hb,if_pos rfl] at hn
    have F:=ai zae.eq_1<|ai q1<|ai q2<|ai hk<|ai hf<|e0
    repeat (first | refine st ?_ | refine cC f0 ?_)
    refine⟨j+1,⟨hlt,by simp only [go_sem,e0]⟩, ?_, ?_,by omega⟩
    ·(simp only [go_sem,F])
    ·have F:=ai zae.eq_1<|hn
     (simp only [go_sem,List.map_append,F])
  | false=>
    rw [hb] at f0
    rw [hb,if_neg Bool.false_ne_true] at hn
    have F:=ai zae.eq_1<|ai q1<|ai q2<|ai hk<|ai hf<|e0
    repeat (first | refine st ?_ | refine cC f0 ?_)
    refine⟨j+1,⟨hlt,by simp only [go_sem,e0]⟩, ?_, ?_,by omega⟩
    ·(simp only [go_sem,F])
    ·have F:=ai zae.eq_1<|hn
     (simp only [go_sem,List.map_append,F])
 ·obtain rfl:j=W.length:=by omega
  have q1: ¬(W.length:Int)< (W.length:Int):=by omega
  have F:=ai q1<|e0
  repeat refine st ?_
  (refine zak ?_; refine⟨_,(by show (zaz _ _ _).run _=some _; simp only [go_sem,F]; rfl), ?_⟩)
  exact RStr.refl _
end
section
theorem zbH (env:Env) (c:ChD):Con Tryz.prog env 31 [zai c] (zal c):=by
 refine zaa Tryz.func31 rfl Tryz.call31 (by rw [Tryz.ntmps31]; simp) ?_
 rw [Tryz.ntmps31,Tryz.results31]
 have F:=ai zai.eq_1<|ai tabCells.eq_1<|zal.eq_1
 repeat refine st ?_
 exact aR
theorem zaG (env:Env) (c:ChD) (hs:Small c):Con Tryz.prog env 17 [zai c] (.agg (chAV c)):=by
 have f0:=ziD env c hs
 unfold chAV at f0
 refine zaa Tryz.func17 rfl Tryz.call17 (by rw [Tryz.ntmps17]; simp) ?_
 rw [Tryz.ntmps17,Tryz.results17]
 have F:=ai zai.eq_1<|tabCells.eq_1
 repeat (first | refine st ?_ | refine cC f0 ?_)
 (refine zak ?_; show (zaz _ _ _).run _=some _; simp only [go_sem,F])
 rfl
theorem zij (env:Env) (c:ChD) (i:Int):Con Tryz.prog env 72 [zai c,I i] (B (inZ c i)):=by
 unfold inZ
 by_cases h0:0<=i
 ·by_cases h1:i< (c.states.length:Int)
  ·refine zaa Tryz.func72 rfl Tryz.call72 (by rw [Tryz.ntmps72]; simp) ?_
   rw [Tryz.ntmps72,Tryz.results72]
   have F:=ai zai.eq_1<|ai tabCells.eq_1<|ai h0<|h1
   repeat refine st ?_
   exact aR
  ·refine zaa Tryz.func72 rfl Tryz.call72 (by rw [Tryz.ntmps72]; simp) ?_
   rw [Tryz.ntmps72,Tryz.results72]
   have F:=ai zai.eq_1<|ai tabCells.eq_1<|ai h0<|h1
   repeat refine st ?_
   exact aR
 ·refine zaa Tryz.func72 rfl Tryz.call72 (by rw [Tryz.ntmps72]; simp) ?_
  rw [Tryz.ntmps72,Tryz.results72]
  have F:=ai zai.eq_1<|ai tabCells.eq_1<|h0
  repeat refine st ?_
  exact aR
theorem zbI (env:Env) (c:ChD) (h:Full c) (i:Int):Con Tryz.prog env 33 [zai c,I i] (.own 3 1 ((if i= -1\/inZ c i=true then kidsL c i true else []).map zae)):=by
 have hlen:=h.few
 have f0:=zij env c i
 have f1:=zcG env c i (by omega)
 unfold chAV at f1
 unfold zai tabCells at f0 |-
 by_cases e:i= -1
 ·subst e
  have hz:inZ c (-1)=false:=by unfold inZ; simp
  rw [hz] at f0
  rw [if_pos (.inl rfl)]
  refine zaa Tryz.func33 rfl Tryz.call33 (by rw [Tryz.ntmps33]; simp) ?_
  rw [Tryz.ntmps33,Tryz.results33]
  repeat (first | refine st0 ?_ | refine cC0 f0 ?_ | refine cC0 f1 ?_)
  exact aR0
 ·have e1:(i != -1)=true:=by simpa using e
  cases hz:inZ c i with
  | false=>
    rw [hz] at f0
    rw [if_neg (by simp [e])]
    refine zaj Tryz.func33 rfl Tryz.call33 (by rw [Tryz.ntmps33]; simp) ?_
    rw [Tryz.ntmps33,Tryz.results33]
    have F:=e1
    repeat (first | refine st ?_ | refine cC f0 ?_ | refine cC f1 ?_)
    (refine zak ?_; refine⟨_,(by show (zaz _ _ _).run _=some _; simp only [go_sem,F]; rfl), ?_⟩)
    exact RStr.own_nil _ _ (by decide)
  | true=>
    rw [hz] at f0
    rw [if_pos (.inr rfl)]
    refine zaa Tryz.func33 rfl Tryz.call33 (by rw [Tryz.ntmps33]; simp) ?_
    rw [Tryz.ntmps33,Tryz.results33]
    have F:=e1
    repeat (first | refine st ?_ | refine cC f0 ?_ | refine cC f1 ?_)
    exact aR
def memP (c:ChD) (i:Int) (k:Nat):Bool:=match c.states[k]? with
 | some s=>inZ c i&&((s.parent==i)&&zat s)
 | none=>false
def memL (c:ChD) (i:Int):List Nat:=(List.range c.states.length).filter (memP c i)
theorem zpk {c:ChD} (i:Int) (hz:inZ c i=true):memL c i=(kidsL c i false).filter fun k:Nat=> !inL (kidsL c i true) (k:Int):=by
 unfold memL kidsL zaT
 rw [List.filter_filter]
 apply List.filter_congr
 intro k hk
 have hk:=List.mem_range.1 hk
 obtain⟨s,hs⟩: ∃s,c.states[k]? =some s:=⟨c.states[k],List.getElem?_eq_getElem hk⟩
 have e1:zbL c i false k=(s.parent==i):=by unfold zbL; rw [hs]; simp
 have e2:inL ((List.range c.states.length).filter (zbL c i true)) (k:Int)=((s.parent==i)&& !zat s):=by
  rw [Bool.eq_iff_iff,zhV]
  constructor
  ·rintro⟨j,hj,e⟩
   have:j=k:=by omega
   subst this
   have:=(List.mem_filter.1 hj).2
   unfold zbL at this
   rw [hs] at this
   simpa using this
  ·intro e
   refine⟨k,List.mem_filter.2 ⟨List.mem_range.2 hk, ?_⟩,rfl⟩
   unfold zbL
   rw [hs]
   simpa using e
 unfold memP
 rw [e1,e2,hs]
 simp only [hz,Bool.true_and]
 cases (s.parent==i)<;>cases zat s<;>rfl
def zgM (K R:List Nat) (j:Nat):List Nat:=(K.take j).filter fun k:Nat=> !inL R (k:Int)
theorem zl9 {K R:List Nat} {j k:Nat} (h:K[j]? =some k):zgM K R (j+1)=if inL R (k:Int) then zgM K R j else zgM K R j++[k]:=by
 unfold zgM
 rw [List.take_add_one,h,List.filter_append]
 cases hb:inL R (k:Int)<;>simp [hb]
theorem znE (K R:List Nat) (j:Nat):(zgM K R j).length<=K.length:=by
 unfold zgM
 exact Nat.le_trans (List.length_filter_le ..) (by rw [List.length_take]; omega)
theorem zlJ (env:Env) (c:ChD) (h:Full c) (i:Int):Con Tryz.prog env 34 [zai c,I i] (.own 3 1 ((memL c i).map zae)):=by
 have hlen:=h.few
 have f0:=zij env c i
 cases hz:inZ c i with
 | false=>
   rw [hz] at f0
   have hm:memL c i=[]:=by
    unfold memL
    rw [List.filter_eq_nil_iff]
    intro k _
    unfold memP
    cases c.states[k]? with
    | none=>simp
    | some s=>simp [hz]
   rw [hm]
   unfold zai tabCells at f0 |-
   refine zaj Tryz.func34 rfl Tryz.call34 (by rw [Tryz.ntmps34]; simp) ?_
   rw [Tryz.ntmps34,Tryz.results34]
   repeat (first | refine st0 ?_ | refine cC0 f0 ?_)
   (refine zak ?_; refine⟨_,(by show (zaz _ _ _).run _=some _; simp only [go_sem]; rfl), ?_⟩)
   exact RStr.own_nil _ _ (by decide)
 | true=>
   rw [hz] at f0
   rw [zpk i hz]
   have f1:=zcG env c i (by omega)
   have f2:=zf9 env c i (by omega)
   unfold chAV at f1 f2
   have hKl:=zbz h.toRight i false
   have hRl:=zbz h.toRight i true
   generalize kidsL c i true=R at*
   generalize kidsL c i false=K at*
   unfold zai tabCells at f0 |-
   refine zaa Tryz.func34 rfl Tryz.call34 (by rw [Tryz.ntmps34]; simp) ?_
   rw [Tryz.ntmps34,Tryz.results34]
   repeat (first | refine st0 ?_ | refine cC0 f0 ?_ | refine cC0 f1 ?_ | refine cC0 f2 ?_)
   refine zbo 6 6 3 1 ?_
   refine zab (D:=Nat) (fun j vs=>[(5, .row 18 (vs 18)),(6, .row 6 (vs 6)),(24, .row 24 (vs 24)),(25,I K.length),(26,I j)]) (fun j _=>[(6,⟨1,(zgM K R j).map zae,3,true⟩),(18,⟨1,R.map zae,3,true⟩),(24,⟨1,K.map zae,3,true⟩)]) (fun j _ esc=>j<=K.length/\esc 6=false) (fun j=>K.length-j) 0 ?_ ?_ ?_ ?_
   ·exact⟨Nat.zero_le _,rfl⟩
   ·(simp only [go_sem])
   ·(simp only [go_sem])
    try rfl
   rintro j ws esc ⟨hj,e0⟩
   by_cases hlt:j<K.length
   ·obtain⟨k,hk⟩: ∃k,K[j]? =some k:=⟨K[j],List.getElem?_eq_getElem hlt⟩
    have q1:=nlt hlt
    have q2:=zac hlt (by omega)
    have f3:=zdu env R k (by omega)
    have hil:=znE K R j
    have hf:Fits ((zgM K R j).length+1) 8:=zah (by omega) (by omega)
    have hn:=zl9 (R:=R) hk
    cases hb:inL R k with
    | true=>
      rw [hb] at f3
      rw [hb,if_pos rfl] at hn
      have F:=ai zae.eq_1<|ai q1<|ai q2<|ai hk<|ai hf<|e0
      repeat (first | refine st ?_ | refine cC f3 ?_)
      refine⟨j+1,⟨hlt,by simp only [go_sem,e0]⟩, ?_, ?_,by omega⟩
      ·(simp only [go_sem,F])
      ·have F:=ai zae.eq_1<|hn
       (simp only [go_sem,List.map_append,F])
    | false=>
      rw [hb] at f3
      rw [hb,if_neg Bool.false_ne_true] at hn
      have F:=ai zae.eq_1<|ai q1<|ai q2<|ai hk<|ai hf<|e0
      repeat (first | refine st ?_ | refine cC f3 ?_)
      refine⟨j+1,⟨hlt,by simp only [go_sem,e0]⟩, ?_, ?_,by omega⟩
      ·(simp only [go_sem,F])
      ·have F:=ai zae.eq_1<|hn
       (simp only [go_sem,List.map_append,F])
   ·obtain rfl:j=K.length:=by omega
    have q1: ¬(K.length:Int)< (K.length:Int):=by omega
    have hall:zgM K R K.length=K.filter fun k:Nat=> !inL R (k:Int):=by unfold zgM; rw [List.take_length]
    have F:=ai q1<|ai hall<|e0
    repeat refine st ?_
    exact aR
end
section
theorem Str.seq {sz:Nat} {es' es:List (List AV)} (hl:es'.length=es.length) (hs: ∀(i:Nat) (e' e:List AV),es'[i]? =some e'->es[i]? =some e->Strs e' e):Str (.seq sz es') (.seq sz es):=fun S w v h=>by
 have cell: ∀ {i j:Nat} {c:AV},cellAt es i j=some c-> ∃c',cellAt es' i j=some c'/\Str c' c:=fun {i j c} hc=>by
  unfold cellAt at hc |-
  cases he:es[i]? with
  | none=>rw [he] at hc; cases hc
  | some e=>
    rw [he] at hc
    have hi:=(List.getElem?_eq_some_iff.1 he).1
    have he':es'[i]? =some es'[i]:=List.getElem?_eq_getElem (by omega)
    obtain⟨h1,h2⟩:=hs i _ e he' he
    have hj:=(List.getElem?_eq_some_iff.1 (show e[j]? =some c from hc)).1
    rw [he']
    exact⟨es'[i][j],List.getElem?_eq_getElem (by omega),h2 j _ c (List.getElem?_eq_getElem (by omega)) hc⟩
 cases h with
 | seq A n cap sz es' b o u hn hcap hA hz hc hr=>
   refine .seq A n cap sz es b o u (by omega) hcap hA (fun i e he=> ?_) (fun i j c h=> ?_) fun i j c h=> ?_
   ·have hi:=(List.getElem?_eq_some_iff.1 he).1
    have he':es'[i]? =some es'[i]:=List.getElem?_eq_getElem (by omega)
    rw [<-(hs i _ e he' he).1]
    exact hz i _ he'
   ·obtain⟨c',h1,_⟩:=cell h
    exact hc i j c' h1
   ·obtain⟨c',h1,h2⟩:=cell h
    exact h2 _ _ _ (hr i j c' h1)
theorem Strs.one {c' c:AV} (h:Str c' c):Strs [c'] [c]:= .cons h .nil
def Strss (es' es:List (List AV)):Prop:=es'.length=es.length/\ ∀(i:Nat) (e' e:List AV),es'[i]? =some e'->es[i]? =some e->Strs e' e
theorem Strss.nil:Strss [] []:=⟨rfl,fun i c' c h _=>by simp at h⟩
theorem Strss.cons {e' e:List AV} {es' es:List (List AV)} (h:Strs e' e) (hs:Strss es' es):Strss (e'::es') (e::es):=⟨by simp [hs.1],fun i a b ha hb=>by
 cases i with
 | zero=>
   simp only [List.getElem?_cons_zero,Option.some.injEq] at ha hb
   subst ha hb
   exact h
 | succ i=>exact hs.2 i a b (by simpa using ha) (by simpa using hb)⟩
theorem Str.seqs {sz:Nat} {es' es:List (List AV)} (h:Strss es' es):Str (.seq sz es') (.seq sz es):= .seq h.1 h.2
end
section
def zgf (c:ChD):Bool:=decide ((c.states.length:Int)<=40)&&decide ((c.trans.length:Int)<=70)&&decide ((c.vars.length:Int)<=10)
theorem zeO (env:Env) (c:ChD):Con Tryz.prog env 67 [.agg (chAV c)] (B ((chk c).1==0)):=by
 have f0:=zl1 env c
 unfold chkT at f0
 refine zaa Tryz.func67 rfl Tryz.call67 (by rw [Tryz.ntmps67]; simp) ?_
 rw [Tryz.ntmps67,Tryz.results67]
 repeat (first | refine st0 ?_ | refine cC0 f0 ?_)
 exact aR0
def zfx (c:ChD):Bool:=zgf c&&((chk c).1==0)
theorem zq6 {c:ChD} (h:(chk c).1=0):chk c=(0, -1):=by
 unfold chk at h |-
 split at h
 ·simp at h
 rename_i h1
 rw [if_neg h1]
 split at h
 ·simp at h
 rename_i h2
 rw [if_neg h2]
 split at h
 ·simp at h
 rename_i h3
 try simp only at h |-
 split at h
 ·simp at h
 rename_i h4
 try simp only at h |-
 split at h
 ·simp at h
 rename_i h5
 rw [if_neg h5]
 split at h
 ·simp at h
 ·rfl
theorem zi7 {c:ChD} (h:zfx c=true):Full c:=by
 unfold zfx at h
 rw [Bool.and_eq_true,beq_iff_eq] at h
 exact full_of h.2
end

end Go.Proofs.YtlmekdfleciejaaGreatDoor