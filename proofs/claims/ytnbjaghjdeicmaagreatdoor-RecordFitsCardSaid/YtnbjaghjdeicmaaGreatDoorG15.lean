/- Events and transitions of a chart, plain: the sorted names, their numbers, a state's transitions. -/
import Derived.Test.YtnbjaghjdeicmaaGreatDoorG14
import Derived.Test.YtnbjaghjdeicmaaGreatDoorG5
import Derived.Test.YtnbjaghjdeicmaaGreatDoorG10
import Derived.Test.YtnbjaghjdeicmaaGreatDoorG7
import Derived.Test.YtnbjaghjdeicmaaGreatDoorG8
import Derived.Test.YtnbjaghjdeicmaaGreatDoorG9
import Derived.Test.YtnbjaghjdeicmaaGreatDoorG13
import Derived.Test.YtnbjaghjdeicmaaGreatDoorG1
set_option maxRecDepth 100000
set_option maxHeartbeats 8000000
set_option linter.unusedSimpArgs false
namespace Go.Proofs.YtnbjaghjdeicmaaGreatDoor
open Go.RowKit
section
theorem zhr (env:Env) (n:Int):Con Tryz.prog env 106 [I n] (B (clkB n)):=by
 have hr:clkB n=(decide (0<=n)&&decide (n<=1099511627776)):=zcQ ..
 rw [hr]
 by_cases h1:0<=n<;>by_cases h2:n<=1099511627776
 all_goals (refine zaa Tryz.func106 rfl Tryz.call106 (by rw [Tryz.ntmps106]; simp) ?_
            rw [Tryz.ntmps106,Tryz.results106])
 all_goals have F:=ai h1<|h2
 all_goals (repeat refine st ?_)
 all_goals ((refine zah ?_; show (zaG _ _ _).run _=some _; simp only [go_sem,F]))
theorem zeB (env:Env) (l:List Int) (hl:l.length<=1000000):Con Tryz.prog env 107 [ints34 l] (B (zak l)):=by
 refine zaa Tryz.func107 rfl Tryz.call107 (by rw [Tryz.ntmps107]; simp) ?_
 rw [Tryz.ntmps107,Tryz.results107]
 repeat refine st0 ?_
 refine zac (D:=Nat) (fun i _=>[(0,ints34 l),(5,ints34 l),(6,I l.length),(7,I i)]) (fun _ _=>[]) (fun i _ _=>i<=l.length/\ ∀j,j<i->stAt l j=true) (fun i=>l.length-i) 0 ?_ ?_ ?_ ?_
 ·exact⟨Nat.zero_le _,fun j hj=>by omega⟩
 ·(simp only [go_sem])
 ·(simp only [go_sem])
 rintro i vs esc ⟨hi,ha⟩
 by_cases hlt:i<l.length
 ·have g1:=nlt hlt
  have g2:=zab hlt (by omega)
  obtain⟨x,hx⟩: ∃x,l[i]? =some x:=⟨l[i],List.getElem?_eq_getElem hlt⟩
  have ex:=zc9 x l i hx
  have hnot:stAt l i=false->zak l=false:=fun h=>by rw [zak,zav hlt h]; rfl
  by_cases a1:x<0
  ·rw [hnot (by unfold stAt; rw [ex,decide_eq_false (by omega)]; rfl)]
   have F:=ai g1<|ai g2<|ai hx<|a1
   repeat (first | refine oO rfl (by simp only [go_sem,intAV,F]; exact⟨rfl,rfl⟩) ?_ | refine gR ?_ | refine gO ?_ | refine oZ (zaA ?_) | refine oZ ?_ | refine oS ?_ | refine gT ?_ | refine gD Tryz.mixed ?_ | refine oB ?_ | refine oK ?_ | (refine oX ?_; simp only [zao,zag, ↓reduceIte,Nat.reduceEqDiff,reduceCtorEq]) | refine oY (by simp only [go_sem,intAV,F]; exact iR) ?_ | refine oN (by simp only [go_sem,intAV,F]; exact iR) ?_)
   (refine zah ?_; show (zaG _ _ _).run _=some _; simp only [go_sem,intAV,F])
  by_cases a2:32<=x
  ·rw [hnot (by unfold stAt; rw [ex,decide_eq_false (show ¬x<=31 by omega),Bool.and_false]; rfl)]
   have F:=ai g1<|ai g2<|ai hx<|ai a1<|a2
   repeat (first | refine oO rfl (by simp only [go_sem,intAV,F]; exact⟨rfl,rfl⟩) ?_ | refine gR ?_ | refine gO ?_ | refine oZ (zaA ?_) | refine oZ ?_ | refine oS ?_ | refine gT ?_ | refine gD Tryz.mixed ?_ | refine oB ?_ | refine oK ?_ | (refine oX ?_; simp only [zao,zag, ↓reduceIte,Nat.reduceEqDiff,reduceCtorEq]) | refine oY (by simp only [go_sem,intAV,F]; exact iR) ?_ | refine oN (by simp only [go_sem,intAV,F]; exact iR) ?_)
   (refine zah ?_; show (zaG _ _ _).run _=some _; simp only [go_sem,intAV,F])
  by_cases h0:i=0
  ·have g3: ¬(0:Int)< (i:Int):=by omega
   have F:=ai g1<|ai g2<|ai hx<|ai a1<|ai a2<|g3
   repeat (first | refine oO rfl (by simp only [go_sem,intAV,F]; exact⟨rfl,rfl⟩) ?_ | refine gR ?_ | refine gO ?_ | refine oZ (zaA ?_) | refine oZ ?_ | refine oS ?_ | refine gT ?_ | refine gD Tryz.mixed ?_ | refine oB ?_ | refine oK ?_ | (refine oX ?_; simp only [zao,zag, ↓reduceIte,Nat.reduceEqDiff,reduceCtorEq]) | refine oY (by simp only [go_sem,intAV,F]; exact iR) ?_ | refine oN (by simp only [go_sem,intAV,F]; exact iR) ?_)
   refine⟨i+1,⟨hlt,zbx ha ?_⟩, ?_, ?_,by omega⟩
   ·unfold stAt
    rw [ex,decide_eq_true (show 0<=x by omega),decide_eq_true (show x<=31 by omega),decide_eq_true h0]
    rfl
   ·(simp only [go_sem,intAV,F])
   ·(simp only [go_sem,intAV,F])
  have g3:(0:Int)< (i:Int):=by omega
  have g4:IntKind.i64.wrap ((i:Int)-1)=((i-1:Nat):Int):=i64m i 1 (by omega) (by omega)
  have g5:((i-1:Nat):Int)< (l.length:Int):=by omega
  obtain⟨y,hy⟩: ∃y,l[i-1]? =some y:=⟨l[i-1],List.getElem?_eq_getElem (by omega)⟩
  have ey:=zc9 y l (i-1) hy
  have es:stAt l i=decide (y<x):=by
   unfold stAt
   rw [ex,ey,decide_eq_true (show 0<=x by omega),decide_eq_true (show x<=31 by omega),decide_eq_false h0]
   rfl
  by_cases hc:x<=y
  ·rw [hnot (by rw [es,decide_eq_false (by omega)])]
   have F:=ai g1<|ai g2<|ai hx<|ai a1<|ai a2<|ai g3<|ai g4<|ai g5<|ai hy<|hc
   repeat (first | refine oO rfl (by simp only [go_sem,intAV,F]; exact⟨rfl,rfl⟩) ?_ | refine gR ?_ | refine gO ?_ | refine oZ (zaA ?_) | refine oZ ?_ | refine oS ?_ | refine gT ?_ | refine gD Tryz.mixed ?_ | refine oB ?_ | refine oK ?_ | (refine oX ?_; simp only [zao,zag, ↓reduceIte,Nat.reduceEqDiff,reduceCtorEq]) | refine oY (by simp only [go_sem,intAV,F]; exact iR) ?_ | refine oN (by simp only [go_sem,intAV,F]; exact iR) ?_)
   (refine zah ?_; show (zaG _ _ _).run _=some _; simp only [go_sem,intAV,F])
  have F:=ai g1<|ai g2<|ai hx<|ai a1<|ai a2<|ai g3<|ai g4<|ai g5<|ai hy<|hc
  repeat (first | refine oO rfl (by simp only [go_sem,intAV,F]; exact⟨rfl,rfl⟩) ?_ | refine gR ?_ | refine gO ?_ | refine oZ (zaA ?_) | refine oZ ?_ | refine oS ?_ | refine gT ?_ | refine gD Tryz.mixed ?_ | refine oB ?_ | refine oK ?_ | (refine oX ?_; simp only [zao,zag, ↓reduceIte,Nat.reduceEqDiff,reduceCtorEq]) | refine oY (by simp only [go_sem,intAV,F]; exact iR) ?_ | refine oN (by simp only [go_sem,intAV,F]; exact iR) ?_)
  refine⟨i+1,⟨hlt,zbx ha (by rw [es,decide_eq_true (by omega)])⟩, ?_, ?_,by omega⟩
  ·(simp only [go_sem,intAV,F])
  ·(simp only [go_sem,intAV,F])
 have g1: ¬(i:Int)< (l.length:Int):=by omega
 have e:zak l=decide ((0:Int)< (l.length:Int)):=by
  rw [zak,zaZ (n:=l.length) fun j hj=>ha j (by omega),Bool.true_and]
  simp
 rw [e]
 have F:=g1
 repeat refine st ?_
 exact aR
theorem zk7 (x:Int):zak [x]=(decide (0<=x)&&decide (x<=31)):=by
 simp [zak,allB,stAt]
theorem zou (env:Env) (l:List MemD) (hl:l.length<=1000000) (hm: ∀m∈l,m.2.length<=1000000):Con Tryz.prog env 109 [.seq 2 (l.map mmAV)] (B (rmsB l)):=by
 refine zaa Tryz.func109 rfl Tryz.call109 (by rw [Tryz.ntmps109]; simp) ?_
 rw [Tryz.ntmps109,Tryz.results109]
 repeat refine st0 ?_
 refine zac (D:=Nat) (fun i _=>[(0, .seq 2 (l.map mmAV)),(5, .seq 2 (l.map mmAV)),(6,I l.length),(7,I i)]) (fun _ _=>[]) (fun i _ _=>i<=l.length/\ ∀j,j<i->rmAt l j=true) (fun i=>l.length-i) 0 ?_ ?_ ?_ ?_
 ·exact⟨Nat.zero_le _,fun j hj=>by omega⟩
 ·(simp only [go_sem])
 ·(simp only [go_sem])
 rintro i vs esc ⟨hi,ha⟩
 by_cases hlt:i<l.length
 ·have g1:=nlt hlt
  have g2:=zab hlt (by omega)
  obtain⟨x,hx⟩: ∃x,l[i]? =some x:=⟨l[i],List.getElem?_eq_getElem hlt⟩
  have f1:=zeB env [x.1] (by simp)
  have f2:=zeB env x.2 (hm x (zmg hx))
  have hnot:rmAt l i=false->rmsB l=false:=fun h=>by rw [rmsB,zav hlt h]
  have e1:=zk7 x.1
  cases a1:zak [x.1]
  ·rw [hnot (by unfold rmAt; rw [zaq hx, <-e1,a1]; rfl)]
   rw [a1] at f1
   have F:=ai g1<|ai g2<|ai hx<|mmAV.eq_1
   repeat (first | refine oO rfl (by simp only [go_sem,intAV,F]; exact⟨rfl,rfl⟩) ?_ | refine gR ?_ | refine gO ?_ | refine oC rfl (f1) (by simp only [go_sem,intAV,F]; exact iR) (by simp only [go_sem,intAV,F]; exact⟨rfl,rfl⟩) ?_ | refine oZ (zaA ?_) | refine oZ ?_ | refine oS ?_ | refine gT ?_ | refine gD Tryz.mixed ?_ | refine oB ?_ | refine oK ?_ | (refine oX ?_; simp only [zao,zag, ↓reduceIte,Nat.reduceEqDiff,reduceCtorEq]) | refine oY (by simp only [go_sem,intAV,F]; exact iR) ?_ | refine oN (by simp only [go_sem,intAV,F]; exact iR) ?_)
   (refine zah ?_; show (zaG _ _ _).run _=some _; simp only [go_sem,intAV,F])
  rw [a1] at f1
  cases a2:zak x.2
  ·rw [hnot (by unfold rmAt; rw [zaq hx,a2,Bool.and_false]; rfl)]
   rw [a2] at f2
   have F:=ai g1<|ai g2<|ai hx<|mmAV.eq_1
   repeat (first | refine oO rfl (by simp only [go_sem,intAV,F]; exact⟨rfl,rfl⟩) ?_ | refine gR ?_ | refine gO ?_ | refine oC rfl (f1) (by simp only [go_sem,intAV,F]; exact iR) (by simp only [go_sem,intAV,F]; exact⟨rfl,rfl⟩) ?_ | refine oC rfl (f2) (by simp only [go_sem,intAV,F]; exact iR) (by simp only [go_sem,intAV,F]; exact⟨rfl,rfl⟩) ?_ | refine oZ (zaA ?_) | refine oZ ?_ | refine oS ?_ | refine gT ?_ | refine gD Tryz.mixed ?_ | refine oB ?_ | refine oK ?_ | (refine oX ?_; simp only [zao,zag, ↓reduceIte,Nat.reduceEqDiff,reduceCtorEq]) | refine oY (by simp only [go_sem,intAV,F]; exact iR) ?_ | refine oN (by simp only [go_sem,intAV,F]; exact iR) ?_)
   (refine zah ?_; show (zaG _ _ _).run _=some _; simp only [go_sem,intAV,F])
  rw [a2] at f2
  by_cases h0:i=0
  ·have g3: ¬(0:Int)< (i:Int):=by omega
   have F:=ai g1<|ai g2<|ai hx<|ai mmAV.eq_1<|g3
   repeat (first | refine oO rfl (by simp only [go_sem,intAV,F]; exact⟨rfl,rfl⟩) ?_ | refine gR ?_ | refine gO ?_ | refine oC rfl (f1) (by simp only [go_sem,intAV,F]; exact iR) (by simp only [go_sem,intAV,F]; exact⟨rfl,rfl⟩) ?_ | refine oC rfl (f2) (by simp only [go_sem,intAV,F]; exact iR) (by simp only [go_sem,intAV,F]; exact⟨rfl,rfl⟩) ?_ | refine oZ (zaA ?_) | refine oZ ?_ | refine oS ?_ | refine gT ?_ | refine gD Tryz.mixed ?_ | refine oB ?_ | refine oK ?_ | (refine oX ?_; simp only [zao,zag, ↓reduceIte,Nat.reduceEqDiff,reduceCtorEq]) | refine oY (by simp only [go_sem,intAV,F]; exact iR) ?_ | refine oN (by simp only [go_sem,intAV,F]; exact iR) ?_)
   refine⟨i+1,⟨hlt,zbx ha ?_⟩, ?_, ?_,by omega⟩
   ·unfold rmAt
    rw [zaq hx, <-e1,a1,a2,decide_eq_true h0]
    rfl
   ·(simp only [go_sem,intAV,F])
   ·(simp only [go_sem,intAV,F])
  have g3:(0:Int)< (i:Int):=by omega
  have g4:IntKind.i64.wrap ((i:Int)-1)=((i-1:Nat):Int):=i64m i 1 (by omega) (by omega)
  have g5:((i-1:Nat):Int)< (l.length:Int):=by omega
  obtain⟨y,hy⟩: ∃y,l[i-1]? =some y:=⟨l[i-1],List.getElem?_eq_getElem (by omega)⟩
  have es:rmAt l i=decide (y.1<x.1):=by
   unfold rmAt
   rw [zaq hx,zaq hy, <-e1,a1,a2,decide_eq_false h0]
   rfl
  by_cases hc:x.1<=y.1
  ·rw [hnot (by rw [es,decide_eq_false (by omega)])]
   have F:=ai g1<|ai g2<|ai hx<|ai mmAV.eq_1<|ai g3<|ai g4<|ai g5<|ai hy<|hc
   repeat (first | refine oO rfl (by simp only [go_sem,intAV,F]; exact⟨rfl,rfl⟩) ?_ | refine gR ?_ | refine gO ?_ | refine oC rfl (f1) (by simp only [go_sem,intAV,F]; exact iR) (by simp only [go_sem,intAV,F]; exact⟨rfl,rfl⟩) ?_ | refine oC rfl (f2) (by simp only [go_sem,intAV,F]; exact iR) (by simp only [go_sem,intAV,F]; exact⟨rfl,rfl⟩) ?_ | refine oZ (zaA ?_) | refine oZ ?_ | refine oS ?_ | refine gT ?_ | refine gD Tryz.mixed ?_ | refine oB ?_ | refine oK ?_ | (refine oX ?_; simp only [zao,zag, ↓reduceIte,Nat.reduceEqDiff,reduceCtorEq]) | refine oY (by simp only [go_sem,intAV,F]; exact iR) ?_ | refine oN (by simp only [go_sem,intAV,F]; exact iR) ?_)
   (refine zah ?_; show (zaG _ _ _).run _=some _; simp only [go_sem,intAV,F])
  have F:=ai g1<|ai g2<|ai hx<|ai mmAV.eq_1<|ai g3<|ai g4<|ai g5<|ai hy<|hc
  repeat (first | refine oO rfl (by simp only [go_sem,intAV,F]; exact⟨rfl,rfl⟩) ?_ | refine gR ?_ | refine gO ?_ | refine oC rfl (f1) (by simp only [go_sem,intAV,F]; exact iR) (by simp only [go_sem,intAV,F]; exact⟨rfl,rfl⟩) ?_ | refine oC rfl (f2) (by simp only [go_sem,intAV,F]; exact iR) (by simp only [go_sem,intAV,F]; exact⟨rfl,rfl⟩) ?_ | refine oZ (zaA ?_) | refine oZ ?_ | refine oS ?_ | refine gT ?_ | refine gD Tryz.mixed ?_ | refine oB ?_ | refine oK ?_ | (refine oX ?_; simp only [zao,zag, ↓reduceIte,Nat.reduceEqDiff,reduceCtorEq]) | refine oY (by simp only [go_sem,intAV,F]; exact iR) ?_ | refine oN (by simp only [go_sem,intAV,F]; exact iR) ?_)
  refine⟨i+1,⟨hlt,zbx ha (by rw [es,decide_eq_true (by omega)])⟩, ?_, ?_,by omega⟩
  ·(simp only [go_sem,intAV,F])
  ·(simp only [go_sem,intAV,F])
 have g1: ¬(i:Int)< (l.length:Int):=by omega
 rw [show rmsB l=true from by rw [rmsB,zaZ (n:=l.length) fun j hj=>ha j (by omega)]]
 have F:=g1
 repeat refine st ?_
 exact aR
theorem zop (env:Env) (l:List Int) (hl:l.length<=1000000):Con Tryz.prog env 108 [ints34 l] (B (zdy l)):=by
 refine zaa Tryz.func108 rfl Tryz.call108 (by rw [Tryz.ntmps108]; simp) ?_
 rw [Tryz.ntmps108,Tryz.results108]
 repeat refine st0 ?_
 refine zac (D:=Nat) (fun i _=>[(0,ints34 l),(5,ints34 l),(6,I l.length),(7,I i)]) (fun _ _=>[]) (fun i _ _=>i<=l.length/\ ∀j,j<i->zdu l j=true) (fun i=>l.length-i) 0 ?_ ?_ ?_ ?_
 ·exact⟨Nat.zero_le _,fun j hj=>by omega⟩
 ·(simp only [go_sem])
 ·(simp only [go_sem])
 rintro i vs esc ⟨hi,ha⟩
 by_cases hlt:i<l.length
 ·have g1:=nlt hlt
  have g2:=zab hlt (by omega)
  obtain⟨x,hx⟩: ∃x,l[i]? =some x:=⟨l[i],List.getElem?_eq_getElem hlt⟩
  have ex:=zc9 x l i hx
  have hnot:zdu l i=false->zdy l=false:=fun h=>by rw [zdy,zav hlt h]; rfl
  by_cases a1:x< -2147483647
  ·rw [hnot (by unfold zdu; rw [ex,decide_eq_false (by omega)]; rfl)]
   have F:=ai g1<|ai g2<|ai hx<|a1
   repeat (first | refine oO rfl (by simp only [go_sem,intAV,F]; exact⟨rfl,rfl⟩) ?_ | refine gR ?_ | refine gO ?_ | refine oZ (zaA ?_) | refine oZ ?_ | refine oS ?_ | refine gT ?_ | refine gD Tryz.mixed ?_ | refine oB ?_ | refine oK ?_ | (refine oX ?_; simp only [zao,zag, ↓reduceIte,Nat.reduceEqDiff,reduceCtorEq]) | refine oY (by simp only [go_sem,intAV,F]; exact iR) ?_ | refine oN (by simp only [go_sem,intAV,F]; exact iR) ?_)
   (refine zah ?_; show (zaG _ _ _).run _=some _; simp only [go_sem,intAV,F])
  by_cases a2:2147483647<x
  ·rw [hnot (by unfold zdu; rw [ex,decide_eq_false (show ¬x<=2147483647 by omega),Bool.and_false])]
   have F:=ai g1<|ai g2<|ai hx<|ai a1<|a2
   repeat (first | refine oO rfl (by simp only [go_sem,intAV,F]; exact⟨rfl,rfl⟩) ?_ | refine gR ?_ | refine gO ?_ | refine oZ (zaA ?_) | refine oZ ?_ | refine oS ?_ | refine gT ?_ | refine gD Tryz.mixed ?_ | refine oB ?_ | refine oK ?_ | (refine oX ?_; simp only [zao,zag, ↓reduceIte,Nat.reduceEqDiff,reduceCtorEq]) | refine oY (by simp only [go_sem,intAV,F]; exact iR) ?_ | refine oN (by simp only [go_sem,intAV,F]; exact iR) ?_)
   (refine zah ?_; show (zaG _ _ _).run _=some _; simp only [go_sem,intAV,F])
  have F:=ai g1<|ai g2<|ai hx<|ai a1<|a2
  repeat (first | refine oO rfl (by simp only [go_sem,intAV,F]; exact⟨rfl,rfl⟩) ?_ | refine gR ?_ | refine gO ?_ | refine oZ (zaA ?_) | refine oZ ?_ | refine oS ?_ | refine gT ?_ | refine gD Tryz.mixed ?_ | refine oB ?_ | refine oK ?_ | (refine oX ?_; simp only [zao,zag, ↓reduceIte,Nat.reduceEqDiff,reduceCtorEq]) | refine oY (by simp only [go_sem,intAV,F]; exact iR) ?_ | refine oN (by simp only [go_sem,intAV,F]; exact iR) ?_)
  refine⟨i+1,⟨hlt,zbx ha ?_⟩, ?_, ?_,by omega⟩
  ·unfold zdu
   rw [ex,decide_eq_true (show -2147483647<=x by omega),decide_eq_true (show x<=2147483647 by omega)]
   rfl
  ·(simp only [go_sem,intAV,F])
  ·(simp only [go_sem,intAV,F])
 have g1: ¬(i:Int)< (l.length:Int):=by omega
 have e:zdy l=decide ((l.length:Int)<=8):=by
  rw [zdy,zaZ (n:=l.length) fun j hj=>ha j (by omega),Bool.true_and]
  exact decide_eq_decide.2 (by omega)
 rw [e]
 have F:=g1
 repeat refine st ?_
 exact aR
theorem zqC (env:Env) (l:List (List UInt8×Int)) (hl:l.length<=1000000) (hn: ∀t∈l,t.1.length<=9223372036854775807):Con Tryz.prog env 110 [.seq 2 (l.map tmAV)] (B (zaL l)):=by
 refine zaa Tryz.func110 rfl Tryz.call110 (by rw [Tryz.ntmps110]; simp) ?_
 rw [Tryz.ntmps110,Tryz.results110]
 repeat refine st0 ?_
 refine zac (D:=Nat) (fun i _=>[(0, .seq 2 (l.map tmAV)),(5, .seq 2 (l.map tmAV)),(6,I l.length),(7,I i)]) (fun _ _=>[]) (fun i _ _=>i<=l.length/\ ∀j,j<i->tmAt l j=true) (fun i=>l.length-i) 0 ?_ ?_ ?_ ?_
 ·exact⟨Nat.zero_le _,fun j hj=>by omega⟩
 ·(simp only [go_sem])
 ·(simp only [go_sem])
 rintro i vs esc ⟨hi,ha⟩
 by_cases hlt:i<l.length
 ·have g1:=nlt hlt
  have g2:=zab hlt (by omega)
  obtain⟨x,hx⟩: ∃x,l[i]? =some x:=⟨l[i],List.getElem?_eq_getElem hlt⟩
  have f1:=zbD env x.1 (hn x (zmg hx))
  have f2:=zhr env x.2
  have hnot:tmAt l i=false->zaL l=false:=fun h=>by rw [zaL,zav hlt h]; rfl
  cases a1:zaC x.1
  ·rw [hnot (by unfold tmAt; rw [zaq hx,a1]; rfl)]
   rw [a1] at f1
   have F:=ai g1<|ai g2<|ai hx<|tmAV.eq_1
   repeat (first | refine st ?_ | refine cC f1 ?_)
   exact aR
  rw [a1] at f1
  cases a2:clkB x.2
  ·rw [hnot (by unfold tmAt; rw [zaq hx,a2,Bool.and_false]; rfl)]
   rw [a2] at f2
   have F:=ai g1<|ai g2<|ai hx<|tmAV.eq_1
   repeat (first | refine st ?_ | refine cC f1 ?_ | refine cC f2 ?_)
   exact aR
  rw [a2] at f2
  by_cases h0:i=0
  ·have g3: ¬(0:Int)< (i:Int):=by omega
   have F:=ai g1<|ai g2<|ai hx<|ai tmAV.eq_1<|g3
   repeat (first | refine st ?_ | refine cC f1 ?_ | refine cC f2 ?_)
   refine⟨i+1,⟨hlt,zbx ha ?_⟩, ?_, ?_,by omega⟩
   ·unfold tmAt
    rw [zaq hx,a1,a2,decide_eq_true h0]
    rfl
   ·(simp only [go_sem,F])
   ·(simp only [go_sem,F])
  have g3:(0:Int)< (i:Int):=by omega
  have g4:IntKind.i64.wrap ((i:Int)-1)=((i-1:Nat):Int):=i64m i 1 (by omega) (by omega)
  have g5:((i-1:Nat):Int)< (l.length:Int):=by omega
  obtain⟨y,hy⟩: ∃y,l[i-1]? =some y:=⟨l[i-1],List.getElem?_eq_getElem (by omega)⟩
  have hv:tmAt l i= !(Op.bytesLess x.1 y.1||x.1==y.1):=by unfold tmAt; rw [zaq hx,zaq hy,a1,a2,decide_eq_false h0,zdU]; rfl
  by_cases hc:(Op.bytesLess x.1 y.1||x.1==y.1)=true
  ·rw [hnot (by rw [hv,hc]; rfl)]
   have F:=ai g1<|ai g2<|ai hx<|ai tmAV.eq_1<|ai g3<|ai g4<|ai g5<|ai hy<|hc
   repeat (first | refine st ?_ | refine cC f1 ?_ | refine cC f2 ?_)
   exact aR
  have hc:(Op.bytesLess x.1 y.1||x.1==y.1)=false:=by simpa using hc
  have F:=ai g1<|ai g2<|ai hx<|ai tmAV.eq_1<|ai g3<|ai g4<|ai g5<|ai hy<|hc
  repeat (first | refine st ?_ | refine cC f1 ?_ | refine cC f2 ?_)
  refine⟨i+1,⟨hlt,zbx ha (by rw [hv,hc]; rfl)⟩, ?_, ?_,by omega⟩
  ·(simp only [go_sem,F])
  ·(simp only [go_sem,F])
 have g1: ¬(i:Int)< (l.length:Int):=by omega
 have e:zaL l=decide ((l.length:Int)<=8):=by
  rw [zaL,zaZ (n:=l.length) fun j hj=>ha j (by omega),Bool.true_and]
  exact decide_eq_decide.2 (by omega)
 rw [e]
 have F:=g1
 repeat refine st ?_
 exact aR
def recE (a1:Addr) (r:Rc):AV:=if zai r=true then nilE else errV (-1) (sentV a1)
theorem zfP (env:Env) (a1 a8:Addr) (he:ChEnv env a1 a8) (r:Rc) (hl:Lite r) (hn: ∀t∈r.timers,t.1.length<=9223372036854775807):Con Tryz.prog env 43 [.agg (zaQ r)] (recE a1 r):=by
 have h1:=zhG he.e1
 have f1:=zb5 env [114,101,99,111,114,100,46,67,104,101,99,107] a1
 have c1:=zhr env r.born
 have c2:=zhr env r.steps
 have c3:=zeB env r.active hl.active
 have c4:=zop env r.vars hl.vars
 have c5:=zou env r.mem hl.mem hl.states
 have c6:=zqC env r.timers hl.timers hn
 have bad:zai r=false->recE a1 r=errV (-1) (sentV a1):=fun h=>by unfold recE; rw [h]; rfl
 by_cases b1:1<=r.chart
 case neg=>
  rw [bad (by unfold zai ze6; rw [decide_eq_false (by omega)]; rfl)]
  refine zaa Tryz.func43 rfl Tryz.call43 (by rw [Tryz.ntmps43]; simp) ?_
  rw [Tryz.ntmps43,Tryz.results43]
  have F:=ai zaQ.eq_1<|ai b1<|h1
  repeat (first | refine st ?_ | refine cC f1 ?_)
  exact aR
 by_cases b2:r.chart<=2147483647
 case neg=>
  rw [bad (by unfold zai ze6; rw [decide_eq_false (by omega)]; rfl)]
  refine zaa Tryz.func43 rfl Tryz.call43 (by rw [Tryz.ntmps43]; simp) ?_
  rw [Tryz.ntmps43,Tryz.results43]
  have F:=ai zaQ.eq_1<|ai b1<|ai b2<|h1
  repeat (first | refine st ?_ | refine cC f1 ?_)
  exact aR
 have hd:decide (1<=r.chart/\r.chart<=2147483647)=true:=decide_eq_true ⟨b1,b2⟩
 cases b3:clkB r.born
 ·rw [bad (by unfold zai ze6; rw [b3,Bool.and_false]; rfl)]
  rw [b3] at c1
  refine zaa Tryz.func43 rfl Tryz.call43 (by rw [Tryz.ntmps43]; simp) ?_
  rw [Tryz.ntmps43,Tryz.results43]
  have F:=ai zaQ.eq_1<|ai b1<|ai b2<|h1
  repeat (first | refine st ?_ | refine cC f1 ?_ | refine cC c1 ?_)
  exact aR
 rw [b3] at c1
 cases b4:clkB r.steps
 ·rw [bad (by unfold zai ze6; rw [b4,Bool.and_false]; rfl)]
  rw [b4] at c2
  refine zaa Tryz.func43 rfl Tryz.call43 (by rw [Tryz.ntmps43]; simp) ?_
  rw [Tryz.ntmps43,Tryz.results43]
  have F:=ai zaQ.eq_1<|ai b1<|ai b2<|h1
  repeat (first | refine st ?_ | refine cC f1 ?_ | refine cC c1 ?_ | refine cC c2 ?_)
  exact aR
 rw [b4] at c2
 have hh:ze6 r=true:=by unfold ze6; rw [hd,b3,b4]; rfl
 cases b5:zak r.active
 ·rw [bad (by unfold zai; rw [b5,Bool.and_false]; rfl)]
  rw [b5] at c3
  refine zaa Tryz.func43 rfl Tryz.call43 (by rw [Tryz.ntmps43]; simp) ?_
  rw [Tryz.ntmps43,Tryz.results43]
  have F:=ai zaQ.eq_1<|ai b1<|ai b2<|h1
  repeat (first | refine st ?_ | refine cC f1 ?_ | refine cC c1 ?_ | refine cC c2 ?_ | refine cC c3 ?_)
  exact aR
 rw [b5] at c3
 cases b6:zdy r.vars
 ·rw [bad (by unfold zai; rw [b6,Bool.and_false]; rfl)]
  rw [b6] at c4
  refine zaa Tryz.func43 rfl Tryz.call43 (by rw [Tryz.ntmps43]; simp) ?_
  rw [Tryz.ntmps43,Tryz.results43]
  have F:=ai zaQ.eq_1<|ai b1<|ai b2<|h1
  repeat (first | refine st ?_ | refine cC f1 ?_ | refine cC c1 ?_ | refine cC c2 ?_ | refine cC c3 ?_ | refine cC c4 ?_)
  exact aR
 rw [b6] at c4
 cases b7:rmsB r.mem
 ·rw [bad (by unfold zai; rw [b7,Bool.and_false]; rfl)]
  rw [b7] at c5
  refine zaa Tryz.func43 rfl Tryz.call43 (by rw [Tryz.ntmps43]; simp) ?_
  rw [Tryz.ntmps43,Tryz.results43]
  have F:=ai zaQ.eq_1<|ai b1<|ai b2<|h1
  repeat (first | refine st ?_ | refine cC f1 ?_ | refine cC c1 ?_ | refine cC c2 ?_ | refine cC c3 ?_ | refine cC c4 ?_ | refine cC c5 ?_)
  exact aR
 rw [b7] at c5
 cases b8:zaL r.timers
 ·rw [bad (by unfold zai; rw [b8,Bool.and_false])]
  rw [b8] at c6
  refine zaa Tryz.func43 rfl Tryz.call43 (by rw [Tryz.ntmps43]; simp) ?_
  rw [Tryz.ntmps43,Tryz.results43]
  have F:=ai zaQ.eq_1<|ai b1<|ai b2<|h1
  repeat (first | refine st ?_ | refine cC f1 ?_ | refine cC c1 ?_ | refine cC c2 ?_ | refine cC c3 ?_ | refine cC c4 ?_ | refine cC c5 ?_ | refine cC c6 ?_)
  exact aR
 rw [b8] at c6
 rw [show recE a1 r=nilE from by unfold recE; rw [show zai r=true from by unfold zai; rw [hh,b5,b6,b7,b8]; rfl,if_pos rfl]]
 refine zaa Tryz.func43 rfl Tryz.call43 (by rw [Tryz.ntmps43]; simp) ?_
 rw [Tryz.ntmps43,Tryz.results43]
 have F:=ai zaQ.eq_1<|ai b1<|b2
 repeat (first | refine st ?_ | refine cC c1 ?_ | refine cC c2 ?_ | refine cC c3 ?_ | refine cC c4 ?_ | refine cC c5 ?_ | refine cC c6 ?_)
 exact aR
end
section
def Turned (s s2:St):Prop:= ∀(x:Ctx) (a:Act) (w:World) (m:Mem),Sim x s a w m-> ∃m',Sim x s2 a w m'
theorem Turned.refl (s:St):Turned s s:=fun _ _ _ m h=>⟨m,h⟩
theorem Turned.trans {s s2 s3:St} (h:Turned s s2) (k:Turned s2 s3):Turned s s3:=fun x a w m hh=>by
 obtain⟨m',h2⟩:=h x a w m hh
 exact k x a w m' h2
theorem Turned.less {s s2:St} (h:Less s s2):Turned s s2:=fun _ _ _ m hh=>⟨m,hh.less h⟩
theorem Turned.ren {s:St} (r r2:Nat) (row:Row) (hne:r2≠r) (hr:s.rows r=some row) (hr2:s.rows r2=none) (hrz:row.sz≠0) (hp:row.pure=true):Turned s (zc2 s r r2 row):=fun _ _ _ _ hh=>⟨_,hh.ren r r2 row hne hr hr2 hrz hp⟩
theorem Turned.sees {s:St} (L:List (Nat×Nat×AV)) (hL:zio s L):Turned s (seenSt s L):=fun _ _ _ m hh=>by
 obtain⟨S',k⟩:=hh.sees L hL
 exact⟨_,k⟩
theorem Turned.mapSee {s:St} (r:Nat) (row:Row) (hr:s.rows r=some row) (hsz:row.sz=0) (hb:row.es.all (·.all AV.bare)=true):Turned s (znq s r (.fmap row.es)):=fun _ _ _ m hh=>by
 obtain⟨S',k⟩:=hh.mapSee r row hr hsz hb
 exact⟨_,k⟩
theorem Turned.head {s:St} {F:List (Nat×AV)} {R:List (Nat×Row)} (hF:zd2 s F) (hR:zdo s R):Turned s (Go.Proofs.YtnbjaghjdeicmaaGreatDoor.head F R s.vs s.esc):= .less (zbL hF hR)
section
variable {P:Program} {env:Env} {nt:Nat} {Q:Exit->St->Prop} {s:St}
theorem zja {c:Code} (h:awp P env nt c (fun e s1=> ∃s2,Turned s1 s2/\Q e s2) s):awp P env nt c Q s:=fun ro x he hn a w m hS=>by
 refine wpIn_mono (h ro x he hn a w m hS) ?_
 rintro e a' w' ⟨s',m',⟨s2,h1,h2⟩,h3⟩
 obtain⟨m2,h4⟩:=h1 _ _ _ _ h3
 exact⟨s2,m2,h2,h4⟩
theorem zrB {c:Code} {s2:St} (ht:Turned s s2) (h:awp P env nt c Q s2):awp P env nt c Q s:=fun ro x he hn a w m hS=>by
 obtain⟨m2,h4⟩:=ht _ _ _ _ hS
 exact h ro x he hn a w m2 h4
end
def rowsAt:Nat->List Row->List (Nat×Row)
 | _,[]=>[]
 | b,r::l=>(b,r)::rowsAt (b+1) l
theorem zfY {t:Nat} : ∀ {l:List Row} {b:Nat},zaN (rowsAt b l) t=if b<=t then l[t-b]? else none
 | [],b=>by simp [rowsAt,zaN]
 | r::l,b=>by
   simp only [rowsAt,zaN,zfY (l:=l)]
   by_cases h:t=b
   ·subst h; simp
   ·rw [if_neg h]
    by_cases h2:b<=t
    ·rw [if_pos h2,if_pos (by omega),show t-b=(t-(b+1))+1 by omega,List.getElem?_cons_succ]
    ·rw [if_neg h2,if_neg (by omega)]
theorem holdR_rowsAt {s:St} : ∀ {l:List Row} {b:Nat},(∀q r,l[q]? =some r->s.rows (q+b)=some r)->zdo s (rowsAt b l)
 | [],b,h=>trivial
 | r::l,b,h=>⟨by have:=h 0 r rfl; rwa [Nat.zero_add] at this,holdR_rowsAt fun q r' hq=>by
    have:=h (q+1) r' (by simpa using hq)
    rwa [show q+1+b=q+(b+1) by omega] at this⟩
theorem zfn {p:Nat×Row} : ∀ {l:List Row} {b:Nat},p∈rowsAt b l-> ∃q,l[q]? =some p.2/\p.1=q+b
 | [],b,h=>by simp [rowsAt] at h
 | r::l,b,h=>by
   simp only [rowsAt,List.mem_cons] at h
   rcases h with rfl | h
   ·exact⟨0,rfl,by simp⟩
   ·obtain⟨q,h1,h2⟩:=zfn h
    exact⟨q+1,by simpa using h1,by omega⟩
end
section
theorem znO (env:Env) (es:List (List AV)) (hl:es.length<=4096):Con Tryz.prog env 93 [.seq 1 es] (.own 3 1 es):=by
 cases es with
 | nil=>
   refine Con.empty fun A cap=> ?_
   cases A with
   | none=>
     refine zaK Tryz.func93 rfl Tryz.call93 (by rw [Tryz.ntmps93]; simp) ?_
     rw [Tryz.ntmps93,Tryz.results93]
     repeat refine st0 ?_
     (refine zah ?_; refine⟨_,(by show (zaG _ _ _).run _=some _; simp only [go_sem]; rfl), ?_⟩)
     exact RStr.own_nil _ _ (by decide)
   | some A=>
     refine zaa Tryz.func93 rfl Tryz.call93 (by rw [Tryz.ntmps93]; simp) ?_
     rw [Tryz.ntmps93,Tryz.results93]
     repeat refine st0 ?_
     exact aR0
 | cons d l=>
   have g1:Fits ((l.length+1)) 8:=zar (by simpa using hl) (by omega)
   refine zaa Tryz.func93 rfl Tryz.call93 (by rw [Tryz.ntmps93]; simp) ?_
   rw [Tryz.ntmps93,Tryz.results93]
   have F:=g1
   repeat refine st ?_
   exact aR
theorem zig (env:Env) (es:List (List AV)) (hl:es.length<=4096):Con Tryz.prog env 129 [.seq 2 es] (.own 197 2 es):=by
 cases es with
 | nil=>
   refine Con.empty fun A cap=> ?_
   cases A with
   | none=>
     refine zaK Tryz.func129 rfl Tryz.call129 (by rw [Tryz.ntmps129]; simp) ?_
     rw [Tryz.ntmps129,Tryz.results129]
     repeat refine st0 ?_
     (refine zah ?_; refine⟨_,(by show (zaG _ _ _).run _=some _; simp only [go_sem]; rfl), ?_⟩)
     exact RStr.own_nil _ _ (by decide)
   | some A=>
     refine zaa Tryz.func129 rfl Tryz.call129 (by rw [Tryz.ntmps129]; simp) ?_
     rw [Tryz.ntmps129,Tryz.results129]
     repeat refine st0 ?_
     exact aR0
 | cons d l=>
   have g1:Fits ((l.length+1)) 16:=zar (by simpa using hl) (by omega)
   refine zaa Tryz.func129 rfl Tryz.call129 (by rw [Tryz.ntmps129]; simp) ?_
   rw [Tryz.ntmps129,Tryz.results129]
   have F:=g1
   repeat refine st ?_
   exact aR
theorem znN (env:Env) (es:List (List AV)) (hl:es.length<=4096):Con Tryz.prog env 127 [.seq 2 es] (.own 145 2 es):=by
 cases es with
 | nil=>
   refine Con.empty fun A cap=> ?_
   cases A with
   | none=>
     refine zaK Tryz.func127 rfl Tryz.call127 (by rw [Tryz.ntmps127]; simp) ?_
     rw [Tryz.ntmps127,Tryz.results127]
     repeat refine st0 ?_
     (refine zah ?_; refine⟨_,(by show (zaG _ _ _).run _=some _; simp only [go_sem]; rfl), ?_⟩)
     exact RStr.own_nil _ _ (by decide)
   | some A=>
     refine zaa Tryz.func127 rfl Tryz.call127 (by rw [Tryz.ntmps127]; simp) ?_
     rw [Tryz.ntmps127,Tryz.results127]
     repeat refine st0 ?_
     exact aR0
 | cons d l=>
   have g1:Fits ((l.length+1)) 24:=zar (by simpa using hl) (by omega)
   refine zaa Tryz.func127 rfl Tryz.call127 (by rw [Tryz.ntmps127]; simp) ?_
   rw [Tryz.ntmps127,Tryz.results127]
   have F:=g1
   repeat refine st ?_
   exact aR
/-! Few of all -/
def few4 (l:List ActD):Prop:=l.length<=4096/\ ∀a∈l,a.code.length<=4096
structure Small (c:ChD):Prop where
 vars:c.vars.length<=4096
 sts:c.states.length<=4096
 trs:c.trans.length<=4096
 st: ∀s∈c.states,few4 s.inn/\few4 s.out
 tr: ∀t∈c.trans,t.guard.length<=4096/\few4 t.acts
theorem zky {l:List OpD} {vs ss:Int} (h:za0 l vs ss=true):l.length<=32:=by
 unfold za0 zfB at h
 split at h
 ·simp at h
 ·omega
theorem zhv {nv ns:Int} {l:List ActD} (h:zbY nv ns l=true):few4 l:=by
 unfold zbY at h
 rw [Bool.and_eq_true,decide_eq_true_eq,List.all_eq_true] at h
 refine⟨by omega,fun a ha=> ?_⟩
 have hb:=h.2 a ha
 unfold actB at hb
 by_cases e:a.code=[]
 ·rw [e]; simp
 ·have:za0 a.code nv ns=true:=by
   revert hb
   cases za0 a.code nv ns<;>simp [e]
  have:=zky this
  omega
theorem zl1 {c:ChD} (h:(chk c).1=0):Small c:=by
 have hr:=zl2 h
 unfold chk at h
 split at h
 ·simp at h
 rename_i h1
 split at h
 ·simp at h
 split at h
 ·simp at h
 split at h
 ·simp at h
 rename_i h3
 split at h
 ·simp at h
 split at h
 ·simp at h
 rename_i h5
 refine⟨by omega,by omega,by omega,fun s hs=> ?_,fun t ht=> ?_⟩
 ·obtain⟨k,hk⟩:=List.mem_iff_getElem?.1 hs
  have:=zbO h3 k (List.getElem?_eq_some_iff.1 hk).1
  unfold zgl at this
  rw [hk] at this
  simp only [zay,Bool.and_eq_true] at this
  exact⟨zhv this.1.2,zhv this.2⟩
 ·obtain⟨k,hk⟩:=List.mem_iff_getElem?.1 ht
  have:=zbO h5 k (List.getElem?_eq_some_iff.1 hk).1
  unfold zi7 at this
  rw [hk] at this
  simp only [zcM,Bool.and_eq_true,Bool.or_eq_true] at this
  refine⟨?_,zhv this.1.2⟩
  rcases this.1.1.2 with e | e
  ·have:t.guard=[]:=by simpa using e
   rw [this]; simp
  ·have:=zky e
   omega
theorem zd0 (env:Env) (l:List ActD) (hl:few4 l):Con Tryz.prog env 128 [actsAV l] (.own 224 4 (l.map zaO)):=by
 have h1:=hl.1
 refine zaa Tryz.func128 rfl Tryz.call128 (by rw [Tryz.ntmps128]; simp) ?_
 rw [Tryz.ntmps128,Tryz.results128]
 repeat refine st0 ?_
 refine zcu 3 3 224 4 ?_
 refine zac (D:=Nat) (fun j vs=>[(3, .row 3 (vs 3)),(6,actsAV l),(7,I l.length),(8,I j)]) (fun j _=>[(3,⟨4,(l.take j).map zaO,224,true⟩)]) (fun j _ esc=>j<=l.length/\esc 3=false) (fun j=>l.length-j) 0 ?_ ?_ ?_ ?_
 ·exact⟨Nat.zero_le _,rfl⟩
 ·(simp only [go_sem])
 ·(simp only [go_sem])
 rintro j ws esc ⟨hj,e0⟩
 by_cases hlt:j<l.length
 ·obtain⟨a,ha⟩: ∃a,l[j]? =some a:=⟨l[j],List.getElem?_eq_getElem hlt⟩
  have g1:=nlt hlt
  have g2:=zab hlt (by omega)
  have f0:=zig env (a.code.map opAV) (by rw [List.length_map]; exact hl.2 a (List.mem_of_getElem? ha))
  have htl:(l.take j).length=j:=by rw [List.length_take]; omega
  have hf:Fits (j+1) 56:=zar (by omega) (by omega)
  have htk:l.take (j+1)=l.take j++[a]:=by rw [List.take_add_one,ha]; rfl
  have F:=ai zaO.eq_1<|ai g1<|ai g2<|ai ha<|ai htl<|ai hf<|e0
  repeat (first | refine st ?_ | refine cC f0 ?_)
  refine⟨j+1,⟨hlt,by simp only [go_sem,e0]⟩, ?_, ?_,by omega⟩
  ·(simp only [go_sem,F])
  ·have F:=ai zaO.eq_1<|htk
   (simp only [go_sem,List.map_append,F])
 ·obtain rfl:j=l.length:=by omega
  have g1: ¬(l.length:Int)< (l.length:Int):=by omega
  have hta:l.take l.length=l:=List.take_length
  have F:=ai g1<|ai hta<|e0
  repeat refine st ?_
  exact aR
theorem zjI (env:Env) (c:ChD) (hs:Small c):Con Tryz.prog env 50 [.agg (chAV c)] (.agg (chAV c)):=by
 have hn1:=hs.sts
 have hn2:=hs.trs
 have f0:=znN env (c.vars.map zcL) (by rw [List.length_map]; exact hs.vars)
 refine zaa Tryz.func50 rfl Tryz.call50 (by rw [Tryz.ntmps50]; simp) ?_
 rw [Tryz.ntmps50,Tryz.results50]
 have F:=chAV.eq_1
 repeat (first | refine st ?_ | refine cC f0 ?_)
 refine zbH 3 9000 0 3 ⟨5,[[Sg c.name,I c.initial, .row 14 1,nilS,nilS]],26,false⟩ [Sg c.name,I c.initial, .row 14 1,nilS,nilS] 123 6 (by decide) (by decide) (Nat.succ_ne_zero 4) rfl rfl rfl (by simp only [go_sem,F]; exact iR) (by simp only [go_sem,F]; exact iR) ?_
 refine zbH 3 9001 0 4 ⟨5,[[Sg c.name,I c.initial, .row 14 1, .row 9000 1,nilS]],26,false⟩ [Sg c.name,I c.initial, .row 14 1, .row 9000 1,nilS] 65 5 (by decide) (by decide) (Nat.succ_ne_zero 4) rfl rfl rfl (by simp only [go_sem,F]; exact iR) (by simp only [go_sem,F]; exact iR) ?_
 refine zac (D:=Nat) (fun j vs=>[(1, .loc 1 (vs 1) 0 0),(2, .loc 2 (vs 2) 0 0),(3, .loc 3 (vs 3) 0 0),(17,stsAV c.states),(18,I c.states.length),(19,I j)])
  (fun j vs=>[(1,⟨5,[chAV c],26,false⟩),(2,⟨5,[[Sg [],I 0,nilS,nilS,nilS]],26,false⟩),(3,⟨5,[[Sg c.name,I c.initial, .row 14 (vs 14), .row 9000 (vs 9000), .row 9001 (vs 9001)]],26,false⟩),(14,⟨2,c.vars.map zcL,145,true⟩),(9000,⟨6,(c.states.take j).map stAV,123,true⟩),(9001,⟨5,[],65,true⟩)])
  (fun j _ esc=>j<=c.states.length/\esc 2=false/\esc 3=false/\esc 14=false/\esc 9000=false/\esc 9001=false) (fun j=>c.states.length-j) 0 ?_ ?_ ?_ ?_
 ·refine⟨Nat.zero_le _, ?_, ?_, ?_, ?_, ?_⟩<;>simp only [go_sem]
 ·(simp only [go_sem,F])
 ·have F:=chAV.eq_1
  (simp only [go_sem,F])
 rintro j ws esc ⟨hj,e0,e1,e2,e3,e4⟩
 by_cases hlt:j<c.states.length
 ·obtain⟨s,hss⟩: ∃s,c.states[j]? =some s:=⟨c.states[j],List.getElem?_eq_getElem hlt⟩
  have g1:=nlt hlt
  have g2:=zab hlt (by omega)
  have f1:=zd0 env s.inn (hs.st s (List.mem_of_getElem? hss)).1
  have f2:=zd0 env s.out (hs.st s (List.mem_of_getElem? hss)).2
  have htl:(c.states.take j).length=j:=by rw [List.length_take]; omega
  have hf:Fits (j+1) 88:=zar (by omega) (by omega)
  have htk:c.states.take (j+1)=c.states.take j++[s]:=by rw [List.take_add_one,hss]; rfl
  have F:=ai chAV.eq_1<|ai stAV.eq_1<|ai g1<|ai g2<|ai hss<|ai htl<|ai hf<|ai e0<|ai e1<|ai e2<|ai e3<|e4
  repeat (first | refine st ?_ | refine cC f1 ?_ | refine cC f2 ?_)
  refine⟨j+1,⟨hlt, ?_, ?_, ?_, ?_, ?_⟩, ?_, ?_,by omega⟩
  all_goals (first | (show _=false; simp only [go_sem,e0,e1,e2,e3,e4]; done) | skip)
  ·(simp only [go_sem,F])
  ·have F:=ai chAV.eq_1<|ai stAV.eq_1<|ai htk<|ai e0<|ai e1<|ai e2<|ai e3<|e4
   (simp only [go_sem,List.map_append,F])
 obtain rfl:j=c.states.length:=by omega
 have g1: ¬(c.states.length:Int)< (c.states.length:Int):=by omega
 have hta:c.states.take c.states.length=c.states:=List.take_length
 have F:=ai chAV.eq_1<|ai g1<|ai hta<|ai e0<|ai e1<|ai e2<|ai e3<|e4
 repeat refine st ?_
 refine zac (D:=Nat) (fun j vs=>[(1, .loc 1 (vs 1) 0 0),(2, .loc 2 (vs 2) 0 0),(3, .loc 3 (vs 3) 0 0),(39,trsAV c.trans),(40,I c.trans.length),(41,I j)])
  (fun j vs=>[(1,⟨5,[chAV c],26,false⟩),(2,⟨5,[[Sg [],I 0,nilS,nilS,nilS]],26,false⟩),(3,⟨5,[[Sg c.name,I c.initial, .row 14 (vs 14), .row 9000 (vs 9000), .row 9001 (vs 9001)]],26,false⟩),(14,⟨2,c.vars.map zcL,145,true⟩),(9000,⟨6,c.states.map stAV,123,true⟩),(9001,⟨5,(c.trans.take j).map trAV,65,true⟩)])
  (fun j _ esc=>j<=c.trans.length/\esc 2=false/\esc 3=false/\esc 14=false/\esc 9000=false/\esc 9001=false) (fun j=>c.trans.length-j) 0 ?_ ?_ ?_ ?_
 ·refine⟨Nat.zero_le _, ?_, ?_, ?_, ?_, ?_⟩<;>simp only [go_sem,e0,e1,e2,e3,e4]
 ·(simp only [go_sem,F])
 ·have F:=chAV.eq_1
  (simp only [go_sem,F])
 try clear e0 e1 e2 e3 e4
 rintro j ws esc ⟨hj,e0,e1,e2,e3,e4⟩
 by_cases hlt:j<c.trans.length
 ·obtain⟨t,hss⟩: ∃s,c.trans[j]? =some s:=⟨c.trans[j],List.getElem?_eq_getElem hlt⟩
  have g1:=nlt hlt
  have g2:=zab hlt (by omega)
  have htm:=hs.tr t (List.mem_of_getElem? hss)
  have f1:=zig env (t.guard.map opAV) (by rw [List.length_map]; exact htm.1)
  have f2:=zd0 env t.acts htm.2
  have htl:(c.trans.take j).length=j:=by rw [List.length_take]; omega
  have hf:Fits (j+1) 80:=zar (by omega) (by omega)
  have htk:c.trans.take (j+1)=c.trans.take j++[t]:=by rw [List.take_add_one,hss]; rfl
  have F:=ai chAV.eq_1<|ai trAV.eq_1<|ai g1<|ai g2<|ai hss<|ai htl<|ai hf<|ai e0<|ai e1<|ai e2<|ai e3<|e4
  repeat (first | refine st ?_ | refine cC f1 ?_ | refine cC f2 ?_)
  refine⟨j+1,⟨hlt, ?_, ?_, ?_, ?_, ?_⟩, ?_, ?_,by omega⟩
  all_goals (first | (show _=false; simp only [go_sem,e0,e1,e2,e3,e4]; done) | skip)
  ·(simp only [go_sem,F])
  ·have F:=ai chAV.eq_1<|ai trAV.eq_1<|ai htk<|ai e0<|ai e1<|ai e2<|ai e3<|e4
   (simp only [go_sem,List.map_append,F])
 obtain rfl:j=c.trans.length:=by omega
 have g1: ¬(c.trans.length:Int)< (c.trans.length:Int):=by omega
 have hta:c.trans.take c.trans.length=c.trans:=List.take_length
 have F:=ai chAV.eq_1<|ai g1<|ai hta<|ai e0<|ai e1<|ai e2<|ai e3<|e4
 repeat refine st ?_
 exact aR
end
section
def zcU (s:List UInt8):List AV:=[Sg s]
theorem zeZ (l:List (List UInt8)):za9 (l.map strC)=l.map zcU:=by
 unfold za9
 rw [List.map_map]
 rfl
def zbg (c:ChD) (j:Nat):List (List UInt8):=((c.trans.take j).map (·.event)).filter fun e=> !e.isEmpty
def evL (c:ChD):List (List UInt8):=Lib.compact (zdE (zbg c c.trans.length))
theorem znm {c:ChD} {j:Nat} {t:TrD} (h:c.trans[j]? =some t):zbg c (j+1)=if t.event.isEmpty then zbg c j else zbg c j++[t.event]:=by
 unfold zbg
 rw [List.take_add_one,h,List.map_append,List.filter_append]
 cases hb:t.event.isEmpty<;>simp [hb]
theorem zg6 (c:ChD) (j:Nat):(zbg c j).length<=j:=by
 unfold zbg
 exact Nat.le_trans (List.length_filter_le ..) (by simp; omega)
theorem znB (env:Env) (c:ChD) (hc:c.trans.length<=1000000):Con Tryz.prog env 51 [.agg (chAV c)] (.own 9 1 ((evL c).map zcU)):=by
 refine zaa Tryz.func51 rfl Tryz.call51 (by rw [Tryz.ntmps51]; simp) ?_
 rw [Tryz.ntmps51,Tryz.results51]
 have F:=chAV.eq_1
 repeat refine st ?_
 refine zcu 3 3 9 1 ?_
 refine zac (D:=Nat) (fun j vs=>[(3, .row 3 (vs 3)),(7,trsAV c.trans),(8,I c.trans.length),(9,I j)]) (fun j _=>[(3,⟨1,(zbg c j).map zcU,9,true⟩)]) (fun j _ esc=>j<=c.trans.length/\esc 3=false) (fun j=>c.trans.length-j) 0 ?_ ?_ ?_ ?_
 ·exact⟨Nat.zero_le _,rfl⟩
 ·(simp only [go_sem,F])
 ·(simp only [go_sem,F])
  rfl
 rintro j ws esc ⟨hj,e0⟩
 by_cases hlt:j<c.trans.length
 ·obtain⟨t,ht⟩: ∃t,c.trans[j]? =some t:=⟨c.trans[j],List.getElem?_eq_getElem hlt⟩
  have g1:=nlt hlt
  have g2:=zab hlt (by omega)
  have hn:=znm ht
  have hl:=zg6 c j
  have hf:Fits ((zbg c j).length+1) 16:=⟨by omega,by omega⟩
  cases hb:t.event.isEmpty with
  | true=>
    rw [hb,if_pos rfl] at hn
    have hb2:(t.event == [])=true:=by simpa using hb
    have F:=ai trAV.eq_1<|ai g1<|ai g2<|ai ht<|ai hb2<|e0
    repeat refine st ?_
    refine⟨j+1,⟨hlt,by simp only [go_sem,e0]⟩, ?_, ?_,by omega⟩
    ·(simp only [go_sem,F])
    ·have F:=hn
     (simp only [go_sem,F])
  | false=>
    rw [hb,if_neg Bool.false_ne_true] at hn
    have hb2:(t.event == [])=false:=by simpa using hb
    have F:=ai trAV.eq_1<|ai g1<|ai g2<|ai ht<|ai hb2<|ai hf<|e0
    repeat refine st ?_
    refine⟨j+1,⟨hlt,by simp only [go_sem,e0]⟩, ?_, ?_,by omega⟩
    ·(simp only [go_sem,F])
    ·have F:=ai hn<|zcU.eq_1
     (simp only [go_sem,List.map_append,F])
 ·obtain rfl:j=c.trans.length:=by omega
  have g1: ¬(c.trans.length:Int)< (c.trans.length:Int):=by omega
  have hl:=zg6 c c.trans.length
  have F:=ai g1<|e0
  repeat refine st ?_
  have f1:=zk4 (zbg c c.trans.length) (by omega)
  have hsl:(zdE (zbg c c.trans.length)).length<=9223372036854775807:=by simp [zdE]; omega
  have f2:=znI (zdE (zbg c c.trans.length)) hsl
  refine zsX 3 rfl (row:=⟨1,(zbg c c.trans.length).map zcU,9,true⟩) f1 (Nat.succ_ne_zero 0) rfl (zeZ _).symm (by simp only [go_sem,e0]; exact iR) (by simp only [go_sem,e0]; exact iR) (by simp only [go_sem,e0]; exact iR) (by simp only [go_sem,e0]; exact iR) ?_
  rw [zeZ]
  repeat refine st ?_
  refine zjc 3 rfl (row:=⟨1,(zdE (zbg c c.trans.length)).map zcU,9,true⟩) f2 (Nat.succ_ne_zero 0) rfl (zeZ _).symm (by simp only [go_sem,e0]; exact iR) (by simp only [go_sem,e0]; exact iR) (by simp only [go_sem,e0]; exact iR) (by simp only [go_sem,e0]; exact iR) iR ?_
  rw [zeZ]
  repeat refine st ?_
  (refine zah ?_; show (zaG _ _ _).run _=some _; simp only [go_sem,F])
  rfl
end
section
theorem zkF: ∀a:List UInt8,Op.bytesLess a a=false
 | []=>rfl
 | x::a=>by simp [Op.bytesLess,zkF a]
theorem zgz: ∀ {a b c:List UInt8},Op.bytesLess a b=true->Op.bytesLess b c=true->Op.bytesLess a c=true
 | _,[],_,h,_=>by simp [Op.bytesLess] at h
 | _,_::_,[],_,h=>by simp [Op.bytesLess] at h
 | [],_::_,_::_,_,_=>rfl
 | x::a,y::b,z::c,h,k=>by
   simp only [Op.bytesLess,Bool.or_eq_true,decide_eq_true_eq,Bool.and_eq_true,beq_iff_eq] at h k |-
   rcases h with h | ⟨h,h'⟩
   ·rcases k with k | ⟨k,k'⟩
    ·exact .inl (UInt8.lt_trans h k)
    ·exact .inl (k ▸ h)
   ·rcases k with k | ⟨k,k'⟩
    ·exact .inl (h ▸ k)
    ·exact .inr ⟨h.trans k,zgz h' k'⟩
theorem zgA: ∀ {a b:List UInt8},Op.bytesLess a b=false->Op.bytesLess b a=false->a=b
 | [],[],_,_=>rfl
 | [],_::_,h,_=>by simp [Op.bytesLess] at h
 | _::_,[],_,h=>by simp [Op.bytesLess] at h
 | x::a,y::b,h,k=>by
   simp only [Op.bytesLess,Bool.or_eq_false_iff,decide_eq_false_iff_not,Bool.and_eq_false_iff] at h k
   have e:x=y:=UInt8.le_antisymm (UInt8.not_lt.1 k.1) (UInt8.not_lt.1 h.1)
   subst e
   simp only [beq_self_eq_true,Bool.true_eq_false,false_or] at h k
   rw [zgA h.2 k.2]
theorem zrz {a b:List UInt8} (h:Op.bytesLess a b=true):Op.bytesLess b a=false:=by
 cases k:Op.bytesLess b a
 ·rfl
 ·have:=zgz h k
  rw [zkF] at this
  cases this
end
section
abbrev Str8:=List UInt8
abbrev SL (a b:Str8):Prop:=Op.bytesLess a b=true
/-! Texts in the order of bytes -/
theorem zte: ∀(x y:Str8),Op.bytesLess x y=decide (x<y)
 | [],[]=>by simp [Op.bytesLess]
 | _::_,[]=>by simp [Op.bytesLess]
 | [],_::_=>by simp [Op.bytesLess]
 | a::x,b::y=>by
   rw [Op.bytesLess,zte x y]
   simp only [List.cons_lt_cons_iff]
   by_cases h1:a<b<;>by_cases h2:a=b<;>by_cases h3:x<y<;>simp [h1,h2,h3]
theorem zsw (x y:Str8):decide (x<=y)= !Op.bytesLess y x:=by
 rw [zte, <-decide_not]
 rfl
theorem zlH {a b c:Str8} (h1:Op.bytesLess b a=false) (h2:Op.bytesLess c b=false):Op.bytesLess c a=false:=by
 cases k:Op.bytesLess c a
 ·rfl
 ·cases k3:Op.bytesLess a b
  ·rw [<-zgA k3 h1,k] at h2; cases h2
  ·rw [zgz k k3] at h2; cases h2
theorem zqA (l:List Str8):(zdE l).Pairwise fun a b=>Op.bytesLess b a=false:=by
 have:=List.pairwise_mergeSort (le:=fun x y:Str8=>decide (x<=y)) (fun a b c hab hbc=>by
  simp only [zsw,Bool.not_eq_true'] at*
  exact zlH hab hbc) (fun a b=>by
  simp only [zsw]
  cases k:Op.bytesLess b a
  ·simp
  ·rw [zrz k]; simp) l
 exact this.imp fun {a b} h=>by simpa [zsw] using h
theorem zkw (l:List Str8) (hs:l.Pairwise fun a b=>Op.bytesLess b a=false): ∀m,m<=l.length->(Lib.compactUpTo l.toArray m).Pairwise SL/\ ∀x,x∈Lib.compactUpTo l.toArray m↔x∈l.take m
 | 0,_=>by simp [Lib.compactUpTo]
 | m+1,hm=>by
   obtain⟨h1,h2⟩:=zkw l hs m (by omega)
   have ey:l.toArray[m]! =l[m]'(by omega):=by rw [getElem!_pos _ m (by simp; omega)]; rfl
   have et:l.take (m+1)=l.take m++[l[m]'(by omega)]:=by rw [List.take_add_one,List.getElem?_eq_getElem (by omega)]; rfl
   have hle: ∀k (hk:k<m),Op.bytesLess (l[m]'(by omega)) (l[k]'(by omega))=false:=fun k hk=>List.pairwise_iff_getElem.1 hs k m (by omega) (by omega) hk
   rw [Lib.compactUpTo_succ,ey]
   by_cases hk:Lib.keeps l.toArray m=true
   ·rw [if_pos hk]
    refine⟨List.pairwise_append.2 ⟨h1,List.pairwise_singleton ..,fun x hx y hy=> ?_⟩,fun x=>by rw [et,List.mem_append,List.mem_append,h2]⟩
    rw [List.mem_singleton.1 hy]
    rw [h2,List.mem_take_iff_getElem] at hx
    obtain⟨k,hk2,rfl⟩:=hx
    have hkm:k<m:=by omega
    show Op.bytesLess _ _=true
    cases hq:Op.bytesLess (l[k]'(by omega)) (l[m]'(by omega)) with
    | true=>rfl
    | false=>
      have e:=zgA hq (hle k hkm)
      exfalso
      unfold Lib.keeps at hk
      rw [decide_eq_true_eq] at hk
      rcases hk with hk | hk
      ·omega
      ·apply hk
       rw [ey,getElem!_pos _ (m-1) (by simp; omega)]
       show l[m]'(by omega)=l[m-1]'(by omega)
       have e1:=hle (m-1) (by omega)
       by_cases ek:k=m-1
       ·subst ek; exact e.symm
       ·have e2:=List.pairwise_iff_getElem.1 hs k (m-1) (by omega) (by omega) (by omega)
        rw [e] at e2
        exact zgA e1 e2
   ·rw [if_neg hk,List.append_nil]
    refine⟨h1,fun x=> ?_⟩
    rw [h2,et,List.mem_append,List.mem_singleton]
    refine⟨.inl,fun h=>h.elim id fun h=> ?_⟩
    unfold Lib.keeps at hk
    rw [decide_eq_true_eq,not_or,Classical.not_not,ey,getElem!_pos _ (m-1) (by simp; omega)] at hk
    rw [h,hk.2]
    exact List.mem_take_iff_getElem.2 ⟨m-1,by omega,rfl⟩
theorem zss (c:ChD):(evL c).Pairwise SL:=(zkw _ (zqA _) _ (Nat.le_refl _)).1
theorem zst (c:ChD):(evL c).length<=c.trans.length:=by
 have h1:(Lib.compact (zdE (zbg c c.trans.length))).length<=(zdE (zbg c c.trans.length)).length:=by
  unfold Lib.compact Lib.compactUpTo
  rw [List.length_map]
  exact Nat.le_trans (List.length_filter_le ..) (by simp)
 have h2:=zg6 c c.trans.length
 unfold evL
 have h3:(zdE (zbg c c.trans.length)).length=(zbg c c.trans.length).length:=by simp [zdE]
 omega
/-! Where a text stands, or would stand -/
def posL (l:List Str8) (x:Str8):Nat:=(l.filter fun y=>Op.bytesLess y x).length
def Cut (l:List Str8) (x:Str8) (p:Nat):Prop:=p<=l.length/\ ∀k y,l[k]? =some y->(Op.bytesLess y x=true↔k<p)
theorem zoL: ∀ {l:List Str8},l.Pairwise SL-> ∀x,Cut l x (posL l x)
 | [],_,x=>⟨Nat.zero_le _,fun k y h=>by simp at h⟩
 | a::l,h,x=>by
   obtain⟨h1,h2⟩:=List.pairwise_cons.1 h
   obtain⟨k1,k2⟩:=zoL h2 x
   unfold posL at*
   rw [List.filter_cons]
   by_cases ha:Op.bytesLess a x=true
   ·rw [if_pos ha,List.length_cons]
    refine⟨by simp only [List.length_cons]; omega,fun k y hk=> ?_⟩
    cases k with
    | zero=>
      obtain rfl:a=y:=by simpa using hk
      exact⟨fun _=>by omega,fun _=>ha⟩
    | succ k=>
      rw [k2 k y (by simpa using hk)]
      omega
   ·rw [if_neg ha]
    have hno: ∀y∈l,¬Op.bytesLess y x=true:=fun y hy hb=>ha (zgz (h1 y hy) hb)
    have e:(l.filter fun y=>Op.bytesLess y x)=[]:=List.filter_eq_nil_iff.2 hno
    rw [e]
    refine⟨Nat.zero_le _,fun k y hk=>⟨fun hb=> ?_,fun hk=>by simp at hk⟩⟩
    cases k with
    | zero=>
      obtain rfl:a=y:=by simpa using hk
      exact absurd hb ha
    | succ k=>exact absurd hb (hno y (List.mem_of_getElem? (by simpa using hk)))
def evI (c:ChD) (s:Str8):Int:=if (evL c)[posL (evL c) s]? =some s then(posL (evL c) s:Nat) else -1
/-! A state's transitions -/
def zcb (c:ChD) (k:Nat):Int×Int:=match c.trans[k]? with
 | some t=>(t.src,evI c t.event)
 | none=>(-1, -1)
def zeO (c:ChD) (j:Nat) (p:Int×Int):List Nat:=(List.range j).filter fun k=>zcb c k=p
def keysTo (c:ChD):Nat->List (Int×Int)
 | 0=>[]
 | j+1=>if zcb c j∈keysTo c j then keysTo c j else keysTo c j++[zcb c j]
theorem zgo (c:ChD) (j:Nat) (p:Int×Int):zeO c (j+1) p=if zcb c j=p then zeO c j p++[j] else zeO c j p:=by
 unfold zeO
 rw [List.range_succ,List.filter_append]
 by_cases h:zcb c j=p<;>simp [h]
theorem zgt {c:ChD} {p:Int×Int} : ∀ {j:Nat},p∈keysTo c j↔ ∃k,k<j/\zcb c k=p
 | 0=>by simp [keysTo]
 | j+1=>by
   unfold keysTo
   split
   ·rename_i h
    rw [zgt]
    constructor
    ·rintro⟨k,h1,h2⟩; exact⟨k,by omega,h2⟩
    ·rintro⟨k,h1,h2⟩
     by_cases e:k=j
     ·subst e; rw [<-h2]; exact zgt.1 h
     ·exact⟨k,by omega,h2⟩
   ·rw [List.mem_append,zgt,List.mem_singleton]
    constructor
    ·rintro(⟨k,h1,h2⟩ | h)
     ·exact⟨k,by omega,h2⟩
     ·exact⟨j,by omega,h.symm⟩
    ·rintro⟨k,h1,h2⟩
     by_cases e:k=j
     ·subst e; exact .inr h2.symm
     ·exact .inl ⟨k,by omega,h2⟩
theorem zfv (c:ChD): ∀j,(keysTo c j).Nodup
 | 0=> .nil
 | j+1=>by
   unfold keysTo
   split
   ·exact zfv c j
   ·rename_i h
    exact List.nodup_append.2 ⟨zfv c j,by simp,fun a ha b hb e=>h (by rw [List.mem_singleton.1 hb] at e; exact e ▸ ha)⟩
theorem zqD {c:ChD} {j:Nat} {p:Int×Int} (h:p∉keysTo c j):zeO c j p=[]:=by
 unfold zeO
 rw [List.filter_eq_nil_iff]
 intro k hk
 simp only [decide_eq_true_eq]
 exact fun e=>h (zgt.2 ⟨k,List.mem_range.1 hk,e⟩)
theorem zse (c:ChD) (j:Nat) (p:Int×Int):(zeO c j p).length<=j:=by
 unfold zeO
 exact Nat.le_trans (List.length_filter_le ..) (by simp)
def idxP (p:Int×Int):List (Int×Int)->Nat->Option Nat
 | [],_=>none
 | q::l,i=>if p=q then some i else idxP p l (i+1)
theorem zj3 {p:Int×Int} : ∀ {l:List (Int×Int)} {i n:Nat},idxP p l i=some n->i<=n/\l[n-i]? =some p
 | [],i,n,h=>by simp [idxP] at h
 | q::l,i,n,h=>by
   unfold idxP at h
   split at h
   ·rename_i e
    obtain rfl:i=n:=by simpa using h
    simp [e]
   ·obtain⟨h1,h2⟩:=zj3 h
    refine⟨by omega, ?_⟩
    rw [show n-i=(n-(i+1))+1 by omega,List.getElem?_cons_succ]
    exact h2
theorem zj4 {p:Int×Int} : ∀ {l:List (Int×Int)} {i:Nat},idxP p l i=none->p∉l
 | [],i,h=>by simp
 | q::l,i,h=>by
   unfold idxP at h
   split at h
   ·cases h
   ·rename_i e
    rw [List.mem_cons]
    exact fun hh=>hh.elim e (zj4 h)
end

end Go.Proofs.YtnbjaghjdeicmaaGreatDoor