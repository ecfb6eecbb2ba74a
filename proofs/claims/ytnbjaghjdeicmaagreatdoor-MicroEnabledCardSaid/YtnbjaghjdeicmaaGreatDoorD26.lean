/- micro.Copy: an instance in memory of the caller's. -/
import Derived.Test.YtnbjaghjdeicmaaGreatDoorD4
import Derived.LoopNIn
import Derived.Test.YtnbjaghjdeicmaaGreatDoorD24
import Derived.Test.YtnbjaghjdeicmaaGreatDoorD8
import Derived.Test.YtnbjaghjdeicmaaGreatDoorD21
import Derived.Test.YtnbjaghjdeicmaaGreatDoorD6
import Derived.Test.YtnbjaghjdeicmaaGreatDoorD10
import Derived.Test.YtnbjaghjdeicmaaGreatDoorD5
import Derived.Lib.Overlaps
import Derived.Lib.AppendZerosOnto
import Derived.Deep.RegionLaw
import Derived.Test.YtnbjaghjdeicmaaGreatDoorD23
import Derived.Test.YtnbjaghjdeicmaaGreatDoorD22
import Derived.Test.YtnbjaghjdeicmaaGreatDoorD11
import Derived.Test.YtnbjaghjdeicmaaGreatDoorD15
import Derived.Test.YtnbjaghjdeicmaaGreatDoorD9
set_option maxRecDepth 100000
set_option maxHeartbeats 16000000
set_option linter.unusedSimpArgs false
namespace Go.Proofs.YtnbjaghjdeicmaaGreatDoor
open Go.RowKit
section
def rounds (P:Program) (env:Env) (nt:Nat) (c:Code) (Q:Exit->St->Prop):Nat->St->Prop
 | 0,_=>False
 | n+1,s=>awp P env nt c (zal (rounds P env nt c Q n) Q) s
section
variable {P:Program} {env:Env} {nt:Nat} {c:Code} {Q:Exit->St->Prop} {s:St}
structure Rnd (P:Program) (env:Env) (nt:Nat) (c:Code) (Q:Exit->St->Prop) (n:Nat) (s:St):Prop where
 out:rounds P env nt c Q n s
theorem zrA {Q':Exit->St->Prop} (hQ: ∀e s,Q e s->Q' e s) (h:awp P env nt c Q s):awp P env nt c Q' s:=fun ro x he hn a w m hS=>wpIn_mono (h ro x he hn a w m hS) (by
 rintro e a' w' ⟨s',m',h1,h2⟩
 exact⟨s',m',hQ _ _ h1,h2⟩)
theorem zap {n:Nat} (h:awp P env nt c (zal (Rnd P env nt c Q n) Q) s):Rnd P env nt c Q (n+1) s:=⟨zrA (fun e s h=>by
 cases e
 case normal=>exact Rnd.out h
 all_goals exact h) h⟩
theorem zmy (n:Nat) (h:rounds P env nt c Q n s):awp P env nt (.loop c) Q s:=fun ro x he hn a w m hS=>by
 refine wpIn_loop_rounds n ?_
 induction n generalizing s a w m with
 | zero=>exact h.elim
 | succ n ih=>
   rw [roundsIn_succ]
   refine wpIn_mono (h ro x he hn a w m hS) ?_
   rintro e a' w' ⟨s',m',h1,h2⟩
   cases e with
   | normal=>exact ih h1 a' w' m' h2
   | _=>exact⟨s',m',h1,h2⟩
theorem zam (n:Nat) (h:Rnd P env nt c Q n s):awp P env nt (.loop c) Q s:=zmy n h.out
end
end
section
def wakeM:ChD:=⟨[99],0,[],[⟨[97],1, -1, -1,[],[]⟩,⟨[98],1, -1, -1,[],[]⟩],[⟨0,[120],[],[],1⟩]⟩
def zpn:List AV:=[Sg [99],I 0,nilS, .seq 6 [[Sg [97],I 1,I (-1),I (-1),nilS,nilS],[Sg [98],I 1,I (-1),I (-1),nilS,nilS]], .seq 5 [[I 0,Sg [120],nilS,nilS,I 1]]]
theorem zpF (n:List UInt8) (k p i:Int):Strs [Sg n,I k,I p,I i,nilS,nilS] (stAV ⟨n,k,p,i,[],[]⟩):= .cons (.refl _) (.cons (.refl _) (.cons (.refl _) (.cons (.refl _) (.cons (.nil 4) (.cons (.nil 4) .nil)))))
theorem zpk:Strs [.agg zpn] [.agg (chAV wakeM)]:=by
 refine .one (.agg (.cons (.refl _) (.cons (.refl _) (.cons (.nil 2) (.cons (.seqs ?_) (.cons (.seqs ?_) .nil))))))
 ·exact .cons (zpF ..) (.cons (zpF ..) .nil)
 ·exact .cons (.cons (.refl _) (.cons (.refl _) (.cons (.nil 2) (.cons (.nil 4) (.cons (.refl _) .nil))))) .nil
theorem zpl:zeA wakeM:=by simp [zeA,zkQ,zkP,wakeM,maxLen]
theorem zgC:chk wakeM=(0, -1):=by decide+kernel
theorem zgB:lgB wakeM [0]=true:=by decide+kernel
theorem zpm:ztF wakeM (-1)=[0]:=by decide+kernel
theorem zrW:evI wakeM [120]=0:=by decide+kernel
theorem zrX:tatL wakeM 0 0=[0]:=by decide+kernel
theorem znR:leaveR wakeM [0] ⟨0,[120],[],[],1⟩=[0]:=by decide+kernel
theorem zrV:upL wakeM 0=[-1]:=by decide+kernel
end
section
theorem zk8 (env:Env) (l:List Int) (p:Int->Bool) (g:FuncId) (G:Int) (te:TypeId) (hp: ∀d,Con Tryz.prog env g [I d, .ref 1 [[I G]] 0 0] (B (p d))) (hl:l.length<=4096):
 ConI Tryz.prog env 222 [1000,1001] (fun k=>k==1000) (fun vs=>[.row 1000 (vs 1000), .clo g [.loc 1001 (vs 1001) 0 0]]) (fun _=>[(1000,⟨1,l.map intAV,3,true⟩),(1001,⟨1,[[I G]],te,false⟩)]) (fun _=>[(1000,⟨1,(l.filter fun d=> !p d).map intAV,3,true⟩),(1001,⟨1,[[I G]],te,false⟩)]) (fun vs=> .row 1000 (vs 1000)):=by
 have f0:=(zg8 env l p g [[I G]] hp hl).lend rfl
 cases hi:idxQ p l with
 | none=>
   rw [hi] at f0
   obtain⟨h1,_⟩:=zhc hi
   rw [h1]
   refine⟨Tryz.call222,_,_,Tryz.func222,rfl,(by intro _; rw [Tryz.ntmps222]; simp), ?_⟩
   intro vs esc hesc
   rw [Tryz.ntmps222,Tryz.results222]
   have e0:=hesc 1000 (by simp)
   have e1:=hesc 1001 (by simp)
   have F:=ai e0<|e1
   repeat (first | refine oO rfl (by simp only [go_sem,idxJ,F]; exact⟨rfl,rfl⟩) ?_ | refine gR ?_ | refine gO ?_ | refine oZ (zas ?_) | refine oZ ?_ | refine oS ?_ | refine gT ?_ | refine gD Tryz.mixed ?_ | refine oB ?_ | refine oK ?_ | (refine oX ?_; simp only [zal,zah, ↓reduceIte,Nat.reduceEqDiff,reduceCtorEq]) | refine oY (by simp only [go_sem,idxJ,F]; exact iR) ?_ | refine oN (by simp only [go_sem,idxJ,F]; exact iR) ?_)
   refine oL rfl (f0) (by simp only [go_sem,idxJ,F]; exact iR) (by simp only [go_sem,idxJ,F]; exact⟨rfl,rfl⟩) ?_
   repeat (first | refine oO rfl (by simp only [go_sem,idxJ,F]; exact⟨rfl,rfl⟩) ?_ | refine gR ?_ | refine gO ?_ | refine oZ (zas ?_) | refine oZ ?_ | refine oS ?_ | refine gT ?_ | refine gD Tryz.mixed ?_ | refine oB ?_ | refine oK ?_ | (refine oX ?_; simp only [zal,zah, ↓reduceIte,Nat.reduceEqDiff,reduceCtorEq]) | refine oY (by simp only [go_sem,idxJ,F]; exact iR) ?_ | refine oN (by simp only [go_sem,idxJ,F]; exact iR) ?_)
   (refine zaf ?_; (try simp only [zal,zah, ↓reduceIte,Nat.reduceEqDiff,reduceCtorEq]); refine zcA ?_ ?_<;>simp only [go_sem,idxJ,F,implies_true,and_self,imp_self,false_implies,AV.tuple.injEq,exists_eq_left',ne_eq])
 | some i0=>
   rw [hi] at f0
   obtain⟨h1,h2,d0,h3,h4⟩:=zhb hi
   have g0:((i0:Int) == -1)=false:=by simp
   have g1:=zab h1 (by omega)
   refine⟨Tryz.call222,_,_,Tryz.func222,rfl,(by intro _; rw [Tryz.ntmps222]; simp), ?_⟩
   intro vs esc hesc
   rw [Tryz.ntmps222,Tryz.results222]
   have e0:=hesc 1000 (by simp)
   have e1:=hesc 1001 (by simp)
   have F:=ai e0<|ai e1<|ai g0<|g1
   repeat (first | refine oO rfl (by simp only [go_sem,idxJ,F]; exact⟨rfl,rfl⟩) ?_ | refine gR ?_ | refine gO ?_ | refine oZ (zas ?_) | refine oZ ?_ | refine oS ?_ | refine gT ?_ | refine gD Tryz.mixed ?_ | refine oB ?_ | refine oK ?_ | (refine oX ?_; simp only [zal,zah, ↓reduceIte,Nat.reduceEqDiff,reduceCtorEq]) | refine oY (by simp only [go_sem,idxJ,F]; exact iR) ?_ | refine oN (by simp only [go_sem,idxJ,F]; exact iR) ?_)
   refine oL rfl (f0) (by simp only [go_sem,idxJ,F]; exact iR) (by simp only [go_sem,idxJ,F]; exact⟨rfl,rfl⟩) ?_
   repeat (first | refine oO rfl (by simp only [go_sem,idxJ,F]; exact⟨rfl,rfl⟩) ?_ | refine gR ?_ | refine gO ?_ | refine oZ (zas ?_) | refine oZ ?_ | refine oS ?_ | refine gT ?_ | refine gD Tryz.mixed ?_ | refine oB ?_ | refine oK ?_ | (refine oX ?_; simp only [zal,zah, ↓reduceIte,Nat.reduceEqDiff,reduceCtorEq]) | refine oY (by simp only [go_sem,idxJ,F]; exact iR) ?_ | refine oN (by simp only [go_sem,idxJ,F]; exact iR) ?_)
   refine zac (D:=Nat×List Int) (fun x vs'=>[(0, .row 1000 (vs' 1000)),(1, .clo g [.loc 1001 (vs' 1001) 0 0]),(5,I (((l.take x.1).filter fun d=> !p d).length:Int)),(6,I (x.1:Int))]) (fun x vs'=>[(1000,⟨1,x.2.map intAV,3,true⟩),(1001,⟨1,[[I G]],te,false⟩)]) (fun x vs' esc'=>(x.1<=l.length/\x.2.length=l.length/\((l.take x.1).filter fun d=> !p d).length<x.1/\x.2.take ((l.take x.1).filter fun d=> !p d).length=(l.take x.1).filter (fun d=> !p d)/\x.2.drop x.1=l.drop x.1)/\vs' 1001=vs 1001/\esc' 1000=false/\esc' 1001=false) (fun x=>l.length-x.1) (i0+1,l) ?_ ?_ ?_ ?_
   ·have hq:(l.take (i0+1)).filter (fun d=> !p d)=l.take i0:=by
     rw [zdF h3,List.filter_append, <-h2]
     simp [h4]
    refine⟨⟨h1,rfl, ?_, ?_,rfl⟩,by simp only [go_sem],by simp only [go_sem,e0],by simp only [go_sem,e1]⟩
    ·rw [hq,List.length_take]; omega
    ·simp only
     rw [hq,List.length_take,Nat.min_eq_left (by omega)]
   ·have hq:((l.take (i0+1)).filter fun d=> !p d).length=i0:=by
     rw [zdF h3,List.filter_append, <-h2]
     simp [h4]
     omega
    simp only [hq]
    (simp only [go_sem,idxJ,F])
   ·(simp only [go_sem,idxJ,F])
   try clear e0 e1 g0 g1 h1 h2 h3 h4 hi
   rintro⟨j,L⟩ ws es ⟨⟨hj,hL,hc,ht,hd⟩,v1,e0,e1⟩
   simp only at hj hL hc ht hd
   generalize hcn:((l.take j).filter fun d=> !p d).length=c at*
   by_cases hlt:j<l.length
   ·obtain⟨d,hx⟩: ∃x,l[j]? =some x:=⟨l[j],List.getElem?_eq_getElem hlt⟩
    have hxL:L[j]? =some d:=by
     have:=congrArg (fun q:List Int=>q[0]?) hd
     simpa [hx] using this
    have f1:=hp d
    have g1:(j:Int)< (L.length:Int):=by omega
    have g2:=zab hlt (by omega)
    have g3:=zdF hx
    cases h1:p d
    ·rw [h1] at f1
     obtain⟨y,hy⟩: ∃x,L[c]? =some x:=⟨L[c]'(by omega),List.getElem?_eq_getElem (by omega)⟩
     have g4:(c:Int)< (L.length:Int):=by omega
     have g5:IntKind.i64.wrap ((c:Int)+1)=((c+1:Nat):Int):=zab (show c<l.length by omega) (by omega)
     have hq:((l.take (j+1)).filter fun d=> !p d)=(l.take j).filter (fun d=> !p d)++[d]:=by rw [g3,List.filter_append]; simp [h1]
     have hs:(L.map intAV).set c [I d]=(L.set c d).map intAV:=by rw [List.map_set]
     have F:=ai hxL<|ai hy<|ai e0<|ai e1<|ai g1<|ai g2<|ai g4<|ai g5<|hs
     repeat refine st ?_
     refine oL (zcu rfl (by simp only [go_sem,F]; exact iR)) (f1.lend rfl) (by simp only [go_sem,F]; exact iR) (by simp only [go_sem,F]; exact⟨rfl,rfl⟩) ?_
     repeat refine st ?_
     refine⟨(j+1,L.set c d),⟨⟨hlt,by simpa using hL, ?_, ?_, ?_⟩, ?_, ?_, ?_⟩, ?_, ?_, ?_⟩
     ·simp only [hq,List.length_append,List.length_singleton,hcn]; omega
     ·simp only [hq,List.length_append,List.length_singleton,hcn]
      rw [<-ht]
      apply List.ext_getElem?
      intro k
      rw [List.getElem?_take,List.getElem?_set]
      by_cases hk:k<c
      ·rw [if_pos (by omega),if_neg (by omega),List.getElem?_append_left (by simp; omega),List.getElem?_take,if_pos hk]
      ·by_cases hk2:k=c
       ·subst hk2
        rw [if_pos (by omega),if_pos rfl,if_pos (by omega),List.getElem?_append_right (by rw [List.length_take]; omega),List.length_take,Nat.min_eq_left (by omega)]
        simp
       ·rw [if_neg (by omega),List.getElem?_eq_none (by rw [List.length_append,List.length_take,List.length_singleton]; omega)]
     ·simp only
      rw [List.drop_set_of_lt (by omega)]
      have:=congrArg (List.drop 1) hd
      simpa [List.drop_drop] using this
     ·simp only [go_sem,v1]
     ·simp only [go_sem,e0]
     ·simp only [go_sem,e1]
     ·have hq2:((l.take (j+1)).filter fun d=> !p d).length=c+1:=by rw [hq,List.length_append,hcn]; rfl
      simp only [hq2]
      (simp only [go_sem,F])
     ·(simp only [go_sem,F])
     ·simp only; omega
    ·rw [h1] at f1
     have hq:((l.take (j+1)).filter fun d=> !p d)=(l.take j).filter (fun d=> !p d):=by rw [g3,List.filter_append]; simp [h1]
     have F:=ai hxL<|ai e0<|ai e1<|ai g1<|g2
     repeat refine st ?_
     refine oL (zcu rfl (by simp only [go_sem,F]; exact iR)) (f1.lend rfl) (by simp only [go_sem,F]; exact iR) (by simp only [go_sem,F]; exact⟨rfl,rfl⟩) ?_
     repeat refine st ?_
     refine⟨(j+1,L),⟨⟨hlt,hL, ?_, ?_, ?_⟩, ?_, ?_, ?_⟩, ?_, ?_, ?_⟩
     ·simp only [hq,hcn]; omega
     ·simp only [hq,hcn]; exact ht
     ·simp only
      have:=congrArg (List.drop 1) hd
      simpa [List.drop_drop] using this
     ·simp only [go_sem,v1]
     ·simp only [go_sem,e0]
     ·simp only [go_sem,e1]
     ·simp only [hq,hcn]
      (simp only [go_sem,F])
     ·(simp only [go_sem,F])
     ·simp only; omega
   ·have g1: ¬(j:Int)< (L.length:Int):=by omega
    have hjl:l.take j=l:=List.take_of_length_le (by omega)
    rw [hjl] at ht hcn
    have g4:(c:Int)<=(L.length:Int):=by omega
    have g5:c<=L.length:=by omega
    have g6: ∀X:List (List AV),((L.take c).map intAV++X).take c=(l.filter fun d=> !p d).map intAV:=fun X=>by
     rw [List.take_left' (by rw [List.length_map,List.length_take]; omega),ht]
    have g7:c+(L.length-c)=L.length:=by omega
    have g8:min c L.length=c:=by omega
    have F:=ai v1<|ai e0<|ai e1<|ai g1<|ai g4<|ai g5<|ai g6<|ai g7<|g8
    repeat (first | refine oO rfl (by simp only [go_sem,List.length_take,List.length_replicate,F]; exact⟨rfl,rfl⟩) ?_ | refine gR ?_ | refine gO ?_ | refine oZ (zas ?_) | refine oZ ?_ | refine oS ?_ | refine gT ?_ | refine gD Tryz.mixed ?_ | refine oB ?_ | refine oK ?_ | (refine oX ?_; simp only [zal,zah, ↓reduceIte,Nat.reduceEqDiff,reduceCtorEq]) | refine oY (by simp only [go_sem,List.length_take,List.length_replicate,F]; exact iR) ?_ | refine oN (by simp only [go_sem,List.length_take,List.length_replicate,F]; exact iR) ?_)
    (refine zaf ?_; (try simp only [zal,zah, ↓reduceIte,Nat.reduceEqDiff,reduceCtorEq]); refine zcA ?_ ?_<;>simp only [go_sem,List.length_take,List.length_replicate,F,implies_true,and_self,imp_self,false_implies,AV.tuple.injEq,exists_eq_left',ne_eq])
end
section
section
variable {P:Program} {env:Env} {s:St}
end
end
section
end
section
end
section
end
section
end
section
/-! As the document says -/
end
section
theorem Con.lendE {P:Program} {env:Env} {f:FuncId} {cs:List AV} {sz:Nat} (h:Con P env f cs (.tuple [.seq sz [],nilE])):ConF P env f cs (.tuple [.seq sz [],nilE]):=by
 refine⟨h.enter,fun w S vs hE hl hv=>(h.calls w S vs hE hl hv).mono ?_⟩
 rintro e w' ⟨v,rfl,hb,S',_,_,_,hr⟩
 refine⟨v,rfl,hb,fun _ _=>False,fun _ _ h=>h.elim, ?_⟩
 have hr:RV S' w' v (.tuple [.seq sz [],nilE]):=hr
 show RV _ w' v (.tuple [.seq sz [],nilE])
 cases hr with
 | tuple vs cs h hc=>
   refine .tuple vs _ h fun i v c hv hcc=> ?_
   match i,hcc with
   | 0,hcc=>
     cases hcc
     have h0:=hc 0 v _ hv rfl
     cases h0 with
     | seq A n cap sz es b o u hn hcap hA hz hc hr=>exact .seq A n cap _ [] b o u hn hcap hA (fun i e he=>by simp at he) (fun i j c hc=>by simp [cellAt] at hc) (fun i j c hc=>by simp [cellAt] at hc)
   | 1,hcc=>
     cases hcc
     exact(hc 1 v _ hv rfl).flat rfl
   | n+2,hcc=>simp at hcc
theorem zpb (env:Env) (a1 a8:Addr) (he:ChEnv env a1 a8) (c:ChD) (h:Full c) (hs:Small c) (act:List Int) (hl:act.length<=1000000) (k:Nat) (t:TrD) (ht:c.trans[k]? =some t) (hb:lgB c act=true) (h0: ¬t.target<0):
 ConI Tryz.prog env 139 [1001,35] (fun i=>i==35) (fun g=>[zaj c, .row 1001 (g 1001),I k]) (fun _=>[(1001,⟨1,act.map intAV,3,true⟩)]) (fun _=>[(1001,⟨1,act.map intAV,3,true⟩),(35,⟨1,(leaveR c act t).map intAV,3,true⟩)]) (fun g=> .tuple [.row 35 (g 35),nilE]):=by
 have f0:=zcf env a1 a8 he c h hs act hl
 have f1:=ziF env c hs k t ht
 have f2:=zfL env c h.toRight hs t (h.src ht).1
 have f3:=(zm5 env c h.toRight act hl (domE c t.src t.target)).lend (zic (fun _=>rfl) _)
 unfold chkE at f0
 rw [hb] at f0
 simp only [if_true] at f0
 have f0:=f0.lend rfl
 unfold leaveR
 rw [if_neg h0]
 unfold trAV at f1 f2
 unfold zaj at f0 f1 f2 f3 |-
 generalize (undR c act (domE c t.src t.target)).reverse=R at*
 refine⟨Tryz.call139,_,_,Tryz.func139,rfl,(by intro _; rw [Tryz.ntmps139]; simp), ?_⟩
 intro vs esc hesc
 rw [Tryz.ntmps139,Tryz.results139]
 have e0:=hesc 1001 (by simp)
 have F:=ai h0<|e0
 repeat refine st ?_
 refine oL rfl (f0) (by simp only [go_sem,F]; exact iR) (by simp only [go_sem,F]; exact⟨rfl,rfl⟩) ?_
 repeat (first | refine st ?_ | refine cC f1 ?_ | refine cC f2 ?_)
 refine oL rfl (f3) (by simp only [go_sem,F]; exact iR) (by simp only [go_sem,F]; exact⟨rfl,rfl⟩) ?_
 repeat refine st ?_
 (refine zaf ?_; (try simp only [zal,zah, ↓reduceIte,Nat.reduceEqDiff,reduceCtorEq]); refine zcA ?_ ?_<;>simp only [go_sem,F,implies_true,and_self,imp_self,false_implies,AV.tuple.injEq,exists_eq_left',ne_eq])
/-! A step in which nothing is done: the chart of awake -/
def wkS:List (List AV):=[[Sg [97],I 1,I (-1),I (-1), .seq 4 [], .seq 4 []],[Sg [98],I 1,I (-1),I (-1), .seq 4 [], .seq 4 []]]
def wkT:List (List AV):=[[I 0,Sg [120], .seq 2 [], .seq 4 [],I 1]]
theorem zix:chAV wakeM=[Sg [99],I 0, .seq 2 [], .seq 6 wkS, .seq 5 wkT]:=rfl
theorem zgj:Right wakeM:=ziS (by rw [zgC])
theorem zpi:wkS.length=2:=rfl
theorem zta {k:Nat} (hk:k<2): ∃nm,wkS[k]? =some [Sg nm,I 1,I (-1),I (-1), .seq 4 [], .seq 4 []]:=by
 rcases (show k=0\/k=1 by omega) with rfl | rfl
 ·exact⟨_,rfl⟩
 ·exact⟨_,rfl⟩
theorem zjG:IntKind.i64.wrap 1=1:=by decide
theorem znh:Fits 1 8:=zai (by omega) (by omega)
def RMe (g:Nat->Nat):List AV:=[.row 1001 (g 1001), .row 1002 (g 1002), .seq 2 [], .seq 2 [],B false,nilS,nilS, .ref 9 [tabCells wakeM] 0 0,Sg [99],I 0, .seq 2 [], .seq 6 wkS, .seq 5 wkT,I 0,I 0]
def RM (A:List (List AV)) (g:Nat->Nat):List (Nat×Row):=[(1000,⟨15,[RMe g],129,false⟩),(1001,⟨1,A,3,true⟩),(1002,⟨1,[],3,true⟩)]
def RMl (A L:List (List AV)) (g:Nat->Nat):List (Nat×Row):=[(1000,⟨15,[RMe g],129,false⟩),(1001,⟨1,A,3,true⟩),(1002,⟨1,[],3,true⟩),(1003,⟨1,L,3,true⟩)]
end
section
theorem zjD (env:Env) (A:List (List AV)):ConI Tryz.prog env 144 [1000,1001,1002] (fun _=>false) (fun g=>[.loc 1000 (g 1000) 0 0, .seq 4 []]) (RM A) (RM A) (fun _=>nilE):=by
 refine⟨Tryz.call144,_,_,Tryz.func144,rfl,(by intro _; rw [Tryz.ntmps144]; simp), ?_⟩
 intro vs esc hesc
 rw [Tryz.ntmps144,Tryz.results144]
 have e0:=hesc 1000 (by simp)
 have e1:=hesc 1001 (by simp)
 have e2:=hesc 1002 (by simp)
 have F:=ai e0<|ai e1<|e2
 repeat (first | refine zap ?_ | refine st ?_ | refine zam 40 ?_)
 (refine zaf ?_; (try simp only [zal,zah, ↓reduceIte,Nat.reduceEqDiff,reduceCtorEq]); refine zcA ?_ ?_<;>simp only [go_sem,RM,RMe,F,implies_true,and_self,imp_self,false_implies,AV.tuple.injEq,exists_eq_left',ne_eq])
theorem zrp (env:Env) (k:Nat) (hk:k<2):ConI Tryz.prog env 167 [1000,1001,1002,1003] (fun i=>i==1001) (fun g=>[.loc 1000 (g 1000) 0 0, .row 1003 (g 1003)]) (RMl [] [[I k]]) (RMl [[I k]] [[I k]]) (fun _=> .tuple [nilS,nilE]):=by
 obtain⟨nm,hx⟩:=zta hk
 have f0:Con Tryz.prog env 72 [.seq 1 [],I k] (B false):=zaO env [] k (by simp)
 have f1:=zjD env [[I (k:Int)]]
 have q1:(k:Int)<2:=by omega
 have q2:=zpi
 have q3:=znh
 have q4:=zjG
 have g1:=zlG [(k:Int)] (by simp)
 have hs:zhH [(k:Int)]=[(k:Int)]:=by simp [zhH]
 rw [hs] at g1
 unfold RM RMe at f1
 refine⟨Tryz.call167,_,_,Tryz.func167,rfl,(by intro _; rw [Tryz.ntmps167]; simp), ?_⟩
 intro vs esc hesc
 rw [Tryz.ntmps167,Tryz.results167]
 have e0:=hesc 1000 (by simp)
 have e1:=hesc 1001 (by simp)
 have e2:=hesc 1002 (by simp)
 have e3:=hesc 1003 (by simp)
 have F:=ai e0<|ai e1<|ai e2<|ai e3<|ai hx<|ai q1<|ai q2<|ai q3<|q4
 repeat (first | refine zap ?_ | refine st ?_ | refine zam 40 ?_)
 refine oL rfl (f0.lend rfl) (by simp only [go_sem,RMl,RMe,F]; exact iR) (by simp only [go_sem,RMl,RMe,F]; exact⟨rfl,rfl⟩) ?_
 repeat (first | refine zap ?_ | refine st ?_ | refine zam 40 ?_)
 refine znd 1001 rfl (row:=⟨1,[[I k]],3,true⟩) g1 (Nat.succ_ne_zero 0) rfl (litEs_int [(k:Int)]).symm (by simp only [go_sem,e1]; exact iR) (by simp only [go_sem,e1]; exact iR) (by simp only [go_sem,e1]; exact iR) (by simp only [go_sem,e1]; exact iR) ?_
 rw [show zaY [intC (k:Int)]=[[I k]] from litEs_int [(k:Int)]]
 repeat (first | refine zap ?_ | refine st ?_ | refine zam 40 ?_)
 refine zaV [(1000,1000),(1001,1001),(1002,1002)] rfl (f1) (by decide) (by decide) (by simp only [go_sem,RMl,RMe,F]<;>rfl) (by simp only [go_sem,RMl,RMe,F,and_self]<;>trivial) (by simp only [go_sem,RMl,RMe,F,and_self]<;>trivial) (by intro o; simp only [go_sem,RMl,RMe,F,behind,and_self]<;>trivial) (by intro o; simp only [go_sem,RMl,RMe,F]<;>rfl) (by simp only [go_sem,RMl,RMe,F,behind]; exact iR) (by simp only [go_sem,RMl,RMe,F,behind]; exact iR) ?_
 repeat (first | refine zap ?_ | refine st ?_ | refine zam 40 ?_)
 (refine zaf ?_; (try simp only [zal,zah, ↓reduceIte,Nat.reduceEqDiff,reduceCtorEq]); refine zcA ?_ ?_<;>simp only [go_sem,RMl,RMe,F,implies_true,and_self,imp_self,false_implies,AV.tuple.injEq,exists_eq_left',ne_eq])
end
section
theorem zrS:sortL wakeM []=[]:=by decide+kernel
theorem zrR:sortL wakeM [0]=[0]:=by decide+kernel
theorem zrQ:sortL wakeM [1]=[1]:=by decide+kernel
theorem zmd (env:Env) (A:List (List AV)):ConI Tryz.prog env 168 [1000,1001,1002] (fun _=>false) (fun g=>[.loc 1000 (g 1000) 0 0,nilS]) (RM A) (RM A) (fun _=>nilE):=by
 have f0:=zaL env wakeM
 have f1:Con Tryz.prog env 53 [zaq wakeM,nilS] (.own 3 1 ((sortL wakeM []).map zad)):=(zcw env wakeM zgj [] (by simp)).args (.cons (.refl _) (.cons (.nil 1) .nil))
 rw [zrS] at f1
 unfold zaj at f0
 unfold zaq at f0 f1
 refine⟨Tryz.call168,_,_,Tryz.func168,rfl,(by intro _; rw [Tryz.ntmps168]; simp), ?_⟩
 intro vs esc hesc
 rw [Tryz.ntmps168,Tryz.results168]
 have e0:=hesc 1000 (by simp)
 have e1:=hesc 1001 (by simp)
 have e2:=hesc 1002 (by simp)
 have F:=ai e0<|ai e1<|e2
 repeat (first | refine zap ?_ | refine st ?_ | refine cC f0 ?_ | refine cC f1 ?_ | refine zam 40 ?_)
 (refine zaf ?_; (try simp only [zal,zah, ↓reduceIte,Nat.reduceEqDiff,reduceCtorEq]); refine zcA ?_ ?_<;>simp only [go_sem,RM,RMe,F,implies_true,and_self,imp_self,false_implies,AV.tuple.injEq,exists_eq_left',ne_eq])
theorem zij (env:Env) (k:Nat) (hk:k<2):ConI Tryz.prog env 85 [1000,1001,1002,1003] (fun i=>i==1001) (fun g=>[.loc 1000 (g 1000) 0 0, .row 1003 (g 1003)]) (RMl [] [[I k]]) (RMl [[I k]] [[I k]]) (fun _=>nilE):=by
 have f0:=zrp env k hk
 have f1:=zmd env [[I (k:Int)]]
 unfold RM RMe at f1
 unfold RMl RMe at f0
 refine⟨Tryz.call85,_,_,Tryz.func85,rfl,(by intro _; rw [Tryz.ntmps85]; simp), ?_⟩
 intro vs esc hesc
 rw [Tryz.ntmps85,Tryz.results85]
 have e0:=hesc 1000 (by simp)
 have e1:=hesc 1001 (by simp)
 have e2:=hesc 1002 (by simp)
 have e3:=hesc 1003 (by simp)
 have F:=ai e0<|ai e1<|ai e2<|e3
 repeat (first | refine oO rfl (by simp only [go_sem,RMl,RMe,F]; exact⟨rfl,rfl⟩) ?_ | refine gR ?_ | refine gO ?_ | refine oZ (zas ?_) | refine oZ ?_ | refine oS ?_ | refine gT ?_ | refine gD Tryz.mixed ?_ | refine oB ?_ | refine oK ?_ | (refine oX ?_; simp only [zal,zah, ↓reduceIte,Nat.reduceEqDiff,reduceCtorEq]) | refine oY (by simp only [go_sem,RMl,RMe,F]; exact iR) ?_ | refine oN (by simp only [go_sem,RMl,RMe,F]; exact iR) ?_)
 refine zaV [(1000,1000),(1001,1001),(1002,1002),(1003,1003)] rfl (f0) (by decide) (by decide) (by simp only [go_sem,RMl,RMe,F]<;>rfl) (by simp only [go_sem,RMl,RMe,F,and_self]<;>trivial) (by simp only [go_sem,RMl,RMe,F,and_self]<;>trivial) (by intro o; simp only [go_sem,RMl,RMe,F,behind,and_self]<;>trivial) (by intro o; simp only [go_sem,RMl,RMe,F]<;>rfl) (by simp only [go_sem,RMl,RMe,F,behind]; exact iR) (by simp only [go_sem,RMl,RMe,F,behind]; exact iR) ?_
 repeat (first | refine oO rfl (by simp only [go_sem,RMl,RMe,F]; exact⟨rfl,rfl⟩) ?_ | refine gR ?_ | refine gO ?_ | refine oZ (zas ?_) | refine oZ ?_ | refine oS ?_ | refine gT ?_ | refine gD Tryz.mixed ?_ | refine oB ?_ | refine oK ?_ | (refine oX ?_; simp only [zal,zah, ↓reduceIte,Nat.reduceEqDiff,reduceCtorEq]) | refine oY (by simp only [go_sem,RMl,RMe,F]; exact iR) ?_ | refine oN (by simp only [go_sem,RMl,RMe,F]; exact iR) ?_)
 refine zaV [(1000,1000),(1001,1001),(1002,1002)] rfl (f1) (by decide) (by decide) (by simp only [go_sem,RMl,RMe,F]<;>rfl) (by simp only [go_sem,RMl,RMe,F,and_self]<;>trivial) (by simp only [go_sem,RMl,RMe,F,and_self]<;>trivial) (by intro o; simp only [go_sem,RMl,RMe,F,behind,and_self]<;>trivial) (by intro o; simp only [go_sem,RMl,RMe,F]<;>rfl) (by simp only [go_sem,RMl,RMe,F,behind]; exact iR) (by simp only [go_sem,RMl,RMe,F,behind]; exact iR) ?_
 repeat (first | refine oO rfl (by simp only [go_sem,RMl,RMe,F]; exact⟨rfl,rfl⟩) ?_ | refine gR ?_ | refine gO ?_ | refine oZ (zas ?_) | refine oZ ?_ | refine oS ?_ | refine gT ?_ | refine gD Tryz.mixed ?_ | refine oB ?_ | refine oK ?_ | (refine oX ?_; simp only [zal,zah, ↓reduceIte,Nat.reduceEqDiff,reduceCtorEq]) | refine oY (by simp only [go_sem,RMl,RMe,F]; exact iR) ?_ | refine oN (by simp only [go_sem,RMl,RMe,F]; exact iR) ?_)
 (refine zaf ?_; (try simp only [zal,zah, ↓reduceIte,Nat.reduceEqDiff,reduceCtorEq]); refine zcA ?_ ?_<;>simp only [go_sem,RMl,RMe,F,implies_true,and_self,imp_self,false_implies,AV.tuple.injEq,exists_eq_left',ne_eq])
end
section
theorem zoD (env:Env) (G d:Int):Con Tryz.prog env 223 [I d, .ref 1 [[I G]] 0 0] (B (d==G)):=by
 refine zaa Tryz.func223 rfl Tryz.call223 (by rw [Tryz.ntmps223]; simp) ?_
 rw [Tryz.ntmps223,Tryz.results223]
 repeat refine st0 ?_
 exact aR0
theorem zoE (env:Env):ConI Tryz.prog env 143 [1000,1001,1002,1003] (fun i=>i==1001) (fun g=>[.loc 1000 (g 1000) 0 0, .row 1003 (g 1003)]) (RMl [[I 0]] [[I 0]]) (RMl [] [[I 0]]) (fun _=>nilE):=by
 obtain⟨nm,hx⟩:=zta (show 0<2 by omega)
 have f1:=zjD env [[I 0]]
 have f2:ConI Tryz.prog env _ _ _ _ _ (fun _=>[(1000,⟨1,[],3,true⟩),(1001,⟨1,[[I 0]],3,false⟩)]) _:=zk8 env [0] (fun d=>d==0) 223 0 3 (zoD env 0) (by simp)
 have q2:=zpi
 have q4:=zjG
 have g1:=zhW [0] (by simp)
 unfold RM RMe at f1
 refine⟨Tryz.call143,_,_,Tryz.func143,rfl,(by intro _; rw [Tryz.ntmps143]; simp), ?_⟩
 intro vs esc hesc
 rw [Tryz.ntmps143,Tryz.results143]
 have e0:=hesc 1000 (by simp)
 have e1:=hesc 1001 (by simp)
 have e2:=hesc 1002 (by simp)
 have e3:=hesc 1003 (by simp)
 have F:=ai e0<|ai e1<|ai e2<|ai e3<|ai hx<|ai q2<|q4
 repeat (first | refine zap ?_ | refine st ?_ | refine zam 40 ?_)
 refine znd 1003 rfl (row:=⟨1,[[I 0]],3,true⟩) g1 (Nat.succ_ne_zero 0) rfl (litEs_int [(0:Int)]).symm (by simp only [go_sem,e3]; exact iR) (by simp only [go_sem,e3]; exact iR) (by simp only [go_sem,e3]; exact iR) (by simp only [go_sem,e3]; exact iR) ?_
 rw [show zaY (List.map intC (List.reverse [(0:Int)]))=[[I 0]] from litEs_int [(0:Int)]]
 repeat (first | refine zap ?_ | refine st ?_ | refine zam 40 ?_)
 refine zaV [(1000,1000),(1001,1001),(1002,1002)] rfl (f1) (by decide) (by decide) (by simp only [go_sem,RMl,RMe,intAV,F]<;>rfl) (by simp only [go_sem,RMl,RMe,intAV,F,and_self]<;>trivial) (by simp only [go_sem,RMl,RMe,intAV,F,and_self]<;>trivial) (by intro o; simp only [go_sem,RMl,RMe,intAV,F,behind,and_self]<;>trivial) (by intro o; simp only [go_sem,RMl,RMe,intAV,F]<;>rfl) (by simp only [go_sem,RMl,RMe,intAV,F,behind]; exact iR) (by simp only [go_sem,RMl,RMe,intAV,F,behind]; exact iR) ?_
 repeat (first | refine zap ?_ | refine st ?_ | refine zam 40 ?_)
 refine zaV [(1000,1001),(1001,6)] rfl (f2) (by decide) (by decide) (by simp only [go_sem,RMl,RMe,intAV,F]<;>rfl) (by simp only [go_sem,RMl,RMe,intAV,F,and_self]<;>trivial) (by simp only [go_sem,RMl,RMe,intAV,F,and_self]<;>trivial) (by intro o; simp only [go_sem,RMl,RMe,intAV,F,behind,and_self]<;>trivial) (by intro o; simp only [go_sem,RMl,RMe,intAV,F]<;>rfl) (by simp only [go_sem,RMl,RMe,intAV,F,behind]; exact iR) (by simp only [go_sem,RMl,RMe,intAV,F,behind]; exact iR) ?_
 repeat (first | refine zap ?_ | refine st ?_ | refine zam 40 ?_)
 (refine zaf ?_; (try simp only [zal,zah, ↓reduceIte,Nat.reduceEqDiff,reduceCtorEq]); refine zcA ?_ ?_<;>simp only [go_sem,RMl,RMe,intAV,F,implies_true,and_self,imp_self,false_implies,AV.tuple.injEq,exists_eq_left',ne_eq])
theorem zsC (env:Env):ConI Tryz.prog env 66 [1000,1001,1002] (fun _=>false) (fun g=>[.loc 1000 (g 1000) 0 0, .seq 1 [[I 0]]]) (RM [[I 0]]) (RM [[I 0]]) (fun _=>B true):=by
 have f0:Con Tryz.prog env 72 [.seq 1 [[I 0]],I 0] (B true):=zaO env [0] 0 (by simp)
 have q4:=zjG
 refine⟨Tryz.call66,_,_,Tryz.func66,rfl,(by intro _; rw [Tryz.ntmps66]; simp), ?_⟩
 intro vs esc hesc
 rw [Tryz.ntmps66,Tryz.results66]
 have e0:=hesc 1000 (by simp)
 have e1:=hesc 1001 (by simp)
 have e2:=hesc 1002 (by simp)
 have F:=ai e0<|ai e1<|ai e2<|q4
 repeat (first | refine zap ?_ | refine st ?_ | refine zam 40 ?_)
 refine oL rfl (f0.lend rfl) (by simp only [go_sem,RM,RMe,wkT,F]; exact iR) (by simp only [go_sem,RM,RMe,wkT,F]; exact⟨rfl,rfl⟩) ?_
 repeat (first | refine zap ?_ | refine st ?_ | refine zam 40 ?_)
 (refine zaf ?_; (try simp only [zal,zah, ↓reduceIte,Nat.reduceEqDiff,reduceCtorEq]); refine zcA ?_ ?_<;>simp only [go_sem,RM,RMe,wkT,F,implies_true,and_self,imp_self,false_implies,AV.tuple.injEq,exists_eq_left',ne_eq])
end
section
theorem ztz:memL wakeM 0=[]:=by decide+kernel
theorem zmo (env:Env):Con Tryz.prog env 268 [.seq 2 []] nilS:=by
 refine zaa Tryz.func268 rfl Tryz.call268 (by rw [Tryz.ntmps268]; simp) ?_
 rw [Tryz.ntmps268,Tryz.results268]
 repeat (first | refine zap ?_ | refine st0 ?_ | refine zam 40 ?_)
 exact aR0
theorem ziV (env:Env) (h:Full wakeM) (hs:Small wakeM):Con Tryz.prog env 219 [zaj wakeM, .seq 1 [[I 0]], .seq 1 [[I 0]], .seq 2 []] nilS:=by
 have f0:=zax env wakeM hs
 have f1:=zmo env
 have f2:=znW env wakeM h 0
 rw [ztz] at f2
 have q0:IntKind.i64.wrap 1=1:=by decide
 rw [show chAV wakeM=[Sg [99],I 0, .seq 2 [], .seq 6 [[Sg [97],I 1,I (-1),I (-1), .seq 4 [], .seq 4 []],[Sg [98],I 1,I (-1),I (-1), .seq 4 [], .seq 4 []]], .seq 5 [[I 0,Sg [120], .seq 2 [], .seq 4 [],I 1]]] from rfl] at f0
 unfold zaj at f0 f2 |-
 refine zaa Tryz.func219 rfl Tryz.call219 (by rw [Tryz.ntmps219]; simp) ?_
 rw [Tryz.ntmps219,Tryz.results219]
 have F:=q0
 repeat (first | refine zap ?_ | refine st ?_ | refine cC f0 ?_ | refine cC f1 ?_ | refine cC f2 ?_ | refine zam 40 ?_)
 exact aR
theorem zoZ (env:Env):Con Tryz.prog env 89 [zaj wakeM, .seq 2 []] nilE:=by
 unfold zaj
 refine zaa Tryz.func89 rfl Tryz.call89 (by rw [Tryz.ntmps89]; simp) ?_
 rw [Tryz.ntmps89,Tryz.results89]
 repeat (first | refine zap ?_ | refine st0 ?_ | refine zam 40 ?_)
 exact aR0
theorem zjF (env:Env) (a1 a8:Addr) (he:ChEnv env a1 a8) (h:Full wakeM) (hs:Small wakeM):Con Tryz.prog env 141 [zaj wakeM, .seq 1 [[I 0]], .seq 1 [[I 0]], .seq 2 []] (.tuple [.seq 2 [],nilE]):=by
 have f0:Con Tryz.prog env 88 [zaj wakeM, .seq 1 [[I 0]]] nilE:=by
  have:=zcf env a1 a8 he wakeM h hs [0] (by simp)
  unfold chkE at this
  rwa [if_pos zgB] at this
 have f1:=zoZ env
 have f2:Con Tryz.prog env 72 [.seq 1 [[I 0]],I 0] (B true):=zaO env [0] 0 (by simp)
 have f3:=ziV env h hs
 have q0:IntKind.i64.wrap 1=1:=by decide
 unfold zaj at f0 f1 f3 |-
 refine zan Tryz.func141 rfl Tryz.call141 (by rw [Tryz.ntmps141]; simp) ?_
 rw [Tryz.ntmps141,Tryz.results141]
 have F:=q0
 repeat (first | refine zap ?_ | refine st ?_ | refine cC f0 ?_ | refine cC f1 ?_ | refine cC f2 ?_ | refine cC f3 ?_ | refine zam 40 ?_)
 (refine zaf ?_; refine⟨_,(by show (zao _ _ _).run _=some _; simp only [go_sem,F]; rfl), ?_⟩)
 exact .of (.tuple (.cons (.nil 2) (.cons (.refl _) .nil))) (fun _ _ _ h=>by cases h) (fun _ _ _ h=>by cases h)
end
section
theorem ztB:leaveR wakeM [0] ⟨0,[120],[],[],1⟩=[0]:=znR
theorem zuZ:ziH wakeM ⟨0,[120],[],[],1⟩ []=[1]:=by decide+kernel
theorem zpE (env:Env) (a1 a8:Addr) (he:ChEnv env a1 a8) (h:Full wakeM) (hs:Small wakeM):ConI Tryz.prog env 68 [1000,1001,1002] (fun i=>i==1001) (fun g=>[.loc 1000 (g 1000) 0 0, .seq 1 [[I 0]]]) (RM [[I 0]]) (RM [[I 1]]) (fun _=>nilE):=by
 have f0:=zpb env a1 a8 he wakeM h hs [0] (by simp) 0 ⟨0,[120],[],[],1⟩ rfl zgB (by decide)
 rw [ztB,show ((0:Nat):Int)=0 from rfl] at f0
 have f1:=zaL env wakeM
 have f2:=zcw env wakeM zgj [0] (by simp)
 rw [zrR] at f2
 have f3:=zjF env a1 a8 he h hs
 have f4:Con Tryz.prog env 142 [zaj wakeM,I 0, .seq 2 []] (.tuple [.seq 1 [[I 1]],nilE]):=by
  have:=zpa env a1 a8 he wakeM h hs [] (by simp) (by simp) 0 ⟨0,[120],[],[],1⟩ rfl rfl
  rw [zuZ] at this
  exact this
 have f5:=zoE env
 have f6:=zjD env []
 have f7:=zcw env wakeM zgj [1] (by simp)
 rw [zrQ] at f7
 have f8:=zij env 1 (by omega)
 have q3:=znh
 have q4:=zjG
 unfold RM RMe at f6
 unfold RMl RMe at f5 f8
 unfold zaj at f0 f1 f3 f4
 unfold zaq at f1 f2 f7
 refine⟨Tryz.call68,_,_,Tryz.func68,rfl,(by intro _; rw [Tryz.ntmps68]; simp), ?_⟩
 intro vs esc hesc
 rw [Tryz.ntmps68,Tryz.results68]
 refine zrC 9001 rfl ?_
 have e0:=hesc 1000 (by simp)
 have e1:=hesc 1001 (by simp)
 have e2:=hesc 1002 (by simp)
 have F:=ai zad.eq_1<|ai e0<|ai e1<|ai e2<|ai q3<|q4
 repeat (first | refine zap ?_ | refine st ?_ | refine zam 40 ?_)
 refine zaV [(1001,1001),(35,9001)] rfl (f0) (by decide) (by decide) (by simp only [go_sem,RM,RMe,wkT,intAV,F]<;>rfl) (by simp only [go_sem,RM,RMe,wkT,intAV,F,and_self]<;>trivial) (by simp only [go_sem,RM,RMe,wkT,intAV,F,and_self]<;>trivial) (by intro o; simp only [go_sem,RM,RMe,wkT,intAV,F,behind,and_self]<;>trivial) (by intro o; simp only [go_sem,RM,RMe,wkT,intAV,F]<;>rfl) (by simp only [go_sem,RM,RMe,wkT,intAV,F,behind]; exact iR) (by simp only [go_sem,RM,RMe,wkT,intAV,F,behind]; exact iR) ?_
 repeat (first | refine zap ?_ | refine st ?_ | refine cC f1 ?_ | refine zam 40 ?_)
 refine oL rfl (f2.lend rfl) (by simp only [go_sem,RM,RMe,wkT,intAV,F]; exact iR) (by simp only [go_sem,RM,RMe,wkT,intAV,F]; exact⟨rfl,rfl⟩) ?_
 repeat (first | refine zap ?_ | refine st ?_ | refine zam 40 ?_)
 refine oL rfl (f3.lendE) (by simp only [go_sem,RM,RMe,wkT,intAV,F]; exact iR) (by simp only [go_sem,RM,RMe,wkT,intAV,F]; exact⟨rfl,rfl⟩) ?_
 repeat (first | refine zap ?_ | refine st ?_ | refine cC f4 ?_ | refine zam 40 ?_)
 refine zaV [(1000,1000),(1001,1001),(1002,1002),(1003,54)] rfl (f5) (by decide) (by decide) (by simp only [go_sem,RM,RMe,wkT,intAV,F]<;>rfl) (by simp only [go_sem,RM,RMe,wkT,intAV,F,and_self]<;>trivial) (by simp only [go_sem,RM,RMe,wkT,intAV,F,and_self]<;>trivial) (by intro o; simp only [go_sem,RM,RMe,wkT,intAV,F,behind,and_self]<;>trivial) (by intro o; simp only [go_sem,RM,RMe,wkT,intAV,F]<;>rfl) (by simp only [go_sem,RM,RMe,wkT,intAV,F,behind]; exact iR) (by simp only [go_sem,RM,RMe,wkT,intAV,F,behind]; exact iR) ?_
 repeat (first | refine zap ?_ | refine st ?_ | refine zam 40 ?_)
 refine zaV [(1000,1000),(1001,1001),(1002,1002)] rfl (f6) (by decide) (by decide) (by simp only [go_sem,RM,RMe,wkT,intAV,F]<;>rfl) (by simp only [go_sem,RM,RMe,wkT,intAV,F,and_self]<;>trivial) (by simp only [go_sem,RM,RMe,wkT,intAV,F,and_self]<;>trivial) (by intro o; simp only [go_sem,RM,RMe,wkT,intAV,F,behind,and_self]<;>trivial) (by intro o; simp only [go_sem,RM,RMe,wkT,intAV,F]<;>rfl) (by simp only [go_sem,RM,RMe,wkT,intAV,F,behind]; exact iR) (by simp only [go_sem,RM,RMe,wkT,intAV,F,behind]; exact iR) ?_
 repeat (first | refine zap ?_ | refine st ?_ | refine cC f1 ?_ | refine zam 40 ?_)
 refine oL rfl (f7.lend rfl) (by simp only [go_sem,RM,RMe,wkT,intAV,F]; exact iR) (by simp only [go_sem,RM,RMe,wkT,intAV,F]; exact⟨rfl,rfl⟩) ?_
 repeat (first | refine zap ?_ | refine st ?_ | refine zam 40 ?_)
 refine zaV [(1000,1000),(1001,1001),(1002,1002),(1003,139)] rfl (f8) (by decide) (by decide) (by simp only [go_sem,RM,RMe,wkT,intAV,F]<;>rfl) (by simp only [go_sem,RM,RMe,wkT,intAV,F,and_self]<;>trivial) (by simp only [go_sem,RM,RMe,wkT,intAV,F,and_self]<;>trivial) (by intro o; simp only [go_sem,RM,RMe,wkT,intAV,F,behind,and_self]<;>trivial) (by intro o; simp only [go_sem,RM,RMe,wkT,intAV,F]<;>rfl) (by simp only [go_sem,RM,RMe,wkT,intAV,F,behind]; exact iR) (by simp only [go_sem,RM,RMe,wkT,intAV,F,behind]; exact iR) ?_
 repeat (first | refine zap ?_ | refine st ?_ | refine zam 40 ?_)
 (refine zaf ?_; (try simp only [zal,zah, ↓reduceIte,Nat.reduceEqDiff,reduceCtorEq]); refine zcA ?_ ?_<;>simp only [go_sem,RM,RMe,wkT,intAV,F,implies_true,and_self,imp_self,false_implies,AV.tuple.injEq,exists_eq_left',ne_eq])
end
section
def wkI:List AV:=[.seq 1 [[I 0]], .seq 1 [], .seq 2 [], .seq 2 [],B false]
def wkE:List AV:=[.seq 1 [[I 0]], .seq 1 [], .seq 2 [], .seq 2 [],B false,nilS,nilS, .ref 9 [tabCells wakeM] 0 0,Sg [99],I 0, .seq 2 [], .seq 6 wkS, .seq 5 wkT,I 0,I 0]
theorem ztA:zbw wakeM ⟨0,0,0,[0],[],[],[],false⟩=true:=by decide+kernel
theorem zhX (env:Env) (a1 a8:Addr) (he:ChEnv env a1 a8) (h:Full wakeM) (hs:Small wakeM) (op:List UInt8):Con Tryz.prog env 63 [Sg op,zaj wakeM, .agg wkI,I 0] nilE:=by
 have f0:Con Tryz.prog env 36 [zaj wakeM, .agg wkI] nilE:=by
  have:=zdc env a1 a8 he wakeM h hs ⟨0,0,0,[0],[],[],[],false⟩ ⟨by simp,by simp,by simp,by simp⟩ (by simp) (by simp)
  unfold zhM at this
  rw [if_pos ztA] at this
  exact this
 have f1:Con Tryz.prog env 92 [I 0] (B true):=za2 env 0
 unfold wkI at f0 |-
 unfold zaj at f0 |-
 refine zaa Tryz.func63 rfl Tryz.call63 (by rw [Tryz.ntmps63]; simp) ?_
 rw [Tryz.ntmps63,Tryz.results63]
 repeat (first | refine st0 ?_ | refine cC0 f0 ?_ | refine cC0 f1 ?_)
 exact aR0
theorem znQ (env:Env):Con Tryz.prog env 226 [.ref 15 [wkE] 0 0] (.agg [.seq 1 [],I 0, .seq 1 (flagA 2 [0])]):=by
 have f0:Con Tryz.prog env 171 [zaj wakeM, .seq 1 [[I 0]]] (.own 4 1 (flagA 2 [0])):=zfh env wakeM (by decide) [0] (by simp)
 unfold zaj at f0
 generalize flagA 2 [0]=L at*
 unfold wkE
 refine zaa Tryz.func226 rfl Tryz.call226 (by rw [Tryz.ntmps226]; simp) ?_
 rw [Tryz.ntmps226,Tryz.results226]
 repeat (first | refine st0 ?_ | refine cC0 f0 ?_)
 exact aR0
theorem zls (env:Env) (L:List (List AV)):Con Tryz.prog env 280 [.agg [.seq 1 [],I 0, .seq 1 L]] nilE:=by
 have f1:Con Tryz.prog env 92 [I 0] (B true):=za2 env 0
 refine zaa Tryz.func280 rfl Tryz.call280 (by rw [Tryz.ntmps280]; simp) ?_
 rw [Tryz.ntmps280,Tryz.results280]
 repeat (first | refine zap ?_ | refine st0 ?_ | refine cC0 f1 ?_ | refine zam 40 ?_)
 exact aR0
theorem zpw (env:Env) (L:List (List AV)):Con Tryz.prog env 225 [.seq 2 [], .agg [.seq 1 [],I 0, .seq 1 L]] (.tuple [B true,nilE]):=by
 have f0:=zls env L
 have f1:=zgA env [118,97,108,117,101,46,84,114,117,101]
 refine zaa Tryz.func225 rfl Tryz.call225 (by rw [Tryz.ntmps225]; simp) ?_
 rw [Tryz.ntmps225,Tryz.results225]
 repeat (first | refine st0 ?_ | refine cC0 f0 ?_ | refine cC0 f1 ?_)
 exact aR0
theorem zoL (env:Env):Con Tryz.prog env 147 [.ref 15 [wkE] 0 0, .seq 1 [[I 0]]] (.tuple [I 0,nilE]):=by
 have f0:=znQ env
 have f1:=zpw env (flagA 2 [0])
 generalize flagA 2 [0]=L at*
 unfold wkE wkT at*
 refine zaa Tryz.func147 rfl Tryz.call147 (by rw [Tryz.ntmps147]; simp) ?_
 rw [Tryz.ntmps147,Tryz.results147]
 repeat (first | refine zap ?_ | refine st0 ?_ | refine cC0 f0 ?_ | refine cC0 f1 ?_ | refine zam 40 ?_)
 exact aR0
theorem ztO (env:Env):Con Tryz.prog env 148 [.ref 15 [wkE] 0 0,I 0,Sg [120]] (.own 3 1 [[I 0]]):=by
 have f0:Con Tryz.prog env 52 [zaj wakeM,Sg [120]] (I 0):=by
  have:=zfW env wakeM (by decide) [120]
  rw [zrW] at this
  exact this
 have f1:Con Tryz.prog env 229 [zaj wakeM,I 0,I 0] (.own 3 1 [[I 0]]):=by
  have:=zjO env wakeM (by decide) 0 0
  rw [zrX] at this
  exact this
 unfold zaj at f0 f1
 unfold wkE
 refine zaa Tryz.func148 rfl Tryz.call148 (by rw [Tryz.ntmps148]; simp) ?_
 rw [Tryz.ntmps148,Tryz.results148]
 repeat (first | refine st0 ?_ | refine cC0 f0 ?_ | refine cC0 f1 ?_)
 exact aR0
theorem zq0 (env:Env):Con Tryz.prog env 71 [.ref 15 [wkE] 0 0,I 0,Sg [120]] (.tuple [I 0,nilE]):=by
 have f0:=zaL env wakeM
 have f1:Con Tryz.prog env 146 [zaq wakeM,I 0] (.own 3 1 [[I (-1)]]):=by
  have:=ziE env wakeM zgj 0
  rw [zrV] at this
  exact this
 have f2:=ztO env
 have f3:=zoL env
 have q3:Fits 2 8:=zai (by omega) (by omega)
 have q5:Fits (1+1) 8:=q3
 unfold zaj at f0
 unfold zaq at f0 f1
 unfold wkE at*
 refine zaa Tryz.func71 rfl Tryz.call71 (by rw [Tryz.ntmps71]; simp) ?_
 rw [Tryz.ntmps71,Tryz.results71]
 have F:=ai q3<|q5
 repeat (first | refine zap ?_ | refine st ?_ | refine cC f0 ?_ | refine cC f1 ?_ | refine cC f2 ?_ | refine cC f3 ?_ | refine zam 40 ?_)
 exact aR
theorem zpA (env:Env):Con Tryz.prog env 73 [.ref 15 [wkE] 0 0,nilS,I 0] (.own 3 1 [[I 0]]):=by
 have q3:=znh
 unfold wkE
 refine zaa Tryz.func73 rfl Tryz.call73 (by rw [Tryz.ntmps73]; simp) ?_
 rw [Tryz.ntmps73,Tryz.results73]
 have F:=q3
 repeat (first | refine zap ?_ | refine st ?_ | refine zam 40 ?_)
 exact aR
theorem zuj:innL wakeM [0]=[0]:=by decide+kernel
theorem zlo (env:Env) (a1 a8:Addr) (he:ChEnv env a1 a8) (h:Full wakeM) (hs:Small wakeM):Con Tryz.prog env 24 [zaj wakeM, .agg wkI,Sg [120],I 0] (.tuple [.seq 1 [[I 0]],nilE]):=by
 have f0:=zhX env a1 a8 he h hs [109,105,99,114,111,46,69,110,97,98,108,101,100]
 have f1:=zax env wakeM hs
 rw [zix] at f1
 have f2:Con Tryz.prog env 70 [zaj wakeM, .seq 1 [[I 0]]] (.tuple [.seq 1 [[I 0]],nilE]):=by
  have:=zkc env a1 a8 he wakeM h hs [0] (by simp) (by decide) zgB
  rw [zuj] at this
  exact this
 have f3:=zq0 env
 have f4:Con Tryz.prog env 72 [nilS,I 0] (B false):=(show Con Tryz.prog env 72 [.seq 1 [],I 0] (B false) from zaO env [] 0 (by simp)).args (.cons (.nil 1) (.cons (.refl _) .nil))
 have f5:=zpA env
 have q3:=znh
 have q4:=zjG
 unfold wkE at f3 f5
 unfold wkI at f0 |-
 unfold zaj at f0 f1 f2 |-
 refine zaa Tryz.func24 rfl Tryz.call24 (by rw [Tryz.ntmps24]; simp) ?_
 rw [Tryz.ntmps24,Tryz.results24]
 have F:=ai q3<|q4
 repeat (first | refine zap ?_ | refine st ?_ | refine cC f0 ?_ | refine cC f1 ?_ | refine cC f2 ?_ | refine cC f3 ?_ | refine cC f4 ?_ | refine cC f5 ?_ | refine zam 40 ?_)
 exact aR
end
section
end
section
theorem zeR (env:Env) (es:List (List AV)) (hl:Fits es.length 8):Con Tryz.prog env 93 [.seq 1 es] (.own 3 1 es):=by
 cases es with
 | nil=>
   refine Con.empty fun A cap=> ?_
   cases A with
   | none=>
     refine zan Tryz.func93 rfl Tryz.call93 (by rw [Tryz.ntmps93]; simp) ?_
     rw [Tryz.ntmps93,Tryz.results93]
     repeat refine st0 ?_
     (refine zaf ?_; refine⟨_,(by show (zao _ _ _).run _=some _; simp only [go_sem]; rfl), ?_⟩)
     exact RStr.own_nil _ _ (by decide)
   | some A=>
     refine zaa Tryz.func93 rfl Tryz.call93 (by rw [Tryz.ntmps93]; simp) ?_
     rw [Tryz.ntmps93,Tryz.results93]
     repeat refine st0 ?_
     exact aR0
 | cons d l=>
   have g1:Fits (l.length+1) 8:=hl
   refine zaa Tryz.func93 rfl Tryz.call93 (by rw [Tryz.ntmps93]; simp) ?_
   rw [Tryz.ntmps93,Tryz.results93]
   have F:=g1
   repeat refine st ?_
   exact aR
theorem zmt (env:Env) (es:List (List AV)) (hl:Fits es.length 24):Con Tryz.prog env 94 [.seq 2 es] (.own 114 2 es):=by
 cases es with
 | nil=>
   refine Con.empty fun A cap=> ?_
   cases A with
   | none=>
     refine zan Tryz.func94 rfl Tryz.call94 (by rw [Tryz.ntmps94]; simp) ?_
     rw [Tryz.ntmps94,Tryz.results94]
     repeat refine st0 ?_
     (refine zaf ?_; refine⟨_,(by show (zao _ _ _).run _=some _; simp only [go_sem]; rfl), ?_⟩)
     exact RStr.own_nil _ _ (by decide)
   | some A=>
     refine zaa Tryz.func94 rfl Tryz.call94 (by rw [Tryz.ntmps94]; simp) ?_
     rw [Tryz.ntmps94,Tryz.results94]
     repeat refine st0 ?_
     exact aR0
 | cons d l=>
   have g1:Fits (l.length+1) 24:=hl
   refine zaa Tryz.func94 rfl Tryz.call94 (by rw [Tryz.ntmps94]; simp) ?_
   rw [Tryz.ntmps94,Tryz.results94]
   have F:=g1
   repeat refine st ?_
   exact aR
theorem zoC (env:Env) (x:InD) (hA:x.1.length<=4096) (hV:x.2.1.length<=4096) (hM:x.2.2.1.length<=4096) (hMs: ∀m∈x.2.2.1,Fits m.2.length 8) (hT:Fits x.2.2.2.1.length 24):
 ConI Tryz.prog env 37 [8,11] (fun i=>i==8||i==11) (fun _=>[.agg [.seq 1 (x.1.map intAV), .seq 1 (x.2.1.map intAV), .seq 2 (x.2.2.1.map mmAV), .seq 2 (x.2.2.2.1.map tmAV),B x.2.2.2.2]]) (fun _=>[]) (fun _=>[(8,⟨1,x.1.map intAV,3,true⟩),(11,⟨1,x.2.1.map intAV,3,true⟩)]) (fun g=> .agg [.row 8 (g 8), .row 11 (g 11), .seq 2 (x.2.2.1.map mmAV), .seq 2 (x.2.2.2.1.map tmAV),B x.2.2.2.2]):=by
 have f0:=zeR env (x.1.map intAV) (by rw [List.length_map]; exact zai hA (by omega))
 have f1:=zeR env (x.2.1.map intAV) (by rw [List.length_map]; exact zai hV (by omega))
 have f2:=zmt env (x.2.2.2.1.map tmAV) (by rw [List.length_map]; exact hT)
 obtain⟨A,V,M,T,O⟩:=x
 simp only at*
 refine⟨Tryz.call37,_,_,Tryz.func37,rfl,(by intro _; rw [Tryz.ntmps37]; simp), ?_⟩
 intro vs esc hesc
 rw [Tryz.ntmps37,Tryz.results37]
 have e0:=hesc 8 (by simp)
 have e1:=hesc 11 (by simp)
 have F:=ai e0<|e1
 repeat (first | refine st ?_ | refine cC f0 ?_ | refine cC f1 ?_ | refine cC f2 ?_)
 refine zaN 3 9000 0 2 ⟨5,[[.row 8 (vs 8+1), .row 11 (vs 11+1),nilS, .row 14 (vs 14+1),B O]],31,false⟩ [.row 8 (vs 8+1), .row 11 (vs 11+1),nilS, .row 14 (vs 14+1),B O] 85 2 (by decide) (by decide) (Nat.succ_ne_zero 4) rfl rfl rfl (by simp only [go_sem,F]; exact iR) (by simp only [go_sem,F]; exact iR) ?_
 refine zac (D:=Nat) (fun j vs=>[(1, .loc 1 (vs 1) 0 0),(2, .loc 2 (vs 2) 0 0),(3, .loc 3 (vs 3) 0 0),(19, .seq 2 (M.map mmAV)),(20,I M.length),(21,I j)])
  (fun j vs=>[(1,⟨5,[[.seq 1 (A.map intAV), .seq 1 (V.map intAV), .seq 2 (M.map mmAV), .seq 2 (T.map tmAV),B O]],31,false⟩),(2,⟨5,[[nilS,nilS,nilS,nilS,B false]],31,false⟩),(3,⟨5,[[.row 8 (vs 8), .row 11 (vs 11), .row 9000 (vs 9000), .row 14 (vs 14),B O]],31,false⟩),(8,⟨1,A.map intAV,3,true⟩),(11,⟨1,V.map intAV,3,true⟩),(14,⟨2,T.map tmAV,114,true⟩),(9000,⟨2,(M.take j).map mmAV,85,true⟩)])
  (fun j _ esc=>j<=M.length/\esc 2=false/\esc 3=false/\esc 8=false/\esc 11=false/\esc 9000=false) (fun j=>M.length-j) 0 ?_ ?_ ?_ ?_
 ·refine⟨Nat.zero_le _, ?_, ?_, ?_, ?_, ?_⟩<;>simp only [go_sem,e0,e1]
 ·(simp only [go_sem,F])
 ·(simp only [go_sem,F])
 try clear e0 e1
 rintro j ws esc ⟨hj,e2,e3,e0,e1,e4⟩
 by_cases hlt:j<M.length
 ·obtain⟨m,hm⟩: ∃m,M[j]? =some m:=⟨M[j],List.getElem?_eq_getElem hlt⟩
  have q1:=nlt hlt
  have q2:=zab hlt (by omega)
  have f3:=zeR env (m.2.map intAV) (by rw [List.length_map]; exact hMs m (List.mem_of_getElem? hm))
  have htl:(M.take j).length=j:=by rw [List.length_take]; omega
  have hf:Fits (j+1) 32:=zai (by omega) (by omega)
  have htk:M.take (j+1)=M.take j++[m]:=by rw [List.take_add_one,hm]; rfl
  have F:=ai mmAV.eq_1<|ai q1<|ai q2<|ai hm<|ai htl<|ai hf<|ai e0<|ai e1<|ai e2<|ai e3<|e4
  repeat (first | refine st ?_ | refine cC f3 ?_)
  refine⟨j+1,⟨hlt, ?_, ?_, ?_, ?_, ?_⟩, ?_, ?_,by omega⟩
  all_goals (first | (show _=false; simp only [go_sem,e0,e1,e2,e3,e4]; done) | skip)
  ·(simp only [go_sem,F])
  ·have F:=ai mmAV.eq_1<|ai htk<|ai e0<|ai e1<|ai e2<|ai e3<|e4
   (simp only [go_sem,List.map_append,F])
 obtain rfl:j=M.length:=by omega
 have q1: ¬(M.length:Int)< (M.length:Int):=by omega
 have hta:M.take M.length=M:=List.take_length
 have F:=ai q1<|ai hta<|ai e0<|ai e1<|ai e2<|ai e3<|e4
 repeat refine st ?_
 refine zdg [(14,⟨2,T.map tmAV,114,true⟩),(9000,⟨2,M.map mmAV,85,true⟩)] ?_ ?_
 ·(simp only [go_sem,F])
 have F:=ai e0<|ai e1<|ai e2<|ai e3<|e4
 (refine zaf ?_; (try simp only [zal,zah, ↓reduceIte,Nat.reduceEqDiff,reduceCtorEq]); refine zcA ?_ ?_<;>simp only [go_sem,seenSt,seesR,zcq,Row.see,AV.see,AV.see.seeL,Option.getD_none,List.any_cons,List.any_nil,F,implies_true,and_self,imp_self,false_implies,AV.tuple.injEq,exists_eq_left',ne_eq])
end

end Go.Proofs.YtnbjaghjdeicmaaGreatDoor