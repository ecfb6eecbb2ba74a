/- awake of layer 31. -/
import Derived.Test.YtnbjaghjdeicmaaGreatDoorK23
import Derived.Test.YtnbjaghjdeicmaaGreatDoorK10
import Derived.Test.YtnbjaghjdeicmaaGreatDoorK5
import Derived.Test.YtnbjaghjdeicmaaGreatDoorK21
import Derived.Test.YtnbjaghjdeicmaaGreatDoorK14
import Derived.Test.YtnbjaghjdeicmaaGreatDoorK7
set_option maxRecDepth 100000
set_option maxHeartbeats 8000000
set_option linter.unusedSimpArgs false
namespace Go.Proofs.YtnbjaghjdeicmaaGreatDoor
open Go.RowKit
section
theorem zsk:zl8 wakeM [0] ⟨0,[120],[],[],1⟩=[0]:=zmK
theorem ztF:zkI wakeM ⟨0,[120],[],[],1⟩ []=[1]:=by decide+kernel
theorem zs0:remL wakeM [0] [0] []=[]:=by decide+kernel
theorem zon (env:Env) (a1 a8:Addr) (he:ChEnv env a1 a8) (h:Full wakeM) (hs:Small wakeM):ConI Tryz.prog env 68 [1000,1001,1002] (fun i=>i==1001) (fun g=>[.loc 1000 (g 1000) 0 0, .seq 1 [[I 0]]]) (RM [[I 0]]) (RM [[I 1]]) (fun _=>nilE):=by
 have f0:=zn4 env a1 a8 he wakeM h hs [0] (by simp) 0 ⟨0,[120],[],[],1⟩ rfl zfX (by decide)
 rw [zsk,show ((0:Nat):Int)=0 from rfl] at f0
 have f1:=zaN env wakeM
 have f2:=zcq env wakeM zfG [0] (by simp)
 rw [zqE] at f2
 have f3:Con Tryz.prog env 141 [zaj wakeM, .seq 1 [[I 0]], .seq 1 [[I 0]], .seq 2 []] (.tuple [.seq 2 [],nilE]):=by
  have:=zky env a1 a8 he wakeM h hs [0] [0] (by simp) (by simp) [] (by simp) (by simp) zfX rfl
  unfold remE at this
  rw [if_pos (by decide),zs0] at this
  exact this
 have f4:Con Tryz.prog env 142 [zaj wakeM,I 0, .seq 2 []] (.tuple [.seq 1 [[I 1]],nilE]):=by
  have:=zn3 env a1 a8 he wakeM h hs [] (by simp) (by simp) 0 ⟨0,[120],[],[],1⟩ rfl rfl
  rw [ztF] at this
  exact this
 have f5:=znt env
 have f6:=zi2 env []
 have f7:=zcq env wakeM zfG [1] (by simp)
 rw [zqD] at f7
 have f8:=zhS env 1 (by omega)
 have q3:=zmh
 have q4:=zi4
 unfold RM RMe at f6
 unfold RMl RMe at f5 f8
 unfold zaj at f0 f1 f3 f4
 unfold zao at f1 f2 f7
 refine⟨Tryz.call68,_,_,Tryz.func68,rfl,(by intro _; rw [Tryz.ntmps68]; simp), ?_⟩
 intro vs esc hesc
 rw [Tryz.ntmps68,Tryz.results68]
 refine zqo 9001 rfl ?_
 have e0:=hesc 1000 (by simp)
 have e1:=hesc 1001 (by simp)
 have e2:=hesc 1002 (by simp)
 have F:=ai zaf.eq_1<|ai e0<|ai e1<|ai e2<|ai q3<|q4
 repeat (first | refine zaq ?_ | refine st ?_ | refine zal 40 ?_)
 refine zaF [(1001,1001),(35,9001)] rfl (f0) (by decide) (by decide) (by simp only [go_sem,RM,RMe,wkT,intAV,F]<;>rfl) (by simp only [go_sem,RM,RMe,wkT,intAV,F,and_self]<;>trivial) (by simp only [go_sem,RM,RMe,wkT,intAV,F,and_self]<;>trivial) (by intro o; simp only [go_sem,RM,RMe,wkT,intAV,F,behind,and_self]<;>trivial) (by intro o; simp only [go_sem,RM,RMe,wkT,intAV,F]<;>rfl) (by simp only [go_sem,RM,RMe,wkT,intAV,F,behind]; exact iR) (by simp only [go_sem,RM,RMe,wkT,intAV,F,behind]; exact iR) ?_
 repeat (first | refine zaq ?_ | refine st ?_ | refine cC f1 ?_ | refine zal 40 ?_)
 refine oL rfl (f2.lend rfl) (by simp only [go_sem,RM,RMe,wkT,intAV,F]; exact iR) (by simp only [go_sem,RM,RMe,wkT,intAV,F]; exact⟨rfl,rfl⟩) ?_
 repeat (first | refine zaq ?_ | refine st ?_ | refine zal 40 ?_)
 refine oL rfl (f3.lendE) (by simp only [go_sem,RM,RMe,wkT,intAV,F]; exact iR) (by simp only [go_sem,RM,RMe,wkT,intAV,F]; exact⟨rfl,rfl⟩) ?_
 repeat (first | refine zaq ?_ | refine st ?_ | refine cC f4 ?_ | refine zal 40 ?_)
 refine zaF [(1000,1000),(1001,1001),(1002,1002),(1003,54)] rfl (f5) (by decide) (by decide) (by simp only [go_sem,RM,RMe,wkT,intAV,F]<;>rfl) (by simp only [go_sem,RM,RMe,wkT,intAV,F,and_self]<;>trivial) (by simp only [go_sem,RM,RMe,wkT,intAV,F,and_self]<;>trivial) (by intro o; simp only [go_sem,RM,RMe,wkT,intAV,F,behind,and_self]<;>trivial) (by intro o; simp only [go_sem,RM,RMe,wkT,intAV,F]<;>rfl) (by simp only [go_sem,RM,RMe,wkT,intAV,F,behind]; exact iR) (by simp only [go_sem,RM,RMe,wkT,intAV,F,behind]; exact iR) ?_
 repeat (first | refine zaq ?_ | refine st ?_ | refine zal 40 ?_)
 refine zaF [(1000,1000),(1001,1001),(1002,1002)] rfl (f6) (by decide) (by decide) (by simp only [go_sem,RM,RMe,wkT,intAV,F]<;>rfl) (by simp only [go_sem,RM,RMe,wkT,intAV,F,and_self]<;>trivial) (by simp only [go_sem,RM,RMe,wkT,intAV,F,and_self]<;>trivial) (by intro o; simp only [go_sem,RM,RMe,wkT,intAV,F,behind,and_self]<;>trivial) (by intro o; simp only [go_sem,RM,RMe,wkT,intAV,F]<;>rfl) (by simp only [go_sem,RM,RMe,wkT,intAV,F,behind]; exact iR) (by simp only [go_sem,RM,RMe,wkT,intAV,F,behind]; exact iR) ?_
 repeat (first | refine zaq ?_ | refine st ?_ | refine cC f1 ?_ | refine zal 40 ?_)
 refine oL rfl (f7.lend rfl) (by simp only [go_sem,RM,RMe,wkT,intAV,F]; exact iR) (by simp only [go_sem,RM,RMe,wkT,intAV,F]; exact⟨rfl,rfl⟩) ?_
 repeat (first | refine zaq ?_ | refine st ?_ | refine zal 40 ?_)
 refine zaF [(1000,1000),(1001,1001),(1002,1002),(1003,139)] rfl (f8) (by decide) (by decide) (by simp only [go_sem,RM,RMe,wkT,intAV,F]<;>rfl) (by simp only [go_sem,RM,RMe,wkT,intAV,F,and_self]<;>trivial) (by simp only [go_sem,RM,RMe,wkT,intAV,F,and_self]<;>trivial) (by intro o; simp only [go_sem,RM,RMe,wkT,intAV,F,behind,and_self]<;>trivial) (by intro o; simp only [go_sem,RM,RMe,wkT,intAV,F]<;>rfl) (by simp only [go_sem,RM,RMe,wkT,intAV,F,behind]; exact iR) (by simp only [go_sem,RM,RMe,wkT,intAV,F,behind]; exact iR) ?_
 repeat (first | refine zaq ?_ | refine st ?_ | refine zal 40 ?_)
 (refine zae ?_; (try simp only [zam,zag, ↓reduceIte,Nat.reduceEqDiff,reduceCtorEq]); refine zb9 ?_ ?_<;>simp only [go_sem,RM,RMe,wkT,intAV,F,implies_true,and_self,imp_self,false_implies,AV.tuple.injEq,exists_eq_left',ne_eq])
end
section
def wkI:List AV:=[.seq 1 [[I 0]], .seq 1 [], .seq 2 [], .seq 2 [],B false]
def wkE:List AV:=[.seq 1 [[I 0]], .seq 1 [], .seq 2 [], .seq 2 [],B false,nilS,nilS, .ref 9 [tabCells wakeM] 0 0,Sg [99],I 0, .seq 2 [], .seq 6 wkS, .seq 5 wkT,I 0,I 0]
theorem zsj:zck wakeM ⟨0,0,0,[0],[],[],[],false⟩=true:=by decide+kernel
theorem zhv (env:Env) (a1 a8:Addr) (he:ChEnv env a1 a8) (h:Full wakeM) (hs:Small wakeM) (op:List UInt8):Con Tryz.prog env 63 [Sg op,zaj wakeM, .agg wkI,I 0] nilE:=by
 have f0:Con Tryz.prog env 36 [zaj wakeM, .agg wkI] nilE:=by
  have:=zhE env a1 a8 he wakeM h hs ⟨0,0,0,[0],[],[],[],false⟩ ⟨by simp,by simp,by simp,by simp⟩ (by simp) (by simp)
  unfold zli at this
  rw [if_pos zsj] at this
  exact this
 have f1:Con Tryz.prog env 92 [I 0] (B true):=zeq env 0
 unfold wkI at f0 |-
 unfold zaj at f0 |-
 refine zaa Tryz.func63 rfl Tryz.call63 (by rw [Tryz.ntmps63]; simp) ?_
 rw [Tryz.ntmps63,Tryz.results63]
 repeat (first | refine st0 ?_ | refine cC0 f0 ?_ | refine cC0 f1 ?_)
 exact aR0
theorem zmJ (env:Env):Con Tryz.prog env 226 [.ref 15 [wkE] 0 0] (.agg [.seq 1 [],I 0, .seq 1 (flagA 2 [0])]):=by
 have f0:Con Tryz.prog env 171 [zaj wakeM, .seq 1 [[I 0]]] (.own 4 1 (flagA 2 [0])):=zgM env wakeM (by decide) [0] (by simp)
 unfold zaj at f0
 generalize flagA 2 [0]=L at*
 unfold wkE
 refine zaa Tryz.func226 rfl Tryz.call226 (by rw [Tryz.ntmps226]; simp) ?_
 rw [Tryz.ntmps226,Tryz.results226]
 repeat (first | refine st0 ?_ | refine cC0 f0 ?_)
 exact aR0
theorem zkD (env:Env) (L:List (List AV)):Con Tryz.prog env 280 [.agg [.seq 1 [],I 0, .seq 1 L]] nilE:=by
 have f1:Con Tryz.prog env 92 [I 0] (B true):=zeq env 0
 refine zaa Tryz.func280 rfl Tryz.call280 (by rw [Tryz.ntmps280]; simp) ?_
 rw [Tryz.ntmps280,Tryz.results280]
 repeat (first | refine zaq ?_ | refine st0 ?_ | refine cC0 f1 ?_ | refine zal 40 ?_)
 exact aR0
theorem zoj (env:Env) (L:List (List AV)):Con Tryz.prog env 225 [.seq 2 [], .agg [.seq 1 [],I 0, .seq 1 L]] (.tuple [B true,nilE]):=by
 have f0:=zkD env L
 have f1:=zkB env [118,97,108,117,101,46,84,114,117,101]
 refine zaa Tryz.func225 rfl Tryz.call225 (by rw [Tryz.ntmps225]; simp) ?_
 rw [Tryz.ntmps225,Tryz.results225]
 repeat (first | refine st0 ?_ | refine cC0 f0 ?_ | refine cC0 f1 ?_)
 exact aR0
theorem znB (env:Env):Con Tryz.prog env 147 [.ref 15 [wkE] 0 0, .seq 1 [[I 0]]] (.tuple [I 0,nilE]):=by
 have f0:=zmJ env
 have f1:=zoj env (flagA 2 [0])
 generalize flagA 2 [0]=L at*
 unfold wkE wkT at*
 refine zaa Tryz.func147 rfl Tryz.call147 (by rw [Tryz.ntmps147]; simp) ?_
 rw [Tryz.ntmps147,Tryz.results147]
 repeat (first | refine zaq ?_ | refine st0 ?_ | refine cC0 f0 ?_ | refine cC0 f1 ?_ | refine zal 40 ?_)
 exact aR0
theorem zsv (env:Env):Con Tryz.prog env 148 [.ref 15 [wkE] 0 0,I 0,Sg [120]] (.own 3 1 [[I 0]]):=by
 have f0:Con Tryz.prog env 52 [zaj wakeM,Sg [120]] (I 0):=by
  have:=zi9 env wakeM (by decide) [120]
  rw [zqK] at this
  exact this
 have f1:Con Tryz.prog env 229 [zaj wakeM,I 0,I 0] (.own 3 1 [[I 0]]):=by
  have:=zom env wakeM (by decide) 0 0
  rw [zqL] at this
  exact this
 unfold zaj at f0 f1
 unfold wkE
 refine zaa Tryz.func148 rfl Tryz.call148 (by rw [Tryz.ntmps148]; simp) ?_
 rw [Tryz.ntmps148,Tryz.results148]
 repeat (first | refine st0 ?_ | refine cC0 f0 ?_ | refine cC0 f1 ?_)
 exact aR0
theorem zpH (env:Env):Con Tryz.prog env 71 [.ref 15 [wkE] 0 0,I 0,Sg [120]] (.tuple [I 0,nilE]):=by
 have f0:=zaN env wakeM
 have f1:Con Tryz.prog env 146 [zao wakeM,I 0] (.own 3 1 [[I (-1)]]):=by
  have:=zkF env wakeM zfG 0
  rw [zqJ] at this
  exact this
 have f2:=zsv env
 have f3:=znB env
 have q3:Fits 2 8:=zah (by omega) (by omega)
 have q5:Fits (1+1) 8:=q3
 unfold zaj at f0
 unfold zao at f0 f1
 unfold wkE at*
 refine zaa Tryz.func71 rfl Tryz.call71 (by rw [Tryz.ntmps71]; simp) ?_
 rw [Tryz.ntmps71,Tryz.results71]
 have F:=ai q3<|q5
 repeat (first | refine zaq ?_ | refine st ?_ | refine cC f0 ?_ | refine cC f1 ?_ | refine cC f2 ?_ | refine cC f3 ?_ | refine zal 40 ?_)
 exact aR
theorem zol (env:Env):Con Tryz.prog env 73 [.ref 15 [wkE] 0 0,nilS,I 0] (.own 3 1 [[I 0]]):=by
 have q3:=zmh
 unfold wkE
 refine zaa Tryz.func73 rfl Tryz.call73 (by rw [Tryz.ntmps73]; simp) ?_
 rw [Tryz.ntmps73,Tryz.results73]
 have F:=q3
 repeat (first | refine zaq ?_ | refine st ?_ | refine zal 40 ?_)
 exact aR
theorem zs1:innL wakeM [0]=[0]:=by decide+kernel
theorem zkA (env:Env) (a1 a8:Addr) (he:ChEnv env a1 a8) (h:Full wakeM) (hs:Small wakeM):Con Tryz.prog env 24 [zaj wakeM, .agg wkI,Sg [120],I 0] (.tuple [.seq 1 [[I 0]],nilE]):=by
 have f0:=zhv env a1 a8 he h hs [109,105,99,114,111,46,69,110,97,98,108,101,100]
 have f1:=zaA env wakeM hs
 rw [zh5] at f1
 have f2:Con Tryz.prog env 70 [zaj wakeM, .seq 1 [[I 0]]] (.tuple [.seq 1 [[I 0]],nilE]):=by
  have:=zoR env a1 a8 he wakeM h hs [0] (by simp) (by decide) zfX
  rw [zs1] at this
  exact this
 have f3:=zpH env
 have f4:Con Tryz.prog env 72 [nilS,I 0] (B false):=(show Con Tryz.prog env 72 [.seq 1 [],I 0] (B false) from zaM env [] 0 (by simp)).args (.cons (.nil 1) (.cons (.refl _) .nil))
 have f5:=zol env
 have q3:=zmh
 have q4:=zi4
 unfold wkE at f3 f5
 unfold wkI at f0 |-
 unfold zaj at f0 f1 f2 |-
 refine zaa Tryz.func24 rfl Tryz.call24 (by rw [Tryz.ntmps24]; simp) ?_
 rw [Tryz.ntmps24,Tryz.results24]
 have F:=ai q3<|q4
 repeat (first | refine zaq ?_ | refine st ?_ | refine cC f0 ?_ | refine cC f1 ?_ | refine cC f2 ?_ | refine cC f3 ?_ | refine cC f4 ?_ | refine cC f5 ?_ | refine zal 40 ?_)
 exact aR
end
section
theorem zf0 {α:Type} [BEq α] [LawfulBEq α] {a b:List α} (h: ¬a.length=b.length):(a==b)=false:=beq_eq_false_iff_ne.2 fun e=>h (by rw [e])
theorem zho {α:Type} [BEq α] [LawfulBEq α] {a b:List α} {i:Nat} {x y:α} (hx:a[i]? =some x) (hy:b[i]? =some y) (h:x≠y):(a==b)=false:=beq_eq_false_iff_ne.2 fun e=>h (by
 rw [e,hy] at hx
 exact(Option.some.inj hx).symm)
theorem zjf {α:Type} [BEq α] [LawfulBEq α] {a b:List α} {i:Nat} (h:a.take i=b.take i) (ha:a.length<=i) (hb:b.length<=i):(a==b)=true:=beq_iff_eq.2 (by rwa [List.take_of_length_le ha,List.take_of_length_le hb] at h)
theorem ze7 (env:Env) (a b:List Int) (hn:a.length<=9223372036854775807):Con Tryz.prog env 97 [ints34 a,ints34 b] (B (a==b)):=by
 refine zaa Tryz.func97 rfl Tryz.call97 (by rw [Tryz.ntmps97]; simp) ?_
 rw [Tryz.ntmps97,Tryz.results97]
 by_cases hl:a.length=b.length
 case neg=>
  have k0:=ibne hl
  rw [zmN hl]
  have F:=ai k0<|bneA
  repeat refine st ?_
  exact aR
 have k0:((a.length:Int)==(b.length:Int))=true:=by rw [hl]; simp
 have F:=ai k0<|bneA
 repeat refine st ?_
 refine zac (D:=Nat) (fun i _=>[(0,ints34 a),(1,ints34 b),(12,I a.length),(13,I i)]) (fun _ _=>[]) (fun i _ _=>i<=a.length/\a.take i=b.take i) (fun i=>a.length-i) 0 ?_ ?_ ?_ ?_
 ·exact⟨Nat.zero_le _,rfl⟩
 ·(simp only [go_sem,F])
 ·(simp only [go_sem,F])
 rintro i ws esc ⟨hi,ht⟩
 by_cases hlt:i<a.length
 ·obtain⟨x,hx,_⟩:=zan hlt
  obtain⟨y,hy,_⟩:=zan (show i<b.length by omega)
  have k1:=nlt hlt
  have k3:=nlt (show i<b.length by omega)
  have k2:=zab hlt hn
  cases e:(x==y)
  ·rw [zf1 hx hy (by simpa using e)]
   have F:=ai k1<|ai k2<|ai k3<|ai hx<|ai hy<|ai e<|bneA
   repeat (first | refine oO rfl (by simp only [go_sem,intAV,F]; exact⟨rfl,rfl⟩) ?_ | refine gR ?_ | refine gO ?_ | refine oZ (zau ?_) | refine oZ ?_ | refine oS ?_ | refine gT ?_ | refine gD Tryz.mixed ?_ | refine oB ?_ | refine oK ?_ | (refine oX ?_; simp only [zam,zag, ↓reduceIte,Nat.reduceEqDiff,reduceCtorEq]) | refine oY (by simp only [go_sem,intAV,F]; exact iR) ?_ | refine oN (by simp only [go_sem,intAV,F]; exact iR) ?_)
   (refine zae ?_; show (zar _ _ _).run _=some _; simp only [go_sem,intAV,F])
  ·have F:=ai k1<|ai k2<|ai k3<|ai hx<|ai hy<|ai e<|bneA
   repeat (first | refine oO rfl (by simp only [go_sem,intAV,F]; exact⟨rfl,rfl⟩) ?_ | refine gR ?_ | refine gO ?_ | refine oZ (zau ?_) | refine oZ ?_ | refine oS ?_ | refine gT ?_ | refine gD Tryz.mixed ?_ | refine oB ?_ | refine oK ?_ | (refine oX ?_; simp only [zam,zag, ↓reduceIte,Nat.reduceEqDiff,reduceCtorEq]) | refine oY (by simp only [go_sem,intAV,F]; exact iR) ?_ | refine oN (by simp only [go_sem,intAV,F]; exact iR) ?_)
   refine⟨i+1,⟨hlt,take_same ht hx hy (by simpa using e)⟩, ?_, ?_,by omega⟩
   ·(simp only [go_sem,intAV,F])
   ·(simp only [go_sem,intAV,F])
 have k1: ¬(i:Int)< (a.length:Int):=by omega
 rw [zin ht (by omega) (by omega)]
 have F:=k1
 repeat refine st ?_
 exact aR
theorem zpY (env:Env) (a b:List (List UInt8×Int)) (hn:a.length<=9223372036854775807):Con Tryz.prog env 98 [.seq 2 (a.map tmAV), .seq 2 (b.map tmAV)] (B (a==b)):=by
 refine zaa Tryz.func98 rfl Tryz.call98 (by rw [Tryz.ntmps98]; simp) ?_
 rw [Tryz.ntmps98,Tryz.results98]
 by_cases hl:a.length=b.length
 case neg=>
  have k0:=ibne hl
  rw [zf0 hl]
  have F:=ai k0<|bneA
  repeat refine st ?_
  exact aR
 have k0:((a.length:Int)==(b.length:Int))=true:=by rw [hl]; simp
 have F:=ai k0<|bneA
 repeat refine st ?_
 refine zac (D:=Nat) (fun i _=>[(0, .seq 2 (a.map tmAV)),(1, .seq 2 (b.map tmAV)),(12,I a.length),(13,I i)]) (fun _ _=>[]) (fun i _ _=>i<=a.length/\a.take i=b.take i) (fun i=>a.length-i) 0 ?_ ?_ ?_ ?_
 ·exact⟨Nat.zero_le _,rfl⟩
 ·(simp only [go_sem,F])
 ·(simp only [go_sem,F])
 rintro i ws esc ⟨hi,ht⟩
 by_cases hlt:i<a.length
 ·obtain⟨x,hx,_⟩:=zan hlt
  obtain⟨y,hy,_⟩:=zan (show i<b.length by omega)
  have k1:=nlt hlt
  have k3:=nlt (show i<b.length by omega)
  have k2:=zab hlt hn
  have e0:(x==y)=(x.1==y.1&&x.2==y.2):=rfl
  cases e:(x==y)
  ·rw [zho hx hy (by simpa using e)]
   rw [e] at e0
   have e2:=e0.symm
   have F:=ai k1<|ai k2<|ai k3<|ai hx<|ai hy<|ai tmAV.eq_1<|ai e2<|bneA
   repeat refine st ?_
   exact aR
  ·have e2:(x.1==y.1&&x.2==y.2)=true:=by rw [<-e0,e]
   have F:=ai k1<|ai k2<|ai k3<|ai hx<|ai hy<|ai tmAV.eq_1<|ai e2<|bneA
   repeat refine st ?_
   refine⟨i+1,⟨hlt,take_same ht hx hy (by simpa using e)⟩, ?_, ?_,by omega⟩
   ·(simp only [go_sem,F])
   ·(simp only [go_sem,F])
 have k1: ¬(i:Int)< (a.length:Int):=by omega
 rw [zjf ht (by omega) (by omega)]
 have F:=k1
 repeat refine st ?_
 exact aR
theorem zp4 (env:Env) (g:Nat) (a b:List MemD) (hn:a.length<=9223372036854775807) (hg: ∀x∈a,∀y∈b,Con Tryz.prog env g [.agg (mmAV x), .agg (mmAV y)] (B (x==y))):Con Tryz.prog env 95 [.seq 2 (a.map mmAV), .seq 2 (b.map mmAV),fnV g] (B (a==b)):=by
 refine zaa Tryz.func95 rfl Tryz.call95 (by rw [Tryz.ntmps95]; simp) ?_
 rw [Tryz.ntmps95,Tryz.results95]
 by_cases hl:a.length=b.length
 case neg=>
  have k0:=ibne hl
  rw [zf0 hl]
  have F:=ai k0<|bneA
  repeat refine st ?_
  exact aR
 have k0:((a.length:Int)==(b.length:Int))=true:=by rw [hl]; simp
 have F:=ai k0<|bneA
 repeat refine st ?_
 refine zac (D:=Nat) (fun i _=>[(1, .seq 2 (b.map mmAV)),(2,fnV g),(15, .seq 2 (a.map mmAV)),(16,I a.length),(17,I i)]) (fun _ _=>[]) (fun i _ _=>i<=a.length/\a.take i=b.take i) (fun i=>a.length-i) 0 ?_ ?_ ?_ ?_
 ·exact⟨Nat.zero_le _,rfl⟩
 ·(simp only [go_sem,F])
 ·(simp only [go_sem,F])
 rintro i ws esc ⟨hi,ht⟩
 by_cases hlt:i<a.length
 ·obtain⟨x,hx,hxm⟩:=zan hlt
  obtain⟨y,hy,hym⟩:=zan (show i<b.length by omega)
  have hc:=hg x hxm y hym
  unfold mmAV at hc
  have k1:=nlt hlt
  have k3:=nlt (show i<b.length by omega)
  have k2:=zab hlt hn
  cases e:(x==y)
  ·rw [zho hx hy (by simpa using e)]
   rw [e] at hc
   have F:=ai k1<|ai k2<|ai k3<|ai hx<|ai hy<|mmAV.eq_1
   repeat refine st ?_
   refine oC (zcn rfl (by simp only [go_sem,F]; exact iR)) (hc) (by simp only [go_sem,F]; exact iR) (by simp only [go_sem,F]; exact⟨rfl,rfl⟩) ?_
   repeat refine st ?_
   exact aR
  ·rw [e] at hc
   have F:=ai k1<|ai k2<|ai k3<|ai hx<|ai hy<|mmAV.eq_1
   repeat refine st ?_
   refine oC (zcn rfl (by simp only [go_sem,F]; exact iR)) (hc) (by simp only [go_sem,F]; exact iR) (by simp only [go_sem,F]; exact⟨rfl,rfl⟩) ?_
   repeat refine st ?_
   refine⟨i+1,⟨hlt,take_same ht hx hy (by simpa using e)⟩, ?_, ?_,by omega⟩
   ·(simp only [go_sem,F])
   ·(simp only [go_sem,F])
 have k1: ¬(i:Int)< (a.length:Int):=by omega
 rw [zjf ht (by omega) (by omega)]
 have F:=k1
 repeat refine st ?_
 exact aR
theorem zkU (env:Env) (x y:MemD) (hn:x.2.length<=9223372036854775807):Con Tryz.prog env 96 [.agg (mmAV x), .agg (mmAV y)] (B (x==y)):=by
 have hc:=ze7 env x.2 y.2 hn
 rw [show (x==y)=(x.1==y.1&&x.2==y.2) from rfl]
 cases e:(x.1==y.1)
 ·refine zaa Tryz.func96 rfl Tryz.call96 (by rw [Tryz.ntmps96]; simp) ?_
  rw [Tryz.ntmps96,Tryz.results96]
  have F:=ai mmAV.eq_1<|e
  repeat (first | refine st ?_ | refine cC hc ?_)
  exact aR
 ·refine zaa Tryz.func96 rfl Tryz.call96 (by rw [Tryz.ntmps96]; simp) ?_
  rw [Tryz.ntmps96,Tryz.results96]
  have F:=ai mmAV.eq_1<|e
  repeat (first | refine st ?_ | refine cC hc ?_)
  exact aR
def zm4 (a b:InD):Bool:=(a.2.2.1==b.2.2.1)&&(a.2.2.2.2==b.2.2.2.2)&&(a.1==b.1)&&(a.2.1==b.2.1)&&(a.2.2.2.1==b.2.2.2.1)
theorem zjD (env:Env) (a b:InD) (h:zpJ a):Con Tryz.prog env 38 [.agg (inE a), .agg (inE b)] (B (zm4 a b)):=by
 have h0:maxLen=9223372036854775807:=rfl
 have f1:=zp4 env 96 a.2.2.1 b.2.2.1 (h0 ▸ h.2.1.1) fun x hx y _=>zkU env x y (h0 ▸ h.2.1.2 x hx)
 have f2:=ze7 env a.1 b.1 (h0 ▸ h.1.1)
 have f3:=ze7 env a.2.1 b.2.1 (h0 ▸ h.1.2)
 have f4:=zpY env a.2.2.2.1 b.2.2.2.1 (h0 ▸ h.2.2.1)
 unfold zm4
 cases e1:(a.2.2.1==b.2.2.1)<;>rw [e1] at f1
 ·refine zaa Tryz.func38 rfl Tryz.call38 (by rw [Tryz.ntmps38]; simp) ?_
  rw [Tryz.ntmps38,Tryz.results38]
  repeat (first | refine oO rfl (by simp only [go_sem,inE]; exact⟨rfl,rfl⟩) ?_ | refine gR ?_ | refine gO ?_ | refine oC rfl (f1) (by simp only [go_sem,inE]; exact iR) (by simp only [go_sem,inE]; exact⟨rfl,rfl⟩) ?_ | refine oZ (zau ?_) | refine oZ ?_ | refine oS ?_ | refine gT ?_ | refine gD Tryz.mixed ?_ | refine oB ?_ | refine oK ?_ | (refine oX ?_; simp only [zam,zag, ↓reduceIte,Nat.reduceEqDiff,reduceCtorEq]) | refine oY (by simp only [go_sem,inE]; exact iR) ?_ | refine oN (by simp only [go_sem,inE]; exact iR) ?_)
  (refine zae ?_; show (zar _ _ _).run _=some _; simp only [go_sem,inE])
 cases e2:(a.2.2.2.2==b.2.2.2.2)
 ·refine zaa Tryz.func38 rfl Tryz.call38 (by rw [Tryz.ntmps38]; simp) ?_
  rw [Tryz.ntmps38,Tryz.results38]
  have F:=e2
  repeat (first | refine oO rfl (by simp only [go_sem,inE,F]; exact⟨rfl,rfl⟩) ?_ | refine gR ?_ | refine gO ?_ | refine oC rfl (f1) (by simp only [go_sem,inE,F]; exact iR) (by simp only [go_sem,inE,F]; exact⟨rfl,rfl⟩) ?_ | refine oZ (zau ?_) | refine oZ ?_ | refine oS ?_ | refine gT ?_ | refine gD Tryz.mixed ?_ | refine oB ?_ | refine oK ?_ | (refine oX ?_; simp only [zam,zag, ↓reduceIte,Nat.reduceEqDiff,reduceCtorEq]) | refine oY (by simp only [go_sem,inE,F]; exact iR) ?_ | refine oN (by simp only [go_sem,inE,F]; exact iR) ?_)
  (refine zae ?_; show (zar _ _ _).run _=some _; simp only [go_sem,inE,F])
 cases e3:(a.1==b.1)<;>rw [e3] at f2
 ·refine zaa Tryz.func38 rfl Tryz.call38 (by rw [Tryz.ntmps38]; simp) ?_
  rw [Tryz.ntmps38,Tryz.results38]
  have F:=e2
  repeat (first | refine oO rfl (by simp only [go_sem,inE,F]; exact⟨rfl,rfl⟩) ?_ | refine gR ?_ | refine gO ?_ | refine oC rfl (f1) (by simp only [go_sem,inE,F]; exact iR) (by simp only [go_sem,inE,F]; exact⟨rfl,rfl⟩) ?_ | refine oC rfl (f2) (by simp only [go_sem,inE,F]; exact iR) (by simp only [go_sem,inE,F]; exact⟨rfl,rfl⟩) ?_ | refine oZ (zau ?_) | refine oZ ?_ | refine oS ?_ | refine gT ?_ | refine gD Tryz.mixed ?_ | refine oB ?_ | refine oK ?_ | (refine oX ?_; simp only [zam,zag, ↓reduceIte,Nat.reduceEqDiff,reduceCtorEq]) | refine oY (by simp only [go_sem,inE,F]; exact iR) ?_ | refine oN (by simp only [go_sem,inE,F]; exact iR) ?_)
  (refine zae ?_; show (zar _ _ _).run _=some _; simp only [go_sem,inE,F])
 cases e4:(a.2.1==b.2.1)<;>rw [e4] at f3
 ·refine zaa Tryz.func38 rfl Tryz.call38 (by rw [Tryz.ntmps38]; simp) ?_
  rw [Tryz.ntmps38,Tryz.results38]
  have F:=e2
  repeat (first | refine oO rfl (by simp only [go_sem,inE,F]; exact⟨rfl,rfl⟩) ?_ | refine gR ?_ | refine gO ?_ | refine oC rfl (f1) (by simp only [go_sem,inE,F]; exact iR) (by simp only [go_sem,inE,F]; exact⟨rfl,rfl⟩) ?_ | refine oC rfl (f2) (by simp only [go_sem,inE,F]; exact iR) (by simp only [go_sem,inE,F]; exact⟨rfl,rfl⟩) ?_ | refine oC rfl (f3) (by simp only [go_sem,inE,F]; exact iR) (by simp only [go_sem,inE,F]; exact⟨rfl,rfl⟩) ?_ | refine oZ (zau ?_) | refine oZ ?_ | refine oS ?_ | refine gT ?_ | refine gD Tryz.mixed ?_ | refine oB ?_ | refine oK ?_ | (refine oX ?_; simp only [zam,zag, ↓reduceIte,Nat.reduceEqDiff,reduceCtorEq]) | refine oY (by simp only [go_sem,inE,F]; exact iR) ?_ | refine oN (by simp only [go_sem,inE,F]; exact iR) ?_)
  (refine zae ?_; show (zar _ _ _).run _=some _; simp only [go_sem,inE,F])
 refine zaa Tryz.func38 rfl Tryz.call38 (by rw [Tryz.ntmps38]; simp) ?_
 rw [Tryz.ntmps38,Tryz.results38]
 have F:=e2
 repeat (first | refine oO rfl (by simp only [go_sem,inE,F]; exact⟨rfl,rfl⟩) ?_ | refine gR ?_ | refine gO ?_ | refine oC rfl (f1) (by simp only [go_sem,inE,F]; exact iR) (by simp only [go_sem,inE,F]; exact⟨rfl,rfl⟩) ?_ | refine oC rfl (f2) (by simp only [go_sem,inE,F]; exact iR) (by simp only [go_sem,inE,F]; exact⟨rfl,rfl⟩) ?_ | refine oC rfl (f3) (by simp only [go_sem,inE,F]; exact iR) (by simp only [go_sem,inE,F]; exact⟨rfl,rfl⟩) ?_ | refine oC rfl (f4) (by simp only [go_sem,inE,F]; exact iR) (by simp only [go_sem,inE,F]; exact⟨rfl,rfl⟩) ?_ | refine oZ (zau ?_) | refine oZ ?_ | refine oS ?_ | refine gT ?_ | refine gD Tryz.mixed ?_ | refine oB ?_ | refine oK ?_ | (refine oX ?_; simp only [zam,zag, ↓reduceIte,Nat.reduceEqDiff,reduceCtorEq]) | refine oY (by simp only [go_sem,inE,F]; exact iR) ?_ | refine oN (by simp only [go_sem,inE,F]; exact iR) ?_)
 (refine zae ?_; show (zar _ _ _).run _=some _; simp only [go_sem,inE,F])
end
section
theorem zbY (env:Env) (es:List (List AV)) (hl:Fits es.length 8):Con Tryz.prog env 93 [.seq 1 es] (.own 3 1 es):=by
 cases es with
 | nil=>
   refine Con.empty fun A cap=> ?_
   cases A with
   | none=>
     refine zap Tryz.func93 rfl Tryz.call93 (by rw [Tryz.ntmps93]; simp) ?_
     rw [Tryz.ntmps93,Tryz.results93]
     repeat refine st0 ?_
     (refine zae ?_; refine⟨_,(by show (zar _ _ _).run _=some _; simp only [go_sem]; rfl), ?_⟩)
     exact RStr.own_nil _ _ (by decide)
   | some A=>
     refine zaa Tryz.func93 rfl Tryz.call93 (by rw [Tryz.ntmps93]; simp) ?_
     rw [Tryz.ntmps93,Tryz.results93]
     repeat refine st0 ?_
     exact aR0
 | cons d l=>
   have g1:Fits (l.length+1) 8:=hl
   refine zaa Tryz.func93 rfl Tryz.call93 (by rw [Tryz.ntmps93]; simp) ?_
   rw [Tryz.ntmps93,Tryz.results93]
   have F:=g1
   repeat refine st ?_
   exact aR
theorem zgY (env:Env) (es:List (List AV)) (hl:Fits es.length 24):Con Tryz.prog env 94 [.seq 2 es] (.own 114 2 es):=by
 cases es with
 | nil=>
   refine Con.empty fun A cap=> ?_
   cases A with
   | none=>
     refine zap Tryz.func94 rfl Tryz.call94 (by rw [Tryz.ntmps94]; simp) ?_
     rw [Tryz.ntmps94,Tryz.results94]
     repeat refine st0 ?_
     (refine zae ?_; refine⟨_,(by show (zar _ _ _).run _=some _; simp only [go_sem]; rfl), ?_⟩)
     exact RStr.own_nil _ _ (by decide)
   | some A=>
     refine zaa Tryz.func94 rfl Tryz.call94 (by rw [Tryz.ntmps94]; simp) ?_
     rw [Tryz.ntmps94,Tryz.results94]
     repeat refine st0 ?_
     exact aR0
 | cons d l=>
   have g1:Fits (l.length+1) 24:=hl
   refine zaa Tryz.func94 rfl Tryz.call94 (by rw [Tryz.ntmps94]; simp) ?_
   rw [Tryz.ntmps94,Tryz.results94]
   have F:=g1
   repeat refine st ?_
   exact aR
theorem zhD (env:Env) (x:InD) (hA:x.1.length<=4096) (hV:x.2.1.length<=4096) (hM:x.2.2.1.length<=4096) (hMs: ∀m∈x.2.2.1,Fits m.2.length 8) (hT:Fits x.2.2.2.1.length 24):
 ConI Tryz.prog env 37 [8,11] (fun i=>i==8||i==11) (fun _=>[.agg [.seq 1 (x.1.map intAV), .seq 1 (x.2.1.map intAV), .seq 2 (x.2.2.1.map mmAV), .seq 2 (x.2.2.2.1.map tmAV),B x.2.2.2.2]]) (fun _=>[]) (fun _=>[(8,⟨1,x.1.map intAV,3,true⟩),(11,⟨1,x.2.1.map intAV,3,true⟩)]) (fun g=> .agg [.row 8 (g 8), .row 11 (g 11), .seq 2 (x.2.2.1.map mmAV), .seq 2 (x.2.2.2.1.map tmAV),B x.2.2.2.2]):=by
 have f0:=zbY env (x.1.map intAV) (by rw [List.length_map]; exact zah hA (by omega))
 have f1:=zbY env (x.2.1.map intAV) (by rw [List.length_map]; exact zah hV (by omega))
 have f2:=zgY env (x.2.2.2.1.map tmAV) (by rw [List.length_map]; exact hT)
 obtain⟨A,V,M,T,O⟩:=x
 simp only at*
 refine⟨Tryz.call37,_,_,Tryz.func37,rfl,(by intro _; rw [Tryz.ntmps37]; simp), ?_⟩
 intro vs esc hesc
 rw [Tryz.ntmps37,Tryz.results37]
 have e0:=hesc 8 (by simp)
 have e1:=hesc 11 (by simp)
 have F:=ai e0<|e1
 repeat (first | refine st ?_ | refine cC f0 ?_ | refine cC f1 ?_ | refine cC f2 ?_)
 refine zaB 3 9000 0 2 ⟨5,[[.row 8 (vs 8+1), .row 11 (vs 11+1),nilS, .row 14 (vs 14+1),B O]],31,false⟩ [.row 8 (vs 8+1), .row 11 (vs 11+1),nilS, .row 14 (vs 14+1),B O] 85 2 (by decide) (by decide) (Nat.succ_ne_zero 4) rfl rfl rfl (by simp only [go_sem,F]; exact iR) (by simp only [go_sem,F]; exact iR) ?_
 refine zac (D:=Nat) (fun j vs=>[(1, .loc 1 (vs 1) 0 0),(2, .loc 2 (vs 2) 0 0),(3, .loc 3 (vs 3) 0 0),(19, .seq 2 (M.map mmAV)),(20,I M.length),(21,I j)])
  (fun j vs=>[(1,⟨5,[[.seq 1 (A.map intAV), .seq 1 (V.map intAV), .seq 2 (M.map mmAV), .seq 2 (T.map tmAV),B O]],31,false⟩),(2,⟨5,[[nilS,nilS,nilS,nilS,B false]],31,false⟩),(3,⟨5,[[.row 8 (vs 8), .row 11 (vs 11), .row 9000 (vs 9000), .row 14 (vs 14),B O]],31,false⟩),(8,⟨1,A.map intAV,3,true⟩),(11,⟨1,V.map intAV,3,true⟩),(14,⟨2,T.map tmAV,114,true⟩),(9000,⟨2,(M.take j).map mmAV,85,true⟩)])
  (fun j _ esc=>j<=M.length/\esc 2=false/\esc 3=false/\esc 8=false/\esc 11=false/\esc 9000=false) (fun j=>M.length-j) 0 ?_ ?_ ?_ ?_
 ·refine⟨Nat.zero_le _, ?_, ?_, ?_, ?_, ?_⟩<;>simp only [go_sem,e0,e1]
 ·(simp only [go_sem,F])
 ·(simp only [go_sem,F])
 try clear e0 e1
 rintro j ws esc ⟨hj,e2,e3,e0,e1,e4⟩
 by_cases hlt:j<M.length
 ·obtain⟨m,hm⟩: ∃m,M[j]? =some m:=⟨M[j],List.getElem?_eq_getElem hlt⟩
  have q1:=nlt hlt
  have q2:=zab hlt (by omega)
  have f3:=zbY env (m.2.map intAV) (by rw [List.length_map]; exact hMs m (List.mem_of_getElem? hm))
  have htl:(M.take j).length=j:=by rw [List.length_take]; omega
  have hf:Fits (j+1) 32:=zah (by omega) (by omega)
  have htk:M.take (j+1)=M.take j++[m]:=by rw [List.take_add_one,hm]; rfl
  have F:=ai mmAV.eq_1<|ai q1<|ai q2<|ai hm<|ai htl<|ai hf<|ai e0<|ai e1<|ai e2<|ai e3<|e4
  repeat (first | refine st ?_ | refine cC f3 ?_)
  refine⟨j+1,⟨hlt, ?_, ?_, ?_, ?_, ?_⟩, ?_, ?_,by omega⟩
  all_goals (first | (show _=false; simp only [go_sem,e0,e1,e2,e3,e4]; done) | skip)
  ·(simp only [go_sem,F])
  ·have F:=ai mmAV.eq_1<|ai htk<|ai e0<|ai e1<|ai e2<|ai e3<|e4
   (simp only [go_sem,List.map_append,F])
 obtain rfl:j=M.length:=by omega
 have q1: ¬(M.length:Int)< (M.length:Int):=by omega
 have hta:M.take M.length=M:=List.take_length
 have F:=ai q1<|ai hta<|ai e0<|ai e1<|ai e2<|ai e3<|e4
 repeat refine st ?_
 refine zcC [(14,⟨2,T.map tmAV,114,true⟩),(9000,⟨2,M.map mmAV,85,true⟩)] ?_ ?_
 ·(simp only [go_sem,F])
 have F:=ai e0<|ai e1<|ai e2<|ai e3<|e4
 (refine zae ?_; (try simp only [zam,zag, ↓reduceIte,Nat.reduceEqDiff,reduceCtorEq]); refine zb9 ?_ ?_<;>simp only [go_sem,seenSt,seesR,zbS,Row.see,AV.see,AV.see.seeL,Option.getD_none,List.any_cons,List.any_nil,F,implies_true,and_self,imp_self,false_implies,AV.tuple.injEq,exists_eq_left',ne_eq])
theorem znr (env:Env) (x:InD) (hA:x.1.length<=4096) (hV:x.2.1.length<=4096) (hM:x.2.2.1.length<=4096) (hMs: ∀m∈x.2.2.1,Fits m.2.length 8) (hT:Fits x.2.2.2.1.length 24):
 ConI Tryz.prog env 37 [1003,1004,8,11] (fun i=>i==8||i==11) (fun g=>[.agg [.row 1003 (g 1003), .row 1004 (g 1004), .seq 2 (x.2.2.1.map mmAV), .seq 2 (x.2.2.2.1.map tmAV),B x.2.2.2.2]]) (fun _=>[(1003,⟨1,x.1.map intAV,3,true⟩),(1004,⟨1,x.2.1.map intAV,3,true⟩)]) (fun _=>[(1003,⟨1,x.1.map intAV,3,true⟩),(1004,⟨1,x.2.1.map intAV,3,true⟩),(8,⟨1,x.1.map intAV,3,true⟩),(11,⟨1,x.2.1.map intAV,3,true⟩)]) (fun g=> .agg [.row 8 (g 8), .row 11 (g 11), .seq 2 (x.2.2.1.map mmAV), .seq 2 (x.2.2.2.1.map tmAV),B x.2.2.2.2]):=by
 have f0:=zbY env (x.1.map intAV) (by rw [List.length_map]; exact zah hA (by omega))
 have f1:=zbY env (x.2.1.map intAV) (by rw [List.length_map]; exact zah hV (by omega))
 have f2:=zgY env (x.2.2.2.1.map tmAV) (by rw [List.length_map]; exact hT)
 obtain⟨A,V,M,T,O⟩:=x
 simp only at*
 have f0:=f0.lend (zdZ (fun _=>rfl) _)
 have f1:=f1.lend (zdZ (fun _=>rfl) _)
 refine⟨Tryz.call37,_,_,Tryz.func37,rfl,(by intro _; rw [Tryz.ntmps37]; simp), ?_⟩
 intro vs esc hesc
 rw [Tryz.ntmps37,Tryz.results37]
 have e5:=hesc 1003 (by simp)
 have e6:=hesc 1004 (by simp)
 have e0:=hesc 8 (by simp)
 have e1:=hesc 11 (by simp)
 have F:=ai e0<|ai e1<|ai e5<|e6
 repeat refine st ?_
 refine oL rfl (f0) (by simp only [go_sem,F]; exact iR) (by simp only [go_sem,F]; exact⟨rfl,rfl⟩) ?_
 repeat refine st ?_
 refine oL rfl (f1) (by simp only [go_sem,F]; exact iR) (by simp only [go_sem,F]; exact⟨rfl,rfl⟩) ?_
 repeat (first | refine st ?_ | refine cC f2 ?_)
 refine zaB 3 9000 0 2 ⟨5,[[.row 8 (vs 8+1), .row 11 (vs 11+1),nilS, .row 14 (vs 14+1),B O]],31,false⟩ [.row 8 (vs 8+1), .row 11 (vs 11+1),nilS, .row 14 (vs 14+1),B O] 85 2 (by decide) (by decide) (Nat.succ_ne_zero 4) rfl rfl rfl (by simp only [go_sem,F]; exact iR) (by simp only [go_sem,F]; exact iR) ?_
 refine zac (D:=Nat) (fun j vs=>[(1, .loc 1 (vs 1) 0 0),(2, .loc 2 (vs 2) 0 0),(3, .loc 3 (vs 3) 0 0),(19, .seq 2 (M.map mmAV)),(20,I M.length),(21,I j)])
  (fun j vs=>[(1,⟨5,[[.row 1003 (vs 1003), .row 1004 (vs 1004), .seq 2 (M.map mmAV), .seq 2 (T.map tmAV),B O]],31,false⟩),(2,⟨5,[[nilS,nilS,nilS,nilS,B false]],31,false⟩),(3,⟨5,[[.row 8 (vs 8), .row 11 (vs 11), .row 9000 (vs 9000), .row 14 (vs 14),B O]],31,false⟩),(8,⟨1,A.map intAV,3,true⟩),(11,⟨1,V.map intAV,3,true⟩),(14,⟨2,T.map tmAV,114,true⟩),(1003,⟨1,A.map intAV,3,true⟩),(1004,⟨1,V.map intAV,3,true⟩),(9000,⟨2,(M.take j).map mmAV,85,true⟩)])
  (fun j vs' esc=>j<=M.length/\esc 2=false/\esc 3=false/\esc 8=false/\esc 11=false/\esc 9000=false/\esc 1003=false/\esc 1004=false/\vs' 1003=vs 1003/\vs' 1004=vs 1004) (fun j=>M.length-j) 0 ?_ ?_ ?_ ?_
 ·refine⟨Nat.zero_le _, ?_, ?_, ?_, ?_, ?_, ?_, ?_, ?_, ?_⟩<;>simp only [go_sem,e0,e1,e5,e6]
 ·(simp only [go_sem,F])
 ·(simp only [go_sem,F])
 try clear e0 e1 e5 e6
 rintro j ws esc ⟨hj,e2,e3,e0,e1,e4,e5,e6,v5,v6⟩
 by_cases hlt:j<M.length
 ·obtain⟨m,hm⟩: ∃m,M[j]? =some m:=⟨M[j],List.getElem?_eq_getElem hlt⟩
  have q1:=nlt hlt
  have q2:=zab hlt (by omega)
  have f3:=zbY env (m.2.map intAV) (by rw [List.length_map]; exact hMs m (List.mem_of_getElem? hm))
  have htl:(M.take j).length=j:=by rw [List.length_take]; omega
  have hf:Fits (j+1) 32:=zah (by omega) (by omega)
  have htk:M.take (j+1)=M.take j++[m]:=by rw [List.take_add_one,hm]; rfl
  have F:=ai mmAV.eq_1<|ai q1<|ai q2<|ai hm<|ai htl<|ai hf<|ai e0<|ai e1<|ai e2<|ai e3<|ai e4<|ai e5<|e6
  repeat (first | refine st ?_ | refine cC f3 ?_)
  refine⟨j+1,⟨hlt, ?_, ?_, ?_, ?_, ?_, ?_, ?_, ?_, ?_⟩, ?_, ?_,by omega⟩
  all_goals (first | (show _=false; simp only [go_sem,e0,e1,e2,e3,e4,e5,e6]; done) | (show _=vs _; simp only [go_sem,v5,v6]; done) | skip)
  ·(simp only [go_sem,F])
  ·have F:=ai mmAV.eq_1<|ai htk<|ai e0<|ai e1<|ai e2<|ai e3<|ai e4<|ai e5<|e6
   (simp only [go_sem,List.map_append,F])
 obtain rfl:j=M.length:=by omega
 have q1: ¬(M.length:Int)< (M.length:Int):=by omega
 have hta:M.take M.length=M:=List.take_length
 have F:=ai q1<|ai hta<|ai e0<|ai e1<|ai e2<|ai e3<|ai e4<|ai e5<|e6
 repeat refine st ?_
 refine zcC [(14,⟨2,T.map tmAV,114,true⟩),(9000,⟨2,M.map mmAV,85,true⟩)] ?_ ?_
 ·(simp only [go_sem,F])
 have F:=ai e0<|ai e1<|ai e2<|ai e3<|ai e4<|ai e5<|ai e6<|ai v5<|v6
 (refine zae ?_; (try simp only [zam,zag, ↓reduceIte,Nat.reduceEqDiff,reduceCtorEq]); refine zb9 ?_ ?_<;>simp only [go_sem,seenSt,seesR,zbS,Row.see,AV.see,AV.see.seeL,Option.getD_none,List.any_cons,List.any_nil,F,implies_true,and_self,imp_self,false_implies,AV.tuple.injEq,exists_eq_left',ne_eq])
end
section
theorem zhW (env:Env):Con Tryz.prog env 65 [I 0] (B true):=by
 refine zaa Tryz.func65 rfl Tryz.call65 (by rw [Tryz.ntmps65]; simp) ?_
 rw [Tryz.ntmps65,Tryz.results65]
 repeat refine st0 ?_
 exact aR0
theorem zn5 (env:Env) (h:Full wakeM) (hs:Small wakeM):Con Tryz.prog env 32 [zaj wakeM,I 0] (.tuple [.agg wkI, .agg [nilS,nilS],nilE]):=by
 have f0:=zhW env
 have f1:=zaA env wakeM hs
 have f2:=zgq env wakeM hs
 rw [zh5] at f1 f2
 have f3:Con Tryz.prog env 86 [zaj wakeM,I (-1)] (.own 3 1 [[I 0]]):=by
  have:=zja env wakeM h (-1)
  rw [zoc] at this
  exact this
 have f4:=zhS env 0 (by omega)
 rw [show ((0:Nat):Int)=0 from rfl] at f4
 unfold RMl RMe at f4
 unfold wkI
 unfold zaj at f1 f3 |-
 refine zaa Tryz.func32 rfl Tryz.call32 (by rw [Tryz.ntmps32]; simp) ?_
 rw [Tryz.ntmps32,Tryz.results32]
 repeat (first | refine st0 ?_ | refine cC0 f0 ?_ | refine cC0 f1 ?_ | refine cC0 f2 ?_)
 refine zaB 29 9001 0 0 ⟨15,[[nilS,nilS,nilS,nilS,B false,nilS,nilS, .ref 9 [tabCells wakeM] 0 0,Sg [99],I 0, .seq 2 [], .seq 6 wkS, .seq 5 wkT,I 0,I 0]],129,false⟩ _ 3 1 (by decide) (by decide) (Nat.succ_ne_zero 14) rfl rfl rfl (by simp only [go_sem]; exact iR) (by simp only [go_sem]; exact iR) ?_
 refine zaB 29 9002 0 1 ⟨15,[[.row 9001 1,nilS,nilS,nilS,B false,nilS,nilS, .ref 9 [tabCells wakeM] 0 0,Sg [99],I 0, .seq 2 [], .seq 6 wkS, .seq 5 wkT,I 0,I 0]],129,false⟩ _ 3 1 (by decide) (by decide) (Nat.succ_ne_zero 14) rfl rfl rfl (by simp only [go_sem]; exact iR) (by simp only [go_sem]; exact iR) ?_
 refine zaB 29 9003 0 2 ⟨15,[[.row 9001 1, .row 9002 1,nilS,nilS,B false,nilS,nilS, .ref 9 [tabCells wakeM] 0 0,Sg [99],I 0, .seq 2 [], .seq 6 wkS, .seq 5 wkT,I 0,I 0]],129,false⟩ _ 85 2 (by decide) (by decide) (Nat.succ_ne_zero 14) rfl rfl rfl (by simp only [go_sem]; exact iR) (by simp only [go_sem]; exact iR) ?_
 refine zaB 29 9004 0 3 ⟨15,[[.row 9001 1, .row 9002 1, .row 9003 1,nilS,B false,nilS,nilS, .ref 9 [tabCells wakeM] 0 0,Sg [99],I 0, .seq 2 [], .seq 6 wkS, .seq 5 wkT,I 0,I 0]],129,false⟩ _ 114 2 (by decide) (by decide) (Nat.succ_ne_zero 14) rfl rfl rfl (by simp only [go_sem]; exact iR) (by simp only [go_sem]; exact iR) ?_
 refine zcC [(9003,⟨2,[],85,true⟩),(9004,⟨2,[],114,true⟩)] ?_ ?_
 ·(simp only [go_sem])
 refine zeQ [(0, .ref 9 [tabCells wakeM] 0 0),(4, .loc 4 1 0 0),(5, .loc 5 1 0 0),(6,nilE),(7, .loc 29 1 0 0),(34, .seq 2 []),(35,I 0),(36,I 0)] [(4,⟨5,[[nilS,nilS,nilS,nilS,B false]],31,false⟩),(5,⟨2,[[nilS,nilS]],56,false⟩),(29,⟨15,[[.row 9001 1, .row 9002 1, .seq 2 [], .seq 2 [],B false,nilS,nilS, .ref 9 [tabCells wakeM] 0 0,Sg [99],I 0, .seq 2 [], .seq 6 wkS, .seq 5 wkT,I 0,I 0]],129,false⟩),(9001,⟨1,[],3,true⟩),(9002,⟨1,[],3,true⟩)] ?_ ?_ ?_
 ·simp only [seenSt,seesR,zbS,Row.see,AV.see,AV.see.seeL,Option.getD_none,Option.getD_some,go_sem]
  try rfl
 ·simp only [seenSt,seesR,zbS,Row.see,AV.see,AV.see.seeL,Option.getD_none,Option.getD_some,go_sem]
  try rfl
 have b0:(True):=trivial
 have F:=b0
 repeat (first | refine zaq ?_ | refine st ?_ | refine cC f3 ?_ | refine zal 40 ?_)
 refine zaF [(1000,29),(1001,9001),(1002,9002),(1003,56)] rfl (f4) (by decide) (by decide) (by simp only [go_sem,seenSt,seesR,List.any_cons,List.any_nil,F]<;>rfl) (by simp only [go_sem,seenSt,seesR,List.any_cons,List.any_nil,F,and_self]<;>trivial) (by simp only [go_sem,seenSt,seesR,List.any_cons,List.any_nil,F,and_self]<;>trivial) (by intro o; simp only [go_sem,seenSt,seesR,List.any_cons,List.any_nil,F,behind,and_self]<;>trivial) (by intro o; simp only [go_sem,seenSt,seesR,List.any_cons,List.any_nil,F]<;>rfl) (by simp only [go_sem,seenSt,seesR,List.any_cons,List.any_nil,F,behind]; exact iR) (by simp only [go_sem,seenSt,seesR,List.any_cons,List.any_nil,F,behind]; exact iR) ?_
 repeat (first | refine zaq ?_ | refine st ?_ | refine zal 40 ?_)
 (refine zae ?_; show (zar _ _ _).run _=some _; simp only [go_sem,seenSt,seesR,List.any_cons,List.any_nil,F])
theorem zqA (env:Env) (a1 a8:Addr) (he:ChEnv env a1 a8) (h:Full wakeM) (hs:Small wakeM):Con Tryz.prog env 22 [zaj wakeM, .agg wkI, .seq 1 [[I 0]],I 0,I 0] (.tuple [.agg [.seq 1 [[I 1]], .seq 1 [], .seq 2 [], .seq 2 [],B false], .agg [nilS,nilS],nilE]):=by
 have f0:=zhv env a1 a8 he h hs [109,105,99,114,111,46,83,116,101,112]
 have f1:=zaA env wakeM hs
 rw [zh5] at f1
 have f2:=zhD env ([0],[],[],[],false) (by simp) (by simp) (by simp) (by simp) (zah (by simp) (by omega))
 have f3:=zhW env
 have f4:=zrs env
 have f5:=zon env a1 a8 he h hs
 unfold RM RMe at f4 f5
 unfold wkI at f0 |-
 unfold zaj at f0 f1 |-
 refine zaa Tryz.func22 rfl Tryz.call22 (by rw [Tryz.ntmps22]; simp) ?_
 rw [Tryz.ntmps22,Tryz.results22]
 have F:=f3
 repeat (first | refine oO rfl (by simp only [go_sem,intAV,F]; exact⟨rfl,rfl⟩) ?_ | refine gR ?_ | refine gO ?_ | refine oC rfl (f0) (by simp only [go_sem,intAV,F]; exact iR) (by simp only [go_sem,intAV,F]; exact⟨rfl,rfl⟩) ?_ | refine oC rfl (f1) (by simp only [go_sem,intAV,F]; exact iR) (by simp only [go_sem,intAV,F]; exact⟨rfl,rfl⟩) ?_ | refine oZ (zau ?_) | refine oZ ?_ | refine oS ?_ | refine gT ?_ | refine gD Tryz.mixed ?_ | refine oB ?_ | refine oK ?_ | (refine oX ?_; simp only [zam,zag, ↓reduceIte,Nat.reduceEqDiff,reduceCtorEq]) | refine oY (by simp only [go_sem,intAV,F]; exact iR) ?_ | refine oN (by simp only [go_sem,intAV,F]; exact iR) ?_)
 refine zaF [(8,9001),(11,9002)] rfl (f2) (by decide) (by decide) (by simp only [go_sem,intAV,F]<;>rfl) (by simp only [go_sem,intAV,F,and_self]<;>trivial) (by simp only [go_sem,intAV,F,and_self]<;>trivial) (by intro o; simp only [go_sem,intAV,F,behind,and_self]<;>trivial) (by intro o; simp only [go_sem,intAV,F]<;>rfl) (by simp only [go_sem,intAV,F,behind]; exact iR) (by simp only [go_sem,intAV,F,behind]; exact iR) ?_
 repeat (first | refine oO rfl (by simp only [go_sem,intAV,F]; exact⟨rfl,rfl⟩) ?_ | refine gR ?_ | refine gO ?_ | refine oC rfl (f1) (by simp only [go_sem,intAV,F]; exact iR) (by simp only [go_sem,intAV,F]; exact⟨rfl,rfl⟩) ?_ | refine oC rfl (f3) (by simp only [go_sem,intAV,F]; exact iR) (by simp only [go_sem,intAV,F]; exact⟨rfl,rfl⟩) ?_ | refine oZ (zau ?_) | refine oZ ?_ | refine oS ?_ | refine gT ?_ | refine gD Tryz.mixed ?_ | refine oB ?_ | refine oK ?_ | (refine oX ?_; simp only [zam,zag, ↓reduceIte,Nat.reduceEqDiff,reduceCtorEq]) | refine oY (by simp only [go_sem,intAV,F]; exact iR) ?_ | refine oN (by simp only [go_sem,intAV,F]; exact iR) ?_)
 refine zaF [(1000,33),(1001,9001),(1002,9002)] rfl (f4) (by decide) (by decide) (by simp only [go_sem,intAV,F]<;>rfl) (by simp only [go_sem,intAV,F,and_self]<;>trivial) (by simp only [go_sem,intAV,F,and_self]<;>trivial) (by intro o; simp only [go_sem,intAV,F,behind,and_self]<;>trivial) (by intro o; simp only [go_sem,intAV,F]<;>rfl) (by simp only [go_sem,intAV,F,behind]; exact iR) (by simp only [go_sem,intAV,F,behind]; exact iR) ?_
 repeat (first | refine oO rfl (by simp only [go_sem,intAV,F]; exact⟨rfl,rfl⟩) ?_ | refine gR ?_ | refine gO ?_ | refine oZ (zau ?_) | refine oZ ?_ | refine oS ?_ | refine gT ?_ | refine gD Tryz.mixed ?_ | refine oB ?_ | refine oK ?_ | (refine oX ?_; simp only [zam,zag, ↓reduceIte,Nat.reduceEqDiff,reduceCtorEq]) | refine oY (by simp only [go_sem,intAV,F]; exact iR) ?_ | refine oN (by simp only [go_sem,intAV,F]; exact iR) ?_)
 refine zaF [(1000,33),(1001,9001),(1002,9002)] rfl (f5) (by decide) (by decide) (by simp only [go_sem,intAV,F]<;>rfl) (by simp only [go_sem,intAV,F,and_self]<;>trivial) (by simp only [go_sem,intAV,F,and_self]<;>trivial) (by intro o; simp only [go_sem,intAV,F,behind,and_self]<;>trivial) (by intro o; simp only [go_sem,intAV,F]<;>rfl) (by simp only [go_sem,intAV,F,behind]; exact iR) (by simp only [go_sem,intAV,F,behind]; exact iR) ?_
 repeat (first | refine oO rfl (by simp only [go_sem,intAV,F]; exact⟨rfl,rfl⟩) ?_ | refine gR ?_ | refine gO ?_ | refine oZ (zau ?_) | refine oZ ?_ | refine oS ?_ | refine gT ?_ | refine gD Tryz.mixed ?_ | refine oB ?_ | refine oK ?_ | (refine oX ?_; simp only [zam,zag, ↓reduceIte,Nat.reduceEqDiff,reduceCtorEq]) | refine oY (by simp only [go_sem,intAV,F]; exact iR) ?_ | refine oN (by simp only [go_sem,intAV,F]; exact iR) ?_)
 (refine zae ?_; show (zar _ _ _).run _=some _; simp only [go_sem,intAV,F])
end
section
theorem zhy (env:Env) (n:List UInt8):Con Tryz.prog env 62 [Sg n] (.agg [Sg n,I 1,I (-1),I (-1),nilS,nilS]):=by
 refine zaa Tryz.func62 rfl Tryz.call62 (by rw [Tryz.ntmps62]; simp) ?_
 rw [Tryz.ntmps62,Tryz.results62]
 repeat refine st0 ?_
 exact aR0
theorem zlD (env:Env) (a1 a8:Addr) (he:ChEnv env a1 a8) (hT: ∀W,env.inv W->TabAt W):Con Tryz.prog env 21 [] (B true):=by
 have h0:(chk wakeM).1=0:=by rw [zfY]
 have h:=full_of h0
 have hs:=zik h0
 have f0:=(zi8 env a1 a8 he hT wakeM zfY zob).args zoa
 have f1:=zn5 env h hs
 have f2:=zkA env a1 a8 he h hs
 have f3:=zqA env a1 a8 he h hs
 have f4:Con Tryz.prog env 31 [.seq 1 [[I 1]], .seq 1 [[I 1]]] (B true):=by
  have:=zjg env [1] [1] (by decide)
  rw [decide_eq_true rfl] at this
  exact this
 have p1:=zhy env [97]
 have p2:=zhy env [98]
 unfold zod at f0
 unfold wkI at f1 f2 f3
 unfold zaj at f0 f1 f2 f3
 generalize tabCells wakeM=T at*
 refine zaa Tryz.func21 rfl Tryz.call21 (by rw [Tryz.ntmps21]; simp) ?_
 rw [Tryz.ntmps21,Tryz.results21]
 repeat (first | refine st0 ?_ | refine cC0 p1 ?_ | refine cC0 p2 ?_ | refine cC0 f0 ?_ | refine cC0 f1 ?_ | refine cC0 f2 ?_ | refine cC0 f3 ?_ | refine cC0 f4 ?_)
 exact aR0
end

end Go.Proofs.YtnbjaghjdeicmaaGreatDoor