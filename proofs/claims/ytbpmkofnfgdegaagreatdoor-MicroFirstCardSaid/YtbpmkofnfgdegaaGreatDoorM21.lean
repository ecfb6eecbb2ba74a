/- An instance in the midst of a step: an action is done, many are. -/
import Derived.Test.YtbpmkofnfgdegaaGreatDoorM19
import Derived.Test.YtbpmkofnfgdegaaGreatDoorM8
import Derived.Test.YtbpmkofnfgdegaaGreatDoorM6
import Derived.Test.YtbpmkofnfgdegaaGreatDoorM11
import Derived.Test.YtbpmkofnfgdegaaGreatDoorM4
import Derived.Shelf.SlSortCmp.NoneTotal
import Derived.Ground.SlsfProg
import Derived.Test.YtbpmkofnfgdegaaGreatDoorProg
import Derived.Test.YtbpmkofnfgdegaaGreatDoorM20
import Derived.Test.YtbpmkofnfgdegaaGreatDoorM18
import Derived.Test.YtbpmkofnfgdegaaGreatDoorM14
import Derived.Test.YtbpmkofnfgdegaaGreatDoorM17
import Derived.Test.YtbpmkofnfgdegaaGreatDoorM10
set_option linter.unusedSimpArgs false
namespace Go.Proofs.YtbpmkofnfgdegaaGreatDoor
open Go.Proofs.Tryz
open Go.RowKit
set_option maxRecDepth 100000
set_option maxHeartbeats 16000000
def idxT (p:(List UInt8×Int)->Bool):List (List UInt8×Int)->Option Nat
 | []=>none
 | d::l=>if p d=true then some 0 else(idxT p l).map (· +1)
theorem zjC {p:(List UInt8×Int)->Bool} : ∀ {l:List (List UInt8×Int)} {i:Nat},idxT p l=some i->i<l.length/\l.take i=(l.take i).filter (fun d=> !p d)/\ ∃d,l[i]? =some d/\p d=true
 | [],i,h=>by simp [idxT] at h
 | d::l,i,h=>by
   unfold idxT at h;split at h
   ·rename_i hp;cases h;exact⟨by simp,by simp,d,rfl,hp⟩
   ·rename_i hp;cases hi:idxT p l with
    | none=>rw [hi] at h; cases h
    | some j=>
      rw [hi] at h;cases h;obtain⟨h1,h2,x,h3,h4⟩:=zjC hi;refine⟨by simp; omega, ?_,x,by simpa using h3,h4⟩;have hp:p d=false:=by simpa using hp
      simp only [List.take_succ_cons,List.filter_cons,hp,Bool.not_false,if_true];rw [<-h2]
theorem zjD {p:(List UInt8×Int)->Bool} : ∀ {l:List (List UInt8×Int)},idxT p l=none->l.filter (fun d=> !p d)=l/\ ∀d∈l,p d=false
 | [],h=>by simp
 | d::l,h=>by
   unfold idxT at h;split at h
   ·cases h
   ·rename_i hp;have hp:p d=false:=by simpa using hp
    cases hi:idxT p l with
    | some j=>rw [hi] at h; cases h
    | none=>
      obtain⟨h1,h2⟩:=zjD hi;refine⟨by simp only [List.filter_cons,hp,Bool.not_false,if_true,h1],fun x hx=> ?_⟩;rcases List.mem_cons.1 hx with rfl | hx
      ·exact hp
      ·exact h2 x hx
theorem zpw {p:(List UInt8×Int)->Bool} {l:List (List UInt8×Int)} {n:Nat} {d:(List UInt8×Int)} (hd:l[n]? =some d):idxT p (l.drop n)=if p d=true then some 0 else(idxT p (l.drop (n+1))).map (· +1):=by
 rw [za0 hd];rfl
theorem zld (env:Env) (l:List (List UInt8×Int)) (p:(List UInt8×Int)->Bool) (g:FuncId) (caps:List (List AV)) (hp: ∀d,Con prog env g [.agg (tmAV d), .ref 1 caps 0 0] (B (p d))) (hl:l.length<=4096):Con prog env 264 [.seq 2 (l.map tmAV), .clo g [.ref 1 caps 0 0]] (I (idxJ (idxT p l))):=by
 refine qf func264 call264 ntmps264 results264 ?_;repeat refine st0 ?_
 refine zab (D:=Nat) (fun n vs=>[(0, .seq 2 (l.map tmAV)),(1, .clo g [.ref 1 caps 0 0]),(7,I l.length),(8,I n)]) (fun n vs=>[]) (fun n _ esc=>n<=l.length/\idxT p l=(idxT p (l.drop n)).map (· +n)) (fun n=>l.length-n) 0 ?_ ?_ ?_ ?_
 ·exact⟨Nat.zero_le _,by simp⟩
 ·exact qe0
 ·exact qe0
 rintro n vs esc ⟨hn,hi⟩;by_cases hlt:n<l.length
 ·obtain⟨d,hd⟩: ∃x,l[n]? =some x:=⟨l[n],List.getElem?_eq_getElem hlt⟩;have g1:=nlt hlt;have g2:=zaa hlt (by omega);have f1:=hp d;unfold tmAV at f1;rw [zpw hd] at hi;cases h1:p d
  ·rw [h1] at hi f1;simp only [Bool.false_eq_true,if_false] at hi;have F:=ai4 tmAV.eq_1 hd g1 g2;repeat refine st ?_
   refine oC (zbi rfl (by simp only [go_sem,F]; exact iR)) (f1) (by simp only [go_sem,F]; exact iR) (by simp only [go_sem,F]; exact⟨rfl,rfl⟩) ?_;repeat refine st ?_
   refine⟨n+1,⟨hlt, ?_⟩, ?_, ?_, ?_⟩
   ·rw [hi];cases idxT p (l.drop (n+1))
    ·rfl
    ·simp; omega
   ·exact qe
   ·exact qe
   ·omega
  ·rw [h1] at hi f1;simp only [if_true,Option.map_some,Nat.zero_add] at hi;rw [hi];have F:=ai6 tmAV.eq_1 hd g1 g2 idxJ.eq_1 idxJ.eq_2;repeat refine st ?_
   refine oC (zbi rfl (by simp only [go_sem,F]; exact iR)) (f1) (by simp only [go_sem,F]; exact iR) (by simp only [go_sem,F]; exact⟨rfl,rfl⟩) ?_;repeat refine st ?_
   exact aR
 ·have g1: ¬(n:Int)< (l.length:Int):=by omega
  rw [List.drop_of_length_le (by omega)] at hi;rw [hi];have F:=ai5 g1 idxJ.eq_1 idxJ.eq_2 idxT.eq_1 idxT.eq_2;repeat refine st ?_
  exact aR
theorem zkd (env:Env) (l:List (List UInt8×Int)) (p:(List UInt8×Int)->Bool) (g:FuncId) (G:List UInt8) (te:TypeId) (hp: ∀d,Con prog env g [.agg (tmAV d), .ref 1 [[Sg G]] 0 0] (B (p d))) (hl:l.length<=4096):
 ConI prog env 231 [1000,1001] (fun k=>k==1000) (fun vs=>[.row 1000 (vs 1000), .clo g [.loc 1001 (vs 1001) 0 0]]) (fun _=>[(1000,⟨2,l.map tmAV,86,true⟩),(1001,⟨1,[[Sg G]],te,false⟩)]) (fun _=>[(1000,⟨2,(l.filter fun d=> !p d).map tmAV,86,true⟩),(1001,⟨1,[[Sg G]],te,false⟩)]) (fun vs=> .row 1000 (vs 1000)):=by
 have f0:=(zld env l p g [[Sg G]] hp hl).lend rfl;cases hi:idxT p l with
 | none=>
   rw [hi] at f0;obtain⟨h1,_⟩:=zjD hi;rw [h1];refine qi func231 call231 ntmps231 results231 ?_;intro vs esc hesc;have e0:=hesc 1000 (by simp);have e1:=hesc 1001 (by simp);have F:=ai4 e0 e1 idxJ.eq_1 idxJ.eq_2;repeat refine st ?_
   refine lL f0 ?_;repeat refine st ?_
   exact rI
 | some i0=>
   rw [hi] at f0;obtain⟨h1,h2,d0,h3,h4⟩:=zjC hi;have g0:((i0:Int) == -1)=false:=by simp
   have g1:=zaa h1 (by omega);refine qi func231 call231 ntmps231 results231 ?_;intro vs esc hesc;have e0:=hesc 1000 (by simp);have e1:=hesc 1001 (by simp);have F:=ai6 e0 e1 idxJ.eq_1 idxJ.eq_2 g0 g1;repeat refine st ?_
   refine lL f0 ?_;repeat refine st ?_
   refine zab (D:=Nat×List (List UInt8×Int)) (fun x vs'=>[(0, .row 1000 (vs' 1000)),(1, .clo g [.loc 1001 (vs' 1001) 0 0]),(5,I (((l.take x.1).filter fun d=> !p d).length:Int)),(6,I (x.1:Int))]) (fun x vs'=>[(1000,⟨2,x.2.map tmAV,86,true⟩),(1001,⟨1,[[Sg G]],te,false⟩)]) (fun x vs' esc'=>(x.1<=l.length/\x.2.length=l.length/\((l.take x.1).filter fun d=> !p d).length<x.1/\x.2.take ((l.take x.1).filter fun d=> !p d).length=(l.take x.1).filter (fun d=> !p d)/\x.2.drop x.1=l.drop x.1)/\vs' 1001=vs 1001/\esc' 1000=false/\esc' 1001=false) (fun x=>l.length-x.1) (i0+1,l) ?_ ?_ ?_ ?_
   ·have hq:(l.take (i0+1)).filter (fun d=> !p d)=l.take i0:=by
     rw [zbm h3,List.filter_append, <-h2];simp [h4]
    refine⟨⟨h1,rfl, ?_, ?_,rfl⟩,by simp only [go_sem],by simp only [go_sem,e0],by simp only [go_sem,e1]⟩
    ·rw [hq,List.length_take]; omega
    ·simp only;rw [hq,List.length_take,Nat.min_eq_left (by omega)]
   ·have hq:((l.take (i0+1)).filter fun d=> !p d).length=i0:=by
     rw [zbm h3,List.filter_append, <-h2];simp [h4];omega
    simp only [hq];exact qe
   ·exact qe
   try clear e0 e1 g0 g1 h1 h2 h3 h4 hi
   rintro⟨j,L⟩ ws es ⟨⟨hj,hL,hc,ht,hd⟩,v1,e0,e1⟩;simp only at hj hL hc ht hd;generalize hcn:((l.take j).filter fun d=> !p d).length=c at*;by_cases hlt:j<l.length
   ·obtain⟨d,hx⟩: ∃x,l[j]? =some x:=⟨l[j],List.getElem?_eq_getElem hlt⟩
    have hxL:L[j]? =some d:=by
     have:=congrArg (fun q:List (List UInt8×Int)=>q[0]?) hd;simpa [hx] using this
    have f1:=hp d;unfold tmAV at f1;have g1:(j:Int)< (L.length:Int):=by omega
    have g2:=zaa hlt (by omega);have g3:=zbm hx;cases h1:p d
    ·rw [h1] at f1;obtain⟨y,hy⟩: ∃x,L[c]? =some x:=⟨L[c]'(by omega),List.getElem?_eq_getElem (by omega)⟩;have g4:(c:Int)< (L.length:Int):=by omega
     have g5:IntKind.i64.wrap ((c:Int)+1)=((c+1:Nat):Int):=zaa (show c<l.length by omega) (by omega);have hq:((l.take (j+1)).filter fun d=> !p d)=(l.take j).filter (fun d=> !p d)++[d]:=by rw [g3,List.filter_append]; simp [h1]
     have hs:(L.map tmAV).set c [Sg d.1,I d.2]=(L.set c d).map tmAV:=by rw [List.map_set]; rfl
     have F:=ai10 tmAV.eq_1 hxL hy e0 e1 g1 g2 g4 g5 hs;repeat refine st ?_
     refine oL (zbi rfl (by simp only [go_sem,F]; exact iR)) (f1.lend rfl) (by simp only [go_sem,F]; exact iR) (by simp only [go_sem,F]; exact⟨rfl,rfl⟩) ?_;repeat refine st ?_
     refine⟨(j+1,L.set c d),⟨⟨hlt,by simpa using hL, ?_, ?_, ?_⟩, ?_, ?_, ?_⟩, ?_, ?_, ?_⟩
     ·simp only [hq,List.length_append,List.length_singleton,hcn]; omega
     ·simp only [hq,List.length_append,List.length_singleton,hcn];rw [<-ht];apply List.ext_getElem?;intro k;rw [List.getElem?_take,List.getElem?_set];by_cases hk:k<c
      ·rw [if_pos (by omega),if_neg (by omega),List.getElem?_append_left (by simp; omega),List.getElem?_take,if_pos hk]
      ·by_cases hk2:k=c
       ·subst hk2;rw [if_pos (by omega),if_pos rfl,if_pos (by omega),List.getElem?_append_right (by rw [List.length_take]; omega),List.length_take,Nat.min_eq_left (by omega)];simp
       ·rw [if_neg (by omega),List.getElem?_eq_none (by rw [List.length_append,List.length_take,List.length_singleton]; omega)]
     ·simp only;rw [List.drop_set_of_lt (by omega)];have:=congrArg (List.drop 1) hd;simpa [List.drop_drop] using this
     ·simp only [go_sem,v1]
     ·simp only [go_sem,e0]
     ·simp only [go_sem,e1]
     ·have hq2:((l.take (j+1)).filter fun d=> !p d).length=c+1:=by rw [hq,List.length_append,hcn]; rfl
      simp only [hq2];exact qe
     ·exact qe
     ·simp only; omega
    ·rw [h1] at f1;have hq:((l.take (j+1)).filter fun d=> !p d)=(l.take j).filter (fun d=> !p d):=by rw [g3,List.filter_append]; simp [h1]
     have F:=ai6 tmAV.eq_1 hxL e0 e1 g1 g2;repeat refine st ?_
     refine oL (zbi rfl (by simp only [go_sem,F]; exact iR)) (f1.lend rfl) (by simp only [go_sem,F]; exact iR) (by simp only [go_sem,F]; exact⟨rfl,rfl⟩) ?_;repeat refine st ?_
     refine⟨(j+1,L),⟨⟨hlt,hL, ?_, ?_, ?_⟩, ?_, ?_, ?_⟩, ?_, ?_, ?_⟩
     ·simp only [hq,hcn]; omega
     ·simp only [hq,hcn]; exact ht
     ·simp only;have:=congrArg (List.drop 1) hd;simpa [List.drop_drop] using this
     ·simp only [go_sem,v1]
     ·simp only [go_sem,e0]
     ·simp only [go_sem,e1]
     ·simp only [hq,hcn];exact qe
     ·exact qe
     ·simp only; omega
   ·have g1: ¬(j:Int)< (L.length:Int):=by omega
    have hjl:l.take j=l:=List.take_of_length_le (by omega);rw [hjl] at ht hcn;have g4:(c:Int)<=(L.length:Int):=by omega
    have g5:c<=L.length:=by omega
    have g6: ∀X:List (List AV),((L.take c).map tmAV++X).take c=(l.filter fun d=> !p d).map tmAV:=fun X=>by
     rw [List.take_left' (by rw [List.length_map,List.length_take]; omega),ht]
    have g7:c+(L.length-c)=L.length:=by omega
    have g8:min c L.length=c:=by omega
    have F:=ai11 v1 e0 e1 @List.length_take.{0} @List.length_replicate.{0} g1 g4 g5 g6 g7 g8;repeat refine st ?_
    exact rI
end Go.Proofs.YtbpmkofnfgdegaaGreatDoor
namespace Go.Proofs.YtbpmkofnfgdegaaGreatDoor
open Go.Proofs.Tryz
open Go.RowKit Go.Sort Go.Shelf Go.Lib
section
variable {α:Type} [Inhabited α]
theorem zhv (enc:α->List Value) (k:Nat) (hk: ∀x,(enc x).length=k) (d:List α):flatK enc k d.toArray=(d.map enc).flatten.toArray:=by
 have hz: ∀l∈d.map enc,l.length=k:=fun l hl=>by
  obtain⟨x,_,rfl⟩:=List.mem_map.1 hl;exact hk x
 have hl:=zbO (d.map enc) hz;apply Array.ext';apply List.ext_getElem?;intro p;by_cases hp:p<d.length*k
 ·have hk0:0<k:=by
   rcases Nat.eq_zero_or_pos k with h | h
   ·subst h; simp at hp
   ·exact h
  have hi:p/k<d.length:=Nat.div_lt_of_lt_mul (by rw [Nat.mul_comm]; exact hp);have hj:p%k<k:=Nat.mod_lt _ hk0;have h1:=zci (d.map enc) hz (p/k) (p%k) (enc d[p/k]) ((enc d[p/k])[p%k]'(by rw [hk]; exact hj)) (by simp [hi]) (List.getElem?_eq_getElem _);rw [Nat.div_add_mod'] at h1;rw [List.toList_toArray,h1,Array.getElem?_toList];simp [flatK,hp,hi,hk,hj]
 ·rw [List.getElem?_eq_none (by simp; omega),List.getElem?_eq_none (by simp [hl]; omega)]
theorem zgX {P:Program} {ρ:Ren} (L:SlLaysF0.n6 P ρ) {e:TypeId} (k:Nat) (aE: ∀w,(isAgg (ρ.t 24)).run P w= .ok true w) (zE: ∀w,(Go.sizeOf (ρ.t 24)).run P w= .ok k w) (enc:α->List Value) (hk: ∀x,(enc x).length=k) (h1: ∀x,∀v∈enc x,v.oneCell'=true)
 (cf:α->α->Int) (hO:SWO (ltOf cf)) (g:Nat) (cb:Array Value) (d:List α) (hd:0<d.length) (hsz:d.length<4611686018427387904) (ef: ∀(args:Array Value) (w:World),(callFunc (ρ.f 6) args).run P w= .ok (.enter (ρ.f 6) args) w) (eg: ∀args w,(callFunc g args).run P w= .ok (.enter g args) w)
 (hcmp: ∀blk w,CmpLays P g cb enc k cf blk 0 d.length w) (hT: ∀x y,(ltOf cf) x y=false->(ltOf cf) y x=false->x=y):
 Turns P (ρ.f 6) [.func (.func g) #[] cb] e k (d.map enc) ((d.mergeSort fun x y=> !(ltOf cf) y x).map enc):=by
 refine zdJ (by simpa using hd) ef (by simp) (fun l hl=> ?_) (fun l hl=> ?_) fun w b cap hH hb=> ?_
 ·obtain⟨x,_,rfl⟩:=List.mem_map.1 hl;exact hk x
 ·obtain⟨x,_,rfl⟩:=List.mem_map.1 hl;exact⟨hk x,h1 x⟩
 ·have:=AnyQ.slices_SortFunc_total L k aE zE enc hk h1 cf hO g cb b 0 cap d.toArray w eg (by simpa using hcmp b w) (by unfold HoldsK; rw [zhv enc k hk]; exact hH) hb (by simpa using hsz) hT;rw [List.length_map];refine(by simpa using this:Calls P (ρ.f 6) #[.slice (some ⟨b,0,none⟩) d.length cap, .func (.func g) #[] cb] w _).mono ?_;rintro ex w' ⟨rfl,n,os,rfl⟩;refine⟨rfl,n,os, ?_⟩;unfold sortWorldK putRowK;rw [zhv enc k hk]
end
end Go.Proofs.YtbpmkofnfgdegaaGreatDoor
namespace Go.Proofs
open Go.Shelf
def Tryz.sortTm_ren:Go.Shelf.Ren:=⟨fun | 6=>235 | 15=>180 | 14=>270 | 28=>221 | 29=>222 | 20=>280 | 21=>281 | 22=>282 | 23=>283 | 24=>284 | 25=>285 | 26=>286 | 27=>287 | 46=>290 | 47=>255 | 48=>256 | 49=>291 | 50=>292 | 57=>293 | n=>n,fun | 22=>29 | 24=>86 | 25=>272 | 3=>3 | 39=>223 | 0=>0 | 53=>170 | 55=>259 | 4=>4 | 46=>253 | 45=>252 | 50=>178 | 5=>5 | 9=>9 | 66=>283 | 70=>287 | 76=>296 | 77=>92 | n=>n,fun | n=>n⟩
theorem Tryz.sortTm:Go.Proofs.SlLaysF0.n6 prog Tryz.sortTm_ren:={
 mixed:=by kernel_rfl
 f6:=⟨Tryz.f235.name,by decide,func235.trans (congrArg some (by kernel_rfl))⟩
 f14:=⟨Tryz.f270.name,by decide,func270.trans (congrArg some (by kernel_rfl))⟩
 f15:=func180.trans (congrArg some (by kernel_rfl))
 f20:=⟨Tryz.f280.name,by decide,func280.trans (congrArg some (by kernel_rfl))⟩
 f21:=⟨Tryz.f281.name,by decide,func281.trans (congrArg some (by kernel_rfl))⟩
 f22:=⟨Tryz.f282.name,by decide,func282.trans (congrArg some (by kernel_rfl))⟩
 f23:=⟨Tryz.f283.name,by decide,func283.trans (congrArg some (by kernel_rfl))⟩
 f24:=⟨Tryz.f284.name,by decide,func284.trans (congrArg some (by kernel_rfl))⟩
 f25:=⟨Tryz.f285.name,by decide,func285.trans (congrArg some (by kernel_rfl))⟩
 f26:=⟨Tryz.f286.name,by decide,func286.trans (congrArg some (by kernel_rfl))⟩
 f27:=⟨Tryz.f287.name,by decide,func287.trans (congrArg some (by kernel_rfl))⟩
 f28:=func221.trans (congrArg some (by kernel_rfl))
 f29:=func222.trans (congrArg some (by kernel_rfl))
 f46:=⟨Tryz.f290.name,by decide,func290.trans (congrArg some (by kernel_rfl))⟩
 f47:=func255.trans (congrArg some (by kernel_rfl))
 f48:=func256.trans (congrArg some (by kernel_rfl))
 f49:=⟨Tryz.f291.name,by decide,func291.trans (congrArg some (by kernel_rfl))⟩
 f50:=⟨Tryz.f292.name,by decide,func292.trans (congrArg some (by kernel_rfl))⟩
 f57:=⟨Tryz.f293.name,by decide,func293.trans (congrArg some (by kernel_rfl))⟩
 t0:=Tryz.underlying0
 a0:=Tryz.isAgg0
 z0:=Tryz.sizeOf0
 v0:=Tryz.zeroValue0
 t3:=Tryz.underlying3
 a3:=Tryz.isAgg3
 z3:=Tryz.sizeOf3
 v3:=Tryz.zeroValue3
 t4:=Tryz.underlying4
 a4:=Tryz.isAgg4
 z4:=Tryz.sizeOf4
 v4:=Tryz.zeroValue4
 t5:=Tryz.underlying5
 a5:=Tryz.isAgg5
 z5:=Tryz.sizeOf5
 v5:=Tryz.zeroValue5
 t9:=Tryz.underlying9
 a9:=Tryz.isAgg9
 z9:=Tryz.sizeOf9
 v9:=Tryz.zeroValue9
 t22:=Tryz.underlying29
 a22:=Tryz.isAgg29
 z22:=Tryz.sizeOf29
 v22:=Tryz.zeroValue29
 t25:=Tryz.underlying272
 a25:=Tryz.isAgg272
 z25:=Tryz.sizeOf272
 v25:=Tryz.zeroValue272
 t39:=Tryz.underlying223
 a39:=Tryz.isAgg223
 z39:=Tryz.sizeOf223
 v39:=Tryz.zeroValue223
 t45:=Tryz.underlying252
 a45:=Tryz.isAgg252
 z45:=Tryz.sizeOf252
 v45:=Tryz.zeroValue252
 t46:=Tryz.underlying253
 a46:=Tryz.isAgg253
 z46:=Tryz.sizeOf253
 v46:=Tryz.zeroValue253
 t50:=Tryz.underlying178
 a50:=Tryz.isAgg178
 z50:=Tryz.sizeOf178
 v50:=Tryz.zeroValue178
 t53:=Tryz.underlying170
 a53:=Tryz.isAgg170
 z53:=Tryz.sizeOf170
 v53:=Tryz.zeroValue170
 t55:=Tryz.underlying259
 a55:=Tryz.isAgg259
 z55:=Tryz.sizeOf259
 v55:=Tryz.zeroValue259
 t66:=Tryz.underlying283
 a66:=Tryz.isAgg283
 z66:=Tryz.sizeOf283
 v66:=Tryz.zeroValue283
 t70:=Tryz.underlying287
 a70:=Tryz.isAgg287
 z70:=Tryz.sizeOf287
 v70:=Tryz.zeroValue287
 t76:=Tryz.underlying296
 a76:=Tryz.isAgg296
 z76:=Tryz.sizeOf296
 v76:=Tryz.zeroValue296
 t77:=Tryz.underlying92
 a77:=Tryz.isAgg92
 z77:=Tryz.sizeOf92
 v77:=Tryz.zeroValue92 }
end Go.Proofs
set_option linter.unusedSimpArgs false
namespace Go.Proofs.YtbpmkofnfgdegaaGreatDoor
open Go.Proofs.Tryz
open Go.RowKit
set_option maxRecDepth 100000
set_option maxHeartbeats 1000000
def encT (p:List UInt8×Int):List Value:=[.string ⟨p.1.toArray⟩, .int .i64 p.2]
theorem zl8 (l:List (List UInt8×Int)):zaL (l.map encT)=l.map tmAV:=by simp [zaL,encT,tmAV,Sg,I]
theorem zin (x:List UInt8×Int): ∀l,(insT x l).Perm (l++[x])
 | []=> .refl _
 | y::l=>by
   unfold insT;split
   ·exact(List.perm_append_comm (l₁:=[x]) (l₂:=y::l))
   ·exact(zin x l).cons y
theorem zrq {x:List UInt8×Int} {l:List (List UInt8×Int)} (h:l.Pairwise fun a b=>Op.bytesLess a.1 b.1=true) (hn: ∀y∈l,y.1≠x.1):(l++[x]).mergeSort (fun x y=> !Op.bytesLess y.1 x.1)=insT x l:=by
 have h1:=zim h hn
 have h3:((l++[x]).mergeSort fun x y=> !Op.bytesLess y.1 x.1).Pairwise fun x y=>(!Op.bytesLess y.1 x.1)=true:=List.pairwise_mergeSort (fun a b c hab hbc=>by
  simp only [Bool.not_eq_true'] at*;cases k:Op.bytesLess c.1 a.1
  ·rfl
  ·cases k2:Op.bytesLess b.1 a.1
   ·cases k3:Op.bytesLess a.1 b.1
    ·rw [<-zbS k3 k2,k] at hbc; cases hbc
    ·rw [zcG k k3] at hbc; cases hbc
   ·rw [k2] at hab; cases hab) (fun a b=>by
  cases k:Op.bytesLess b.1 a.1
  ·simp
  ·rw [zfM k]; simp) (l++[x])
 refine(List.Perm.eq_of_pairwise (le:=fun x y=>(!Op.bytesLess y.1 x.1)=true) ?_ (h1.imp fun {a b} h=>by simp [zfM h]) h3 ((zin x l).trans (List.mergeSort_perm _ _).symm)).symm;intro a b ha hb h4 h5;have e:a.1=b.1:=zbS (by simpa using h5) (by simpa using h4);by_cases hab:a=b
 ·exact hab
 exfalso
 obtain⟨i,hi,ea⟩:=List.getElem_of_mem ha;obtain⟨j,hj,eb⟩:=List.getElem_of_mem (((zin x l).trans (List.mergeSort_perm _ _).symm).mem_iff.2 hb);have hp:=List.pairwise_iff_getElem.1 h1;rcases Nat.lt_trichotomy i j with hij | hij | hij
 ·have:=hp i j hi hj hij;rw [ea,eb,e,zcv] at this; cases this
 ·subst hij;exact hab (ea.symm.trans eb)
 ·have:=hp j i hj hi hij;rw [ea,eb,e,zcv] at this; cases this
theorem ztD {x:List UInt8×Int} {l:List (List UInt8×Int)} (h:l.Pairwise fun a b=>Op.bytesLess a.1 b.1=true) (hn: ∀y∈l,y.1≠x.1):(l++[x]).Pairwise fun x y=>x.1≠y.1:=by
 rw [List.pairwise_append];refine⟨h.imp (fun {a b} h e=>by rw [e,zcv] at h; cases h),List.pairwise_singleton _ _,fun a ha b hb=> ?_⟩;obtain rfl:=List.mem_singleton.1 hb;exact hn a ha
section
open Go.Shelf Go.Lib Go.Sort
theorem zsU: ∀w,(isAgg 86).run prog w= .ok true w:=fun w=>by kernel_rfl
theorem zqW: ∀w,(Go.sizeOf 86).run prog w= .ok 2 w:=fun w=>by kernel_rfl
def cfT (x y:List UInt8):Int:=if Op.bytesLess x y then -1 else 1
theorem zrT (a:List UInt8) (b:Int) (c:List UInt8) (d:Int) (W:World):Calls prog 236 #[.agg #[.string ⟨a.toArray⟩, .int .i64 b], .agg #[.string ⟨c.toArray⟩, .int .i64 d]] W fun e w'=>e= .returned (.int .i64 (cfT a c))/\ ∃q os',w'=grow (W.drewN q) os':=by
 unfold cfT;by_cases h:Op.bytesLess a c=true
 ·rw [if_pos h]
  go_enter func236,ntmps236
  go_wp2_with fail
  go_ret
  exact⟨rfl,0,_,by rw [alloc_eq_grow,alloc_eq_grow,grow_grow]; rfl⟩
 ·have h:Op.bytesLess a c=false:=by simpa using h
  rw [if_neg (by rw [h]; simp)]
  go_enter func236,ntmps236
  go_wp2_with fail
  go_ret
  exact⟨rfl,0,_,by rw [alloc_eq_grow,alloc_eq_grow,grow_grow]; rfl⟩
theorem ziU (ps:List (List UInt8×Int)) (hd:ps.Pairwise (fun x y=>x.1≠y.1)) (hl:ps.length<=1000) (h0:ps≠[]):
 Turns prog 235 [.func (.func 236) #[] #[]] 86 2 (ps.map encT) ((ps.mergeSort fun x y=> !Op.bytesLess y.1 x.1).map encT):=by
 have ef:=call235;have hpos:0<ps.length:=List.length_pos_iff.2 h0
 haveI:Inhabited {p // p∈ps} :=⟨⟨ps[0],List.getElem_mem hpos⟩⟩
 have hlt: ∀x y: {p // p∈ps},ltOf (fun x y: {p // p∈ps} =>cfT x.1.1 y.1.1) x y=Op.bytesLess x.1.1 y.1.1:=fun x y=>by
  unfold ltOf cfT;cases k:Op.bytesLess x.1.1 y.1.1<;>simp [k]
 have hswo:SWO (ltOf fun x y: {p // p∈ps} =>cfT x.1.1 y.1.1):=by
  refine⟨fun x=> ?_,fun x y z h1 h2=> ?_,fun x y z h1 h2=> ?_⟩
  ·rw [hlt]; exact zcv _
  ·rw [hlt] at*; exact zcG h1 h2
  ·rw [hlt] at*;cases k:Op.bytesLess x.1.1 z.1.1
   ·rfl
   ·cases k2:Op.bytesLess y.1.1 x.1.1
    ·rw [zbS h1 k2] at k;rw [k] at h2; cases h2
    ·rw [zcG k2 k] at h2; cases h2
 have hT: ∀x y: {p // p∈ps},ltOf (fun x y: {p // p∈ps} =>cfT x.1.1 y.1.1) x y=false->ltOf (fun x y: {p // p∈ps} =>cfT x.1.1 y.1.1) y x=false->x=y:=fun x y h1 h2=>by
  rw [hlt] at h1 h2;have e:=zbS h1 h2;obtain⟨i,hi,hxi⟩:=List.getElem_of_mem x.2;obtain⟨j,hj,hyj⟩:=List.getElem_of_mem y.2;have hp:=List.pairwise_iff_getElem.1 hd;apply Subtype.ext;rw [<-hxi, <-hyj] at e |-;rcases Nat.lt_trichotomy i j with hij | hij | hij
  ·exact absurd e (hp i j hi hj hij)
  ·subst hij; rfl
  ·exact absurd e.symm (hp j i hj hi hij)
 have hs:=zgX (e:=86) Tryz.sortTm 2 zsU zqW (fun x: {p // p∈ps} =>encT x.1) (fun _=>rfl) (fun x v hv=>by simp [encT] at hv; rcases hv with rfl | rfl<;>rfl) (fun x y=>cfT x.1.1 y.1.1) hswo 236 #[] ps.attach (by simpa using hpos) (by simp; omega) ef call236
  (fun blk w m os dk _ x y=>zrT _ _ _ _ _) hT
 have e1:ps.attach.map (fun x: {p // p∈ps} =>encT x.1)=ps.map encT:=by
  rw [show (fun x: {p // p∈ps} =>encT x.1)=encT ∘ Subtype.val from rfl, <-List.map_map,List.attach_map_subtype_val]
 have e2:(ps.attach.mergeSort fun x y=> !ltOf (fun x y: {p // p∈ps} =>cfT x.1.1 y.1.1) y x).map (fun x: {p // p∈ps} =>encT x.1)=(ps.mergeSort fun x y=> !Op.bytesLess y.1 x.1).map encT:=by
  rw [show (fun x: {p // p∈ps} =>encT x.1)=encT ∘ Subtype.val from rfl, <-List.map_map]
  congr 1
  rw [List.map_mergeSort (s:=fun x y:List UInt8×Int=> !Op.bytesLess y.1 x.1) (fun a _ b _=>by simp only [hlt]),List.attach_map_subtype_val]
 rw [e1,e2] at hs;exact hs
theorem zol (x:List UInt8×Int) (l:List (List UInt8×Int)) (h:l.Pairwise fun a b=>Op.bytesLess a.1 b.1=true) (hn: ∀y∈l,y.1≠x.1) (hl:l.length<=100):
 Turns prog 235 [.func (.func 236) #[] #[]] 86 2 ((l++[x]).map encT) ((insT x l).map encT):=by
 rw [<-zrq h hn];exact ziU _ (ztD h hn) (by simp; omega) (by simp)
end
end Go.Proofs.YtbpmkofnfgdegaaGreatDoor
namespace Go.Proofs.YtbpmkofnfgdegaaGreatDoor
open Go.Proofs.Tryz
open Go.RowKit
end Go.Proofs.YtbpmkofnfgdegaaGreatDoor
set_option linter.unusedSimpArgs false
namespace Go.Proofs.YtbpmkofnfgdegaaGreatDoor
open Go.Proofs.Tryz
open Go.RowKit
set_option maxRecDepth 100000
set_option maxHeartbeats 16000000
end Go.Proofs.YtbpmkofnfgdegaaGreatDoor
set_option linter.unusedSimpArgs false
namespace Go.Proofs.YtbpmkofnfgdegaaGreatDoor
open Go.Proofs.Tryz
open Go.RowKit Go.ChangeShapes Go.WideShapes Go.ChangeAt
set_option maxRecDepth 100000
abbrev InD:=List Int×List Int×List MemD×List (List UInt8×Int)×Bool
def inE (x:InD):List AV:=[ints34 x.1,ints34 x.2.1, .seq 2 (x.2.2.1.map mmAV), .seq 2 (x.2.2.2.1.map tmAV),B x.2.2.2.2]
def few_tm (t:List UInt8×Int):Prop:=t.1.length<=maxLen
def ztF (x:InD):Prop:=(x.1.length<=maxLen/\x.2.1.length<=maxLen)/\(x.2.2.1.length<=maxLen/\ ∀m∈x.2.2.1,ztE m)/\x.2.2.2.1.length<=maxLen/\ ∀t∈x.2.2.2.1,few_tm t
section
variable {H:Type} {enc:TypeId×Value->H} {w:World} {base:Nat} {spare:Nat->Bool} {held:Bool}
end
end Go.Proofs.YtbpmkofnfgdegaaGreatDoor
set_option linter.unusedSimpArgs false
namespace Go.Proofs.YtbpmkofnfgdegaaGreatDoor
open Go.Proofs.Tryz
open Go.RowKit
set_option maxRecDepth 100000
set_option maxHeartbeats 8000000
theorem zeb (env:Env) (c:ChD):Con prog env 22 [.agg (chAV c)] (B (zgo c)):=by
 unfold zgo;by_cases h1:(c.states.length:Int)<=40<;>by_cases h2:(c.trans.length:Int)<=70<;>by_cases h3:(c.vars.length:Int)<=10
 all_goals (refine zc7 func22 rfl call22 (by rw [ntmps22]; simp) ?_
            rw [ntmps22,results22])
 all_goals have F:=ai4 chAV.eq_1 h1 h2 h3
 all_goals (repeat refine st ?_)
 all_goals ((refine zak ?_; show (zaz _ _ _).run _=some _; simp only [go_sem,F]))
theorem zns (env:Env) (a1 a8:Addr) (he:ChEnv env a1 a8) (hT: ∀W,env.inv W->TabAt W) (c:ChD) (hcf:zdZ c) (h:zg4 c=true):Con prog env 6 [.agg (chAV c)] (zai c):=by
 have f0:=zeb env c;have f1:=zeT env c;unfold zg4 at h;rw [Bool.and_eq_true] at h;rw [h.1] at f0;rw [h.2] at f1;rw [beq_iff_eq] at h;have f2:=ziX env a1 a8 he hT c (ztQ h.2) hcf;unfold zai at f2 |-;refine qf func6 call6 ntmps6 results6 ?_;repeat (first | refine st0 ?_ | refine cC0 f0 ?_ | refine cC0 f1 ?_ | refine cC0 f2 ?_)
 exact aR0
theorem zd3 (ad:Nat->Addr) (mo:More) (k:Nat) (hk:1<=k/\k<=9) (p:Int) (ps:List Int):Con prog (zaP ad mo) 17 [errV p (chainV ps (sentV (ad k))),I k] (B true):=by
 have f0:Con prog (zaP ad mo) 44 [errV p (chainV ps (sentV (ad k)))] (I k):=znK ad mo k hk (p::ps);have b0:(((k:Nat):Int)==0)=false:=by simp; omega
 generalize chainV ps (sentV (ad k))=X at*;refine qf func17 call17 ntmps17 results17 ?_;have F:=b0;repeat (first | refine st ?_ | refine cC f0 ?_)
 exact aR
end Go.Proofs.YtbpmkofnfgdegaaGreatDoor
set_option linter.unusedSimpArgs false
namespace Go.Proofs.YtbpmkofnfgdegaaGreatDoor
open Go.Proofs.Tryz
open Go.RowKit
set_option maxRecDepth 100000
set_option maxHeartbeats 16000000
def woX (c:ChD) (act vars:List Int) (d:Int):WoD:=⟨vars,d,(List.range c.states.length).map fun k:Nat=>act.contains (k:Int)⟩
theorem zn6 (c:ChD) (act vars:List Int) (d:Int):(woX c act vars d).act.map bCell=flagA c.states.length act:=by
 unfold woX flagA;rw [List.map_map];rfl
theorem zn5 (c:ChD) (act vars:List Int) (d:Int):(woX c act vars d).act.length=c.states.length:=by
 unfold woX;simp
theorem zb1 {c:ChD} (h:Full c):ActsOk c:=by
 have hs: ∀(i:Int) (s:StD),at_ c i=some s-> ∃k,zaq c k s=true:=fun i s e=>by
  unfold at_ at e;split at e
  ·exact⟨_,h.st _ s e⟩
  ·cases e
 refine⟨fun i a ha=> ?_,fun i a ha=> ?_,fun n t ht a ha=> ?_⟩
 ·unfold outA at ha;split at ha
  ·rename_i s e;obtain⟨k,hk⟩:=hs i s e;unfold zaq zbq at hk;simp only [Bool.and_eq_true] at hk;exact List.all_eq_true.1 hk.2.2 a ha
  ·simp at ha
 ·unfold inA at ha;split at ha
  ·rename_i s e;obtain⟨k,hk⟩:=hs i s e;unfold zaq zbq at hk;simp only [Bool.and_eq_true] at hk;exact List.all_eq_true.1 hk.1.2.2 a ha
  ·simp at ha
 ·have:=h.tr n t ht;unfold zck zbq at this;simp only [Bool.and_eq_true] at this;exact List.all_eq_true.1 this.1.2.2 a ha
structure Asked (c:ChD) (x:InD) (d:Int):Prop where
 act:x.1.length<=1000
 len:x.2.1.length=c.vars.length
 fit: ∀v∈x.2.1,zaj v=true
 data:zaj d=true
 lg:lgB c x.1=true
theorem Asked.ok {c:ChD} {x:InD} {d:Int} (h:Asked c x d):(woX c x.1 x.2.1 d).Ok:=⟨h.fit,h.data⟩
end Go.Proofs.YtbpmkofnfgdegaaGreatDoor
set_option linter.unusedSimpArgs false
namespace Go.Proofs.YtbpmkofnfgdegaaGreatDoor
open Go.Proofs.Tryz
open Go.RowKit
set_option maxRecDepth 100000
set_option maxHeartbeats 16000000
theorem OwnR.seq {S:Nat->Nat->Prop} {w:World} {base:Nat} {v:Value} {e:TypeId} {sz:Nat} {es:List (List AV)} (h:OwnR S w base v e sz es):
 ∃S':Nat->Nat->Prop,(∀b o,S b o->S' b o)/\(∀b o,S' b o->S b o\/(base<=b/\b<w.heap.size))/\RV S' w v (.seq sz es):=by
 obtain⟨l,ho,hpos,hE,_⟩:=h;obtain⟨S',hS'⟩: ∃S':Nat->Nat->Prop,S'=fun b o=>S b o\/v.ownBlock=some b:=⟨_,rfl⟩;have hsup: ∀b o,S b o->S' b o/\Stay w w b o:=fun b o hh=>⟨by rw [hS']; exact .inl hh, .rfl⟩;refine⟨S',fun b o hh=>(hsup b o hh).1,fun b o hh=> ?_, ?_⟩
 ·rw [hS'] at hh;exact hh.imp id fun hh=>zaX ho hh
 rcases ho.2 with⟨rfl,hn⟩ | ⟨g,cap,cur,rfl,hb,hc,hle,_,_,htake⟩
 ·have hes:es=[]:=List.eq_nil_of_length_eq_zero hn;subst hes;exact .seq none 0 0 sz [] 0 0 (fun _ _=>undef) rfl (Nat.le_refl _) (fun hh=>by omega) (fun i e he=>by simp at he) (fun i j c hh=>by simp [cellAt] at hh) (fun i j c hh=>by simp [cellAt] at hh)
 ·have k:=hE;refine .seq (some ⟨g,0,none⟩) es.length cap sz es g 0 (fun i j=>l.getD (i*sz+j) undef) rfl hle (fun _=>rfl) k.els (fun i j c hcc=> ?_) fun i j c hcc=> ?_
  ·obtain⟨u,h1,h2⟩:=k.cell i j c hcc;have hu:l.getD (i*sz+j) undef=u:=by simp [List.getD,h1]
   rw [hu,Nat.zero_add];exact⟨by rw [hS']; exact .inr rfl,zc3 ho rfl _ u h1,k.one u (List.mem_of_getElem? h1)⟩
  ·obtain⟨u,h1,h2⟩:=k.cell i j c hcc;have hu:l.getD (i*sz+j) undef=u:=by simp [List.getD,h1]
   rw [hu];exact h2.mono hsup
theorem ConF.seen {P:Program} {env:Env} {f:FuncId} {cs:List AV} {e:TypeId} {sz:Nat} {es:List (List AV)} (h:ConF P env f cs (.own e sz es)):ConF P env f cs (.seq sz es):=by
 refine⟨h.enter,fun w S vs hE hl hv=>(h.calls w S vs hE hl hv).mono ?_⟩;rintro ex w' ⟨v,rfl,hb,S1,h1,hr⟩;obtain⟨S2,k1,k2,k3⟩:=OwnR.seq hr;exact⟨v,rfl,hb,S2,fun b o hh=>(k2 b o hh).elim (h1 b o) id,k3⟩
def RYe (c:ChD) (d now:Int) (M:List (List AV)) (o:Bool) (g:Nat->Nat):List AV:=[.row 1001 (g 1001), .row 1002 (g 1002), .seq 2 M, .row 1003 (g 1003),B o, .row 1004 (g 1004), .row 1005 (g 1005), .ref 9 [tabCells c] 0 0,Sg c.name,I c.initial,varsAV c.vars,stsAV c.states,trsAV c.trans,I d,I now]
def RY (c:ChD) (d now:Int) (r:RunD) (g:Nat->Nat):List (Nat×Row):=[(1000,⟨15,[RYe c d now (r.mem.map mmAV) r.over g],79,false⟩),(1001,⟨1,r.act.map intAV,3,true⟩),(1002,⟨1,r.vars.map intAV,3,true⟩),(1003,⟨2,r.tms.map tmAV,86,true⟩),(1004,⟨1,r.outs.map intAV,3,true⟩),(1005,⟨2,r.rais.map tmAV,114,true⟩)]
def gr5 (k:Nat):Bool:=k==1001||(k==1003||(k==1004||k==1005))
def errA (a2 a8:Addr):ErD->AV
 | none=>nilE
 | some (k,ps)=>errV (ps.headD (-1)) (chainV ps.tail (sentV (if k=2 then a2 else a8)))
theorem zcF (a2 a8:Addr) (e:ErD) (L:Nat->Nat->Option (Nat×Nat)):(errA a2 a8 e).ren L=errA a2 a8 e:=by rcases e with _ | ⟨_,_⟩<;>rfl
theorem zmH (env:Env) (c:ChD) (hc:c.states.length<=4000) (d now:Int) (r:RunD) (hl:r.act.length<=1000000):ConI prog env 147 [1000,1001,1002,1003,1004,1005] (fun _=>false) (fun g=>[.loc 1000 (g 1000) 0 0]) (RY c d now r) (RY c d now r) (fun g=>woI (woR c d r) g):=by
 have f0:=zdx env c hc r.act hl;have f0:=(f0.lend (zaJ (fun _=>rfl) _)).seen;have h0:(woR c d r).act.map bCell=flagA c.states.length r.act:=zn6 c r.act r.vars d;unfold woI;rw [h0];show ConI _ _ _ _ _ _ _ _ fun g=> .agg [.row 1002 (g 1002),I d, .seq 1 (flagA c.states.length r.act)];unfold zai at f0;generalize flagA c.states.length r.act=L at*;refine qi func147 call147 ntmps147 results147 ?_;intro vs esc hesc;have e0:=hesc 1000 (by simp);have e1:=hesc 1001 (by simp);have e2:=hesc 1002 (by simp);have e3:=hesc 1003 (by simp);have e4:=hesc 1004 (by simp);have e5:=hesc 1005 (by simp);have F:=ai8 RY.eq_1 RYe.eq_1 e0 e1 e2 e3 e4 e5;repeat refine st ?_
 refine lL f0 ?_;repeat refine st ?_
 exact rI
theorem zos (env:Env) (G:List UInt8) (x:List UInt8×Int):Con prog env 232 [.agg (tmAV x), .ref 1 [[Sg G]] 0 0] (B (x.1==G)):=by
 have h0:(x.1==G)=(x.1.toArray==G.toArray):=by rw [Bool.eq_iff_iff]; simp
 unfold tmAV;refine qf func232 call232 ntmps232 results232 ?_;repeat refine st0 ?_
 exact aR0
theorem zlQ (env:Env) (c:ChD) (d now:Int) (r:RunD) (hl:r.tms.length<=4096) (s:List UInt8):ConI prog env 194 [1000,1001,1002,1003,1004,1005] gr5 (fun g=>[.loc 1000 (g 1000) 0 0,Sg s]) (RY c d now r) (RY c d now { r with tms:=without r.tms s }) (fun _=> .lit (.tuple #[])):=by
 have f0:ConI prog env _ _ _ _ _ (fun _=>[(1000,⟨2,(without r.tms s).map tmAV,86,true⟩),_]) _:=zkd env r.tms (fun x=>x.1==s) 232 s 9 (zos env s) hl;generalize without r.tms s=L at*;refine qi func194 call194 ntmps194 results194 ?_;intro vs esc hesc;have e0:=hesc 1000 (by simp);have e1:=hesc 1001 (by simp);have e2:=hesc 1002 (by simp);have e3:=hesc 1003 (by simp);have e4:=hesc 1004 (by simp);have e5:=hesc 1005 (by simp);have F:=ai9 RY.eq_1 RYe.eq_1 gr5.eq_1 e0 e1 e2 e3 e4 e5;repeat refine st ?_
 refine iL [(1000,1003),(1001,3)] f0 ?_;repeat refine st ?_
 exact rN
theorem zii (env:Env) (a8:Addr) (h8:env 7=some (sentV a8)):Con prog env 197 [] (errV (-1) (sentV a8)):=by
 have g1:=zgx h8;have f0:=zbD env [109,105,99,114,111,46,100,111] a8;refine qf func197 call197 ntmps197 results197 ?_;have F:=g1;repeat (first | refine st ?_ | refine cC f0 ?_)
 exact aR
theorem zja (env:Env) (a2 a8:Addr) (h8:env 7=some (sentV a8)) (c:ChD) (d now:Int) (r:RunD) (s:List UInt8) (v:Int):ConI prog env 162 [1000,1001,1002,1003,1004,1005] gr5 (fun g=>[.loc 1000 (g 1000) 0 0,Sg s,I v]) (RY c d now r) (RY c d now (raiseP r s v).1) (fun _=>errA a2 a8 (raiseP r s v).2):=by
 have f0:=zii env a8 h8;unfold raiseP;by_cases hl:16<=r.rais.length
 ·rw [if_pos hl];have q0:(16:Int)<=(r.rais.length:Int):=by omega
  show ConI _ _ _ _ _ _ _ _ fun _=>errV (-1) (sentV a8);refine qi func162 call162 ntmps162 results162 ?_;intro vs esc hesc;have e0:=hesc 1000 (by simp);have e1:=hesc 1001 (by simp);have e2:=hesc 1002 (by simp);have e3:=hesc 1003 (by simp);have e4:=hesc 1004 (by simp);have e5:=hesc 1005 (by simp);have F:=ai10 RY.eq_1 RYe.eq_1 gr5.eq_1 q0 e0 e1 e2 e3 e4 e5;repeat (first | refine st ?_ | refine cC f0 ?_)
  exact rI
 ·rw [if_neg hl];have q0: ¬(16:Int)<=(r.rais.length:Int):=by omega
  have q1:Fits (r.rais.length+1) 24:=zaf (by omega) (by omega);show ConI _ _ _ _ _ _ _ _ fun _=>nilE;unfold RY;simp only [List.map_append,List.map_cons,List.map_nil];refine qi func162 call162 ntmps162 results162 ?_;intro vs esc hesc;have e0:=hesc 1000 (by simp);have e1:=hesc 1001 (by simp);have e2:=hesc 1002 (by simp);have e3:=hesc 1003 (by simp);have e4:=hesc 1004 (by simp);have e5:=hesc 1005 (by simp);have F:=ai11 RYe.eq_1 tmAV.eq_1 gr5.eq_1 q0 q1 e0 e1 e2 e3 e4 e5;repeat refine st ?_
  exact rI
theorem zou (env:Env) (a2 a8:Addr) (h2:env 2=some (sentV a2)) (h8:env 7=some (sentV a8)) (c:ChD) (d now:Int) (hn:0<=now/\now<=1099511627776) (r:RunD) (hr:RunOk c r) (s:List UInt8) (v:Int):ConI prog env 196 [1000,1001,1002,1003,1004,1005] gr5 (fun g=>[.loc 1000 (g 1000) 0 0,Sg s,I v]) (RY c d now r) (RY c d now (startP now r s v).1) (fun _=>errA a2 a8 (startP now r s v).2):=by
 have f0:=zii env a8 h8;have f1:=zlQ env c d now r (by have:=hr.tml; omega) s;have f2:=zbD env [109,105,99,114,111,46,115,116,97,114,116] a2;have g2:=zgx h2;have k0:IntKind.i64.wrap (1099511627776-now)=1099511627776-now:=zaw (by omega) (by omega);unfold startP;by_cases hv:v<0\/1099511627776-now<v
 ·rw [if_pos hv];show ConI _ _ _ _ _ _ _ _ fun _=>errV (-1) (sentV a2);by_cases hv0:v<0
  ·refine qi func196 call196 ntmps196 results196 ?_;intro vs esc hesc;have e0:=hesc 1000 (by simp);have e1:=hesc 1001 (by simp);have e2:=hesc 1002 (by simp);have e3:=hesc 1003 (by simp);have e4:=hesc 1004 (by simp);have e5:=hesc 1005 (by simp);have F:=ai11 RY.eq_1 RYe.eq_1 gr5.eq_1 hv0 g2 e0 e1 e2 e3 e4 e5;repeat (first | refine st ?_ | refine cC f2 ?_)
   exact rI
  ·have hv1:1099511627776-now<v:=by omega
   refine qi func196 call196 ntmps196 results196 ?_;intro vs esc hesc;have e0:=hesc 1000 (by simp);have e1:=hesc 1001 (by simp);have e2:=hesc 1002 (by simp);have e3:=hesc 1003 (by simp);have e4:=hesc 1004 (by simp);have e5:=hesc 1005 (by simp);have F:=ai13 RY.eq_1 RYe.eq_1 gr5.eq_1 hv0 hv1 k0 g2 e0 e1 e2 e3 e4 e5;repeat (first | refine st ?_ | refine cC f2 ?_)
   exact rI
 rw [if_neg hv];have hv0: ¬v<0:=by omega
 have hv1: ¬1099511627776-now<v:=by omega
 by_cases h8:8<=(without r.tms s).length
 ·rw [if_pos h8];have q0:(8:Int)<=((without r.tms s).length:Int):=by omega
  show ConI _ _ _ _ _ _ _ _ fun _=>errV (-1) (sentV a8);generalize without r.tms s=L at*;unfold RY RYe at f1;refine qi func196 call196 ntmps196 results196 ?_;intro vs esc hesc;have e0:=hesc 1000 (by simp);have e1:=hesc 1001 (by simp);have e2:=hesc 1002 (by simp);have e3:=hesc 1003 (by simp);have e4:=hesc 1004 (by simp);have e5:=hesc 1005 (by simp);have F:=ai13 RY.eq_1 RYe.eq_1 gr5.eq_1 hv0 hv1 k0 q0 e0 e1 e2 e3 e4 e5;repeat refine st ?_
  refine iL [(1000,1000),(1001,1001),(1002,1002),(1003,1003),(1004,1004),(1005,1005)] f1 ?_;repeat (first | refine st ?_ | refine cC f0 ?_)
  exact rI
 ·rw [if_neg h8];have q0: ¬(8:Int)<=((without r.tms s).length:Int):=by omega
  have q1:Fits ((without r.tms s).length+1) 24:=zaf (by omega) (by omega);have q2:IntKind.i64.wrap (now+v)=now+v:=zaw (by omega) (by omega);have hT:=zol (s,now+v) (without r.tms s) (hr.tms.without s).rise zha (by omega);have k1:zaL ((without r.tms s++[(s,now+v)]).map encT)=(without r.tms s).map tmAV++[[Sg s,I (now+v)]]:=by rw [zl8,List.map_append]; rfl
  have k2:=zl8 (insT (s,now+v) (without r.tms s));show ConI _ _ _ _ _ _ _ _ fun _=>nilE;generalize insT (s,now+v) (without r.tms s)=L2 at*;generalize without r.tms s=L at*;unfold RY RYe at f1;refine qi func196 call196 ntmps196 results196 ?_;intro vs esc hesc;have e0:=hesc 1000 (by simp);have e1:=hesc 1001 (by simp);have e2:=hesc 1002 (by simp);have e3:=hesc 1003 (by simp);have e4:=hesc 1004 (by simp);have e5:=hesc 1005 (by simp);have F:=ai15 RY.eq_1 RYe.eq_1 gr5.eq_1 hv0 hv1 k0 q0 q1 q2 e0 e1 e2 e3 e4 e5;repeat refine st ?_
  refine iL [(1000,1000),(1001,1001),(1002,1002),(1003,1003),(1004,1004),(1005,1005)] f1 ?_;repeat refine st ?_
  refine zko 1003 rfl (row:=⟨2,L.map tmAV++[[Sg s,I (now+v)]],86,true⟩) (by simp only [go_sem]<;>exact iR) (by simp only [go_sem]<;>exact iR) (by simp only [go_sem]<;>exact iR) hT k1.symm rfl (Nat.succ_ne_zero 1) (by simp only [go_sem]; exact iR) ?_;rw [k2];repeat refine st ?_
  exact rI
end Go.Proofs.YtbpmkofnfgdegaaGreatDoor
set_option linter.unusedSimpArgs false
namespace Go.Proofs.YtbpmkofnfgdegaaGreatDoor
open Go.Proofs.Tryz
open Go.RowKit
set_option maxRecDepth 100000
set_option maxHeartbeats 16000000
theorem ztG (env:Env) (a1 a2 a8:Addr) (he:ChEnv env a1 a8) (h2:env 2=some (sentV a2)) (c:ChD) (hc:c.states.length<=4000) (hcv:c.vars.length<=1000000) (d now:Int) (hd:zaj d=true) (hn:0<=now/\now<=1099511627776) (r:RunD) (hr:RunOk c r) (hl:r.act.length<=1000000) (a:ActD) (ha:actB c.vars.length c.states.length a=true):
 ConI prog env 140 [1000,1001,1002,1003,1004,1005] gr5 (fun g=>[.loc 1000 (g 1000) 0 0, .agg (zam a)]) (RY c d now r) (RY c d now (doP c d now r a).1) (fun _=>errA a2 a8 (doP c d now r a).2):=by
 unfold doP;by_cases h5:a.kind=5
 ·rw [if_pos h5];have f1:=zlQ env c d now r (by have:=hr.tml; omega) a.name;show ConI _ _ _ _ _ _ _ _ fun _=>nilE;generalize without r.tms a.name=L at*;have k5:(a.kind==5)=true:=by simp [h5]
  unfold RY RYe at f1;refine qi func140 call140 ntmps140 results140 ?_;intro vs esc hesc;have e0:=hesc 1000 (by simp);have e1:=hesc 1001 (by simp);have e2:=hesc 1002 (by simp);have e3:=hesc 1003 (by simp);have e4:=hesc 1004 (by simp);have e5:=hesc 1005 (by simp);have F:=ai12 zam.eq_1 RY.eq_1 RYe.eq_1 gr5.eq_1 zcF k5 e0 e1 e2 e3 e4 e5;repeat refine st ?_
  refine iL [(1000,1000),(1001,1001),(1002,1002),(1003,1003),(1004,1004),(1005,1005)] f1 ?_;repeat refine st ?_
  exact rI
 rw [if_neg h5]
 have hcode:zaF a.code c.vars.length c.states.length=true:=by
  unfold actB at ha;repeat' split at ha
  all_goals (first | (exact absurd ‹a.kind=5› h5) | (simp only [Bool.and_eq_true] at ha; exact ha.2) | cases ha)
 have f1:=zmH env c hc d now r hl;have f2:=zpV env a1 a2 a8 he h2 (woR c d r) (zn7 hr hd) (by show r.vars.length<=_; rw [hr.len]; exact hcv) a.code (by rw [show (woR c d r).act.length=c.states.length from zn5 c r.act r.vars d,show (woR c d r).vars.length=c.vars.length from hr.len]; exact hcode);have hw:(woR c d r).vars=r.vars:=rfl;generalize (woR c d r)=W at*;have k5:(a.kind==5)=false:=by simp [h5]
 unfold woI at f1 f2;unfold rowV at f2;rw [hw] at f2;cases hv:zg7 W a.code with
 | none=>
   have f3:=zlJ env [109,105,99,114,111,46,100,111] (-1) (sentV a2);rw [hv] at f2;unfold zjZ at f2;show ConI _ _ _ _ _ _ _ _ fun _=>errV (-1) (errV (-1) (sentV a2));simp only;unfold RY RYe at f1;refine qi func140 call140 ntmps140 results140 ?_;intro vs esc hesc;have e0:=hesc 1000 (by simp);have e1:=hesc 1001 (by simp);have e2:=hesc 1002 (by simp);have e3:=hesc 1003 (by simp);have e4:=hesc 1004 (by simp);have e5:=hesc 1005 (by simp);have F:=ai12 zam.eq_1 RY.eq_1 RYe.eq_1 gr5.eq_1 zcF k5 e0 e1 e2 e3 e4 e5;repeat refine st ?_
   refine iL [(1000,1000),(1001,1001),(1002,1002),(1003,1003),(1004,1004),(1005,1005)] f1 ?_;repeat refine st ?_
   refine iL [(1002,1002)] f2 ?_;repeat (first | refine st ?_ | refine cC f3 ?_)
   exact rI
 | some v=>
   rw [hv] at f2;unfold zjZ at f2;simp only;have r0:=zja env a2 a8 he.e8 c d now r a.name v;have r1:=zou env a2 a8 h2 he.e8 c d now hn r hr a.name v;have r2:=zii env a8 he.e8;by_cases k1:a.kind=1
   ·rw [if_pos k1];have q1:(a.kind==1)=true:=by simp [k1]
    obtain⟨hn0,hn1⟩:0<=a.n/\a.n<c.vars.length:=by
     unfold actB at ha;rw [if_pos k1] at ha;simp only [Bool.and_eq_true,decide_eq_true_eq] at ha;exact ha.1.1
    have hlen:=hr.len;have q2:a.n< (r.vars.length:Int):=by omega
    obtain⟨x,hx⟩: ∃x,r.vars[a.n.toNat]? =some x:=⟨r.vars[a.n.toNat]'(by omega),List.getElem?_eq_getElem _⟩;show ConI _ _ _ _ _ _ _ _ fun _=>nilE;unfold RY RYe at f1;unfold RY;simp only [List.map_set];refine qi func140 call140 ntmps140 results140 ?_;intro vs esc hesc;have e0:=hesc 1000 (by simp);have e1:=hesc 1001 (by simp);have e2:=hesc 1002 (by simp);have e3:=hesc 1003 (by simp);have e4:=hesc 1004 (by simp);have e5:=hesc 1005 (by simp);have F:=ai16 zam.eq_1 intAV.eq_1 RYe.eq_1 gr5.eq_1 zcF k5 q1 q2 hn0 hx e0 e1 e2 e3 e4 e5;repeat refine st ?_
    refine iL [(1000,1000),(1001,1001),(1002,1002),(1003,1003),(1004,1004),(1005,1005)] f1 ?_;repeat refine st ?_
    refine iL [(1002,1002)] f2 ?_;repeat refine st ?_
    exact rI
   rw [if_neg k1];have q1:(a.kind==1)=false:=by simp [k1]
   by_cases k2:a.kind=2
   ·rw [if_pos k2];have q2:(a.kind==2)=true:=by simp [k2]
    generalize raiseP r a.name v=X at*;unfold RY RYe at f1 r0;refine qi func140 call140 ntmps140 results140 ?_;intro vs esc hesc;have e0:=hesc 1000 (by simp);have e1:=hesc 1001 (by simp);have e2:=hesc 1002 (by simp);have e3:=hesc 1003 (by simp);have e4:=hesc 1004 (by simp);have e5:=hesc 1005 (by simp);have F:=ai14 zam.eq_1 RY.eq_1 RYe.eq_1 gr5.eq_1 zcF k5 q1 q2 e0 e1 e2 e3 e4 e5;repeat refine st ?_
    refine iL [(1000,1000),(1001,1001),(1002,1002),(1003,1003),(1004,1004),(1005,1005)] f1 ?_;repeat refine st ?_
    refine iL [(1002,1002)] f2 ?_;repeat refine st ?_
    refine iL [(1000,1000),(1001,1001),(1002,1002),(1003,1003),(1004,1004),(1005,1005)] r0 ?_;repeat refine st ?_
    exact rI
   rw [if_neg k2];have q2:(a.kind==2)=false:=by simp [k2]
   by_cases k4:a.kind=4
   ·rw [if_pos k4];have q4:(a.kind==4)=true:=by simp [k4]
    generalize startP now r a.name v=X at*;unfold RY RYe at f1 r1;refine qi func140 call140 ntmps140 results140 ?_;intro vs esc hesc;have e0:=hesc 1000 (by simp);have e1:=hesc 1001 (by simp);have e2:=hesc 1002 (by simp);have e3:=hesc 1003 (by simp);have e4:=hesc 1004 (by simp);have e5:=hesc 1005 (by simp);have F:=ai15 zam.eq_1 RY.eq_1 RYe.eq_1 gr5.eq_1 zcF k5 q1 q2 q4 e0 e1 e2 e3 e4 e5;repeat refine st ?_
    refine iL [(1000,1000),(1001,1001),(1002,1002),(1003,1003),(1004,1004),(1005,1005)] f1 ?_;repeat refine st ?_
    refine iL [(1002,1002)] f2 ?_;repeat refine st ?_
    refine iL [(1000,1000),(1001,1001),(1002,1002),(1003,1003),(1004,1004),(1005,1005)] r1 ?_;repeat refine st ?_
    exact rI
   rw [if_neg k4];have q4:(a.kind==4)=false:=by simp [k4]
   unfold outP;by_cases ho:256<=r.outs.length
   ·rw [if_pos ho];have q0:(256:Int)<=(r.outs.length:Int):=by omega
    show ConI _ _ _ _ _ _ _ _ fun _=>errV (-1) (sentV a8);unfold RY RYe at f1;refine qi func140 call140 ntmps140 results140 ?_;intro vs esc hesc;have e0:=hesc 1000 (by simp);have e1:=hesc 1001 (by simp);have e2:=hesc 1002 (by simp);have e3:=hesc 1003 (by simp);have e4:=hesc 1004 (by simp);have e5:=hesc 1005 (by simp);have F:=ai16 zam.eq_1 RY.eq_1 RYe.eq_1 gr5.eq_1 zcF k5 q1 q2 q4 q0 e0 e1 e2 e3 e4 e5;repeat refine st ?_
    refine iL [(1000,1000),(1001,1001),(1002,1002),(1003,1003),(1004,1004),(1005,1005)] f1 ?_;repeat refine st ?_
    refine iL [(1002,1002)] f2 ?_;repeat (first | refine st ?_ | refine cC r2 ?_)
    exact rI
   ·rw [if_neg ho];have q0: ¬(256:Int)<=(r.outs.length:Int):=by omega
    have q3:Fits (r.outs.length+1) 8:=zaf (by omega) (by omega);show ConI _ _ _ _ _ _ _ _ fun _=>nilE;unfold RY RYe at f1;unfold RY;simp only [List.map_append,List.map_cons,List.map_nil];refine qi func140 call140 ntmps140 results140 ?_;intro vs esc hesc;have e0:=hesc 1000 (by simp);have e1:=hesc 1001 (by simp);have e2:=hesc 1002 (by simp);have e3:=hesc 1003 (by simp);have e4:=hesc 1004 (by simp);have e5:=hesc 1005 (by simp);have F:=ai17 zam.eq_1 intAV.eq_1 RYe.eq_1 gr5.eq_1 zcF k5 q1 q2 q4 q0 q3 e0 e1 e2 e3 e4 e5;repeat refine st ?_
    refine iL [(1000,1000),(1001,1001),(1002,1002),(1003,1003),(1004,1004),(1005,1005)] f1 ?_;repeat refine st ?_
    refine iL [(1002,1002)] f2 ?_;repeat refine st ?_
    exact rI
structure RunEnv (env:Env) (a1 a2 a8:Addr) (c:ChD) (d now:Int):Prop where
 he:ChEnv env a1 a8
 h2:env 2=some (sentV a2)
 h:Full c
 hs:Small c
 hd:zaj d=true
 hn:0<=now/\now<=1099511627776
theorem zmF {c:ChD} {d now:Int} {r:RunD} {l:List ActD} {j:Nat} {a:ActD} (ha:l[j]? =some a):allP c d now r (l.drop j)=match doP c d now r a with
 |(r1,none)=>allP c d now r1 (l.drop (j+1))
 | x=>x:=by
 rw [za0 ha]
 conv=>lhs; unfold allP
 rcases doP c d now r a with⟨r1,_ | _⟩<;>rfl
theorem ztc (env:Env) (a1 a2 a8:Addr) (c:ChD) (d now:Int) (E:RunEnv env a1 a2 a8 c d now) (r:RunD) (hr:RunOk c r) (hl:r.act.length<=1000000) (l:List ActD) (hll:l.length<=1000) (ha: ∀a∈l,actB c.vars.length c.states.length a=true):
 ConI prog env 78 [1000,1001,1002,1003,1004,1005] gr5 (fun g=>[.loc 1000 (g 1000) 0 0, .seq 4 (l.map zam)]) (RY c d now r) (RY c d now (allP c d now r l).1) (fun _=>errA a2 a8 (allP c d now r l).2):=by
 have hfew:=E.h.few;have hcv:=E.hs.vars;have hdo:=fun(r:RunD) hr hl (a:ActD) ha=>ztG env a1 a2 a8 E.he E.h2 c (by omega) (by omega) d now E.hd E.hn r hr hl a ha;have hok:=fun(r:RunD) (hr:RunOk c r) (a:ActD) ha=>zs1 E.hd E.hn hr (a:=a) ha;refine qi func78 call78 ntmps78 results78 ?_;intro vs esc hesc;have e0:=hesc 1000 (by simp);have e1:=hesc 1001 (by simp);have e2:=hesc 1002 (by simp);have e3:=hesc 1003 (by simp);have e4:=hesc 1004 (by simp);have e5:=hesc 1005 (by simp);have F:=ai9 RY.eq_1 RYe.eq_1 gr5.eq_1 e0 e1 e2 e3 e4 e5;repeat refine st ?_
 refine zab (D:=Nat×RunD) (fun x vs'=>[(0, .loc 1000 (vs' 1000) 0 0),(8, .seq 4 (l.map zam)),(9,I l.length),(10,I x.1)]) (fun x vs'=>RY c d now x.2 vs') (fun x vs' esc'=>(x.1<=l.length/\allP c d now r l=allP c d now x.2 (l.drop x.1)/\RunOk c x.2/\x.2.act=r.act)/\(vs' 1000=vs 1000/\vs' 1002=vs 1002)/\esc' 1000=false/\esc' 1001=false/\esc' 1002=false/\esc' 1003=false/\esc' 1004=false/\esc' 1005=false) (fun x=>l.length-x.1) (0,r) ?_ ?_ ?_ ?_
 ·exact⟨⟨Nat.zero_le _,rfl,hr,rfl⟩,by simp only [go_sem,and_self],by simp only [go_sem,e0,e1,e2,e3,e4,e5,and_self]⟩
 ·exact qe
 ·exact qe
 try clear e0 e1 e2 e3 e4 e5
 rintro⟨j,r1⟩ ws es ⟨⟨hj,heq,hr1,hact⟩,⟨v0,v2⟩,e0,e1,e2,e3,e4,e5⟩;simp only at hj heq hr1 hact;by_cases hlt:j<l.length
 ·obtain⟨a,hx⟩: ∃a,l[j]? =some a:=⟨l[j],List.getElem?_eq_getElem hlt⟩;have ham:=ha a (List.mem_of_getElem? hx);have f0:=hdo r1 hr1 (by rw [hact]; exact hl) a ham;obtain⟨k1,k2⟩:=hok r1 hr1 a ham;have q1:=nlt hlt;have q2:=zaa hlt (by omega);rw [zmF hx] at heq;rcases hX:doP c d now r1 a with⟨r2,_ | ⟨k,ps⟩⟩
  ·rw [hX] at heq f0 k1 k2;simp only at heq k1 k2;unfold errA RY RYe at f0;simp only at f0;unfold zam at f0;have F:=ai13 zam.eq_1 RY.eq_1 RYe.eq_1 gr5.eq_1 hx q1 q2 e0 e1 e2 e3 e4 e5;repeat refine st ?_
   refine iL [(1000,1000),(1001,1001),(1002,1002),(1003,1003),(1004,1004),(1005,1005)] f0 ?_;repeat refine st ?_
   refine⟨(j+1,r2),⟨⟨hlt,heq,k1,k2.act.trans hact⟩, ?_, ?_⟩, ?_, ?_, ?_⟩
   ·simp only [go_sem,v0,v2,and_self]
   ·simp only [go_sem,e0,e1,e2,e3,e4,e5,and_self]
   ·exact qe
   ·exact qe
   ·simp only; omega
  ·rw [hX] at heq f0;simp only at heq;rw [heq];unfold errA RY RYe at f0;unfold zam at f0;simp only at f0;show awp _ _ _ _ _ _;unfold errA;simp only;have F:=ai15 zam.eq_1 RY.eq_1 RYe.eq_1 gr5.eq_1 hx q1 q2 v0 v2 e0 e1 e2 e3 e4 e5;repeat refine st ?_
   refine iL [(1000,1000),(1001,1001),(1002,1002),(1003,1003),(1004,1004),(1005,1005)] f0 ?_;repeat refine st ?_
   exact rI
 ·obtain rfl:j=l.length:=by omega
  have q1: ¬(l.length:Int)< (l.length:Int):=by omega
  rw [List.drop_length] at heq;rw [heq];unfold allP;show awp _ _ _ _ _ _;unfold errA;simp only;have F:=ai12 RY.eq_1 RYe.eq_1 gr5.eq_1 q1 v0 v2 e0 e1 e2 e3 e4 e5;repeat refine st ?_
  exact rI
end Go.Proofs.YtbpmkofnfgdegaaGreatDoor
