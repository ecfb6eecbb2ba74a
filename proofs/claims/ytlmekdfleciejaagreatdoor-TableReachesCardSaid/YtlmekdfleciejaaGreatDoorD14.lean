/- math/bits.TrailingZeros32; the states of a set, rising. -/
import Derived.Test.YtlmekdfleciejaaGreatDoorD11
import Derived.Test.YtlmekdfleciejaaGreatDoorD12
import Derived.Test.YtlmekdfleciejaaGreatDoorD5
import Derived.Test.YtlmekdfleciejaaGreatDoorD13
import Derived.LoopN
import Derived.Shelf.Abstract
import Derived.Test.YtlmekdfleciejaaGreatDoorD9
import Derived.Lib.TrailingZeros
import Derived.Laws.BitsAllLaws
import Derived.Laws.BitsLemmas
import Derived.RangeFuncNested
import Derived.RangeFuncBound
import Derived.RangeFuncCalls
import Derived.Shelf.RegionOpen
import Derived.WalkKit
import Derived.OwnWalkIn
import Derived.TacticsInMore
import Derived.LoopNIn
import Derived.LoopIn
set_option maxRecDepth 100000
set_option maxHeartbeats 4000000
namespace Go.Proofs.YtlmekdfleciejaaGreatDoor
section
open Go.RowKit Go.Sort Go.Shelf Go.Lib
theorem zlS (p:Option Addr) (cap:Nat) (w:World):Calls Tryz.prog 138 #[.slice p 0 cap] w fun ex w'=>ex= .returned (.tuple #[])/\w'=w:=by
 go_enter Tryz.func138,Tryz.ntmps138
 go_wp2_with (first | go_in)
 refine wp_loop_rounds 1 ?_
 simp only [Code.rounds]
 go_wp2_with (first | go_in)
 refine wp_loop_rounds 1 ?_
 simp only [Code.rounds]
 go_wp2_with (first | go_in)
 go_end0
 exact⟨rfl,rfl⟩
def strC (s:List UInt8):List Value:=[encStr s]
theorem zbA {α:Type} (f:α->Value): ∀l:List α,(l.map fun s=>[f s]).flatten=l.map f
 | []=>rfl
 | x::l=>by simp [zbA f l]
theorem zn1 {w:World} {g:Nat} {l:List (List UInt8)} (h:Holds id w g 0 (l.map encStr).toArray):Holds encStr w g 0 l.toArray:=fun j hj=>by
 have hj':j<l.length:=by simpa using hj
 have:=h j (by simpa using hj')
 rw [getElem!_pos _ j (by simpa using hj')] at this
 rw [getElem!_pos _ j hj]
 simpa using this
theorem Tryz.sortEnter: ∀(args:Array Value) (w:World),(callFunc 138 args).run Tryz.prog w= .ok (.enter 138 args) w:=enters_of Tryz.func138 (by kernel_rfl) rfl
theorem Tryz.compEnter: ∀(args:Array Value) (w:World),(callFunc 139 args).run Tryz.prog w= .ok (.enter 139 args) w:=enters_of Tryz.func139 (by kernel_rfl) rfl
def zda (l:List (List UInt8)):List (List UInt8):=l.mergeSort fun x y=>decide (x<=y)
theorem zj2 (l:List (List UInt8)) (hl:l.length<4611686018427387904):Turns Tryz.prog 138 [] 9 1 (l.map strC) ((zda l).map strC):=by
 by_cases h0:l=[]
 ·subst h0
  rw [show zda []=[] by simp [zda]]
  exact zeI Tryz.sortEnter fun p cap w=>zlS p cap w
 ·refine zeJ (by rw [List.length_map]; exact List.length_pos_iff.2 h0) Tryz.sortEnter (by simp [zda]) (fun x hx=> ?_) (fun x hx=> ?_) fun w g cap hH hg=> ?_
  ·obtain⟨y,_,rfl⟩:=List.mem_map.1 hx; rfl
  ·obtain⟨y,_,rfl⟩:=List.mem_map.1 hx
   exact⟨rfl,fun u hu=>by rw [List.mem_singleton.1 hu]; rfl⟩
  ·have hH:Holds id w g 0 (l.map encStr).toArray:=by rw [<-zbA]; exact hH
   have:=Any.slices_Sort_string Tryz.sortS g 0 cap l w (zn1 hH) hg hl
   rw [List.length_map]
   refine(show Calls Tryz.prog 138 #[.slice (some ⟨g,0,none⟩) l.length cap] w _ from this).mono ?_
   rintro ex w' ⟨rfl,n,os,rfl⟩
   refine⟨rfl,n,os, ?_⟩
   rw [zdi,show ((zda l).map strC).flatten=(zda l).map encStr from zbA encStr _]
   simp [zda]
theorem zms (l:List (List UInt8)) (hl:l.length<=9223372036854775807):Cuts Tryz.prog 139 9 1 (l.map strC) ((Lib.compact l).map strC):=by
 refine⟨Tryz.compEnter,fun x hx=> ?_,fun w base v ho=> ?_⟩
 ·obtain⟨y,_,rfl⟩:=List.mem_map.1 hx
  exact⟨rfl,fun u hu=>by rw [List.mem_singleton.1 hu]; rfl⟩
 rw [show (l.map strC).flatten=l.map encStr from zbA encStr _,List.length_map] at ho
 rw [show ((Lib.compact l).map strC).flatten=(Lib.compact l).map encStr from zbA encStr _,List.length_map]
 by_cases h0:l=[]
 ·subst h0
  obtain⟨p,cap,rfl⟩: ∃p cap,v= .slice p 0 cap:=by
   rcases ho.2 with⟨rfl,_⟩ | ⟨g,cap,cur,rfl,_⟩
   ·exact⟨_,_,rfl⟩
   ·exact⟨_,_,rfl⟩
  refine(show Calls Tryz.prog 139 #[.slice p 0 cap] w _ from Any.slices_Compact_string_empty Tryz.compS p cap w).mono ?_
  rintro ex w' ⟨rfl,rfl⟩
  exact⟨_,rfl,rfl,⟨rfl,rfl,rfl,Nat.le_refl _,fun _ _ _=>rfl⟩,fun _ h=>h,ho⟩
 ·rcases ho.2 with⟨_,h⟩ | ⟨g,cap,cur,rfl,hbase,hb,h1,h2,h3,h4⟩
  ·exact absurd (List.eq_nil_of_length_eq_zero h) h0
  have hg:g<w.heap.size:=(Array.getElem?_eq_some_iff.1 hb).1
  have hH:Holds encStr w g 0 l.toArray:=fun j hj=>by
   have hj':j<l.length:=by simpa using hj
   have e1:(cur.toList.take (l.length*1))[j]? =(l.map encStr)[j]? :=by rw [h4]
   rw [List.getElem?_take_of_lt (by omega),List.getElem?_map,List.getElem?_eq_getElem hj'] at e1
   refine⟨?_,by simp [World.frozen?,hb]⟩
   simp only [World.cell?,hb,Nat.zero_add,Option.isSome_none,Bool.false_eq_true,if_false]
   rw [<-Array.getElem?_toList,e1,getElem!_pos _ j hj]
   rfl
  have hcl:(Lib.compact l).length<=l.length:=by
   unfold Lib.compact Lib.compactUpTo
   rw [List.length_map]
   exact Nat.le_trans (List.length_filter_le ..) (by simp)
  refine(show Calls Tryz.prog 139 #[.slice (some ⟨g,0,none⟩) l.length cap] w _ from Any.slices_Compact_string Tryz.compS g 0 cap l w hH hl h1).mono ?_
  rintro ex w' ⟨rfl,q,rfl⟩
  rw [zdi]
  generalize hF:((Lib.compact l++List.replicate (l.length-(Lib.compact l).length) []).toArray.map encStr)=F
  have hFs:F.size=l.length:=by rw [<-hF]; simp; omega
  have hgr: ∀W:World,grow W #[]=W:=fun W=>by simp [grow]
  have e2:=heap_put (n:=q) (os:= #[]) F hb
  have e3:=zd6 (w:=w) (g:=g) (n:=q) (os:= #[]) F
  rw [hgr] at e2 e3
  refine⟨_,rfl,rfl,e3,fun _ h=>h,⟨by rw [List.length_map,Nat.mul_one], .inr ⟨g,cap,_,rfl,hbase,e2,Nat.le_trans hcl h1,h2,by simp [putCells,h3], ?_⟩⟩⟩
  have ht:=zhz cur F (by rw [hFs,h3]; omega)
  rw [Nat.mul_one]
  have:((putCells id 0 F cur).toList.take (Lib.compact l).length)=(F.toList).take (Lib.compact l).length:=by
   rw [<-ht,List.take_take,Nat.min_eq_left (by omega)]
  rw [this, <-hF]
  simp
end
section
open Go.RowKit Go.Shelf
def setOf (n:Nat):List Int:=((List.range 32).filter fun(i:Nat)=>n/2^i%2==1).map fun(i:Nat)=>(i:Int)
theorem zfp (p q:Nat->Bool) (k:Nat) (h0: ∀i,i<k->p i=false) (h1:p k=true) (h2: ∀i,i<=k->q i=false) (h3: ∀i,k<i->p i=q i): ∀N,((k<N->(List.range N).filter p=k::(List.range N).filter q)/\(N<=k->(List.range N).filter p=[]/\(List.range N).filter q=[]))
 | 0=>⟨fun h=>by omega,fun _=>⟨rfl,rfl⟩⟩
 | N+1=>by
   have ih:=zfp p q k h0 h1 h2 h3 N
   refine⟨fun h=> ?_,fun h=> ?_⟩
   ·rw [List.range_succ,List.filter_append,List.filter_append]
    by_cases e:N=k
    ·subst e
     have:=ih.2 (Nat.le_refl _)
     rw [this.1,this.2]
     simp [h1,h2 N (Nat.le_refl _)]
    ·have:=ih.1 (by omega)
     rw [this]
     simp [List.filter_cons,h3 N (by omega)]
   ·have:=ih.2 (by omega)
    rw [List.range_succ,List.filter_append,List.filter_append,this.1,this.2]
    simp [h0 N (by omega),h2 N (by omega)]
theorem div_bit (k m i:Nat):(2^k*(2*m+1))/2^i%2=if i<k then 0 else if i=k then 1 else(2^k*(2*m))/2^i%2:=by
 by_cases h:i<k
 ·rw [if_pos h]
  have e:2^k=2^i*(2*2^(k-i-1)):=by
   rw [<-Nat.pow_succ', <-Nat.pow_add]
   congr 1
   omega
  rw [e,Nat.mul_assoc,Nat.mul_div_cancel_left _ (Nat.pow_pos (by decide)),Nat.mul_assoc,Nat.mul_mod_right]
 ·rw [if_neg h]
  by_cases h2:i=k
  ·subst h2
   rw [if_pos rfl,Nat.mul_div_cancel_left _ (Nat.pow_pos (by decide))]
   omega
  ·rw [if_neg h2]
   have e:2^i=2^k*(2*2^(i-k-1)):=by
    rw [<-Nat.pow_succ', <-Nat.pow_add]
    congr 1
    omega
   rw [e,Nat.mul_div_mul_left _ _ (Nat.pow_pos (by decide)),Nat.mul_div_mul_left _ _ (Nat.pow_pos (by decide)), <-Nat.div_div_eq_div_mul, <-Nat.div_div_eq_div_mul]
   congr 2
   omega
theorem zpD (k m i:Nat) (h:i<=k):(2^k*(2*m))/2^i%2=0:=by
 have e:2^k=2^i*2^(k-i):=by
  rw [<-Nat.pow_add]
  congr 1
  omega
 rw [e,Nat.mul_assoc,Nat.mul_div_cancel_left _ (Nat.pow_pos (by decide)), <-Nat.mul_assoc,Nat.mul_comm _ 2,Nat.mul_assoc,Nat.mul_mod_right]
theorem zm5 (k m:Nat) (hk:k<32):setOf (2^k*(2*m+1))=(k:Int)::setOf (2^k*(2*m)):=by
 unfold setOf
 have:=(zfp (fun i=>(2^k*(2*m+1))/2^i%2==1) (fun i=>(2^k*(2*m))/2^i%2==1) k
  (fun i hi=>by simp only [div_bit,if_pos hi]; rfl) (by simp [div_bit]) (fun i hi=>by simp only [zpD k m i hi]; rfl) (fun i hi=>by simp only [div_bit]; rw [if_neg (by omega),if_neg (by omega)]) 32).1 hk
 rw [this]
 rfl
theorem zlT:setOf 0=[]:=by decide+kernel
theorem ofInt_u32 (a:Nat) (ha:a<4294967296):(BitVec.ofInt 32 (a:Int)).toNat=a:=by
 rw [BitVec.ofInt_natCast,BitVec.toNat_ofNat]
 exact Nat.mod_eq_of_lt (by omega)
theorem u32_and (a b:Nat) (ha:a<4294967296) (hb:b<4294967296):bits .and .u32 (a:Int) (b:Int)=((a&&& b:Nat):Int):=by
 have hx:a&&& b<2^32:=Nat.and_lt_two_pow _ (by omega)
 show IntKind.u32.wrap ((BitVec.ofInt 32 (a:Int)&&& BitVec.ofInt 32 (b:Int)).toNat:Int)=_
 rw [BitVec.toNat_and,ofInt_u32 a ha,ofInt_u32 b hb,IntKind.wrap_u32]
 omega
def TabAt (w:World):Prop:= ∀j,j<32->w.cell? ⟨10,j,none⟩=some (.int .u8 ((Lib.deBruijn32tab.getD j 0:Nat):Int))
theorem TabAt.below {w w':World} (h:TabAt w) (hb:Below w.heap.size w w'):TabAt w':=fun j hj=>cell_below (h j hj) hb
theorem zqL (x:Nat) (h0:x≠0) (hx:x<4294967296) (w:World) (hT:TabAt w):
 Calls Tryz.prog 184 #[.int .u32 x] w fun e w'=>e= .returned (.int .i64 (Lib.ctz 32 x:Nat))/\w=w':=by
 obtain⟨hl,hk⟩:=Lib.lowest_bit 32 x h0 hx
 obtain⟨hi,ht⟩:=Lib.deBruijn32_at _ hk
 have hc:=hT _ hi
 rw [ht] at hc
 have e0:((x:Int)==0)=false:=by rw [beq_eq_false_iff_ne]; omega
 have e1:IntKind.u32.wrap (-(x:Int))=((2^32-x:Nat):Int):=by rw [IntKind.wrap_u32]; omega
 have e2:bits .and .u32 (x:Int) ((2^32-x:Nat):Int)=((2^Lib.ctz 32 x:Nat):Int):=by rw [u32_and _ _ hx (by omega),hl]
 generalize Lib.ctz 32 x=k at*
 have hp:2^k<=2147483648:=by
  have:2^k<=2^31:=Nat.pow_le_pow_right (by decide) (by omega)
  omega
 try clear ht hl h0 hT
 generalize 2^k=q at*
 go_enter Tryz.func184,Tryz.ntmps184
 go_wp2
 go_ret
 exact⟨rfl,rfl⟩
theorem zkF (k m:Nat) (hk:k<32) (h:2^k*(2*m+1)<4294967296):bits .andNot .u32 ((2^k*(2*m+1):Nat):Int) ((2^k:Nat):Int)=((2^k*(2*m):Nat):Int):=by
 have hp:0<2^k:=Nat.pow_pos (by decide)
 have h2:2^k<4294967296:=by
  have:2^k<=2^31:=Nat.pow_le_pow_right (by decide) (by omega)
  omega
 have hsub:2^k*(2*m+1)=2^k*(2*m)+2^k:=by rw [Nat.mul_add,Nat.mul_one]
 have key:(BitVec.ofInt 32 ((2^k*(2*m+1):Nat):Int)&&& ~~~ BitVec.ofInt 32 ((2^k:Nat):Int))=BitVec.ofNat 32 (2^k*(2*m)):=by
  apply BitVec.eq_of_getLsbD_eq
  intro i hi
  rw [BitVec.getLsbD_and,BitVec.getLsbD_not,BitVec.ofInt_natCast,BitVec.ofInt_natCast,BitVec.getLsbD_ofNat,BitVec.getLsbD_ofNat,BitVec.getLsbD_ofNat]
  have h1:(2^k*(2*m+1)).testBit i=(decide (k<=i)&&(2*m+1).testBit (i-k)):=by rw [Nat.mul_comm]; exact Nat.testBit_mul_two_pow _ _ _
  have h3:(2^k*(2*m)).testBit i=(decide (k<=i)&&(2*m).testBit (i-k)):=by rw [Nat.mul_comm]; exact Nat.testBit_mul_two_pow _ _ _
  rw [h1,h3,Nat.testBit_two_pow]
  by_cases hik:k<=i
  ·by_cases he:i=k
   ·subst he
    simp [hi]
   ·obtain⟨j,rfl⟩: ∃j,i=k+(j+1):=⟨i-k-1,by omega⟩
    simp [hi,Nat.testBit_succ,show k+(j+1)-k=j+1 by omega,show (2*m+1)/2=m by omega]
  ·simp [hik]
 show IntKind.u32.wrap ((BitVec.ofInt 32 ((2^k*(2*m+1):Nat):Int)&&& ~~~ BitVec.ofInt 32 ((2^k:Nat):Int)).toNat:Int)=_
 rw [key,BitVec.toNat_ofNat,Nat.mod_eq_of_lt (by omega),IntKind.wrap_u32]
 omega
theorem zdb (k:Nat) (hk:k<32):2^k<4294967296:=by
 have:2^k<=2^31:=Nat.pow_le_pow_right (by decide) (by omega)
 omega
theorem zmp (n:Nat) (hn:n<4294967296):Iters Tryz.prog 136 #[.int .u32 n] ((setOf n).map (Value.int .i64)) TabAt:=by
 refine⟨enters_of Tryz.func136 (by kernel_rfl) rfl,fun l J w hT hB hY h0=> ?_⟩
 refine callsIn_of_wp Tryz.func136 rfl trivial ?_ rfl
 simp only [Tryz.ntmps136,List.size_toArray,List.length_cons,List.length_nil,Nat.reduceAdd,Nat.reduceSub,Array.replicate_succ,Array.replicate_zero,List.push_toArray,List.append_toArray,List.nil_append,List.cons_append]
 gi_wp2
 gi_loopw [0] (fun v0 wr=> ∃(cur i:Nat),cur<=n/\i<=(setOf n).length/\v0= .int .u32 cur/\setOf cur=(setOf n).drop i/\J i wr) (fun v0 _=>(intOf v0).toNat)
 case atStart=>exact⟨n,0,Nat.le_refl _,Nat.zero_le _,rfl,rfl,h0⟩
 case round=>
  obtain⟨cur,i,hc,hil,rfl,hs,hJ⟩:=hrel
  by_cases hz:cur=0
  ·subst hz
   rw [zlT] at hs
   obtain rfl:i=(setOf n).length:=Nat.le_antisymm hil (List.drop_eq_nil_iff.1 hs.symm)
   gi_wp2
   go_end0
   exact⟨⟨_,rfl⟩,by rw [List.length_map]; exact hJ⟩
  ·obtain⟨m,hm,hk⟩:=Lib.ctzFrom_spec 32 cur (by omega) (by omega)
   have hcz:Lib.ctz 32 cur=Lib.ctzFrom 32 cur:=by simp [Lib.ctz,hz]
   rw [<-hcz] at hm hk
   have hs2:=zm5 (Lib.ctz 32 cur) m hk
   rw [<-hm] at hs2
   have hpos:0<2^Lib.ctz 32 cur:=Nat.pow_pos (by decide)
   have hsub:cur=2^Lib.ctz 32 cur*(2*m)+2^Lib.ctz 32 cur:=by
    have:=hm
    rw [Nat.mul_add,Nat.mul_one] at this
    exact this
   have e0:((cur:Int) != 0)=true:=by rw [bne_iff_ne]; omega
   have hlen:i< (setOf n).length:=by
    have:=congrArg List.length (hs2.symm.trans hs)
    simp at this
    omega
   have hki:(setOf n)[i]? =some ((Lib.ctz 32 cur:Nat):Int):=by
    have:=congrArg (·[0]?) (hs2.symm.trans hs)
    simp only [List.getElem?_cons_zero,List.getElem?_drop,Nat.add_zero] at this
    exact this.symm
   have hs3:setOf (2^Lib.ctz 32 cur*(2*m))=(setOf n).drop (i+1):=by
    have:=congrArg List.tail (hs2.symm.trans hs)
    rw [List.tail_cons,List.tail_drop] at this
    exact this
   have hTab:=hT i wr hJ
   have hY:=hY i wr (.int .i64 ((Lib.ctz 32 cur:Nat):Int)) hJ (by rw [List.getElem?_map,hki]; rfl)
   have hp2:=zdb _ hk
   have e1:(2:Int)^Lib.ctz 32 cur%4294967296=((2^Lib.ctz 32 cur:Nat):Int):=by
    rw [Int.natCast_pow]
    have:((2^Lib.ctz 32 cur:Nat):Int)<4294967296:=by omega
    rw [Int.natCast_pow] at this
    exact Int.emod_eq_of_lt (by exact_mod_cast Nat.zero_le _) this
   have e2:bits .andNot .u32 (cur:Int) ((2^Lib.ctz 32 cur:Nat):Int)=((2^Lib.ctz 32 cur*(2*m):Nat):Int):=by
    have:=zkF (Lib.ctz 32 cur) m hk (by omega)
    rw [<-hm] at this
    exact this
   obtain⟨fn,tmps,assign,body,hy,hR⟩:=hY
   generalize hkk:Lib.ctz 32 cur=k at*
   have hkk':=Lib.hid hkk
   have hsub':=Lib.hid hsub
   try clear hkk hs2 hcz hs hm hsub
   generalize 2^k*(2*m)=nx at*
   generalize hq:2^k=q at*
   gi_wp2_with (first | (refine⟨trivial, ?_⟩; gi_at_call 184; refine(callsIn_wide.2 (zqL cur hz (by omega) _ hTab)).mono ?_; rintro e w' ⟨rfl,rfl⟩; rw [hkk'.out]))
   refine hR.mono ?_
   rintro e W3 ⟨rfl,hJ3⟩
   gi_wp2
   have hsub:=hsub'.out
   exact⟨⟨nx,i+1,by omega,by omega,rfl,hs3,hJ3⟩,by show ((nx:Int)).toNat< ((cur:Int)).toNat; omega⟩
end

end Go.Proofs.YtlmekdfleciejaaGreatDoor