/- Words for what the reader makes: rows of its own, kept while other blocks turn. -/
import Derived.Test.YtnbjaghjdeicmaaGreatDoorG8
import Derived.Test.YtnbjaghjdeicmaaGreatDoorG23
import Derived.Lib.TrailingZeros
import Derived.Laws.BitsAllLaws
import Derived.Laws.BitsLemmas
set_option maxRecDepth 100000
set_option maxHeartbeats 2000000
namespace Go.Proofs.YtnbjaghjdeicmaaGreatDoor
open Go.RowKit
section
theorem zmU (n:Nat) (hn:n<4294967296) (w:World):Calls Tryz.prog 196 #[.int .i64 n] w fun e w'=>e= .returned (.int .i64 (unfoldI n))/\w=w':=by
 have ha:bits .and .i64 (n:Int) 1=((n%2:Nat):Int):=by
  have h0: ∀y:Nat,y<9223372036854775808->(BitVec.ofInt 64 (y:Int)).toNat=y:=fun y hy=>by
   rw [BitVec.ofInt_natCast,BitVec.toNat_ofNat]
   exact Nat.mod_eq_of_lt (by omega)
  show IntKind.i64.wrap ((BitVec.ofInt 64 (n:Int)&&& BitVec.ofInt 64 ((1:Nat):Int)).toNat:Int)=_
  rw [BitVec.toNat_and,h0 _ (by omega),h0 _ (by omega),IntKind.wrap_i64,Nat.and_one_is_mod]
  omega
 by_cases h:n%2=1
 ·have HU:=Lib.hid (show unfoldI n= -(((n+1)/2:Nat):Int) by rw [unfoldI,if_pos h])
  have e1:((n%2:Nat):Int)=1:=by omega
  rw [e1] at ha
  go_enter Tryz.func196,Tryz.ntmps196
  go_wp2
  go_ret
  rw [HU.out]
  refine⟨?_,rfl⟩
  have et:((n:Int)+1).tdiv 2=(((n+1)/2:Nat):Int):=by rw [Int.tdiv_eq_ediv_of_nonneg (by omega)]; omega
  show Ending.returned (.int .i64 (wrap64 (-((n:Int)+1).tdiv 2)))=_
  rw [et,IntWalk.wrap64_in _ (by omega)]
 ·have HU:=Lib.hid (show unfoldI n=((n/2:Nat):Int) by rw [unfoldI,if_neg h])
  have e1:((n%2:Nat):Int)=0:=by omega
  rw [e1] at ha
  go_enter Tryz.func196,Tryz.ntmps196
  go_wp2
  go_ret
  rw [HU.out]
  refine⟨?_,rfl⟩
  first | rfl | (congr 2; omega) | skip
  done
theorem Tryz.infoInt:(Tryz.prog.info? 3).map (fun i=>(i.zero,i.size,i.bytes))=some (some (.int .i64 0),1,8):=by kernel_rfl
theorem zol (n:Nat):(setOf n).length<=32:=by
 unfold setOf
 rw [List.length_map]
 have:=List.length_filter_le (fun(i:Nat)=>n/2^i%2==1) (List.range 32)
 simpa using this
abbrev iv (l:List Int):List Value:=l.map (Value.int .i64)
theorem zq0 (n:Nat) (hn:n<4294967296) (w:World) (hT:TabAt w):
 Calls Tryz.prog 248 #[.int .u32 n] w fun e w'=> ∃v,e= .returned v/\w'.ownsRow w.heap.size 3 1 v (setOf n).length (iv (setOf n))/\Below w.heap.size w w':=by
 obtain⟨i0,hi0,hz0,hz1,hz2⟩:=info_parts Tryz.infoInt
 have HT:=Lib.hid hT
 try clear hT
 go_enter Tryz.func248,Tryz.ntmps248
 go_wp2
 go_loopw [0,3] (fun v0 v3 wr=> ∃(cur:Nat) (acc:List Int),cur<=n/\v0= .int .u32 cur/\wr.ownsRow w.heap.size 3 1 v3 acc.length (iv acc)/\acc++setOf cur=setOf n/\Below w.heap.size w wr) (fun v0 _ _=>(intOf v0).toNat)
 case atStart=>exact⟨n,[],Nat.le_refl _,rfl,World.ownsRow_nil _ _ _ _,by simp,Below.refl _ _⟩
 case round=>
  obtain⟨cur,acc,hc,rfl,hO,hacc,hB⟩:=hrel
  have HA:=Lib.hid hacc
  have HO:=Lib.hid hO
  have HB:=Lib.hid hB
  by_cases h0:cur=0
  ·subst h0
   rw [zhS,List.append_nil] at hacc
   subst hacc
   try clear hB hO
   go_wp2
   go_ret
   exact⟨_,rfl,HO.out,HB.out⟩
  ·obtain⟨m,hm,hk⟩:=Lib.ctzFrom_spec 32 cur (by omega) (by omega)
   have hcz:Lib.ctz 32 cur=Lib.ctzFrom 32 cur:=by simp [Lib.ctz,h0]
   rw [<-hcz] at hm hk
   have hs:=zjq (Lib.ctz 32 cur) m hk
   have ha:=zrI (Lib.ctz 32 cur) m
   rw [<-hm] at hs ha
   have hlt:2^Lib.ctz 32 cur*(2*m)<cur:=by
    have:0<2^Lib.ctz 32 cur:=Nat.pow_pos (by decide)
    have e:cur=2^Lib.ctz 32 cur*(2*m)+2^Lib.ctz 32 cur:=by
     have:=hm
     rw [Nat.mul_add,Nat.mul_one] at this
     exact this
    omega
   have hu:bits .and .u32 (cur:Int) ((cur:Int)-1)=((2^Lib.ctz 32 cur*(2*m):Nat):Int):=by
    rw [show (cur:Int)-1=((cur-1:Nat):Int) by omega,u32_and _ _ (by omega) (by omega),ha]
   have hal:acc.length<=32:=by
    have:=congrArg List.length hacc
    rw [List.length_append] at this
    have:=zol n
    omega
   have e0:((cur:Int) != 0)=true:=by rw [bne_iff_ne]; omega
   have TW:=Lib.hid (HT.out.below hB)
   have HS:=Lib.hid hs
   have HC:=Lib.hid hk
   try clear hm hs ha hcz hacc hB hO hk
   generalize hkk:Lib.ctz 32 cur=k at*
   generalize 2^k*(2*m)=nx at*
   have hkk':=Lib.hid hkk
   try clear hkk
   go_wp2_with (first
    |(go_at_call 205; refine(zrP cur h0 (by omega) _ TW.out).mono ?_; rintro e w' ⟨rfl,rfl⟩; rw [hkk'.out])
    |(at_builtin; refine zaT _ rfl (.tmp 10) (.tmp 13) _ rfl w.heap.size 3 i0 _ 1 8 Tryz.underlying27 hi0 hz0 hz1 hz2 rfl (by decide) u3 acc.length (iv acc) rfl (HO.out.alloc _) (wr.heap.size+1) (some ⟨wr.heap.size,0,none⟩) 1 1 [.int .i64 k] rfl (Reads.boxed wr 3 #[.int .i64 k] 1 1 rfl) (by simp [Value.oneCell']) (by unfold maxLen; omega) (by omega) (by have:=HB.out.size; simp; omega) ?_; intro v2 w2 hown2 hg2 hat2))
   have hB2:=Lib.hid (zgi HB.out HB.out.size hg2 HO.out)
   have HO3:=Lib.hid hown2
   try clear hown2 hg2 hat2
   go_wp2
   go_roundw
   case rel=>
    refine⟨nx,acc++[(k:Int)],by omega,by first | rfl | go_num, ?_, ?_,hB2.out⟩
    ·have:=HO3.out
     simpa [iv] using this
    ·rw [<-HA.out,HS.out]
     simp
   case measure=>simp [intOf]; omega
end
section
theorem zmp (A:Option Addr) (n c at_ wd:Nat) (w:World) (_hl:n<=140737488351232) (hw:wd=1\/wd=2\/wd=4\/wd=8) (ha:at_<=n) (hf:n<at_+wd) (ka kw:Int) (hka:ka=at_) (hkw:kw=wd) (aF:Addr) (hS:Sent w 1 aF):
 Calls Tryz.prog 194 #[.slice A n c, .int .i64 ka, .int .i64 kw] w fun e w'=> ∃t v,e= .returned (.tuple #[.int .u64 0, .iface t v])/\Below w.heap.size w w':=by
 subst hka hkw
 have b1:zfK wd=true:=by simp [zfK]; omega
 have hwd:wd<=8:=by omega
 have cF:=hS.1
 try clear hS hw
 go_enter Tryz.func194,Tryz.ntmps194
 go_wp2_with (first | (go_at_call 247; refine(zfx _ _).mono ?_; rintro e w' ⟨rfl,rfl⟩) | (go_at_call 84; refine(zcg _ _ _ _).mono ?_; rintro e w' ⟨rfl,rfl⟩))
 go_ret2
 exact⟨_,_,rfl,(Below.refl _ _).alloc (Nat.le_refl _) _⟩
structure RdAt (w:World) (g:Nat) (A:Option Addr) (n c:Nat) (bs:List UInt8) (at_:Nat) (bad:Bool):Prop where
 cells:Whole w g 182 #[.slice A n c, .int .i64 at_, .bool bad]
 len:bs.length=n
 reads:Reads w w.heap.size 1 A n (bv bs)
 ne: ∀b off,A=some ⟨b,off,none⟩->b≠g
 at_le:at_<=n
 cap:n<=c
 few:n<=140737488351232
theorem znc {w w':World} {g n:Nat} {A:Option Addr} {xs:List Value} (h:Reads w w.heap.size 1 A n xs) (hne: ∀b off,A=some ⟨b,off,none⟩->b≠g) (hg:w.grownBy w' (some g)):Reads w' w'.heap.size 1 A n xs:=by
 refine⟨h.1,fun hp=> ?_⟩
 obtain⟨b,off,e,hlt,hc⟩:=h.2 hp
 refine⟨b,off,e,Nat.lt_of_lt_of_le hlt hg.size,fun j u hu=> ?_⟩
 exact(World.cell?_of_block (a:=⟨b,off+j,none⟩) (hg.block b hlt (by have:=hne b off e; simp; omega))).trans (hc j u hu)
theorem RdAt.turned {w w':World} {g:Nat} {A:Option Addr} {n c:Nat} {bs:List UInt8} {at_ at':Nat} {bad bad':Bool} (h:RdAt w g A n c bs at_ bad) (hg:w.grownBy w' (some g)) (hc:Whole w' g 182 #[.slice A n c, .int .i64 at', .bool bad']) (ha:at'<=n):RdAt w' g A n c bs at' bad':=
 ⟨hc,h.len,znc h.reads h.ne hg,h.ne,ha,h.cap,h.few⟩
theorem RdAt.below {w w':World} {g:Nat} {A:Option Addr} {n c:Nat} {bs:List UInt8} {at_:Nat} {bad:Bool} (h:RdAt w g A n c bs at_ bad) (hb:Below w.heap.size w w'):RdAt w' g A n c bs at_ bad:=
 ⟨h.cells.below hb h.cells.lt,h.len,(h.reads.below hb).wider hb.size,h.ne,h.at_le,h.cap,h.few⟩
def zfJ (bs:List UInt8) (at_ wd:Nat) (bad:Bool) (m at':Nat) (bad':Bool):Prop:=
 ((pnum bs at_ wd=some (m,at')/\bad'=bad)\/(pnum bs at_ wd=none/\bad'=true))/\m<256^wd/\m<=4611686018427387904
def zsF (w:World) (g:Nat) (A:Option Addr) (n c:Nat) (bs:List UInt8) (at_ wd:Nat) (bad:Bool) (e:Ending) (w':World):Prop:=
 ∃(m at':Nat) (bad':Bool),e= .returned (.int .i64 m)/\RdAt w' g A n c bs at' bad'/\w.grownBy w' (some g)/\zfJ bs at_ wd bad m at' bad'
theorem zcA (g:Nat) (A:Option Addr) (n c:Nat) (bs:List UInt8) (at_ wd:Nat) (bad:Bool) (w:World) (h:RdAt w g A n c bs at_ bad) (hw:wd=1\/wd=2\/wd=4\/wd=8) (kw:Int) (hkw:kw=wd) (aF:Addr) (hS:Sent w 1 aF):
 Calls Tryz.prog 120 #[.pointer (some ⟨g,0,none⟩), .int .i64 kw] w (zsF w g A n c bs at_ wd bad):=by
 subst hkw
 obtain⟨c1,c2,c3⟩:=h.cells.c3
 have f1:=h.cells.frozen 1
 have f2:=h.cells.frozen 2
 have HR:=Lib.hid h
 have hle:=h.at_le
 have hfew:=h.few
 have hwd:wd<=8:=by omega
 have hgl:=h.cells.lt
 have HW:=Lib.hid hw
 have HS:=Lib.hid hS
 by_cases hf:at_+wd<=n
 ·have hv:=zgn (cut bs at_ wd)
  rw [zdZ bs at_ wd (by rw [h.len]; exact hf)] at hv
  have hv64:valLE (cut bs at_ wd)<18446744073709551616:=by
   have:256^wd<=256^8:=Nat.pow_le_pow_right (by decide) hwd
   omega
  have HV:=Lib.hid hv
  have HP:=Lib.hid (show pnum bs at_ wd=if valLE (cut bs at_ wd)<=4611686018427387904 then some (valLE (cut bs at_ wd),at_+wd) else none by rw [pnum,h.len]; simp [hf])
  have HX:=Lib.hid (fun W=>ze7 A n c bs at_ wd W h.len)
  try clear h hv hw hS
  generalize hx:valLE (cut bs at_ wd)=x at*
  have HXX:=Lib.hid hx
  try clear hx
  by_cases hb:x<=4611686018427387904
  ·have k1:=Lib.hid (show zfJ bs at_ wd bad x (at_+wd) bad from⟨.inl ⟨by rw [HP.out,if_pos hb],rfl⟩,HV.out,hb⟩)
   have k2:=Lib.hid (zam (p:=⟨g,1,none⟩) (World.grownBy.refl w (some g)) (.inl rfl) (.int .i64 ((at_+wd:Nat):Int)))
   have k3:=Lib.hid (HR.out.turned k2.out (at':=at_+wd) (bad':=bad) (by simpa using HR.out.cells.put 1 (.int .i64 ((at_+wd:Nat):Int))) (by omega))
   go_enter Tryz.func120,Tryz.ntmps120
   go_wp2
   go_quiet ((go_at_call 194; exact zaE (HX.out _ (HR.out.reads.drewN _) hfew HW.out hf _ _ rfl rfl)))
   go_wp2
   go_ret
   exact⟨x,at_+wd,bad,rfl,k3.out.below (below_drewN (Below.refl _ _) _),zfp k2.out _,k1.out⟩
  ·have k1:=Lib.hid (show zfJ bs at_ wd bad 0 at_ true from⟨.inr ⟨by rw [HP.out,if_neg hb],rfl⟩,Nat.pow_pos (by decide),by omega⟩)
   have k2:=Lib.hid (zam (p:=⟨g,2,none⟩) (World.grownBy.refl w (some g)) (.inl rfl) (.bool true))
   have k3:=Lib.hid (HR.out.turned k2.out (at':=at_) (bad':=true) (by simpa using HR.out.cells.put 2 (.bool true)) hle)
   go_enter Tryz.func120,Tryz.ntmps120
   go_wp2
   go_quiet ((go_at_call 194; exact zaE (HX.out _ (HR.out.reads.drewN _) hfew HW.out hf _ _ rfl rfl)))
   go_wp2
   go_ret
   exact⟨0,at_,true,rfl,k3.out.below (below_drewN (Below.refl _ _) _),zfp k2.out _,k1.out⟩
 ·have k1:=Lib.hid (show zfJ bs at_ wd bad 0 at_ true from⟨.inr ⟨by rw [pnum,h.len,if_neg (by omega)],rfl⟩,Nat.pow_pos (by decide),by omega⟩)
  try clear h hw hS
  go_enter Tryz.func120,Tryz.ntmps120
  go_wp2
  go_region_held3 (fun w'=>w'.cell? ⟨g,0,none⟩=some (.slice A n c)/\w'.cell? ⟨g,1,none⟩=some (.int .i64 at_)) (first | (go_keep; done))
   (first | (go_at_call 194; refine(zmp A n c at_ wd _ hfew HW.out hle (by omega) _ _ rfl rfl aF (HS.out.below ((Below.refl _ w).drew))).mono ?_; rintro e w2 ⟨t2,v2,rfl,hb2⟩; have R2:=HR.out.below ((Below.refl _ w).drew.trans hb2); obtain⟨d1,d2,d3⟩:=R2.cells.c3; have d4:=R2.cells.frozen 2; have HR2:=Lib.hid R2; have HB2:=Lib.hid hb2; clear R2 hb2))
  have k2:=Lib.hid (zam (p:=⟨g,2,none⟩) (zct (zdR (World.grownBy.refl w (some g))) HB2.out) (.inl rfl) (.bool true))
  have k3:=Lib.hid (HR2.out.turned (zam (p:=⟨g,2,none⟩) (World.grownBy.refl w2 (some g)) (.inl rfl) (.bool true)) (at':=at_) (bad':=true) (by simpa using HR2.out.cells.put 2 (.bool true)) hle)
  go_wp2
  go_ret
  exact⟨0,at_,true,rfl,k3.out,k2.out,k1.out⟩
end
section
theorem zsc {P:Program} {ts e td:TypeId} (hs:P.underlying ts=some (.slice e)) (he:P.underlying e=some (.int .u8)) (hd:P.underlying td=some .string) {W:World} {b off n c at_ k:Nat} {bs:List UInt8} (hr:Reads W W.heap.size 1 (some ⟨b,off,none⟩) n (bv bs)) (hn:bs.length=n) (hk:at_+k<=n):
 (convert ts td (.slice (some ⟨b,off+at_,none⟩) k c)).run P W= .ok (.string ⟨(cut bs at_ k).toArray⟩) W:=by
 by_cases h0:k=0
 ·subst h0
  have:=run_convert_bytes_arg (P:=P) W ts e hs he b (off+at_) 0 c [] rfl (fun i hi=>by omega) td hd
  rw [this]
  simp [strOfNums,cut]
 obtain⟨b',off',e',_,hc⟩:=hr.2 (by omega)
 cases e'
 have hl:=zdZ bs at_ k (by omega)
 have:=run_convert_bytes_arg (P:=P) W ts e hs he b (off+at_) k c ((cut bs at_ k).map fun x=>(x.toNat:Int)) (by simp [hl]) (fun i hi=>by
  rw [Nat.add_assoc,hc (at_+i) _ (zmJ bs _ (by omega))]
  have h1:=zp0 bs at_ k i (by omega) hi
  simp [List.getD,hl,hi,h1]) td hd
 rw [this]
 congr 3
 simp [strOfNums,List.map_map,Function.comp_def]
theorem zjm (b off n c:Nat) (bs:List UInt8) (at_ k:Nat) (w:World) (hn:bs.length=n) (hr:Reads w w.heap.size 1 (some ⟨b,off,none⟩) n (bv bs)) (hl:n<=140737488351232) (hc:n<=c) (hk:valLE (cut bs at_ 2)=k) (hf:at_+2+k<=n):
 Calls Tryz.prog 249 #[.slice (some ⟨b,off,none⟩) n c, .int .i64 at_] w fun e w'=>e= .returned (.tuple #[.string ⟨(cut bs (at_+2) k).toArray⟩, .int .i64 ((at_+2+k:Nat):Int), .nilIface])/\w=w':=by
 have HN:=Lib.hid hn
 have HR:=Lib.hid hr
 have HK:=Lib.hid hk
 have hcv:=fun c'=>zsc (P:=Tryz.prog) (c:=c') Tryz.underlying90 Tryz.underlying5 Tryz.underlying9 hr hn (show at_+2+k<=n from hf)
 have e1:(at_:Int)+2+k=((at_+2+k:Nat):Int):=by omega
 have E1:=Lib.hid e1
 try clear e1
 by_cases hca:c=at_+2
 ·obtain rfl:k=0:=by omega
  have hc0:=fun c'=>(run_convert_bytes_arg (P:=Tryz.prog) w 90 5 Tryz.underlying90 Tryz.underlying5 b off 0 c' [] rfl (fun i hi=>by omega) 9 Tryz.underlying9)
  have h00:=Lib.hid (show (⟨(cut bs (at_+2) 0).toArray⟩:ByteArray)=strOfNums [] by simp [cut,strOfNums])
  subst hca
  try clear hn hr hk hcv
  go_enter Tryz.func249,Tryz.ntmps249
  go_wp2_with (go_at_call 194; refine(ze7 _ n _ bs at_ 2 _ HN.out HR.out hl (by omega) (by omega) _ _ rfl rfl).mono ?_; rintro e w' ⟨rfl,rfl⟩; rw [HK.out])
  go_ret3
  rw [h00.out, <-E1.out]
  exact⟨by simp,rfl⟩
 ·clear hn hr hk
  go_enter Tryz.func249,Tryz.ntmps249
  go_wp2_with (go_at_call 194; refine(ze7 _ n c bs at_ 2 _ HN.out HR.out hl (by omega) (by omega) _ _ rfl rfl).mono ?_; rintro e w' ⟨rfl,rfl⟩; rw [HK.out])
  go_ret3
  rw [<-E1.out]
  exact⟨rfl,rfl⟩
theorem zkS (A:Option Addr) (n c:Nat) (bs:List UInt8) (at_:Nat) (w:World) (hn:bs.length=n) (hr:Reads w w.heap.size 1 A n (bv bs)) (hl:n<=140737488351232) (ha:at_<=n) (hf: ¬(at_+2<=n/\at_+2+valLE (cut bs at_ 2)<=n)) (aF:Addr) (hS:Sent w 1 aF):
 Calls Tryz.prog 249 #[.slice A n c, .int .i64 at_] w fun e w'=> ∃t v,e= .returned (.tuple #[.string ⟨#[]⟩, .int .i64 0, .iface t v])/\Below w.heap.size w w':=by
 by_cases h2:at_+2<=n
 ·have hk:n<at_+2+valLE (cut bs at_ 2):=by omega
  have hlt:=zgn (cut bs at_ 2)
  rw [zdZ bs at_ 2 (by omega)] at hlt
  have cF:=hS.1
  have HR:=Lib.hid hr
  have HN:=Lib.hid hn
  generalize hx:valLE (cut bs at_ 2)=x at*
  have HX:=Lib.hid hx
  try clear hr hn hf hS hx
  go_enter Tryz.func249,Tryz.ntmps249
  go_wp2_with (first | (go_at_call 194; refine(ze7 _ n c bs at_ 2 _ HN.out HR.out hl (by omega) (by omega) _ _ rfl rfl).mono ?_; rintro e w' ⟨rfl,rfl⟩; rw [HX.out]) | (go_at_call 84; refine(zcg _ _ _ _).mono ?_; rintro e w' ⟨rfl,rfl⟩))
  go_ret3
  exact⟨_,_,rfl,(Below.refl _ _).alloc (Nat.le_refl _) _⟩
 ·have HS:=Lib.hid hS
  try clear hr hn hf hS
  go_enter Tryz.func249,Tryz.ntmps249
  go_wp2_with fail
  refine(zmp A n c at_ 2 _ hl (by omega) ha (by omega) _ _ rfl rfl aF HS.out).mono ?_
  rintro e w1 ⟨t1,v1,rfl,hb1⟩
  have HB:=Lib.hid hb1
  try clear hb1
  go_wp2_with fail
  refine(zjg _ _ _ _).mono ?_
  rintro e w2 ⟨rfl,rfl⟩
  go_wp2_with fail
  go_ret3
  exact⟨_,_,rfl,HB.out.alloc HB.out.size _⟩
def zgF (bs:List UInt8) (at_:Nat) (bad:Bool) (s:List UInt8) (at':Nat) (bad':Bool):Prop:=
 ((ptext bs at_=some (s,at')/\bad'=bad)\/(ptext bs at_=none/\bad'=true))/\s.length<=9223372036854775807
def zrK (w:World) (g:Nat) (A:Option Addr) (n c:Nat) (bs:List UInt8) (at_:Nat) (bad:Bool) (e:Ending) (w':World):Prop:=
 ∃(s:List UInt8) (at':Nat) (bad':Bool),e= .returned (.string ⟨s.toArray⟩)/\RdAt w' g A n c bs at' bad'/\w.grownBy w' (some g)/\zgF bs at_ bad s at' bad'
theorem zos (g:Nat) (A:Option Addr) (n c:Nat) (bs:List UInt8) (at_:Nat) (bad:Bool) (w:World) (h:RdAt w g A n c bs at_ bad) (aF:Addr) (hS:Sent w 1 aF):
 Calls Tryz.prog 197 #[.pointer (some ⟨g,0,none⟩)] w (zrK w g A n c bs at_ bad):=by
 obtain⟨c1,c2,c3⟩:=h.cells.c3
 have f1:=h.cells.frozen 1
 have f2:=h.cells.frozen 2
 have HR:=Lib.hid h
 have hle:=h.at_le
 have hfew:=h.few
 have hgl:=h.cells.lt
 have HS:=Lib.hid hS
 by_cases hf:at_+2<=n/\at_+2+valLE (cut bs at_ 2)<=n
 ·obtain⟨b,off,e,_⟩:=h.reads.2 (by omega)
  subst e
  have k1:=Lib.hid (show zgF bs at_ bad (cut bs (at_+2) (valLE (cut bs at_ 2))) (at_+2+valLE (cut bs at_ 2)) bad from⟨.inl ⟨by rw [ptext,h.len,if_pos hf],rfl⟩,by rw [zdZ _ _ _ (by rw [h.len]; exact hf.2)]; omega⟩)
  have HX:=Lib.hid (fun W hr=>zjm b off n c bs at_ _ W h.len hr hfew h.cap rfl hf.2)
  generalize cut bs (at_+2) (valLE (cut bs at_ 2))=s at*
  have hle2:=hf.2
  generalize at_+2+valLE (cut bs at_ 2)=a2 at*
  try clear h hS hf
  have k2:=Lib.hid (zam (p:=⟨g,1,none⟩) (World.grownBy.refl w (some g)) (.inl rfl) (.int .i64 (a2:Int)))
  have k3:=Lib.hid (HR.out.turned k2.out (at':=a2) (bad':=bad) (by simpa using HR.out.cells.put 1 (.int .i64 (a2:Int))) hle2)
  go_enter Tryz.func197,Tryz.ntmps197
  go_wp2
  go_quiet ((go_at_call 249; exact zaE (HX.out _ (HR.out.reads.drewN _))))
  go_wp2
  go_ret
  exact⟨s,a2,bad,rfl,k3.out.below (below_drewN (Below.refl _ _) _),zfp k2.out _,k1.out⟩
 ·have k1:=Lib.hid (show zgF bs at_ bad [] at_ true from⟨.inr ⟨by rw [ptext,h.len,if_neg hf],rfl⟩,by simp⟩)
  have HF:=Lib.hid hf
  try clear h hS hf
  go_enter Tryz.func197,Tryz.ntmps197
  go_wp2
  go_region_held3 (fun w'=>w'.cell? ⟨g,0,none⟩=some (.slice A n c)/\w'.cell? ⟨g,1,none⟩=some (.int .i64 at_)) (first | (go_keep; done))
   (first | (go_at_call 249; refine(zkS A n c bs at_ _ HR.out.len HR.out.reads.drew hfew hle HF.out aF (HS.out.below ((Below.refl _ w).drew))).mono ?_; rintro e w2 ⟨t2,v2,rfl,hb2⟩; have R2:=HR.out.below ((Below.refl _ w).drew.trans hb2); obtain⟨d1,d2,d3⟩:=R2.cells.c3; have d4:=R2.cells.frozen 2; have HR2:=Lib.hid R2; have HB2:=Lib.hid hb2; clear R2 hb2))
  have k2:=Lib.hid (zam (p:=⟨g,2,none⟩) (zct (zdR (World.grownBy.refl w (some g))) HB2.out) (.inl rfl) (.bool true))
  have k3:=Lib.hid (HR2.out.turned (zam (p:=⟨g,2,none⟩) (World.grownBy.refl w2 (some g)) (.inl rfl) (.bool true)) (at':=at_) (bad':=true) (by simpa using HR2.out.cells.put 2 (.bool true)) hle)
  go_wp2
  go_ret
  exact⟨[],at_,true,rfl,k3.out,k2.out,k1.out⟩
def zr9 (w:World) (g:Nat) (A:Option Addr) (n c:Nat) (bs:List UInt8) (at_:Nat) (bad:Bool) (e:Ending) (w':World):Prop:=
 ∃(m at':Nat) (bad':Bool) (v:Value),e= .returned v/\RdAt w' g A n c bs at' bad'/\w.grownBy w' (some g)/\w'.ownsRow w.heap.size 3 1 v (setOf m).length (iv (setOf m))/\zfJ bs at_ 4 bad m at' bad'
theorem zgU (g:Nat) (A:Option Addr) (n c:Nat) (bs:List UInt8) (at_:Nat) (bad:Bool) (w:World) (h:RdAt w g A n c bs at_ bad) (aF:Addr) (hS:Sent w 1 aF) (hT: ∀w',w.grownBy w' (some g)->TabAt w'):
 Calls Tryz.prog 195 #[.pointer (some ⟨g,0,none⟩)] w (zr9 w g A n c bs at_ bad):=by
 have HR:=Lib.hid h
 have HS:=Lib.hid hS
 have HT:=Lib.hid hT
 try clear h hS hT
 go_enter Tryz.func195,Tryz.ntmps195
 go_wp2_with fail
 refine(zcA g A n c bs at_ 4 bad _ HR.out (by omega) 4 rfl aF HS.out).mono ?_
 rintro e w1 ⟨m,at',bad',rfl,h1,h2,h3⟩
 have hm:m<4294967296:=h3.2.1
 have H1:=Lib.hid h1
 have H2:=Lib.hid h2
 have H3:=Lib.hid h3
 have e1:IntKind.u32.wrap (m:Int)=(m:Int):=IntWalk.u32_in _ (by omega)
 try clear h1 h2 h3
 go_wp2_with fail
 refine(zq0 m hm _ (HT.out _ H2.out)).mono ?_
 rintro e w2 ⟨v,rfl,ho,hb⟩
 have K1:=Lib.hid (show zr9 w g A n c bs at_ bad (.returned v) w2 from⟨m,at',bad',v,rfl,H1.out.below hb,zct H2.out hb,zbz ho H2.out.size,H3.out⟩)
 try clear ho hb
 go_wp2_with fail
 go_ret
 exact K1.out
end
section
def zbt (e:TypeId) (w w':World):Prop:= ∀(i:Nat) (cs:Array Value) (fz:Nat×Nat),w.heap[i]? =some (Obj.cells cs e fz)->w'.heap[i]? =some (Obj.cells cs e fz)
theorem ziW {w:World} {i:Nat} {o:Obj} (h:w.heap[i]? =some o):i<w.heap.size:=by
 by_cases hl:i<w.heap.size
 ·exact hl
 ·rw [Array.getElem?_eq_none (by omega)] at h
  cases h
theorem zbt.trans {e:TypeId} {a b c:World} (h:zbt e a b) (k:zbt e b c):zbt e a c:=fun i cs fz hh=>k i cs fz (h i cs fz hh)
theorem zbt.refl (e:TypeId) (w:World):zbt e w w:=fun _ _ _ h=>h
theorem zbt.of_below {e:TypeId} {w w':World} (hb:Below w.heap.size w w'):zbt e w w':=fun i _ _ h=>(hb.block i (ziW h)).trans h
theorem zbt.of_only {e t:TypeId} {w w':World} {g:Nat} {cs:Array Value} (hg:w.grownBy w' (some g)) (hw:Whole w g t cs) (hne:t≠e):zbt e w w':=fun i cs' fz h=>by
 refine(hg.block i (ziW h) ?_).trans h
 intro e'
 cases e'
 rw [hw] at h
 cases h
 exact hne rfl
theorem zbt.of_row {e t:TypeId} {w w':World} {base size n:Nat} {v:Value} {xs:List Value} (hg:w.grownBy w' v.ownBlock) (ho:w.ownsRow base t size v n xs) (hne:t≠e):zbt e w w':=fun i cs' fz h=>by
 refine(hg.block i (ziW h) ?_).trans h
 intro e'
 rcases ho.2 with⟨rfl,_⟩ | ⟨k,cap,cur,rfl,_,hh,_⟩
 ·simp [Value.ownBlock] at e'
 ·simp [Value.ownBlock] at e'
  subst e'
  rw [hh] at h
  cases h
  exact hne rfl
theorem zbt.own {e:TypeId} {w w':World} {base size n:Nat} {v:Value} {xs:List Value} (h:zbt e w w') (ho:w.ownsRow base e size v n xs):w'.ownsRow base e size v n xs:=by
 refine⟨ho.1, ?_⟩
 rcases ho.2 with h1 | ⟨k,cap,cur,h1,h2,h3,h4⟩
 ·exact .inl h1
 ·exact .inr ⟨k,cap,cur,h1,h2,h _ _ _ h3,h4⟩
theorem zeU {w w':World} {base size n g:Nat} {e:TypeId} {v:Value} {xs:List Value} (ho:w.ownsRow base e size v n xs) (hg:w.grownBy w' (some g)) (hne:g<base):w'.ownsRow base e size v n xs:=
 ho.kept hg (by
  cases hv:v.ownBlock with
  | none=>exact .inl rfl
  | some k=>
    right
    intro e'
    cases e'
    have:=(ho.lt _ hv).1
    omega)
def memO (w:World) (base:Nat) (cs:List Value) (m:Int×List Int):Prop:= ∃v,cs=[.int .i64 m.1,v]/\w.ownsRow base 3 1 v m.2.length (iv m.2)
theorem rows_moved {α:Type} {size:Nat} {R R':List Value->α->Prop} {xs:List Value} {l:List α} (h:zcT size R xs l) (hR: ∀cs a,a∈l->R cs a->R' cs a):zcT size R' xs l:=⟨h.1,fun i hi=>hR _ _ (List.getElem_mem _) (h.2 i hi)⟩
theorem zd9 {α:Type} (size:Nat) (R:List Value->α->Prop):zcT size R [] []:=⟨by simp,fun i hi=>by simp at hi⟩
theorem zjt {α:Type} {size:Nat} {R:List Value->α->Prop} {xs:List Value} {l:List α} (h:zcT size R xs l) {cs:List Value} {a:α} (hc:cs.length=size) (ha:R cs a):zcT size R (xs++cs) (l++[a]):=by
 refine⟨by simp [h.1,hc,Nat.add_mul],fun i hi=> ?_⟩
 by_cases e:i<l.length
 ·rw [List.getElem_append_left e]
  have h2:(i+1)*size<=l.length*size:=Nat.mul_le_mul_right _ (by omega)
  rw [Nat.add_mul,Nat.one_mul] at h2
  rw [List.drop_append_of_le_length (by rw [h.1]; omega),List.take_append_of_le_length (by rw [List.length_drop,h.1]; omega)]
  exact h.2 i e
 ·have:i=l.length:=by simp at hi; omega
  subst this
  rw [<-h.1,List.drop_left]
  simp [<-hc]
  exact ha
structure OwnIn (w:World) (base:Nat) (va vv vm vt:Value) (r:Rc):Prop where
 act:w.ownsRow base 3 1 va r.active.length (iv r.active)
 vars:w.ownsRow base 3 1 vv r.vars.length (iv r.vars)
 mem: ∃xs,w.ownsRow base 85 2 vm r.mem.length xs/\zcT 2 (memO w base) xs r.mem
 tms: ∃xs,w.ownsRow base 114 2 vt r.timers.length xs/\zcT 2 tmR xs r.timers
theorem own_list {α:Type} {w:World} {base size n:Nat} {e:TypeId} {v:Value} {xs:List Value} {R:List Value->α->Prop} {l:List α} (ho:w.ownsRow base e size v n xs) (hn:n=l.length) (hr:zcT size R xs l):zau w w.heap.size size R v l:=by
 subst hn
 obtain⟨A,c,rfl,hrd⟩:=zaz ho
 exact⟨A,c,xs,rfl,(zll ho).1,Nat.le_trans (zll ho).1 (zlk ho),hrd,hr⟩
theorem OwnIn.inAt {w:World} {base:Nat} {va vv vm vt:Value} {r:Rc} (h:OwnIn w base va vv vm vt r):InAt w w.heap.size va vv vm vt r:=by
 obtain⟨xm,hm1,hm2⟩:=h.mem
 obtain⟨xt,ht1,ht2⟩:=h.tms
 refine⟨own_list h.act rfl (rows_one _ _),own_list h.vars rfl (rows_one _ _),own_list hm1 rfl (rows_moved hm2 fun cs m _ hh=> ?_),own_list ht1 rfl ht2⟩
 obtain⟨v,e,ho⟩:=hh
 exact⟨v,e,own_list ho rfl (rows_one _ _)⟩
theorem zeT {w w':World} {base size n:Nat} {e:TypeId} {v:Value} {xs:List Value} (ho:w.ownsRow base e size v n xs) (hk: ∀b,base<=b->b<w.heap.size->w'.heap[b]? =w.heap[b]?):w'.ownsRow base e size v n xs:=by
 refine⟨ho.1, ?_⟩
 rcases ho.2 with h1 | ⟨k,cap,cur,h1,h2,h3,h4⟩
 ·exact .inl h1
 ·exact .inr ⟨k,cap,cur,h1,h2,(hk k h2 (ziW h3)).trans h3,h4⟩
theorem OwnIn.stay {w w':World} {base:Nat} {va vv vm vt:Value} {r:Rc} (h:OwnIn w base va vv vm vt r) (hk: ∀b,base<=b->b<w.heap.size->w'.heap[b]? =w.heap[b]?):OwnIn w' base va vv vm vt r:=by
 obtain⟨xm,hm1,hm2⟩:=h.mem
 obtain⟨xt,ht1,ht2⟩:=h.tms
 refine⟨zeT h.act hk,zeT h.vars hk,⟨xm,zeT hm1 hk,rows_moved hm2 fun cs m _ hh=> ?_⟩,⟨xt,zeT ht1 hk,ht2⟩⟩
 obtain⟨v,e,ho⟩:=hh
 exact⟨v,e,zeT ho hk⟩
theorem OwnIn.lower {w:World} {base base':Nat} {va vv vm vt:Value} {r:Rc} (h:OwnIn w base va vv vm vt r) (hb:base'<=base):OwnIn w base' va vv vm vt r:=by
 obtain⟨xm,hm1,hm2⟩:=h.mem
 obtain⟨xt,ht1,ht2⟩:=h.tms
 refine⟨zbz h.act hb,zbz h.vars hb,⟨xm,zbz hm1 hb,rows_moved hm2 fun cs m _ hh=> ?_⟩,⟨xt,zbz ht1 hb,ht2⟩⟩
 obtain⟨v,e,ho⟩:=hh
 exact⟨v,e,zbz ho hb⟩
theorem zfk {P:Program} {w:World} {ops:Array Oper} {o:Oper} {a:Act} {K:Act->World->Prop} {Q:Exit->Act->World->Prop} {E:Prop} (hgd:o.guard=none) (s x:Operand) (t:TypeId)
 (ho:o.op= .call { callee:= .builtin .append,args:= #[s,x],argTypes:= #[t,t] })
 (base:Nat) (e:TypeId) (i:TypeInfo) (z:Value) (size bytes:Nat) (ht:P.underlying t=some (.slice e)) (hi:P.info? e=some i) (hz:i.zero=some z)
 (hsize:i.size=size) (hby:i.bytes=bytes) (hzs:z.cells.size=size) (hsz:0<size)
 (v:Value) (n:Nat) (xs:List Value) (hs:a.eval s=v) (hown:w.ownsRow base e size v n xs)
 (B:Nat) (A:Option Addr) (m c:Nat) (news:List Value) (hx:a.eval x= .slice A m c) (hr:Reads w B size A m news) (h1: ∀u∈news,u.oneCell'=true)
 (h63:n+m<=maxLen) (hbytes:(n+m)*bytes<=140737488355328) (hbase:base<=w.heap.size)
 (h: ∀v' w',w'.ownsRow base e size v' (n+m) (xs++news)->w.grownBy w' v.ownBlock->(v'.ownBlock=v.ownBlock\/v'.ownBlock=some w.heap.size)->K (a.put o.dst v') w'):
 if Region.wanted o (yielded ops a.tmps)=true then Oper.wp P o a w K Q else E:=by
 have hw:Region.wanted o (yielded ops a.tmps)=true:=by simp [Region.wanted,hgd]
 rw [if_pos hw]
 obtain⟨v',w',hr,h2,h3,h5⟩:=zdr (P:=P) w base t o.type e i z size bytes ht hi hz hsize hby hzs hsz v n xs hown B A m c news hr h1 h63 hbytes hbase
 unfold Oper.wp execOp
 simp only [ho,resolve,invoke,builtin,Sem.run_bind,Sem.run_pure,Result.andThen_ok,List.map_toArray,List.map_cons,List.map_nil,hs,hx,hr]
 exact h v' w' h2 h3 h5
end

end Go.Proofs.YtnbjaghjdeicmaaGreatDoor