/- The document's Same of instances and of records. -/
import Derived.Test.YtnbjaghjdeicmaaGreatDoorG21
import Derived.Test.YtnbjaghjdeicmaaGreatDoorG1
import Derived.Test.YtnbjaghjdeicmaaGreatDoorG8
set_option maxRecDepth 100000
set_option maxHeartbeats 4000000
namespace Go.Proofs.YtnbjaghjdeicmaaGreatDoor
open Go.RowKit
section
theorem zjU: ∀a b:List UInt8,Op.bytesLess b a= !(Op.bytesLess a b||a==b)
 | [],[]=>rfl
 | [],_::_=>rfl
 | _::_,[]=>rfl
 | x::a,y::b=>by
   have ih:=zjU a b
   simp only [Op.bytesLess,List.cons_beq_cons,ih]
   by_cases h:x=y
   ·subst h
    simp
   ·have h': ¬y=x:=fun e=>h e.symm
    have e1:(x==y)=false:=by simpa using h
    have e2:(y==x)=false:=by simpa using h'
    have e3:decide (y<x)= !decide (x<y):=by
     rw [Bool.eq_iff_iff]
     simp [UInt8.lt_iff_toNat_lt]
     have:x.toNat≠y.toNat:=fun e=>h (UInt8.toNat_inj.1 e)
     omega
    simp [e1,e2,e3]
def tmR (cs:List Value) (t:List UInt8×Int):Prop:=cs=[.string ⟨t.1.toArray⟩, .int .i64 t.2]/\t.1.length<=9223372036854775807
theorem zlX {w:World} {B n c:Nat} {A:Option Addr} {l:List (List UInt8×Int)} (h:zau w B 2 tmR (.slice A n c) l) (k:Nat) (hk:k<l.length):
 ∃b off,A=some ⟨b,off,none⟩/\b<B/\ ∀j,j<l.length->w.cell? ⟨b,off+j*2,none⟩=some (.string ⟨(l.getD j ([],0)).1.toArray⟩)/\w.cell? ⟨b,off+j*2+1,none⟩=some (.int .i64 (l.getD j ([],0)).2)/\(l.getD j ([],0)).1.length<=9223372036854775807:=by
 obtain⟨b,off,cs,rfl,hb,_⟩:=h.elem k hk
 refine⟨b,off,rfl,hb,fun j hj=> ?_⟩
 obtain⟨b',off',cs',e,_,⟨rfl,hl⟩,_,hc⟩:=h.elem j hj
 cases e
 rw [zaR l j _ hj]
 exact⟨hc 0 _ rfl,hc 1 _ rfl,hl⟩
theorem zmY (v:Value) (l:List (List UInt8×Int)) (w:World) (h:zau w w.heap.size 2 tmR v l):
 Calls Tryz.prog 110 #[v] w fun e w'=>e= .returned (.bool (zaL l))/\Below w.heap.size w w':=by
 obtain⟨A,c,rfl,hlc,hcm⟩:=h.form
 unfold maxLen at hcm
 have HL:=Lib.hid h
 try clear h
 go_enter Tryz.func110,Tryz.ntmps110
 go_wp2
 go_loopw [7] (fun i wr=> ∃k:Nat,k<=l.length/\i= .int .i64 k/\(∀j,j<k->tmAt l j=true)/\Below w.heap.size w wr) (fun i _=>l.length-(intOf i).toNat)
 case atStart=>exact⟨0,by omega,rfl,(fun j hj=>by omega),Below.refl _ _⟩
 case round=>
  obtain⟨k,hk,rfl,hall,hB⟩:=hrel
  have HA:=Lib.hid hall
  have HB:=Lib.hid hB
  have hsz:=hB.size
  try clear hall
  by_cases hlt:k<l.length
  ·obtain⟨b,off,rfl,hb,hc⟩:=zlX HL.out k hlt
   obtain⟨c1,c2,hnl⟩:=hc k hlt
   have hbw:b<wr.heap.size:=by omega
   have c1:=(hB.cell (p:=⟨b,off+k*2,none⟩) hb).trans c1
   have c2:=(hB.cell (p:=⟨b,off+k*2+1,none⟩) hb).trans c2
   have HS:Hid (tmAt l k=(zaC (l.getD k ([],0)).1&&clkB (l.getD k ([],0)).2&&(decide (k=0)||Op.bytesLess (l.getD (k-1) ([],0)).1 (l.getD k ([],0)).1))):=Lib.hid rfl
   have fin:Hid (tmAt l k=true-> ∀j,j<k+1->tmAt l j=true):=Lib.hid (fun hb j hj=>by
    rcases Nat.lt_or_ge j k with h | h
    ·exact HA.out j h
    ·obtain rfl:j=k:=by omega
     exact hb)
   have bad:Hid (tmAt l k=false->zaL l=false):=Lib.hid (fun h=>by rw [zaL,zav hlt h]; rfl)
   cases k with
   | zero=>
     rw [Nat.zero_mul,Nat.add_zero] at c1 c2
     try clear hc hB
     generalize (l.getD 0 ([],0)).1=nm at*
     generalize (l.getD 0 ([],0)).2=x at*
     cases h1:zaC nm<;>cases h2:clkB x
     all_goals
      go_wp2
      go_quiet (first | (go_at_call 178; exact zaE (ziL nm hnl _)) | (go_at_call 106; exact zaE (zdc x _)))
      go_wp2
      first
       |(go_roundw
         case rel=>exact⟨1,by omega,rfl,fin.out (by rw [HS.out,h1,h2]; rfl),below_drewN (HB.out.alloc hsz _) _⟩
         case measure=>simp [intOf]; omega)
       |(go_ret
         rw [bad.out (by rw [HS.out,h1,h2]; rfl)]
         exact⟨rfl,below_drewN (HB.out.alloc hsz _) _⟩)
   | succ k=>
     obtain⟨d1,d2,_⟩:=hc k (by omega)
     have d1:=(hB.cell (p:=⟨b,off+k*2,none⟩) hb).trans d1
     rw [Nat.add_sub_cancel] at HS
     try clear hc hB d2
     generalize (l.getD (k+1) ([],0)).1=nm at*
     generalize (l.getD (k+1) ([],0)).2=x at*
     generalize (l.getD k ([],0)).1=pv at*
     rw [zjU nm pv] at HS
     cases h1:zaC nm<;>cases h2:clkB x<;>cases h3:Op.bytesLess nm pv<;>cases h4:(nm==pv)
     all_goals
      go_wp2
      have q1:IntKind.i64.wrap (k:Int)=(k:Int):=IntWalk.i64_in _ (by omega)
      have q2:(0:Int)<=(k:Int):=by omega
      have q3:(k:Int)< (l.length:Int):=by omega
      have q4:(k:Int).toNat=k:=by omega
      go_quiet (first | (go_at_call 178; exact zaE (ziL nm hnl _)) | (go_at_call 106; exact zaE (zdc x _)))
      try clear q1 q2 q3 q4
      go_wp2
      first
       |(go_roundw
         case rel=>exact⟨k+1+1,by omega,by go_num,fin.out (by rw [HS.out,h1,h2,h3,h4]; simp),below_drewN (HB.out.alloc hsz _) _⟩
         case measure=>simp [intOf]; omega)
       |(go_ret
         rw [bad.out (by rw [HS.out,h1,h2,h3,h4]; simp)]
         exact⟨rfl,below_drewN (HB.out.alloc hsz _) _⟩)
  ·obtain rfl:k=l.length:=by omega
   have e:Hid (zaL l=decide (l.length<=8)):=Lib.hid (by rw [zaL,zaZ HA.out]; rfl)
   try clear hB
   go_wp2
   go_ret
   rw [e.out]
   refine⟨?_,HB.out⟩
   first | rfl | (congr 2; simp; omega)
def memR (w:World) (B:Nat) (cs:List Value) (m:Int×List Int):Prop:= ∃v,cs=[.int .i64 m.1,v]/\zau w B 1 intR v m.2
theorem znp {w w':World} {B:Nat} (hk: ∀b off,b<B->w'.cell? ⟨b,off,none⟩=w.cell? ⟨b,off,none⟩) (cs:List Value) (m:Int×List Int) (h:memR w B cs m):memR w' B cs m:=by
 obtain⟨v,e,h⟩:=h
 exact⟨v,e,h.moved hk fun _ _ _ h=>h⟩
theorem zgp {w:World} {B n c:Nat} {A:Option Addr} {l:List (Int×List Int)} (h:zau w B 2 (memR w B) (.slice A n c) l) (k:Nat) (hk:k<l.length):
 ∃b off,A=some ⟨b,off,none⟩/\b<B/\ ∀j,j<l.length-> ∃v,w.cell? ⟨b,off+j*2,none⟩=some (.int .i64 (l.getD j (0,[])).1)/\w.cell? ⟨b,off+j*2+1,none⟩=some v/\zau w B 1 intR v (l.getD j (0,[])).2:=by
 obtain⟨b,off,cs,rfl,hb,_⟩:=h.elem k hk
 refine⟨b,off,rfl,hb,fun j hj=> ?_⟩
 obtain⟨b',off',cs',e,_,⟨v,rfl,hl⟩,_,hc⟩:=h.elem j hj
 cases e
 rw [zaR l j _ hj]
 exact⟨v,hc 0 _ rfl,hc 1 _ rfl,hl⟩
end
section
section
variable {P:Program} {ops:Array Oper} {Q:Exit->Act->World->Prop}
def zcO (size:Nat):Nat->Array Bool
 | 0=>Array.replicate size false
 | k+1=>(zcO size k).setIfInBounds k true
def zl4 (ops:Array Oper) (n:Nat):Bool:=
 Region.noSelect ops&&decide (n<=ops.size)&&((List.range n).all fun k=>Region.ready .any ops (zcO ops.size k) == [k])&&Region.lexFrom .any ops (ops.size-n) n (zcO ops.size n)
def zqo (P:Program) (ops:Array Oper) (Q:Exit->Act->World->Prop) (rest:List Oper):Exit->Act->World->Prop
 | .normal,a,w=>wpQuiet P ops (fun w'=> ∃n,w'=w.drewN n) (fun a'=> ∀w',(∃n,w'=w.drewN n)->Q .normal a' w') rest a
 | e,a,w=>Q e a w
theorem zfO {rest:List Oper} {a:Act} {w:World} (h:wpQuiet P ops (fun w'=> ∃n,w'=w.drewN n) (fun a'=> ∀w',(∃n,w'=w.drewN n)->Q .normal a' w') rest a):zqo P ops Q rest .normal a w:=h
theorem zfV {Q Q':Exit->Act->World->Prop} (h: ∀e a w,e≠ .normal->Q e a w->Q' e a w) (hh:LetsOut Q):LetsOut Q':=by
 obtain⟨a,w,hq⟩:=hh
 exact⟨a,w,h _ _ _ (by intro hh; cases hh) hq⟩
theorem Oper.wp_post {o:Oper} {a:Act} {w:World} {K:Act->World->Prop} {Q Q':Exit->Act->World->Prop} (h: ∀e a w,e≠ .normal->Q e a w->Q' e a w) (hh:o.wp P a w K Q):o.wp P a w K Q':=by
 unfold Oper.wp at*
 generalize (execOp a.eval o).run P w=r at*
 cases r with
 | ok n w'=>
   cases n<;>simp only [Oper.upon] at hh |- <;>
    first
     | exact hh
     | exact Calls.mono hh (fun e w'' he=>by cases e<;>first | exact he | exact h _ _ _ (by intro hh; cases hh) he | exact zfV h he)
     | exact Rows.mono hh (fun _ _ he=>he)
 | halt x w'=>cases x<;>simp only [Oper.upon] at hh |- <;>first | exact hh | exact h _ _ _ (by intro hh; cases hh) hh
theorem zhK (hns:Region.noSelect ops=true) (rest:List Oper) (n:Nat) (hn:n+rest.length=ops.size) (hrest: ∀j,rest[j]? =ops[n+j]?)
 (hlex:Region.lexFrom .any ops rest.length n (zcO ops.size n)=true) (hf: ∀k,k<n->Region.ready .any ops (zcO ops.size k)=[k]):
 ∀(l:List Oper) (k:Nat) (a:Act) (w:World),k+l.length=n->(∀j,j<l.length->l[j]? =ops[k+j]?)->wpList P ops (zqo P ops Q rest) l a w->wpAny P .any ops Q (l.length+rest.length) (zcO ops.size k) a w
 | [],k,a,w,hk,_,h=>by
   obtain rfl:k=n:=by simpa using hk
   have h1:=wpAnyQ_lex (md:= .any) hns rest k (zcO ops.size k) a hrest hlex h
   rw [List.length_nil,Nat.zero_add]
   exact wpAny_of_quiet (C:=fun w'=> ∃n,w'=w.drewN n) (fun a' w' hw' hq=>hq w' hw') _ _ _ w ⟨0,rfl⟩ h1
 | o::l,k,a,w,hk,hl,h=>by
   have hk':k<n:=by simp only [List.length_cons] at hk; omega
   have h0:ops[k]? =some o:=by simpa using (hl 0 (by simp)).symm
   have hr:=hf k hk'
   rw [List.length_cons,show l.length+1+rest.length=(l.length+rest.length)+1 by omega]
   refine⟨fun h=>(by rw [hr] at h; cases h),fun i hi=> ?_⟩
   rw [hr] at hi
   obtain rfl:i=k:=by simpa using hi
   have step: ∀a' w',wpList P ops (zqo P ops Q rest) l a' w'->wpAny P .any ops Q (l.length+rest.length) ((zcO ops.size i).setIfInBounds i true) a' w':=fun a' w' h'=>
    zhK hns rest n hn hrest hlex hf l (i+1) a' w' (by simp only [List.length_cons] at hk; omega) (fun j hj=>by
     have:=hl (j+1) (by simp; omega)
     simpa [Nat.add_assoc,Nat.add_comm 1 j] using this) h'
   have hpost: ∀e a w,e≠ .normal->zqo P ops Q rest e a w->Q e a w:=fun e a w hne hq=>by
    cases e<;>first | exact hq | exact absurd rfl hne
   unfold wpOp
   rw [h0]
   simp only [wpList] at h
   show if Region.wanted o (yielded ops a.tmps)=true then _ else _
   split
   ·rename_i hw
    rw [if_pos hw] at h
    rcases h with h | ⟨h1,h2⟩
    ·exact .inl (Oper.wp_post hpost (Oper.wp_mono step h))
    ·exact .inr ⟨h1,zfV hpost h2⟩
   ·rename_i hw
    rw [if_neg hw] at h
    exact step _ _ h
theorem zen {id:Nat} {a:Act} {w:World} {l:List Oper} (n:Nat) (hm:P.follows .mixedOrders=true) (hB:zl4 l.toArray n=true)
 (h:wpList P l.toArray (zqo P l.toArray Q (l.drop n)) (l.take n) a w.drew):(Code.region id l.toArray true).wp P Q a w:=by
 simp only [zl4,Bool.and_eq_true,decide_eq_true_eq,List.all_eq_true,List.mem_range,beq_iff_eq] at hB
 obtain⟨⟨⟨h1,h2⟩,h3⟩,h4⟩:=hB
 have h2':n<=l.length:=by simpa using h2
 have hd:(l.drop n).length=l.toArray.size-n:=by simp
 have ht:(l.take n).length=n:=by simp; omega
 refine wp_region_any hm ?_
 have:=zhK (P:=P) (Q:=Q) h1 (l.drop n) n (by rw [hd]; omega) (fun j=>by simp [List.getElem?_drop]) (by rw [hd]; exact h4) h3 (l.take n) 0 a w.drew (by rw [ht]; omega) (fun j hj=>by
  rw [ht] at hj
  simp [hj]) h
 rw [ht,hd,show n+(l.toArray.size-n)=l.toArray.size by omega] at this
 exact this
end
end
section
theorem zbo {B:Nat} {w w':World} (hb:Below B w w'): ∀b off,b<B->w'.cell? ⟨b,off,none⟩=w.cell? ⟨b,off,none⟩:=fun b off h=>hb.cell (p:=⟨b,off,none⟩) h
theorem zeM {w W:World} {v:Value} {l:List Int} (h:zau w w.heap.size 1 intR v l) (hb:Below w.heap.size w W):
 Calls Tryz.prog 107 #[v] W fun e w'=>e= .returned (.bool (zak l))/\W=w':=
 zcY v l _ W (h.moved (zbo hb) fun _ _ _ h=>h)
theorem zd5 {W:World} {X:Nat} {x:Int} (h:W.cell? ⟨X,0,none⟩=some (.int .i64 x)):
 Calls Tryz.prog 107 #[.slice (some ⟨X,0,none⟩) 1 1] W fun e w'=>e= .returned (.bool (zak [x]))/\W=w':=by
 refine zcY _ [x] (X+1) W (zau.of_one rfl (Nat.le_refl _) (by unfold maxLen; omega) ⟨by simp,fun _=>⟨X,0,rfl,by omega,fun j u hu=> ?_⟩⟩)
 have:j=0:=by
  rcases Nat.lt_or_ge j 1 with h | h
  ·omega
  ·rw [List.getElem?_eq_none (by simpa using h)] at hu
   cases hu
 subst this
 simp at hu
 subst hu
 exact h
theorem zkU (x:Int):zak [x]=(decide (0<=x)&&decide (x<=31)):=by
 simp [zak,allB,stAt,List.range_succ]
theorem zjO (v:Value) (l:List (Int×List Int)) (w:World) (h:zau w w.heap.size 2 (memR w w.heap.size) v l):
 Calls Tryz.prog 109 #[v] w fun e w'=>e= .returned (.bool (rmsB l))/\Below w.heap.size w w':=by
 obtain⟨A,c,rfl,hlc,hcm⟩:=h.form
 unfold maxLen at hcm
 have HL:=Lib.hid h
 try clear h
 go_enter Tryz.func109,Tryz.ntmps109
 go_wp2
 go_loopw [7] (fun i wr=> ∃k:Nat,k<=l.length/\i= .int .i64 k/\(∀j,j<k->rmAt l j=true)/\Below w.heap.size w wr) (fun i _=>l.length-(intOf i).toNat)
 case atStart=>exact⟨0,by omega,rfl,(fun j hj=>by omega),Below.refl _ _⟩
 case round=>
  obtain⟨k,hk,rfl,hall,hB⟩:=hrel
  have HA:=Lib.hid hall
  have HB:=Lib.hid hB
  have hsz:=hB.size
  try clear hall
  by_cases hlt:k<l.length
  ·obtain⟨b,off,rfl,hb,hc⟩:=zgp HL.out k hlt
   obtain⟨sv,c1,c2,hsv⟩:=hc k hlt
   have hbw:b<wr.heap.size:=by omega
   have c1:=(hB.cell (p:=⟨b,off+k*2,none⟩) hb).trans c1
   have c2:=(hB.cell (p:=⟨b,off+k*2+1,none⟩) hb).trans c2
   have HV:=Lib.hid hsv
   obtain⟨A2,k2,rfl,_,_⟩:=hsv.form
   have HS:Hid (rmAt l k=(zak [(l.getD k (0,[])).1]&&zak (l.getD k (0,[])).2&&(decide (k=0)||decide ((l.getD (k-1) (0,[])).1< (l.getD k (0,[])).1)))):=Lib.hid (by rw [zkU]; rfl)
   have fin:Hid (rmAt l k=true-> ∀j,j<k+1->rmAt l j=true):=Lib.hid (fun hb j hj=>by
    rcases Nat.lt_or_ge j k with h | h
    ·exact HA.out j h
    ·obtain rfl:j=k:=by omega
     exact hb)
   have bad:Hid (rmAt l k=false->rmsB l=false):=Lib.hid (fun h=>by rw [rmsB,zav hlt h])
   try clear hsv
   cases k with
   | zero=>
     rw [Nat.zero_mul,Nat.add_zero] at c1 c2
     try clear hc hB
     generalize (l.getD 0 (0,[])).1=x at*
     generalize (l.getD 0 (0,[])).2=sl at*
     cases h1:zak [x]<;>cases h2:zak sl
     all_goals
      go_wp2
      refine zen 3 (by kernel_rfl) (by kernel_rfl) ?_
      simp only [List.take_succ_cons,List.take_zero,List.drop_succ_cons,List.drop_zero]
      go_wp2
      refine zfO ?_
      have B2:=Lib.hid (show Below w.heap.size w (((wr.alloc (.cells #[.int .i64 x, .slice A2 sl.length k2] 85)).alloc (.cells #[.int .i64 x] 3)).drew) from((HB.out.alloc hsz _).alloc (by simp; omega) _).drew)
      have f1:(((wr.alloc (.cells #[.int .i64 x, .slice A2 sl.length k2] 85)).alloc (.cells #[.int .i64 x] 3)).drew).cell? ⟨wr.heap.size,0,none⟩=some (.int .i64 x):=by simp
      have f2:(((wr.alloc (.cells #[.int .i64 x, .slice A2 sl.length k2] 85)).alloc (.cells #[.int .i64 x] 3)).drew).cell? ⟨wr.heap.size,1,none⟩=some (.slice A2 sl.length k2):=by simp
      have f3:(((wr.alloc (.cells #[.int .i64 x, .slice A2 sl.length k2] 85)).alloc (.cells #[.int .i64 x] 3)).drew).cell? ⟨wr.heap.size+1,0,none⟩=some (.int .i64 x):=by simp
      generalize ((wr.alloc (.cells #[.int .i64 x, .slice A2 sl.length k2] 85)).alloc (.cells #[.int .i64 x] 3)).drew=W2 at*
      repeat (first | go_big_quiet_step ((first | (go_at_call_of 107 (Value.slice A2 sl.length k2); exact zaE (zeM HV.out (below_drewN B2.out _))) | (go_at_call 107; exact zaE (zd5 (x:=x) f3)))) | quiet_step ((first | (go_at_call_of 107 (Value.slice A2 sl.length k2); exact zaE (zeM HV.out (below_drewN B2.out _))) | (go_at_call 107; exact zaE (zd5 (x:=x) f3)))))
      refine wpQuiet_nil ?_
      intro _ hw'
      obtain⟨nq,hw''⟩:=hw'
      subst hw''
      go_wp2
      first
       |(go_roundw
         case rel=>exact⟨1,by omega,rfl,fin.out (by rw [HS.out,h1,h2]; simp),below_drewN B2.out _⟩
         case measure=>simp [intOf]; omega)
       |(go_ret
         rw [bad.out (by rw [HS.out,h1,h2]; simp)]
         exact⟨rfl,below_drewN B2.out _⟩)
   | succ k=>
     obtain⟨pv,d0,_,_⟩:=hc k (by omega)
     have d1:=(hB.cell (p:=⟨b,off+k*2,none⟩) hb).trans d0
     rw [Nat.add_sub_cancel] at HS
     try clear hc hB
     generalize (l.getD (k+1) (0,[])).1=x at*
     generalize (l.getD (k+1) (0,[])).2=sl at*
     generalize (l.getD k (0,[])).1=y at*
     cases h1:zak [x]<;>cases h2:zak sl<;>cases h3:decide (x<=y)
     all_goals
      have h4:decide (y<x)= !decide (x<=y):=by
       rw [Bool.eq_iff_iff]
       simp
      rw [h3] at h4
      have H4:=Lib.hid h4
      try clear h4
      go_wp2
      refine zen 3 (by kernel_rfl) (by kernel_rfl) ?_
      simp only [List.take_succ_cons,List.take_zero,List.drop_succ_cons,List.drop_zero]
      go_wp2
      refine zfO ?_
      have B2:=Lib.hid (show Below w.heap.size w (((wr.alloc (.cells #[.int .i64 x, .slice A2 sl.length k2] 85)).alloc (.cells #[.int .i64 x] 3)).drew) from((HB.out.alloc hsz _).alloc (by simp; omega) _).drew)
      have f1:(((wr.alloc (.cells #[.int .i64 x, .slice A2 sl.length k2] 85)).alloc (.cells #[.int .i64 x] 3)).drew).cell? ⟨wr.heap.size,0,none⟩=some (.int .i64 x):=by simp
      have f2:(((wr.alloc (.cells #[.int .i64 x, .slice A2 sl.length k2] 85)).alloc (.cells #[.int .i64 x] 3)).drew).cell? ⟨wr.heap.size,1,none⟩=some (.slice A2 sl.length k2):=by simp
      have f3:(((wr.alloc (.cells #[.int .i64 x, .slice A2 sl.length k2] 85)).alloc (.cells #[.int .i64 x] 3)).drew).cell? ⟨wr.heap.size+1,0,none⟩=some (.int .i64 x):=by simp
      have f4:(((wr.alloc (.cells #[.int .i64 x, .slice A2 sl.length k2] 85)).alloc (.cells #[.int .i64 x] 3)).drew).cell? ⟨b,off+k*2,none⟩=some (.int .i64 y):=(B2.out.cell (p:=⟨b,off+k*2,none⟩) hb).trans d0
      generalize ((wr.alloc (.cells #[.int .i64 x, .slice A2 sl.length k2] 85)).alloc (.cells #[.int .i64 x] 3)).drew=W2 at*
      have q1:IntKind.i64.wrap (k:Int)=(k:Int):=IntWalk.i64_in _ (by omega)
      have q2:(0:Int)<=(k:Int):=by omega
      have q3:(k:Int)< (l.length:Int):=by omega
      have q4:(k:Int).toNat=k:=by omega
      repeat (first | go_big_quiet_step ((first | (go_at_call_of 107 (Value.slice A2 sl.length k2); exact zaE (zeM HV.out (below_drewN B2.out _))) | (go_at_call 107; exact zaE (zd5 (x:=x) f3)))) | quiet_step ((first | (go_at_call_of 107 (Value.slice A2 sl.length k2); exact zaE (zeM HV.out (below_drewN B2.out _))) | (go_at_call 107; exact zaE (zd5 (x:=x) f3)))))
      refine wpQuiet_nil ?_
      intro _ hw'
      obtain⟨nq,hw''⟩:=hw'
      subst hw''
      try clear q1 q2 q3 q4
      go_wp2
      first
       |(go_roundw
         case rel=>exact⟨k+1+1,by omega,by go_num,fin.out (by rw [HS.out,h1,h2,H4.out]; simp),below_drewN B2.out _⟩
         case measure=>simp [intOf]; omega)
       |(go_ret
         rw [bad.out (by rw [HS.out,h1,h2,H4.out]; simp)]
         exact⟨rfl,below_drewN B2.out _⟩)
  ·obtain rfl:k=l.length:=by omega
   have e:Hid (rmsB l=true):=Lib.hid (by rw [rmsB,zaZ HA.out])
   try clear hB
   go_wp2
   go_ret
   rw [e.out]
   exact⟨rfl,HB.out⟩
end
section
structure InAt (w:World) (B:Nat) (va vv vm vt:Value) (r:Rc):Prop where
 act:zau w B 1 intR va r.active
 vars:zau w B 1 intR vv r.vars
 mem:zau w B 2 (memR w B) vm r.mem
 tms:zau w B 2 tmR vt r.timers
theorem zno {w:World} {B B':Nat} (hB:B<=B') (cs:List Value) (m:Int×List Int) (h:memR w B cs m):memR w B' cs m:=by
 obtain⟨v,e,h⟩:=h
 exact⟨v,e,h.wider hB fun _ _ _ h=>h⟩
theorem InAt.moved {w w':World} {B:Nat} {va vv vm vt:Value} {r:Rc} (h:InAt w B va vv vm vt r) (hk: ∀b off,b<B->w'.cell? ⟨b,off,none⟩=w.cell? ⟨b,off,none⟩):InAt w' B va vv vm vt r:=
 ⟨h.act.moved hk fun _ _ _ h=>h,h.vars.moved hk fun _ _ _ h=>h,h.mem.moved hk fun cs m _ h=>znp hk cs m h,h.tms.moved hk fun _ _ _ h=>h⟩
theorem InAt.wider {w:World} {B B':Nat} {va vv vm vt:Value} {r:Rc} (h:InAt w B va vv vm vt r) (hB:B<=B'):InAt w B' va vv vm vt r:=
 ⟨h.act.wider hB fun _ _ _ h=>h,h.vars.wider hB fun _ _ _ h=>h,h.mem.wider hB fun cs m _ h=>zno hB cs m h,h.tms.wider hB fun _ _ _ h=>h⟩
theorem InAt.below {w w':World} {va vv vm vt:Value} {r:Rc} (h:InAt w w.heap.size va vv vm vt r) (hb:Below w.heap.size w w'):InAt w' w'.heap.size va vv vm vt r:=
 (h.moved (zbo hb)).wider hb.size
theorem InAt.alloc {w:World} {va vv vm vt:Value} {r:Rc} (h:InAt w w.heap.size va vv vm vt r) (o:Obj):InAt (w.alloc o) (w.alloc o).heap.size va vv vm vt r:=
 h.below ((Below.refl _ w).alloc (Nat.le_refl _) o)
abbrev recV (r:Rc) (va vv vm vt:Value):Array Value:= #[.int .i64 r.chart, .int .i64 r.born, .int .i64 r.steps,va,vv,vm,vt, .bool r.over]
theorem c8 {w:World} {g:Nat} {t:TypeId} {a b c d e f x y:Value} (h:Whole w g t #[a,b,c,d,e,f,x,y]):
 w.cell? ⟨g,0,none⟩=some a/\w.cell? ⟨g,1,none⟩=some b/\w.cell? ⟨g,2,none⟩=some c/\w.cell? ⟨g,3,none⟩=some d/\w.cell? ⟨g,4,none⟩=some e/\w.cell? ⟨g,5,none⟩=some f/\w.cell? ⟨g,6,none⟩=some x/\w.cell? ⟨g,7,none⟩=some y:=
 ⟨h.cell 0,h.cell 1,h.cell 2,h.cell 3,h.cell 4,h.cell 5,h.cell 6,h.cell 7⟩
def zqp (ok:Bool) (aF:Addr) (w:World) (e:Ending) (w':World):Prop:= ∃E,e= .returned E/\Below w.heap.size w w'/\((ok=true/\E= .nilIface)\/(ok=false/\za1 w' aF 1 E))
theorem zkA (r:Rc) (va vv vm vt:Value) (w:World) (h:InAt w w.heap.size va vv vm vt r) (aF:Addr) (hf:Sent w 1 aF):
 Calls Tryz.prog 43 #[.agg (recV r va vv vm vt)] w (zqp (zai r) aF w):=by
 have hb0:=(Below.refl w.heap.size w).alloc (Nat.le_refl _) (.cells (recV r va vv vm vt) 33)
 have F0:=hf.below hb0
 have cF:=F0.1
 have HF:=Lib.hid F0
 have HI:=Lib.hid (h.below hb0)
 have HB:=Lib.hid hb0
 have R0:=Lib.hid (show zai r=(((decide (1<=r.chart)&&decide (r.chart<=2147483647))&&clkB r.born&&clkB r.steps)&&zak r.active&&zdy r.vars&&rmsB r.mem&&zaL r.timers) by simp [zai,ze6])
 have M0:=Lib.hid (Whole.new w 33 (recV r va vv vm vt))
 obtain⟨A1,k1,e1,_,_⟩:=h.act.form
 obtain⟨A2,k2,e2,_,_⟩:=h.vars.form
 obtain⟨A3,k3,e3,_,_⟩:=h.mem.form
 obtain⟨A4,k4,e4,_,_⟩:=h.tms.form
 subst e1 e2 e3 e4
 try clear h hf hb0 F0
 obtain⟨ch,bo,st,ac,vs,ms,ts,ov⟩:=r
 simp only [recV] at*
 generalize ac.length=n1 at*
 generalize vs.length=n2 at*
 generalize ms.length=n3 at*
 generalize ts.length=n4 at*
 have no: ∀(s:ByteArray) (n:Nat),zai ⟨ch,bo,st,ac,vs,ms,ts,ov⟩=false-> ∀(W:World),n=W.heap.size->Below w.heap.size w W->Sent W 1 aF->
  zqp (zai ⟨ch,bo,st,ac,vs,ms,ts,ov⟩) aF w (.returned (.iface 159 (.pointer (some ⟨n,0,none⟩)))) (W.alloc (.cells #[.string s, .int .i64 (-1), .iface 379 (.pointer (some aF))] 163)):=fun s n hr W hn hB hS=>by
  subst hn
  rw [hr]
  exact⟨_,rfl,hB.alloc hB.size _, .inr ⟨rfl,za1.new hS s (-1)⟩⟩
 have NO:=Lib.hid no
 try clear no
 by_cases h1: ¬1<=ch
 ·have rf:=Lib.hid (show zai ⟨ch,bo,st,ac,vs,ms,ts,ov⟩=false by rw [R0.out]; simp [h1])
  go_enter Tryz.func43,Tryz.ntmps43
  go_wp2_with (go_at_call 84; refine(zcg _ _ _ _).mono ?_; rintro e w' ⟨rfl,rfl⟩)
  go_ret
  exact NO.out _ _ rf.out _ (by simp) HB.out HF.out
 have h1:1<=ch:=by omega
 by_cases h2: ¬ch<=2147483647
 ·have rf:=Lib.hid (show zai ⟨ch,bo,st,ac,vs,ms,ts,ov⟩=false by rw [R0.out]; simp [h2])
  go_enter Tryz.func43,Tryz.ntmps43
  go_wp2_with (go_at_call 84; refine(zcg _ _ _ _).mono ?_; rintro e w' ⟨rfl,rfl⟩)
  go_ret
  exact NO.out _ _ rf.out _ (by simp) HB.out HF.out
 have h2:ch<=2147483647:=by omega
 cases h3:clkB bo
 ·have rf:=Lib.hid (show zai ⟨ch,bo,st,ac,vs,ms,ts,ov⟩=false by rw [R0.out]; simp [h3])
  go_enter Tryz.func43,Tryz.ntmps43
  go_wp2_with (first | (go_at_call 84; refine(zcg _ _ _ _).mono ?_; rintro e w' ⟨rfl,rfl⟩) | (go_at_call 106; refine(zdc _ _).mono ?_; rintro e w' ⟨rfl,rfl⟩))
  go_ret
  exact NO.out _ _ rf.out _ (by simp) HB.out HF.out
 cases h4:clkB st
 ·have rf:=Lib.hid (show zai ⟨ch,bo,st,ac,vs,ms,ts,ov⟩=false by rw [R0.out]; simp [h4])
  go_enter Tryz.func43,Tryz.ntmps43
  go_wp2_with (first | (go_at_call 84; refine(zcg _ _ _ _).mono ?_; rintro e w' ⟨rfl,rfl⟩) | (go_at_call 106; refine(zdc _ _).mono ?_; rintro e w' ⟨rfl,rfl⟩))
  go_ret
  exact NO.out _ _ rf.out _ (by simp) HB.out HF.out
 cases h5:zak ac
 ·have rf:=Lib.hid (show zai ⟨ch,bo,st,ac,vs,ms,ts,ov⟩=false by rw [R0.out]; simp [h5])
  go_enter Tryz.func43,Tryz.ntmps43
  go_wp2_with (first | (go_at_call 84; refine(zcg _ _ _ _).mono ?_; rintro e w' ⟨rfl,rfl⟩) | (go_at_call 106; refine(zdc _ _).mono ?_; rintro e w' ⟨rfl,rfl⟩) | (go_at_call 107; refine(zcY _ ac _ _ HI.out.act).mono ?_; rintro e w' ⟨rfl,rfl⟩))
  go_ret
  exact NO.out _ _ rf.out _ (by simp) HB.out HF.out
 cases h6:zdy vs
 ·have rf:=Lib.hid (show zai ⟨ch,bo,st,ac,vs,ms,ts,ov⟩=false by rw [R0.out]; simp [h6])
  go_enter Tryz.func43,Tryz.ntmps43
  go_wp2_with (first | (go_at_call 84; refine(zcg _ _ _ _).mono ?_; rintro e w' ⟨rfl,rfl⟩) | (go_at_call 106; refine(zdc _ _).mono ?_; rintro e w' ⟨rfl,rfl⟩) | (go_at_call 107; refine(zcY _ ac _ _ HI.out.act).mono ?_; rintro e w' ⟨rfl,rfl⟩) | (go_at_call 108; refine(zlW _ vs _ _ HI.out.vars).mono ?_; rintro e w' ⟨rfl,rfl⟩))
  go_ret
  exact NO.out _ _ rf.out _ (by simp) HB.out HF.out
 go_enter Tryz.func43,Tryz.ntmps43
 go_wp2_with (first | (go_at_call 106; refine(zdc _ _).mono ?_; rintro e w' ⟨rfl,rfl⟩) | (go_at_call 107; refine(zcY _ ac _ _ HI.out.act).mono ?_; rintro e w' ⟨rfl,rfl⟩) | (go_at_call 108; refine(zlW _ vs _ _ HI.out.vars).mono ?_; rintro e w' ⟨rfl,rfl⟩))
 refine(zjO _ ms _ HI.out.mem).mono ?_
 rintro e w1 ⟨rfl,hb1⟩
 have I1:=Lib.hid (HI.out.below hb1)
 have F1:=Lib.hid (HF.out.below hb1)
 have B1:=Lib.hid (HB.out.trans (hb1.mono (by simp)))
 obtain⟨m0,m1,m2,m3,m4,m5,m6,m7⟩:=c8 (M0.out.below hb1 (by simp))
 have cF1:=F1.out.1
 try clear hb1 HI HF HB M0 cF m0 m1 m2 m7
 cases h7:rmsB ms
 ·have rf:=Lib.hid (show zai ⟨ch,bo,st,ac,vs,ms,ts,ov⟩=false by rw [R0.out]; simp [h7])
  go_wp2_with (go_at_call 84; refine(zcg _ _ _ _).mono ?_; rintro e w' ⟨rfl,rfl⟩)
  go_ret
  exact NO.out _ _ rf.out _ (by simp) B1.out F1.out
 go_wp2_with fail
 refine(zmY _ ts _ I1.out.tms).mono ?_
 rintro e w2 ⟨rfl,hb2⟩
 have F2:=Lib.hid (F1.out.below hb2)
 have B2:=Lib.hid (B1.out.trans (hb2.mono B1.out.size))
 have cF2:=F2.out.1
 try clear hb2 I1 F1 B1 cF1 m3 m4 m5 m6
 cases h8:zaL ts
 ·have rf:=Lib.hid (show zai ⟨ch,bo,st,ac,vs,ms,ts,ov⟩=false by rw [R0.out]; simp [h8])
  go_wp2_with (go_at_call 84; refine(zcg _ _ _ _).mono ?_; rintro e w' ⟨rfl,rfl⟩)
  go_ret
  exact NO.out _ _ rf.out _ (by simp) B2.out F2.out
 have rf:=Lib.hid (show zai ⟨ch,bo,st,ac,vs,ms,ts,ov⟩=true by rw [R0.out]; simp [h1,h2,h3,h4,h5,h6,h7,h8])
 go_wp2_with fail
 go_ret
 rw [rf.out]
 exact⟨_,rfl,B2.out, .inl ⟨rfl,rfl⟩⟩
end
section
theorem zdT {α:Type} [DecidableEq α] {a b:List α} {k:Nat} (ha:k<a.length) (hb:k<b.length) (h:a[k]≠b[k]):decide (a=b)=false:=by
 rw [decide_eq_false_iff_not]
 rintro rfl
 exact h rfl
theorem zev {α:Type} [DecidableEq α] {a b:List α} {n:Nat} (ha:a.length=n) (hb:b.length=n) (h:a.take n=b.take n):decide (a=b)=true:=by
 rw [List.take_of_length_le (by omega),List.take_of_length_le (by omega)] at h
 simpa using h
theorem zfj {α:Type} {a b:List α} {k:Nat} (h:a.take k=b.take k) (ha:k<a.length) (hb:k<b.length) (he:a[k]=b[k]):a.take (k+1)=b.take (k+1):=by
 rw [List.take_succ_eq_append_getElem ha,List.take_succ_eq_append_getElem hb,h,he]
theorem zfA (v v':Value) (l l':List Int) (B B':Nat) (w:World) (h:zau w B 1 intR v l) (h':zau w B' 1 intR v' l'):
 Calls Tryz.prog 97 #[v,v'] w fun e w'=>e= .returned (.bool (decide (l=l')))/\ ∃k,w'=w.drewN k:=by
 obtain⟨A,c,rfl,hlc,hcm,hr⟩:=h.one
 obtain⟨A',c',rfl,hlc',hcm',hr'⟩:=h'.one
 unfold maxLen at hcm hcm'
 have HR:=Lib.hid hr
 have HR':=Lib.hid hr'
 try clear h h' hr hr'
 by_cases hne:l.length=l'.length
 ·have HN:=Lib.hid hne
  rw [<-hne] at HR' hlc' |-
  generalize hn:l.length=n at*
  have HL:=Lib.hid hn
  try clear hn hne
  go_enter Tryz.func97,Tryz.ntmps97
  go_wp2_with fail
  go_loopw [13] (fun i wr=> ∃k j:Nat,k<=n/\i= .int .i64 k/\wr=w.drewN j/\l.take k=l'.take k) (fun i _=>n-(intOf i).toNat)
  case atStart=>exact⟨0,0,by omega,rfl,rfl,by simp⟩
  case round=>
   obtain⟨k,j,hk,rfl,rfl,htk⟩:=hrel
   have HT:=Lib.hid htk
   try clear htk
   by_cases hlt:k<n
   ·obtain⟨b,off,rfl,_,hc⟩:=ints_at HR.out HL.out k hlt
    obtain⟨b',off',rfl,_,hc'⟩:=ints_at HR'.out HN.out.symm k hlt
    have hkb:k<l.length:=by rw [HL.out]; exact hlt
    have hkb':k<l'.length:=by rw [<-HN.out]; exact hlt
    have hck:=hc k hlt
    have hck':=hc' k hlt
    rw [zaR l k 0 hkb] at hck
    rw [zaR l' k 0 hkb'] at hck'
    have g1:(0:Int)<=(k:Int):=by omega
    have g2:(k:Int)< (n:Int):=by omega
    have yes:Hid (l[k]=l'[k]->l.take (k+1)=l'.take (k+1)):=Lib.hid (zfj HT.out hkb hkb')
    have no:Hid (l[k]≠l'[k]->decide (l=l')=false):=Lib.hid (zdT hkb hkb')
    generalize l[k]=x at*
    generalize l'[k]=x' at*
    try clear hkb hkb' hc hc'
    by_cases hx:x=x'
    ·have kn:=Lib.hid (yes.out hx)
     subst hx
     go_wp2_with fail
     go_quiet (fail)
     go_wp2_with fail
     go_roundw
     case rel=>exact⟨k+1,_,by omega,by go_num,rfl,kn.out⟩
     case measure=>simp [intOf]; omega
    ·have kn:=Lib.hid (no.out hx)
     have e1:(x != x')=true:=by rw [bne_iff_ne]; exact hx
     go_wp2_with fail
     go_quiet (fail)
     go_wp2_with fail
     go_ret
     rw [kn.out]
     exact⟨rfl,_,World.drewN_drewN _ _ _⟩
   ·obtain rfl:k=n:=by omega
    have kn:Hid (decide (l=l')=true):=Lib.hid (zev HL.out HN.out.symm HT.out)
    go_wp2_with fail
    go_ret
    rw [kn.out]
    exact⟨rfl,j,rfl⟩
 ·have kn:Hid (decide (l=l')=false):=Lib.hid (by
   rw [decide_eq_false_iff_not]
   rintro rfl
   exact hne rfl)
  have e1:((l.length:Int) != (l'.length:Int))=true:=by rw [bne_iff_ne]; omega
  generalize l.length=n at*
  generalize l'.length=n' at*
  go_enter Tryz.func97,Tryz.ntmps97
  go_wp2_with fail
  go_ret
  rw [kn.out]
  exact⟨rfl,0,rfl⟩
theorem zpQ (v v':Value) (l l':List (List UInt8×Int)) (B B':Nat) (w:World) (h:zau w B 2 tmR v l) (h':zau w B' 2 tmR v' l'):
 Calls Tryz.prog 98 #[v,v'] w fun e w'=>e= .returned (.bool (decide (l=l')))/\ ∃k,w'=w.drewN k:=by
 obtain⟨A,c,rfl,hlc,hcm⟩:=h.form
 obtain⟨A',c',rfl,hlc',hcm'⟩:=h'.form
 unfold maxLen at hcm hcm'
 have HR:=Lib.hid h
 have HR':=Lib.hid h'
 try clear h h'
 by_cases hne:l.length=l'.length
 ·have HN:=Lib.hid hne
  rw [<-hne] at HR' hlc' |-
  generalize hn:l.length=n at*
  have HL:=Lib.hid hn
  try clear hn hne
  go_enter Tryz.func98,Tryz.ntmps98
  go_wp2_with fail
  go_loopw [13] (fun i wr=> ∃k j:Nat,k<=n/\i= .int .i64 k/\wr=w.drewN j/\l.take k=l'.take k) (fun i _=>n-(intOf i).toNat)
  case atStart=>exact⟨0,0,by omega,rfl,rfl,by simp⟩
  case round=>
   obtain⟨k,j,hk,rfl,rfl,htk⟩:=hrel
   have HT:=Lib.hid htk
   try clear htk
   by_cases hlt:k<n
   ·have hkb:k<l.length:=by rw [HL.out]; exact hlt
    have hkb':k<l'.length:=by rw [<-HN.out]; exact hlt
    obtain⟨b,off,rfl,_,hc⟩:=zlX HR.out k hkb
    obtain⟨b',off',rfl,_,hc'⟩:=zlX HR'.out k hkb'
    obtain⟨c1,c2,_⟩:=hc k hkb
    obtain⟨c1',c2',_⟩:=hc' k hkb'
    rw [zaR l k _ hkb] at c1 c2
    rw [zaR l' k _ hkb'] at c1' c2'
    have g1:(0:Int)<=(k:Int):=by omega
    have g2:(k:Int)< (n:Int):=by omega
    have yes:Hid (l[k]=l'[k]->l.take (k+1)=l'.take (k+1)):=Lib.hid (zfj HT.out hkb hkb')
    have no:Hid (l[k]≠l'[k]->decide (l=l')=false):=Lib.hid (zdT hkb hkb')
    generalize l[k]=x at*
    generalize l'[k]=x' at*
    obtain⟨s,a⟩:=x
    obtain⟨s',a'⟩:=x'
    simp only at c1 c2 c1' c2'
    try clear hkb hkb' hc hc'
    cases hs:(s==s')
    ·have kn:=Lib.hid (no.out (fun e=>by cases e; simp at hs))
     go_wp2_with fail
     go_quiet (fail)
     go_wp2_with fail
     go_ret
     rw [kn.out]
     exact⟨rfl,_,World.drewN_drewN _ _ _⟩
    ·obtain rfl:s=s':=by simpa using hs
     try clear hs
     by_cases ha:a=a'
     ·have kn:=Lib.hid (yes.out (by rw [ha]))
      subst ha
      go_wp2_with fail
      go_quiet (fail)
      go_wp2_with fail
      go_roundw
      case rel=>exact⟨k+1,_,by omega,by go_num,rfl,kn.out⟩
      case measure=>simp [intOf]; omega
     ·have kn:=Lib.hid (no.out (fun e=>by cases e; exact ha rfl))
      have e1:(a==a')=false:=by rw [beq_eq_false_iff_ne]; exact ha
      go_wp2_with fail
      go_quiet (fail)
      go_wp2_with fail
      go_ret
      rw [kn.out]
      exact⟨rfl,_,World.drewN_drewN _ _ _⟩
   ·obtain rfl:k=n:=by omega
    have kn:Hid (decide (l=l')=true):=Lib.hid (zev HL.out HN.out.symm HT.out)
    go_wp2_with fail
    go_ret
    rw [kn.out]
    exact⟨rfl,j,rfl⟩
 ·have kn:Hid (decide (l=l')=false):=Lib.hid (by
   rw [decide_eq_false_iff_not]
   rintro rfl
   exact hne rfl)
  have e1:((l.length:Int) != (l'.length:Int))=true:=by rw [bne_iff_ne]; omega
  generalize l.length=n at*
  generalize l'.length=n' at*
  go_enter Tryz.func98,Tryz.ntmps98
  go_wp2_with fail
  go_ret
  rw [kn.out]
  exact⟨rfl,0,rfl⟩
end
section
theorem zoo (s s':Int) (v v':Value) (l l':List Int) (w:World) (h:zau w w.heap.size 1 intR v l) (h':zau w w.heap.size 1 intR v' l'):
 Calls Tryz.prog 96 #[.agg #[.int .i64 s,v], .agg #[.int .i64 s',v']] w fun e w'=>e= .returned (.bool (decide ((s,l)=(s',l'))))/\Below w.heap.size w w':=by
 have hb:=((Below.refl w.heap.size w).alloc (Nat.le_refl _) (.cells #[.int .i64 s,v] 85)).alloc (by simp) (.cells #[.int .i64 s',v'] 85)
 have H1:=Lib.hid (h.moved (zbo hb) fun _ _ _ h=>h)
 have H2:=Lib.hid (h'.moved (zbo hb) fun _ _ _ h=>h)
 have HB:=Lib.hid hb
 obtain⟨A,c,rfl,_,_⟩:=h.form
 obtain⟨A',c',rfl,_,_⟩:=h'.form
 try clear h h' hb
 by_cases hs:s=s'
 ·have kn:=Lib.hid (show decide ((s,l)=(s',l'))=decide (l=l') by simp [hs])
  subst hs
  go_enter Tryz.func96,Tryz.ntmps96
  go_wp2_with fail
  refine(zfA _ _ l l' _ _ _ H1.out H2.out).mono ?_
  rintro e w1 ⟨rfl,k,hk⟩
  have B1:=Lib.hid (show Below w.heap.size w w1 by rw [hk]; exact below_drewN HB.out k)
  try clear hk
  go_wp2_with fail
  go_ret
  rw [kn.out]
  exact⟨rfl,B1.out⟩
 ·have kn:=Lib.hid (show decide ((s,l)=(s',l'))=false by simp [hs])
  have e1:(s==s')=false:=by rw [beq_eq_false_iff_ne]; exact hs
  go_enter Tryz.func96,Tryz.ntmps96
  go_wp2_with fail
  go_ret
  rw [kn.out]
  exact⟨rfl,HB.out⟩
theorem znF (v v':Value) (l l':List (Int×List Int)) (w:World) (h:zau w w.heap.size 2 (memR w w.heap.size) v l) (h':zau w w.heap.size 2 (memR w w.heap.size) v' l'):
 Calls Tryz.prog 95 #[v,v', .func (.func 96) #[] #[]] w fun e w'=>e= .returned (.bool (decide (l=l')))/\Below w.heap.size w w':=by
 obtain⟨A,c,rfl,hlc,hcm⟩:=h.form
 obtain⟨A',c',rfl,hlc',hcm'⟩:=h'.form
 unfold maxLen at hcm hcm'
 have HR:=Lib.hid h
 have HR':=Lib.hid h'
 try clear h h'
 by_cases hne:l.length=l'.length
 ·have HN:=Lib.hid hne
  rw [<-hne] at HR' hlc' |-
  generalize hn:l.length=n at*
  have HL:=Lib.hid hn
  try clear hn hne
  go_enter Tryz.func95,Tryz.ntmps95
  go_wp2_with fail
  go_loopw [17] (fun i wr=> ∃k:Nat,k<=n/\i= .int .i64 k/\Below w.heap.size w wr/\l.take k=l'.take k) (fun i _=>n-(intOf i).toNat)
  case atStart=>exact⟨0,by omega,rfl,Below.refl _ _,by simp⟩
  case round=>
   obtain⟨k,hk,rfl,hB,htk⟩:=hrel
   have HT:=Lib.hid htk
   have HB:=Lib.hid hB
   have hsz:=hB.size
   try clear htk
   by_cases hlt:k<n
   ·have hkb:k<l.length:=by rw [HL.out]; exact hlt
    have hkb':k<l'.length:=by rw [<-HN.out]; exact hlt
    obtain⟨b,off,rfl,hb,hc⟩:=zgp HR.out k hkb
    obtain⟨b',off',rfl,hb',hc'⟩:=zgp HR'.out k hkb'
    obtain⟨sv,c1,c2,hsv⟩:=hc k hkb
    obtain⟨sv',c1',c2',hsv'⟩:=hc' k hkb'
    have hbw:b<wr.heap.size:=by omega
    have hbw':b'<wr.heap.size:=by omega
    have c1:=(hB.cell (p:=⟨b,off+k*2,none⟩) hb).trans c1
    have c2:=(hB.cell (p:=⟨b,off+k*2+1,none⟩) hb).trans c2
    have c1':=(hB.cell (p:=⟨b',off'+k*2,none⟩) hb').trans c1'
    have c2':=(hB.cell (p:=⟨b',off'+k*2+1,none⟩) hb').trans c2'
    rw [zaR l k _ hkb] at c1 hsv
    rw [zaR l' k _ hkb'] at c1' hsv'
    have yes:Hid (l[k]=l'[k]->l.take (k+1)=l'.take (k+1)):=Lib.hid (zfj HT.out hkb hkb')
    have no:Hid (l[k]≠l'[k]->decide (l=l')=false):=Lib.hid (zdT hkb hkb')
    generalize l[k]=x at*
    generalize l'[k]=x' at*
    obtain⟨s,sl⟩:=x
    obtain⟨s',sl'⟩:=x'
    simp only at c1 c1' hsv hsv'
    obtain⟨A2,k2,e2,_,_⟩:=hsv.form
    obtain⟨A3,k3,e3,_,_⟩:=hsv'.form
    subst e2 e3
    have hbb:=(HB.out.alloc hsz (.cells #[.int .i64 s, .slice A2 sl.length k2] 85)).alloc (by simp; omega) (.cells #[.int .i64 s', .slice A3 sl'.length k3] 85)
    have S1:=Lib.hid ((hsv.moved (zbo hbb) fun _ _ _ h=>h).wider hbb.size fun _ _ _ h=>h)
    have S2:=Lib.hid ((hsv'.moved (zbo hbb) fun _ _ _ h=>h).wider hbb.size fun _ _ _ h=>h)
    have HBB:=Lib.hid hbb
    try clear hkb hkb' hc hc' hsv hsv' hB hbb
    go_wp2_with fail
    refine(zoo s s' _ _ sl sl' _ S1.out S2.out).mono ?_
    rintro e w2 ⟨rfl,hb2⟩
    have B2:=Lib.hid (HBB.out.trans (hb2.mono HBB.out.size))
    try clear hb2 c1 c2 c1' c2'
    cases hd:decide ((s,sl)=(s',sl'))
    ·have kn:=Lib.hid (no.out (of_decide_eq_false hd))
     go_wp2_with fail
     go_ret
     rw [kn.out]
     exact⟨rfl,B2.out⟩
    ·have kn:=Lib.hid (yes.out (of_decide_eq_true hd))
     go_wp2_with fail
     go_roundw
     case rel=>exact⟨k+1,by omega,by go_num,B2.out,kn.out⟩
     case measure=>simp [intOf]; omega
   ·obtain rfl:k=n:=by omega
    have kn:Hid (decide (l=l')=true):=Lib.hid (zev HL.out HN.out.symm HT.out)
    try clear hB
    go_wp2_with fail
    go_ret
    rw [kn.out]
    exact⟨rfl,HB.out⟩
 ·have kn:Hid (decide (l=l')=false):=Lib.hid (by
   rw [decide_eq_false_iff_not]
   rintro rfl
   exact hne rfl)
  have e1:((l.length:Int) != (l'.length:Int))=true:=by rw [bne_iff_ne]; omega
  generalize l.length=n at*
  generalize l'.length=n' at*
  go_enter Tryz.func95,Tryz.ntmps95
  go_wp2_with fail
  go_ret
  rw [kn.out]
  exact⟨rfl,Below.refl _ _⟩
end
section
def zdH (r r':Rc):Bool:=decide (r.mem=r'.mem)&&decide (r.over=r'.over)&&decide (r.active=r'.active)&&decide (r.vars=r'.vars)&&decide (r.timers=r'.timers)
def zfN (r r':Rc):Bool:=decide (r.chart=r'.chart)&&decide (r.born=r'.born)&&decide (r.steps=r'.steps)&&zdH r r'
theorem zk6 (r:Rc):zfN r r=true:=by simp [zfN,zdH]
theorem five {w:World} {g:Nat} {t:TypeId} {a b c d e:Value} (h:Whole w g t #[a,b,c,d,e]):w.cell? ⟨g,0,none⟩=some a/\w.cell? ⟨g,1,none⟩=some b/\w.cell? ⟨g,2,none⟩=some c/\w.cell? ⟨g,3,none⟩=some d/\w.cell? ⟨g,4,none⟩=some e:=
 ⟨h.cell 0,h.cell 1,h.cell 2,h.cell 3,h.cell 4⟩
theorem zo0 (r r':Rc) (va vv vm vt va' vv' vm' vt':Value) (w:World) (h:InAt w w.heap.size va vv vm vt r) (h':InAt w w.heap.size va' vv' vm' vt' r'):
 Calls Tryz.prog 38 #[.agg #[va,vv,vm,vt, .bool r.over], .agg #[va',vv',vm',vt', .bool r'.over]] w fun e w'=>e= .returned (.bool (zdH r r'))/\Below w.heap.size w w':=by
 have hb:=((Below.refl w.heap.size w).alloc (Nat.le_refl _) (.cells #[va,vv,vm,vt, .bool r.over] 31)).alloc (by simp) (.cells #[va',vv',vm',vt', .bool r'.over] 31)
 have H1:=Lib.hid (h.below hb)
 have H2:=Lib.hid (h'.below hb)
 have HB:=Lib.hid hb
 have M1:=Lib.hid ((Whole.new w 31 #[va,vv,vm,vt, .bool r.over]).alloc (.cells #[va',vv',vm',vt', .bool r'.over] 31))
 have M2:=Whole.new (w.alloc (.cells #[va,vv,vm,vt, .bool r.over] 31)) 31 #[va',vv',vm',vt', .bool r'.over]
 rw [World.size_alloc] at M2
 have HM2:=Lib.hid M2
 obtain⟨A1,k1,e1,_,_⟩:=h.act.form
 obtain⟨A2,k2,e2,_,_⟩:=h.vars.form
 obtain⟨A3,k3,e3,_,_⟩:=h.mem.form
 obtain⟨A4,k4,e4,_,_⟩:=h.tms.form
 obtain⟨A5,k5,e5,_,_⟩:=h'.act.form
 obtain⟨A6,k6,e6,_,_⟩:=h'.vars.form
 obtain⟨A7,k7,e7,_,_⟩:=h'.mem.form
 obtain⟨A8,k8,e8,_,_⟩:=h'.tms.form
 subst e1 e2 e3 e4 e5 e6 e7 e8
 try clear h h' hb M2
 go_enter Tryz.func38,Tryz.ntmps38
 go_wp2_with fail
 refine(znF _ _ r.mem r'.mem _ H1.out.mem H2.out.mem).mono ?_
 rintro e w1 ⟨rfl,hb1⟩
 have I1:=Lib.hid (H1.out.below hb1)
 have I2:=Lib.hid (H2.out.below hb1)
 have B1:=Lib.hid (HB.out.trans (hb1.mono (by simp; omega)))
 obtain⟨m0,m1,m2,m3,m4⟩:=five (M1.out.below hb1 (by simp; omega))
 obtain⟨n0,n1,n2,n3,n4⟩:=five (HM2.out.below hb1 (by simp))
 have HS:=Lib.hid (show zdH r r'=(decide (r.mem=r'.mem)&&decide (r.over=r'.over)&&decide (r.active=r'.active)&&decide (r.vars=r'.vars)&&decide (r.timers=r'.timers)) from rfl)
 try clear hb1 H1 H2 HB M1 HM2
 cases d1:decide (r.mem=r'.mem)
 ·have kn:=Lib.hid (show zdH r r'=false by rw [HS.out,d1]; rfl)
  go_wp2_with fail
  go_ret
  rw [kn.out]
  exact⟨rfl,B1.out⟩
 have eo:(r.over==r'.over)=decide (r.over=r'.over):=by cases r.over<;>cases r'.over<;>rfl
 cases d2:decide (r.over=r'.over)
 ·have kn:=Lib.hid (show zdH r r'=false by rw [HS.out,d1,d2]; rfl)
  rw [d2] at eo
  go_wp2_with fail
  go_ret
  rw [kn.out]
  exact⟨rfl,B1.out⟩
 rw [d2] at eo
 go_wp2_with fail
 refine(zfA _ _ r.active r'.active _ _ _ I1.out.act I2.out.act).mono ?_
 rintro e w2 ⟨rfl,q2,hq2⟩
 have hb2:Below w1.heap.size w1 w2:=by rw [hq2]; exact below_drewN (Below.refl _ _) _
 have J1:=Lib.hid (I1.out.below hb2)
 have J2:=Lib.hid (I2.out.below hb2)
 have B2:=Lib.hid (B1.out.trans (hb2.mono B1.out.size))
 have m1:=cell_below m1 hb2
 have m3:=cell_below m3 hb2
 have n1:=cell_below n1 hb2
 have n3:=cell_below n3 hb2
 try clear hb2 hq2 I1 I2 B1
 cases d3:decide (r.active=r'.active)
 ·have kn:=Lib.hid (show zdH r r'=false by rw [HS.out,d1,d2,d3]; rfl)
  go_wp2_with fail
  go_ret
  rw [kn.out]
  exact⟨rfl,B2.out⟩
 go_wp2_with fail
 refine(zfA _ _ r.vars r'.vars _ _ _ J1.out.vars J2.out.vars).mono ?_
 rintro e w3 ⟨rfl,q3,hq3⟩
 have hb3:Below w2.heap.size w2 w3:=by rw [hq3]; exact below_drewN (Below.refl _ _) _
 have L1:=Lib.hid (J1.out.below hb3)
 have L2:=Lib.hid (J2.out.below hb3)
 have B3:=Lib.hid (B2.out.trans (hb3.mono B2.out.size))
 have m3:=cell_below m3 hb3
 have n3:=cell_below n3 hb3
 try clear hb3 hq3 J1 J2 B2
 cases d4:decide (r.vars=r'.vars)
 ·have kn:=Lib.hid (show zdH r r'=false by rw [HS.out,d1,d2,d3,d4]; rfl)
  go_wp2_with fail
  go_ret
  rw [kn.out]
  exact⟨rfl,B3.out⟩
 go_wp2_with fail
 refine(zpQ _ _ r.timers r'.timers _ _ _ L1.out.tms L2.out.tms).mono ?_
 rintro e w4 ⟨rfl,q4,hq4⟩
 have B4:=Lib.hid (show Below w.heap.size w w4 by rw [hq4]; exact below_drewN B3.out _)
 have kn:=Lib.hid (show zdH r r'=decide (r.timers=r'.timers) by rw [HS.out,d1,d2,d3,d4]; simp)
 try clear hq4 B3
 go_wp2_with fail
 go_ret
 rw [kn.out]
 exact⟨rfl,B4.out⟩
theorem zqB (r r':Rc) (va vv vm vt va' vv' vm' vt':Value) (w:World) (h:InAt w w.heap.size va vv vm vt r) (h':InAt w w.heap.size va' vv' vm' vt' r'):
 Calls Tryz.prog 48 #[.agg (recV r va vv vm vt), .agg (recV r' va' vv' vm' vt')] w fun e w'=>e= .returned (.bool (zfN r r'))/\Below w.heap.size w w':=by
 have hb:=((Below.refl w.heap.size w).alloc (Nat.le_refl _) (.cells (recV r va vv vm vt) 33)).alloc (by simp) (.cells (recV r' va' vv' vm' vt') 33)
 have H1:=Lib.hid (h.below hb)
 have H2:=Lib.hid (h'.below hb)
 have HB:=Lib.hid hb
 obtain⟨A1,k1,e1,_,_⟩:=h.act.form
 obtain⟨A2,k2,e2,_,_⟩:=h.vars.form
 obtain⟨A3,k3,e3,_,_⟩:=h.mem.form
 obtain⟨A4,k4,e4,_,_⟩:=h.tms.form
 obtain⟨A5,k5,e5,_,_⟩:=h'.act.form
 obtain⟨A6,k6,e6,_,_⟩:=h'.vars.form
 obtain⟨A7,k7,e7,_,_⟩:=h'.mem.form
 obtain⟨A8,k8,e8,_,_⟩:=h'.tms.form
 subst e1 e2 e3 e4 e5 e6 e7 e8
 have HS:=Lib.hid (show zfN r r'=(decide (r.chart=r'.chart)&&decide (r.born=r'.born)&&decide (r.steps=r'.steps)&&zdH r r') from rfl)
 try clear h h' hb
 simp only [recV] at*
 cases d1:(r.chart==r'.chart)
 ·have kn:=Lib.hid (show zfN r r'=false by rw [HS.out,decide_eq_false (by simpa using d1)]; rfl)
  go_enter Tryz.func48,Tryz.ntmps48
  go_wp2_with fail
  go_ret
  rw [kn.out]
  exact⟨rfl,HB.out⟩
 cases d2:(r.born==r'.born)
 ·have kn:=Lib.hid (show zfN r r'=false by rw [HS.out,decide_eq_false (show ¬r.born=r'.born by simpa using d2)]; simp)
  go_enter Tryz.func48,Tryz.ntmps48
  go_wp2_with fail
  go_ret
  rw [kn.out]
  exact⟨rfl,HB.out⟩
 cases d3:(r.steps==r'.steps)
 ·have kn:=Lib.hid (show zfN r r'=false by rw [HS.out,decide_eq_false (show ¬r.steps=r'.steps by simpa using d3)]; simp)
  go_enter Tryz.func48,Tryz.ntmps48
  go_wp2_with fail
  go_ret
  rw [kn.out]
  exact⟨rfl,HB.out⟩
 have kn:=Lib.hid (show zfN r r'=zdH r r' by rw [HS.out,decide_eq_true (show r.chart=r'.chart by simpa using d1),decide_eq_true (show r.born=r'.born by simpa using d2),decide_eq_true (show r.steps=r'.steps by simpa using d3)]; simp)
 go_enter Tryz.func48,Tryz.ntmps48
 go_wp2_with fail
 refine(zo0 r r' _ _ _ _ _ _ _ _ _ H1.out H2.out).mono ?_
 rintro e w1 ⟨rfl,hb1⟩
 have B1:=Lib.hid (HB.out.trans (hb1.mono (by simp; omega)))
 try clear hb1
 go_wp2_with fail
 go_ret
 rw [kn.out]
 exact⟨rfl,B1.out⟩
end
section
end
section
end

end Go.Proofs.YtnbjaghjdeicmaaGreatDoor