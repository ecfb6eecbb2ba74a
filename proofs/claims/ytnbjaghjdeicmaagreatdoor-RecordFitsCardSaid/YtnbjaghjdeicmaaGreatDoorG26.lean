/- A record that came in. -/
import Derived.Test.YtnbjaghjdeicmaaGreatDoorG25
import Derived.Test.YtnbjaghjdeicmaaGreatDoorG22
import Derived.Test.YtnbjaghjdeicmaaGreatDoorG21
import Derived.Test.YtnbjaghjdeicmaaGreatDoorG14
set_option maxRecDepth 100000
set_option maxHeartbeats 4000000
set_option linter.unusedSimpArgs false
namespace Go.Proofs.YtnbjaghjdeicmaaGreatDoor
section
open Go.RowKit
theorem zkD {a b:List UInt8} {k:Nat} (ha:k<a.length) (hb:k<b.length) (h:a[k].toNat≠b[k].toNat):decide (a=b)=false:=by
 rw [decide_eq_false_iff_not]
 rintro rfl
 exact h rfl
theorem zlD (A A':Option Addr) (n n' c c':Nat) (bs bs':List UInt8) (w:World) (hn:bs.length=n) (hn':bs'.length=n') (hl:n<=140737488351232) (hl':n'<=140737488351232) (hr:Reads w w.heap.size 1 A n (bv bs)) (hr':Reads w w.heap.size 1 A' n' (bv bs')):
 Calls Tryz.prog 122 #[.slice A n c, .slice A' n' c'] w fun e w'=>e= .returned (.bool (decide (bs=bs')))/\ ∃k,w'=w.drewN k:=by
 have hN:=Lib.hid hn
 have hN':=Lib.hid hn'
 have HR:=Lib.hid hr
 have HR':=Lib.hid hr'
 by_cases hne:n=n'
 ·subst hne
  try clear hn hn' hr hr'
  go_enter Tryz.func122,Tryz.ntmps122
  go_wp2_with fail
  go_loopw [13] (fun i wr=> ∃k j:Nat,k<=n/\i= .int .i64 k/\wr=w.drewN j/\bs.take k=bs'.take k) (fun i _=>n-(intOf i).toNat)
  case atStart=>exact⟨0,0,by omega,rfl,rfl,by simp⟩
  case round=>
   obtain⟨k,j,hk,rfl,rfl,htk⟩:=hrel
   have HT:=Lib.hid htk
   try clear htk
   by_cases hlt:k<n
   ·obtain⟨b,off,u,rfl,_,hu,hc⟩:=HR.out.at_ hlt
    obtain⟨b',off',u',rfl,_,hu',hc'⟩:=HR'.out.at_ hlt
    have hkb:k<bs.length:=by rw [hN.out]; exact hlt
    have hkb':k<bs'.length:=by rw [hN'.out]; exact hlt
    rw [zmJ bs k hkb] at hu
    rw [zmJ bs' k hkb'] at hu'
    cases hu
    cases hu'
    have g1:(0:Int)<=(k:Int):=by omega
    have g2:(k:Int)< (n:Int):=by omega
    have yes:Hid (bs[k].toNat=bs'[k].toNat->bs.take (k+1)=bs'.take (k+1)):=Lib.hid (fun h=>by
     rw [List.take_succ_eq_append_getElem hkb,List.take_succ_eq_append_getElem hkb',HT.out,UInt8.toNat_inj.1 h])
    have no:Hid (bs[k].toNat≠bs'[k].toNat->decide (bs=bs')=false):=Lib.hid (zkD hkb hkb')
    generalize bs[k].toNat=x at*
    generalize bs'[k].toNat=x' at*
    try clear hkb hkb'
    by_cases hx:x=x'
    ·have kn:=Lib.hid (yes.out hx)
     subst hx
     go_wp2_with fail
     go_quiet (fail)
     go_wp2_with fail
     go_roundw
     case rel=>exact⟨k+1,_,by omega,by go_num,rfl,kn.out⟩
     case measure=>simp [intOf]; omega
    ·have kn:=Lib.hid (no.out hx)
     have e1:((x:Int) != (x':Int))=true:=by rw [bne_iff_ne]; omega
     go_wp2_with fail
     go_quiet (fail)
     go_wp2_with fail
     go_ret
     rw [kn.out]
     exact⟨rfl,_,World.drewN_drewN _ _ _⟩
   ·obtain rfl:k=n:=by omega
    have kn:Hid (decide (bs=bs')=true):=Lib.hid (by
     have:=HT.out
     rw [List.take_of_length_le (by rw [hN.out]; exact Nat.le_refl _),List.take_of_length_le (by rw [hN'.out]; exact Nat.le_refl _)] at this
     simpa using this)
    go_wp2_with fail
    go_ret
    rw [kn.out]
    exact⟨rfl,j,rfl⟩
 ·have kn:Hid (decide (bs=bs')=false):=Lib.hid (by
   rw [decide_eq_false_iff_not]
   rintro rfl
   exact hne (hn.symm.trans hn'))
  have e1:((n:Int) != (n':Int))=true:=by rw [bne_iff_ne]; omega
  try clear hn hn' hr hr'
  go_enter Tryz.func122,Tryz.ntmps122
  go_wp2_with fail
  go_ret
  rw [kn.out]
  exact⟨rfl,0,rfl⟩
theorem zoz {r:Rc} (h:zai r=true):(zcz r).length<=140737488351232:=by
 have R:=zov h
 have h1:=zeK r.vars
 have h2:=zeW r.mem
 have h3:=zlY r.timers (fun t ht=>(R.tms t ht).1)
 have:=R.vars1
 have:=R.mem1
 have:=R.tms1
 simp only [zcz,zfZ,List.length_append,zal,List.length_cons,List.length_nil]
 omega
def zlP:Rc:=⟨0,0,0,[],[],[],[],false⟩
abbrev nilSV:Value:= .slice none 0 0
def zlO (w:World) (aF:Addr) (o:Option Rc) (e:Ending) (w':World):Prop:=
 ∃(va vv vm vt:Value) (r:Rc) (E:Value),e= .returned (.tuple #[.agg (recV r va vv vm vt),E])/\Below w.heap.size w w'/\OwnIn w' w.heap.size va vv vm vt r/\((o=some r/\E= .nilIface)\/(o=none/\r=zlP/\za1 w' aF 1 E/\ ∃pb,E= .iface 159 (.pointer (some ⟨pb,0,none⟩))/\w.heap.size<=pb))
theorem zhZ (w:World) (base:Nat):OwnIn w base nilSV nilSV nilSV nilSV zlP:=
 ⟨World.ownsRow_nil _ _ _ _,World.ownsRow_nil _ _ _ _,⟨[],World.ownsRow_nil _ _ _ _,zd9 _ _⟩,⟨[],World.ownsRow_nil _ _ _ _,zd9 _ _⟩⟩
abbrev put8 (W:World) (P:Nat) (u0 u1 u2 u3 u4 u5 u6 u7:Value):World:=
 (((((((W.setCell ⟨P,0,none⟩ u0).setCell ⟨P,1,none⟩ u1).setCell ⟨P,2,none⟩ u2).setCell ⟨P,3,none⟩ u3).setCell ⟨P,4,none⟩ u4).setCell ⟨P,5,none⟩ u5).setCell ⟨P,6,none⟩ u6).setCell ⟨P,7,none⟩ u7
theorem err8 {W:World} {P pb:Nat} {a:Addr} {E:Value} (hE:za1 W a 1 E) (hEV:E= .iface 159 (.pointer (some ⟨pb,0,none⟩))) (h1:P≠pb) (h2:P≠a.block) (u0 u1 u2 u3 u4 u5 u6 u7:Value):za1 (put8 W P u0 u1 u2 u3 u4 u5 u6 u7) a 1 E:=
 (((((((hE.stored hEV h1 h2 u0).stored hEV h1 h2 u1).stored hEV h1 h2 u2).stored hEV h1 h2 u3).stored hEV h1 h2 u4).stored hEV h1 h2 u5).stored hEV h1 h2 u6).stored hEV h1 h2 u7
theorem bel8 {w W:World} {B P:Nat} (hb:Below B w W) (hP:B<=P) (u0 u1 u2 u3 u4 u5 u6 u7:Value):Below B w (put8 W P u0 u1 u2 u3 u4 u5 u6 u7):=
 (((((((hb.setCell (p:=⟨P,0,none⟩) hP u0).setCell (p:=⟨P,1,none⟩) hP u1).setCell (p:=⟨P,2,none⟩) hP u2).setCell (p:=⟨P,3,none⟩) hP u3).setCell (p:=⟨P,4,none⟩) hP u4).setCell (p:=⟨P,5,none⟩) hP u5).setCell (p:=⟨P,6,none⟩) hP u6).setCell (p:=⟨P,7,none⟩) hP u7
theorem own8 {W:World} {base P:Nat} {va vv vm vt:Value} {r:Rc} (h:OwnIn W base va vv vm vt r) (hP:P<base) (u0 u1 u2 u3 u4 u5 u6 u7:Value):OwnIn (put8 W P u0 u1 u2 u3 u4 u5 u6 u7) base va vv vm vt r:=
 (((((((h.put hP).put hP).put hP).put hP).put hP).put hP).put hP).put hP
theorem zpu (A:Option Addr) (n c:Nat) (bs:List UInt8) (w:World) (hn:bs.length=n) (h2:n<2) (aF:Addr) (hS:Sent w 1 aF):
 Calls Tryz.prog 47 #[.slice A n c] w (zlO w aF (getR bs)):=by
 have kn:Hid (getR bs=none):=Lib.hid (by
  unfold getR parse pnum
  rw [if_neg (by omega)]
  rfl)
 have hb0:=(Below.refl w.heap.size w).alloc (Nat.le_refl _) (.cells #[.int .i64 0, .int .i64 0, .int .i64 0, .slice none 0 0, .slice none 0 0, .slice none 0 0, .slice none 0 0, .bool false] 33)
 have S0:=hS.below hb0
 have cF:=S0.1
 have HS:=Lib.hid S0
 have B0:=Lib.hid hb0
 have hlt:aF.block<w.heap.size:=hS.2.lt
 have M0:=Lib.hid ((Whole.new w 33 #[.int .i64 0, .int .i64 0, .int .i64 0, .slice none 0 0, .slice none 0 0, .slice none 0 0, .slice none 0 0, .bool false]).alloc (.cells #[.string ⟨#[114,101,99,111,114,100,46,71,101,116]⟩, .int .i64 (-1), .iface 379 (.pointer (some aF))] 163))
 try clear hS hb0 S0 hn
 go_enter Tryz.func47,Tryz.ntmps47
 go_wp2_with (go_at_call 84; refine(zcg _ _ _ _).mono ?_; rintro e w' ⟨rfl,rfl⟩)
 obtain⟨z0,z1,z2,z3,z4,z5,z6,z7⟩:=c8 M0.out
 refine bodyPost_ret (v:= .tuple #[.agg #[.int .i64 0, .int .i64 0, .int .i64 0, .slice none 0 0, .slice none 0 0, .slice none 0 0, .slice none 0 0, .bool false], .iface 159 (.pointer (some ⟨w.heap.size+1,0,none⟩))]) (by simp [results,Tryz.results47,go_sem,z0,z1,z2,z3,z4,z5,z6,z7]) rfl ?_
 rw [kn.out]
 have E1:=za1.new HS.out ⟨#[114,101,99,111,114,100,46,71,101,116]⟩ (-1)
 rw [World.size_alloc] at E1
 refine⟨nilSV,nilSV,nilSV,nilSV,zlP,_,rfl, ?_,zhZ _ _, .inr ⟨rfl,rfl, ?_⟩⟩
 ·go_grown
 ·exact⟨E1,_,rfl,by omega⟩
structure GAt (w wr:World) (b off n c:Nat) (bs:List UInt8) (at_:Nat) (bad:Bool) (cs:Array Value):Prop where
 bel:Below w.heap.size w wr
 rd:RdAt wr (w.heap.size+1) (some ⟨b,off,none⟩) n c bs at_ bad
 rec_:Whole wr (w.heap.size+2) 33 cs
 zero:Whole wr w.heap.size 33 #[.int .i64 0, .int .i64 0, .int .i64 0, .slice none 0 0, .slice none 0 0, .slice none 0 0, .slice none 0 0, .bool false]
 hb:b<w.heap.size
theorem GAt.num {w wr w1:World} {b off n c:Nat} {bs:List UInt8} {at_ at':Nat} {bad bad':Bool} {cs:Array Value} (h:GAt w wr b off n c bs at_ bad cs) (hr:RdAt w1 (w.heap.size+1) (some ⟨b,off,none⟩) n c bs at' bad') (hg:wr.grownBy w1 (some (w.heap.size+1))):GAt w w1 b off n c bs at' bad' cs:=
 ⟨h.bel.grown hg h.bel.size (fun k hk=>by cases hk; omega),hr,h.rec_.grown hg (by simp),h.zero.grown hg (by simp),h.hb⟩
theorem zoA {W:World} {b off n:Nat} {xs:List Value} {p:Addr} {u:Value} (h:Reads W W.heap.size 1 (some ⟨b,off,none⟩) n xs) (hp:b≠p.block):Reads (W.setCell p u) (W.setCell p u).heap.size 1 (some ⟨b,off,none⟩) n xs:=by
 refine⟨h.1,fun hn=> ?_⟩
 obtain⟨b',off',e,hlt,hc⟩:=h.2 hn
 cases e
 refine⟨b,off,rfl,by simpa [World.setCell] using hlt,fun j u' hu=> ?_⟩
 rw [World.cell?_setCell_other _ _ _ _ (fun e'=>hp (by rw [e']))]
 exact hc j u' hu
theorem GAt.put {w wr:World} {b off n c:Nat} {bs:List UInt8} {at_:Nat} {bad:Bool} {cs cs':Array Value} (h:GAt w wr b off n c bs at_ bad cs) (i:Nat) (u:Value) (hc:cs.setIfInBounds i u=cs'):GAt w (wr.setCell ⟨w.heap.size+2,i,none⟩ u) b off n c bs at_ bad cs':=by
 subst hc
 have:=h.hb
 exact⟨h.bel.setCell (by simp) u,⟨h.rd.cells.far (by simp) u,h.rd.len,zoA h.rd.reads (by simp; omega),h.rd.ne,h.rd.at_le,h.rd.cap,h.rd.few⟩,h.rec_.put i u,h.zero.far (by simp) u,h.hb⟩
theorem GAt.env {w wr:World} {b off n c:Nat} {bs:List UInt8} {at_:Nat} {bad:Bool} {cs:Array Value} (h:GAt w wr b off n c bs at_ bad cs) {aF:Addr} (hS:Sent w 1 aF) (hT:TabAt w): ∀w',wr.grownBy w' (some (w.heap.size+1))->Sent w' 1 aF/\TabAt w':=fun w' hg=>by
 have hb:=h.bel.grown hg h.bel.size (fun k hk=>by cases hk; omega)
 exact⟨hS.below hb,hT.below hb⟩
structure FinMid (w W:World) (aF:Addr) (va vv vm vt:Value) (r:Rc):Prop where
 bel:Below w.heap.size w W
 rec_:Whole W (w.heap.size+2) 33 (recV r va vv vm vt)
 zero:Whole W w.heap.size 33 #[.int .i64 0, .int .i64 0, .int .i64 0, .slice none 0 0, .slice none 0 0, .slice none 0 0, .slice none 0 0, .bool false]
 own:OwnIn W (w.heap.size+2) va vv vm vt r
 sent:Sent W 1 aF
structure GMid (w W:World) (b off n c:Nat) (bs:List UInt8) (at_:Nat) (bad:Bool) (aF:Addr) (va vv vm vt:Value) (r:Rc):Prop where
 g:GAt w W b off n c bs at_ bad (recV r va vv vm vt)
 own:OwnIn W (w.heap.size+2) va vv vm vt r
 sent:Sent W 1 aF
theorem GMid.fin {w W:World} {b off n c:Nat} {bs:List UInt8} {at_:Nat} {bad:Bool} {aF:Addr} {va vv vm vt:Value} {r:Rc} (h:GMid w W b off n c bs at_ bad aF va vv vm vt r):FinMid w W aF va vv vm vt r:=⟨h.g.bel,h.g.rec_,h.g.zero,h.own,h.sent⟩
theorem FinMid.drewN {w W:World} {aF:Addr} {va vv vm vt:Value} {r:Rc} (h:FinMid w W aF va vv vm vt r) (k:Nat):FinMid w (W.drewN k) aF va vv vm vt r:=
 ⟨below_drewN h.bel k,h.rec_,h.zero,h.own.stay fun _ _ _=>rfl,h.sent.below (below_drewN (Below.refl _ _) k)⟩
theorem zg7 {w W W':World} {b off n c:Nat} {bs:List UInt8} {at_:Nat} {bad:Bool} {aF:Addr} {va vv vm vt:Value} {r:Rc} (h:GAt w W b off n c bs at_ bad (recV r va vv vm vt)) (ho:OwnIn W (w.heap.size+2) va vv vm vt r) (hs:Sent W 1 aF) (hb:Below W.heap.size W W'):GMid w W' b off n c bs at_ bad aF va vv vm vt r:=
 ⟨⟨h.bel.trans (hb.mono h.bel.size),h.rd.below hb,h.rec_.below hb h.rec_.lt,h.zero.below hb h.zero.lt,h.hb⟩,ho.stay fun k _ hk=>hb.block k hk,hs.below hb⟩
def ztj (w W:World) (b off n c:Nat) (bs:List UInt8) (at_:Nat) (bad:Bool) (aF:Addr) (va vv vm vt:Value) (r:Rc) (v6 v7:Value):Prop:=
 GMid w W b off n c bs at_ bad aF va vv vm vt r/\((zai r=false/\ ∃t v,v7= .iface t v)\/(zai r=true/\ ∃A6 c6,v6= .slice A6 (zcz r).length c6/\v7= .nilIface/\Reads W W.heap.size 1 A6 (zcz r).length (bv (zcz r))))
def ztk (w W:World) (bs:List UInt8) (aF:Addr) (va vv vm vt:Value) (r:Rc) (v55:Value):Prop:=
 ∃q:Bool,v55= .bool q/\FinMid w W aF va vv vm vt r/\((q=false/\getR bs=some r)\/(q=true/\getR bs=none))
theorem err7 {W W7:World} {aF:Addr} {s:ByteArray} (hS:Sent W 1 aF) (h:W.alloc (.cells #[.string s, .int .i64 (-1), .iface 379 (.pointer (some aF))] 163)=W7):za1 W7 aF 1 (.iface 159 (.pointer (some ⟨W.heap.size,0,none⟩))):=by
 rw [<-h]
 exact za1.new hS s (-1)
theorem zq9 (b off n c:Nat) (bs:List UInt8) (w:World) (hn:bs.length=n) (hr:Reads w w.heap.size 1 (some ⟨b,off,none⟩) n (bv bs)) (hc:n<=c) (hfew:n<=140737488351232) (hb:b<w.heap.size) (h2:2<=n) (aF:Addr) (hS:Sent w 1 aF) (hT:TabAt w):
 Calls Tryz.prog 47 #[.slice (some ⟨b,off,none⟩) n c] w (zlO w aF (getR bs)):=by
 have G0:GAt w (((w.alloc (.cells #[.int .i64 0, .int .i64 0, .int .i64 0, .slice none 0 0, .slice none 0 0, .slice none 0 0, .slice none 0 0, .bool false] 33)).alloc (.cells #[.slice (some ⟨b,off,none⟩) n c, .int .i64 2, .bool false] 182)).alloc (.cells #[.int .i64 0, .int .i64 0, .int .i64 0, .slice none 0 0, .slice none 0 0, .slice none 0 0, .slice none 0 0, .bool false] 33)) b off n c bs 2 false #[.int .i64 0, .int .i64 0, .int .i64 0, .slice none 0 0, .slice none 0 0, .slice none 0 0, .slice none 0 0, .bool false]:=by
  have hbl:=(((Below.refl w.heap.size w).alloc (Nat.le_refl _) (.cells #[.int .i64 0, .int .i64 0, .int .i64 0, .slice none 0 0, .slice none 0 0, .slice none 0 0, .slice none 0 0, .bool false] 33)).alloc (by simp) (.cells #[.slice (some ⟨b,off,none⟩) n c, .int .i64 2, .bool false] 182)).alloc (by simp; omega) (.cells #[.int .i64 0, .int .i64 0, .int .i64 0, .slice none 0 0, .slice none 0 0, .slice none 0 0, .slice none 0 0, .bool false] 33)
  refine⟨hbl,⟨?_,hn,(hr.below hbl).wider (by simp; omega),fun b' off' e=>by cases e; omega,h2,hc,hfew⟩, ?_,((Whole.new w _ _).alloc _).alloc _,hb⟩
  ·have:=(Whole.new (w.alloc (.cells #[.int .i64 0, .int .i64 0, .int .i64 0, .slice none 0 0, .slice none 0 0, .slice none 0 0, .slice none 0 0, .bool false] 33)) 182 #[.slice (some ⟨b,off,none⟩) n c, .int .i64 2, .bool false]).alloc (.cells #[.int .i64 0, .int .i64 0, .int .i64 0, .slice none 0 0, .slice none 0 0, .slice none 0 0, .slice none 0 0, .bool false] 33)
   rw [World.size_alloc] at this
   exact this
  ·have:=Whole.new ((w.alloc (.cells #[.int .i64 0, .int .i64 0, .int .i64 0, .slice none 0 0, .slice none 0 0, .slice none 0 0, .slice none 0 0, .bool false] 33)).alloc (.cells #[.slice (some ⟨b,off,none⟩) n c, .int .i64 2, .bool false] 182)) 33 #[.int .i64 0, .int .i64 0, .int .i64 0, .slice none 0 0, .slice none 0 0, .slice none 0 0, .slice none 0 0, .bool false]
   rw [World.size_alloc,World.size_alloc] at this
   exact this
 have HG:=Lib.hid G0
 have HS:=Lib.hid hS
 have HT:=Lib.hid hT
 have HI:Hid (Inv false (parse bs) (parse bs)):=Lib.hid ⟨fun _=>rfl,fun h=>(by cases h)⟩
 have hlt:aF.block<w.heap.size:=hS.2.lt
 try clear G0 hS hT hr hn
 go_enter Tryz.func47,Tryz.ntmps47
 go_wp2_with fail
 refine(zcA _ _ n c bs 2 4 false _ HG.out.rd (by omega) 4 rfl aF (HG.out.env HS.out HT.out _ (World.grownBy.refl _ _)).1).mono ?_
 rintro e w1 ⟨m1,at1,bad1,rfl,h1,h2,h3⟩
 have I1:=Lib.hid (show Inv bad1 (parse bs) (p3 bs m1 at1) from zci (k:=fun x=>p3 bs x.1 x.2) HI.out h3)
 have hG1:=HG.out.num h1 h2
 obtain⟨x0,x1,x2,x3,x4,x5,x6,x7⟩:=c8 hG1.rec_
 have f0:=hG1.rec_.frozen 0
 have G1:=Lib.hid (hG1.put 0 (.int .i64 m1) rfl)
 try clear h1 h2 h3 hG1 HG HI
 go_wp2_with fail
 refine(zcA _ _ n c bs at1 8 bad1 _ G1.out.rd (by omega) 8 rfl aF (G1.out.env HS.out HT.out _ (World.grownBy.refl _ _)).1).mono ?_
 rintro e w2 ⟨m2,at2,bad2,rfl,h1,h2,h3⟩
 have I2:=Lib.hid (show Inv bad2 (parse bs) (p4 bs m1 m2 at2) from zci (k:=fun x=>p4 bs m1 x.1 x.2) I1.out h3)
 have hG2:=G1.out.num h1 h2
 obtain⟨x0,x1,x2,x3,x4,x5,x6,x7⟩:=c8 hG2.rec_
 have f1:=hG2.rec_.frozen 1
 have G2:=Lib.hid (hG2.put 1 (.int .i64 m2) rfl)
 try clear h1 h2 h3 hG2 G1 I1 f0
 go_wp2_with fail
 refine(zcA _ _ n c bs at2 8 bad2 _ G2.out.rd (by omega) 8 rfl aF (G2.out.env HS.out HT.out _ (World.grownBy.refl _ _)).1).mono ?_
 rintro e w3 ⟨m3,at3,bad3,rfl,h1,h2,h3⟩
 have I3:=Lib.hid (show Inv bad3 (parse bs) (p5 bs m1 m2 m3 at3) from zci (k:=fun x=>p5 bs m1 m2 x.1 x.2) I2.out h3)
 have hG3:=G2.out.num h1 h2
 obtain⟨x0,x1,x2,x3,x4,x5,x6,x7⟩:=c8 hG3.rec_
 have f2:=hG3.rec_.frozen 2
 have G3:=Lib.hid (hG3.put 2 (.int .i64 m3) rfl)
 try clear h1 h2 h3 hG3 G2 I2 f1
 go_wp2_with fail
 refine(zq6 _ _ n c bs at3 bad3 _ G3.out.rd (fun b' off' e=>by cases e; have:=G3.out.bel.size; omega) aF (G3.out.env HS.out HT.out) (parse bs) m1 m2 m3 I3.out).mono ?_
 rintro e w4 ⟨va,vv,vm,vt,r,at4,bad4,rfl,h1,h2,ho,hr1,hr2,hr3,h3⟩
 obtain⟨ch,bo,st,ac,vs,ms,ts,ov⟩:=r
 simp only at hr1 hr2 hr3
 subst hr1 hr2 hr3
 have hG4:=G3.out.num h1 h2
 have hbase:w.heap.size+2< (w3.setCell ⟨w.heap.size+2,2,none⟩ (.int .i64 m3)).heap.size:=G3.out.rec_.lt
 obtain⟨xm,hm1,_⟩:=ho.mem
 obtain⟨xt,ht1,_⟩:=ho.tms
 obtain⟨Aa,ka,ea,_⟩:=zaz ho.act
 obtain⟨Av,kv,ev,_⟩:=zaz ho.vars
 obtain⟨Am,km,em,_⟩:=zaz hm1
 obtain⟨At,kt,et,_⟩:=zaz ht1
 simp only at ea ev em et
 subst ea ev em et
 obtain⟨x0,x1,x2,x3,x4,x5,x6,x7⟩:=c8 hG4.rec_
 have f3:=hG4.rec_.frozen 3
 have f4:=hG4.rec_.frozen 4
 have f5:=hG4.rec_.frozen 5
 have f6:=hG4.rec_.frozen 6
 have f7:=hG4.rec_.frozen 7
 have hG5:=((((hG4.put 3 (.slice Aa ac.length ka) rfl).put 4 (.slice Av vs.length kv) rfl).put 5 (.slice Am ms.length km) rfl).put 6 (.slice At ts.length kt) rfl).put 7 (.bool ov) rfl
 have hO5:=((((ho.put (i:=3) (u:= .slice Aa ac.length ka) hbase).put (i:=4) (u:= .slice Av vs.length kv) hbase).put (i:=5) (u:= .slice Am ms.length km) hbase).put (i:=6) (u:= .slice At ts.length kt) hbase).put (i:=7) (u:= .bool ov) hbase
 have G5:=Lib.hid (show GAt w _ b off n c bs at4 bad4 (recV ⟨m1,m2,m3,ac,vs,ms,ts,ov⟩ (.slice Aa ac.length ka) (.slice Av vs.length kv) (.slice Am ms.length km) (.slice At ts.length kt)) from hG5)
 have O5:=Lib.hid (hO5.lower (Nat.le_of_lt hbase))
 have I4:=Lib.hid h3
 have hbase2:w.heap.size< (w3.setCell ⟨w.heap.size+2,2,none⟩ (.int .i64 m3)).heap.size:=by omega
 have E5:=Lib.hid (G5.out.env HS.out HT.out _ (World.grownBy.refl _ _)).1
 try clear h1 h2 h3 ho hm1 ht1 hG4 hG5 hO5 G3 I3 f2
 go_upto_region 9 with(fail)
 generalize ((((w4.setCell ⟨w.heap.size+2,3,none⟩ (.slice Aa ac.length ka)).setCell ⟨w.heap.size+2,4,none⟩ (.slice Av vs.length kv)).setCell ⟨w.heap.size+2,5,none⟩ (.slice Am ms.length km)).setCell ⟨w.heap.size+2,6,none⟩ (.slice At ts.length kt)).setCell ⟨w.heap.size+2,7,none⟩ (.bool ov)=W5 at*
 try clear x0 x1 x2 x3 x4 x5 x6 x7 f3 f4 f5 f6 f7
 obtain⟨x0,x1,x2,x3,x4,x5,x6,x7⟩:=c8 G5.out.rec_
 go_cut [6,7] (fun v6 v7 W=>ztj w W b off n c bs at4 bad4 aF (.slice Aa ac.length ka) (.slice Av vs.length kv) (.slice Am ms.length km) (.slice At ts.length kt) ⟨m1,m2,m3,ac,vs,ms,ts,ov⟩ v6 v7)
 case first=>
  cases hR:zai ⟨m1,m2,m3,ac,vs,ms,ts,ov⟩
  ·have HR:=Lib.hid hR
   try clear hR
   go_wp2_with fail
   refine(zsN ⟨m1,m2,m3,ac,vs,ms,ts,ov⟩ _ _ _ _ _ O5.out.inAt aF E5.out HR.out).mono ?_
   rintro e w6 ⟨E,rfl,hb6,hE⟩
   obtain⟨et,ev,rfl⟩:=hE.form
   have K:=Lib.hid (zg7 G5.out O5.out E5.out hb6)
   try clear hb6 hE
   go_wp2_with fail
   go_meet
   exact⟨K.out, .inl ⟨HR.out,et,ev,rfl⟩⟩
  ·have HR:=Lib.hid hR
   try clear hR
   go_wp2_with fail
   refine(zoH ⟨m1,m2,m3,ac,vs,ms,ts,ov⟩ _ _ _ _ _ O5.out.inAt aF E5.out HR.out).mono ?_
   rintro e w6 ⟨v6,rfl,hl6,hb6⟩
   obtain⟨A6,c6,ev6,hc6,hm6,hrd6⟩:=hl6.one
   subst ev6
   have K:=Lib.hid (zg7 G5.out O5.out E5.out hb6)
   have R6:=Lib.hid (show Reads w6 w6.heap.size 1 A6 (zcz ⟨m1,m2,m3,ac,vs,ms,ts,ov⟩).length (bv (zcz ⟨m1,m2,m3,ac,vs,ms,ts,ov⟩)) from hrd6)
   try clear hb6 hl6 hrd6
   go_wp2_with fail
   go_meet
   exact⟨K.out, .inr ⟨HR.out,A6,c6,rfl,rfl,R6.out⟩⟩
 case rest=>
  have HC:=Lib.hid hcut
  try clear hcut G5 O5 E5 x0 x1 x2 x3 x4 x5 x6 x7
  go_upto_region 10 with(fail)
  go_cut [55] (fun v55 W=>ztk w W bs aF (.slice Aa ac.length ka) (.slice Av vs.length kv) (.slice Am ms.length km) (.slice At ts.length kt) ⟨m1,m2,m3,ac,vs,ms,ts,ov⟩ v55)
  case first=>
   obtain⟨hM,hP⟩:=HC.out
   have HM:=Lib.hid hM
   obtain⟨rd0,rd1,rd2⟩:=hM.g.rd.cells.c3
   try clear hM
   rcases hP with⟨hR,et,ev,rfl⟩ | ⟨hR,A6,c6,rfl,rfl,hrd6⟩
   ·have kn:Hid (getR bs=none):=Lib.hid (by
     unfold getR
     cases bad4 with
     | true=>rw [I4.out.2 rfl]; rfl
     | false=>rw [I4.out.1 rfl,Option.bind_some,if_neg (by rw [hR]; simp)])
    try clear hR
    cases bad4
    all_goals
     go_wp2_with fail
     go_meet
     exact⟨true,rfl,HM.out.fin, .inr ⟨rfl,kn.out⟩⟩
   ·have HR:=Lib.hid hR
    have R6:=Lib.hid hrd6
    try clear hR hrd6
    have hn6:(zcz ⟨m1,m2,m3,ac,vs,ms,ts,ov⟩).length<=140737488351232:=zoz HR.out
    cases bad4
    ·have HP:=Lib.hid (I4.out.1 rfl)
     go_wp2_with fail
     refine(zlD A6 _ _ n c6 c (zcz ⟨m1,m2,m3,ac,vs,ms,ts,ov⟩) bs _ rfl HM.out.g.rd.len hn6 hfew R6.out HM.out.g.rd.reads).mono ?_
     rintro e W6 ⟨rfl,kd,hW6⟩
     have K:=Lib.hid (show FinMid w W6 aF (.slice Aa ac.length ka) (.slice Av vs.length kv) (.slice Am ms.length km) (.slice At ts.length kt) ⟨m1,m2,m3,ac,vs,ms,ts,ov⟩ by
      rw [hW6]
      exact HM.out.fin.drewN kd)
     try clear hW6
     cases hq:decide (zcz ⟨m1,m2,m3,ac,vs,ms,ts,ov⟩=bs)
     ·have kn:Hid (getR bs=none):=Lib.hid (by
       unfold getR
       rw [HP.out,Option.bind_some,if_neg (fun hh=>by rw [decide_eq_true hh.2] at hq; cases hq)])
      try clear hq
      go_wp2_with fail
      go_meet
      exact⟨true,rfl,K.out, .inr ⟨rfl,kn.out⟩⟩
     ·have kn:Hid (getR bs=some ⟨m1,m2,m3,ac,vs,ms,ts,ov⟩):=Lib.hid (by
       unfold getR
       rw [HP.out,Option.bind_some,if_pos ⟨HR.out,of_decide_eq_true hq⟩])
      try clear hq
      go_wp2_with fail
      go_meet
      exact⟨false,rfl,K.out, .inl ⟨rfl,kn.out⟩⟩
    ·have kn:Hid (getR bs=none):=Lib.hid (by
      unfold getR
      rw [I4.out.2 rfl]
      rfl)
     go_wp2_with fail
     go_meet
     exact⟨true,rfl,HM.out.fin, .inr ⟨rfl,kn.out⟩⟩
  case rest=>
   obtain⟨q,rfl,hF,hk⟩:=hcut
   have HK:=Lib.hid hk
   have KF:=Lib.hid hF
   try clear hk HC I4
   obtain⟨z0,z1,z2,z3,z4,z5,z6,z7⟩:=c8 hF.zero
   have zf0:=hF.zero.frozen 0
   have zf1:=hF.zero.frozen 1
   have zf2:=hF.zero.frozen 2
   have zf3:=hF.zero.frozen 3
   have zf4:=hF.zero.frozen 4
   have zf5:=hF.zero.frozen 5
   have zf6:=hF.zero.frozen 6
   have zf7:=hF.zero.frozen 7
   have cF:=hF.sent.1
   obtain⟨x0,x1,x2,x3,x4,x5,x6,x7⟩:=c8 hF.rec_
   try clear hF
   cases q
   ·have kn:Hid (getR bs=some ⟨m1,m2,m3,ac,vs,ms,ts,ov⟩):=Lib.hid (by
     rcases HK.out with⟨_,h⟩ | ⟨h,_⟩
     ·exact h
     ·cases h)
    go_wp2_with fail
    refine bodyPost_ret (v:= .tuple #[.agg (recV ⟨m1,m2,m3,ac,vs,ms,ts,ov⟩ (.slice Aa ac.length ka) (.slice Av vs.length kv) (.slice Am ms.length km) (.slice At ts.length kt)), .nilIface]) (by simp [results,Tryz.results47,go_sem,z0,z1,z2,z3,z4,z5,z6,z7]) rfl ?_
    rw [kn.out]
    exact⟨_,_,_,_,⟨m1,m2,m3,ac,vs,ms,ts,ov⟩,_,rfl,bel8 KF.out.bel (Nat.le_refl _) _ _ _ _ _ _ _ _,(own8 KF.out.own (by omega) _ _ _ _ _ _ _ _).lower (by omega), .inl ⟨rfl,rfl⟩⟩
   ·have kn:Hid (getR bs=none):=Lib.hid (by
     rcases HK.out with⟨h,_⟩ | ⟨_,h⟩
     ·cases h
     ·exact h)
    try clear x0 x1 x2 x3 x4 x5 x6 x7 z0 z1 z2 z3 z4 z5 z6 z7 zf0 zf1 zf2 zf3 zf4 zf5 zf6 zf7
    go_wp2_with fail
    refine(zcg _ _ _ _).mono ?_
    rintro e W7 ⟨rfl,hW7⟩
    have hE7:=err7 KF.out.sent hW7
    have hZ7:Whole W7 w.heap.size 33 #[.int .i64 0, .int .i64 0, .int .i64 0, .slice none 0 0, .slice none 0 0, .slice none 0 0, .slice none 0 0, .bool false]:=by rw [<-hW7]; exact KF.out.zero.alloc _
    have B7:=Lib.hid (show Below w.heap.size w W7 by rw [<-hW7]; exact KF.out.bel.alloc KF.out.bel.size _)
    have hPl:=KF.out.zero.lt
    have E7:=Lib.hid hE7
    obtain⟨z0,z1,z2,z3,z4,z5,z6,z7⟩:=c8 hZ7
    have zf0:=hZ7.frozen 0
    have zf1:=hZ7.frozen 1
    have zf2:=hZ7.frozen 2
    have zf3:=hZ7.frozen 3
    have zf4:=hZ7.frozen 4
    have zf5:=hZ7.frozen 5
    have zf6:=hZ7.frozen 6
    have zf7:=hZ7.frozen 7
    try clear hE7 hZ7 hW7 cF
    generalize wc.heap.size=eb at*
    go_wp2_with fail
    refine bodyPost_ret (v:= .tuple #[.agg #[.int .i64 0, .int .i64 0, .int .i64 0, .slice none 0 0, .slice none 0 0, .slice none 0 0, .slice none 0 0, .bool false], .iface 159 (.pointer (some ⟨eb,0,none⟩))]) (by simp [results,Tryz.results47,go_sem,z0,z1,z2,z3,z4,z5,z6,z7]) rfl ?_
    rw [kn.out]
    exact⟨nilSV,nilSV,nilSV,nilSV,zlP,_,rfl,bel8 B7.out (Nat.le_refl _) _ _ _ _ _ _ _ _,zhZ _ _, .inr ⟨rfl,rfl,err8 E7.out rfl (by omega) (by omega) _ _ _ _ _ _ _ _,_,rfl,by omega⟩⟩
theorem zsr (A:Option Addr) (n c:Nat) (bs:List UInt8) (w:World) (hn:bs.length=n) (hr:Reads w w.heap.size 1 A n (bv bs)) (hc:n<=c) (hfew:n<=140737488351232) (aF:Addr) (hS:Sent w 1 aF) (hT:TabAt w):
 Calls Tryz.prog 47 #[.slice A n c] w (zlO w aF (getR bs)):=by
 by_cases h2:n<2
 ·exact zpu A n c bs w hn h2 aF hS
 ·obtain⟨b,off,e,hb,_⟩:=hr.2 (by omega)
  subst e
  exact zq9 b off n c bs w hn hr hc hfew hb (by omega) aF hS hT
end
section
open Go.RowKit
def rc0:Rc:=⟨1,0,0,[0],[3, -3],[],[],false⟩
theorem zjy:zai rc0=true:=by decide+kernel
theorem zoB:(zcz rc0).length=38:=by decide+kernel
theorem zsL:(bv (zcz rc0))[28]? =some (.int .u8 6):=by
 have h:(zcz rc0)[28]? =some 6:=by decide+kernel
 rw [bv,List.getElem?_map,h]
 rfl
theorem zsK (w:World):InAt (((w.alloc (.cells #[.int .i64 0] 3)).alloc (.cells #[.int .i64 3, .int .i64 (-3)] 3)).alloc (.cells #[.int .i64 1, .int .i64 0, .int .i64 0, .slice (some ⟨w.heap.size,0,none⟩) 1 1, .slice (some ⟨w.heap.size+1,0,none⟩) 2 2, .slice none 0 0, .slice none 0 0, .bool false] 33))
 (((w.alloc (.cells #[.int .i64 0] 3)).alloc (.cells #[.int .i64 3, .int .i64 (-3)] 3)).alloc (.cells #[.int .i64 1, .int .i64 0, .int .i64 0, .slice (some ⟨w.heap.size,0,none⟩) 1 1, .slice (some ⟨w.heap.size+1,0,none⟩) 2 2, .slice none 0 0, .slice none 0 0, .bool false] 33)).heap.size
 (.slice (some ⟨w.heap.size,0,none⟩) 1 1) (.slice (some ⟨w.heap.size+1,0,none⟩) 2 2) (.slice none 0 0) (.slice none 0 0) rc0:=by
 have h1:=((Reads.boxed w 3 #[.int .i64 0] 1 1 rfl).alloc (by simp) (.cells #[.int .i64 3, .int .i64 (-3)] 3)).alloc (by simp) (.cells #[.int .i64 1, .int .i64 0, .int .i64 0, .slice (some ⟨w.heap.size,0,none⟩) 1 1, .slice (some ⟨w.heap.size+1,0,none⟩) 2 2, .slice none 0 0, .slice none 0 0, .bool false] 33)
 have h2:=(Reads.boxed (w.alloc (.cells #[.int .i64 0] 3)) 3 #[.int .i64 3, .int .i64 (-3)] 1 2 rfl).alloc (by simp) (.cells #[.int .i64 1, .int .i64 0, .int .i64 0, .slice (some ⟨w.heap.size,0,none⟩) 1 1, .slice (some ⟨w.heap.size+1,0,none⟩) 2 2, .slice none 0 0, .slice none 0 0, .bool false] 33)
 rw [World.size_alloc] at h2
 refine⟨zau.of_one (l:=[0]) rfl (Nat.le_refl _) (by unfold maxLen; omega) (h1.wider (by simp<;>omega)),zau.of_one (l:=[3, -3]) rfl (Nat.le_refl _) (by unfold maxLen; omega) (h2.wider (by simp<;>omega)), ?_, ?_⟩
 ·exact⟨none,0,[],rfl,Nat.le_refl _,Nat.zero_le _,Reads.empty _ _ _ _,zd9 _ _⟩
 ·exact⟨none,0,[],rfl,Nat.le_refl _,Nat.zero_le _,Reads.empty _ _ _ _,zd9 _ _⟩
theorem zsA (w:World) (aF:Addr) (hS:Sent w 1 aF) (hT:TabAt w):
 Calls Tryz.prog 13 #[] w fun e w'=>e= .returned (.bool true)/\Below w.heap.size w w':=by
 have hb0:=(((Below.refl w.heap.size w).alloc (Nat.le_refl _) (.cells #[.int .i64 0] 3)).alloc (by simp) (.cells #[.int .i64 3, .int .i64 (-3)] 3)).alloc (by simp; omega) (.cells #[.int .i64 1, .int .i64 0, .int .i64 0, .slice (some ⟨w.heap.size,0,none⟩) 1 1, .slice (some ⟨w.heap.size+1,0,none⟩) 2 2, .slice none 0 0, .slice none 0 0, .bool false] 33)
 have S0:=Lib.hid (hS.below hb0)
 have T0:=Lib.hid (hT.below hb0)
 have B0:=Lib.hid hb0
 have I0:=Lib.hid (zsK w)
 have hM0:=Whole.new ((w.alloc (.cells #[.int .i64 0] 3)).alloc (.cells #[.int .i64 3, .int .i64 (-3)] 3)) 33 #[.int .i64 1, .int .i64 0, .int .i64 0, .slice (some ⟨w.heap.size,0,none⟩) 1 1, .slice (some ⟨w.heap.size+1,0,none⟩) 2 2, .slice none 0 0, .slice none 0 0, .bool false]
 rw [World.size_alloc,World.size_alloc] at hM0
 have M0:=Lib.hid hM0
 try clear hS hT hb0 hM0
 go_enter Tryz.func13,Tryz.ntmps13
 go_wp2_with fail
 refine(zoH rc0 _ _ _ _ _ I0.out aF S0.out zjy).mono ?_
 rintro e w1 ⟨v1,rfl,hl1,hb1⟩
 obtain⟨A1,c1,e1,hc1,_,hr1⟩:=hl1.one
 rw [zoB] at e1 hc1 hr1
 subst e1
 have S1:=Lib.hid (S0.out.below hb1)
 have T1:=Lib.hid (T0.out.below hb1)
 have I1:=Lib.hid (I0.out.below hb1)
 have M1:=Lib.hid (M0.out.below hb1 (by simp))
 have B1:=Lib.hid (B0.out.trans (hb1.mono (by simp; omega)))
 have R1:=Lib.hid (show Reads w1 w1.heap.size 1 A1 38 (bv (zcz rc0)) from hr1)
 try clear hb1 hl1 hr1 S0 T0 I0 M0 B0
 go_wp2_with fail
 refine(zsr A1 38 c1 (zcz rc0) _ zoB R1.out hc1 (by omega) aF S1.out T1.out).mono ?_
 rintro e w2 ⟨va,vv,vm,vt,r,E,rfl,hb2,ho,hk⟩
 rw [zpv rc0 zjy] at hk
 obtain⟨rfl,rfl⟩:rc0=r/\E= .nilIface:=by
  rcases hk with⟨h1,h2⟩ | ⟨h1,_⟩
  ·exact⟨Option.some.inj h1,h2⟩
  ·cases h1
 have hI2:=(ho.inAt).alloc (.cells (recV rc0 va vv vm vt) 33)
 have J2:=Lib.hid hI2
 have I2:=Lib.hid ((I1.out.below hb2).alloc (.cells (recV rc0 va vv vm vt) 33))
 have M2:=Lib.hid ((M1.out.below hb2 M1.out.lt).alloc (.cells (recV rc0 va vv vm vt) 33))
 have N2:=Lib.hid (Whole.new w2 33 (recV rc0 va vv vm vt))
 have B2:=Lib.hid ((B1.out.trans (hb2.mono B1.out.size)).alloc (by have:=(B1.out.trans (hb2.mono B1.out.size)).size; exact this) (.cells (recV rc0 va vv vm vt) 33))
 have R2:=Lib.hid ((((R1.out.below hb2).wider hb2.size).alloc (Nat.le_refl _) (.cells (recV rc0 va vv vm vt) 33)).wider (B':=(w2.alloc (.cells (recV rc0 va vv vm vt) 33)).heap.size) (by simp))
 obtain⟨Aa,ka,ea,_⟩:=ho.inAt.act.form
 obtain⟨Av,kv,ev,_⟩:=ho.inAt.vars.form
 obtain⟨Am,km,em,_⟩:=ho.inAt.mem.form
 obtain⟨At,kt,et,_⟩:=ho.inAt.tms.form
 subst ea ev em et
 obtain⟨x0,x1,x2,x3,x4,x5,x6,x7⟩:=c8 (M1.out.below hb2 M1.out.lt)
 have hz2:w.heap.size+2<w2.heap.size:=(M1.out.below hb2 M1.out.lt).lt
 try clear hb2 ho hk hI2 S1 T1 I1 M1 B1 R1
 go_wp2_with fail
 refine(zqB rc0 rc0 _ _ _ _ _ _ _ _ _ J2.out I2.out).mono ?_
 rintro e w3 ⟨rfl,hb3⟩
 rw [zk6]
 have R3:=(R2.out.below hb3)
 obtain⟨b,off,u,rfl,_,hu,hcell⟩:=R3.at_ (k:=28) (by omega)
 rw [zsL] at hu
 cases hu
 have B3:=Lib.hid (B2.out.trans (hb3.mono (by have:=B2.out.size; exact this)))
 try clear hb3 R3 R2 B2 J2 I2 M2 N2 x0 x1 x2 x3 x4 x5 x6 x7
 go_wp2_with fail
 go_ret
 exact⟨rfl,B3.out⟩
end
section
open Go.RowKit
theorem zkG (ad:Nat->Addr):Con Tryz.prog (zbP ad zbZ) 13 [] (B true):=
 zi5 Tryz.call13 fun w S vs hE hl _=>by
  match vs,hl with
  | [],_=>exact zsA w (ad 1) hE.inv.1.s1 hE.inv.2
end
section
open Go.RowKit Go.ChangeShapes Go.WideShapes Go.ChangeAt
abbrev InD:=List Int×List Int×List MemD×List (List UInt8×Int)×Bool
def inE (x:InD):List AV:=[ints34 x.1,ints34 x.2.1, .seq 2 (x.2.2.1.map mmAV), .seq 2 (x.2.2.2.1.map tmAV),B x.2.2.2.2]
def zmu (t:List UInt8×Int):Prop:=t.1.length<=maxLen
def zrX (x:InD):Prop:=(x.1.length<=maxLen/\x.2.1.length<=maxLen)/\(x.2.2.1.length<=maxLen/\ ∀m∈x.2.2.1,zpA m)/\x.2.2.2.1.length<=maxLen/\ ∀t∈x.2.2.2.1,zmu t
theorem ztb:Tryz.prog.cellsOf 4=1:=by kernel_rfl
theorem c_tm:Tryz.prog.cellsOf 114=2:=by kernel_rfl
theorem zts:Tryz.prog.cellsOf 29=1:=by kernel_rfl
theorem zr3:Tryz.prog.cellsOf 31=5:=by kernel_rfl
theorem ztu:Tryz.prog.cellsOf 33=8:=by kernel_rfl
section
variable {H:Type} {enc:TypeId×Value->H} {w:World} {base:Nat} {spare:Nat->Bool} {held:Bool}
theorem open_tm (m:Nat) (cs:List Value) (y:DataW H×List MemPlace) (h:DataW.trod enc Tryz.prog w base spare held m 114 cs=some y): ∃a:List UInt8×Int,RE w tmAV zmu cs a:=by
 obtain⟨xs,n,_,_,hl,hxl,hg⟩:=DataW.trod_struct Tryz.underlying114 h
 rw [c_tm] at hl
 obtain⟨c0,c1,rfl⟩:=zq2 hl
 obtain⟨y0,h0⟩:=zbf hxl hg 0 _ rfl 9 0 1 rfl rfl zej
 obtain⟨x0,e0, -,s0⟩:=DataW.trod_string Tryz.underlying9 (show DataW.trod enc Tryz.prog w base spare held n 9 [c0]=some y0 from h0)
 cases e0
 obtain⟨⟨t0⟩⟩:=x0
 obtain⟨y1,h1⟩:=zbf hxl hg 1 _ rfl 3 1 1 rfl rfl c_int
 obtain⟨x1,e1, -, -⟩:=DataW.trod_int Tryz.underlying3 (show DataW.trod enc Tryz.prog w base spare held n 3 [c1]=some y1 from h1)
 cases e1
 exact⟨(t0,x1),⟨⟨rfl, .lit _⟩,⟨rfl, .lit _⟩,trivial⟩,(by simpa [zmu,ByteArray.size] using s0)⟩
theorem zoY (m:Nat) (cs:List Value) (y:DataW H×List MemPlace) (h:DataW.trod enc Tryz.prog w base spare held m 31 cs=some y): ∃a:InD,RE w inE zrX cs a:=by
 obtain⟨xs,n,_,_,hl,hxl,hg⟩:=DataW.trod_struct Tryz.underlying31 h
 rw [zr3] at hl
 obtain⟨c0,c1,c2,c3,c4,rfl⟩:=zso hl
 obtain⟨y0,h0⟩:=zbf hxl hg 0 _ rfl 27 0 1 rfl rfl zp6
 obtain⟨x0,l0,e0,r0,n0, -⟩:=za2 (size:=1) intAV (fun _=>True) (fun _=>rfl) Tryz.underlying27 c_int (by decide) open_int1 (show DataW.trod enc Tryz.prog w base spare held n 27 [c0]=some y0 from h0)
 cases e0
 obtain⟨y1,h1⟩:=zbf hxl hg 1 _ rfl 27 1 1 rfl rfl zp6
 obtain⟨x1,l1,e1,r1,n1, -⟩:=za2 (size:=1) intAV (fun _=>True) (fun _=>rfl) Tryz.underlying27 c_int (by decide) open_int1 (show DataW.trod enc Tryz.prog w base spare held n 27 [c1]=some y1 from h1)
 cases e1
 obtain⟨y2,h2⟩:=zbf hxl hg 2 _ rfl 28 2 1 rfl rfl zta
 obtain⟨x2,l2,e2,r2,n2,p2⟩:=za2 (size:=2) mmAV zpA (fun _=>rfl) Tryz.underlying28 c_mem (by decide) open_mem1 (show DataW.trod enc Tryz.prog w base spare held n 28 [c2]=some y2 from h2)
 cases e2
 obtain⟨y3,h3⟩:=zbf hxl hg 3 _ rfl 29 3 1 rfl rfl zts
 obtain⟨x3,l3,e3,r3,n3,p3⟩:=za2 (size:=2) tmAV zmu (fun _=>rfl) Tryz.underlying29 c_tm (by decide) open_tm (show DataW.trod enc Tryz.prog w base spare held n 29 [c3]=some y3 from h3)
 cases e3
 obtain⟨y4,h4⟩:=zbf hxl hg 4 _ rfl 4 4 1 rfl rfl ztb
 obtain⟨x4,e4, -⟩:=DataW.trod_bool Tryz.underlying4 (show DataW.trod enc Tryz.prog w base spare held n 4 [c4]=some y4 from h4)
 cases e4
 exact⟨(l0,l1,l2,l3,x4),⟨r0,r1,r2,r3,⟨rfl, .lit _⟩,trivial⟩,⟨n0,n1⟩,⟨n2,p2⟩,n3,p3⟩
theorem zqU {r0:Reach} {b0:Nat} {v:Value} {d:DataW H} {p:List MemPlace} (hv:Value.okWide Tryz.prog w r0 b0 33 v) (h:DataW.Trod enc Tryz.prog w base spare held 33 v d p):
 ∃r:Rc,zrX (r.active,r.vars,r.mem,r.timers,r.over)/\RV (fun b _=>b<w.heap.size) w v (.agg (zaQ r)):=by
 obtain⟨cs,rfl,hsz⟩:=okWide_struct Tryz.underlying33 hv
 obtain⟨l⟩:=cs
 obtain⟨fuel,hf⟩:=h
 obtain⟨xs,n,_,_,hl,hxl,hg⟩:=DataW.trod_struct Tryz.underlying33 hf
 rw [ztu] at hl
 obtain⟨c0,c1,c2,c3,c4,c5,c6,c7,rfl⟩:=zto (show l.length=8 from hl)
 obtain⟨y0,h0⟩:=zbf hxl hg 0 _ rfl 3 0 1 rfl rfl c_int
 obtain⟨x0,e0, -, -⟩:=DataW.trod_int Tryz.underlying3 (show DataW.trod enc Tryz.prog w base spare held n 3 [c0]=some y0 from h0)
 cases e0
 obtain⟨y1,h1⟩:=zbf hxl hg 1 _ rfl 3 1 1 rfl rfl c_int
 obtain⟨x1,e1, -, -⟩:=DataW.trod_int Tryz.underlying3 (show DataW.trod enc Tryz.prog w base spare held n 3 [c1]=some y1 from h1)
 cases e1
 obtain⟨y2,h2⟩:=zbf hxl hg 2 _ rfl 3 2 1 rfl rfl c_int
 obtain⟨x2,e2, -, -⟩:=DataW.trod_int Tryz.underlying3 (show DataW.trod enc Tryz.prog w base spare held n 3 [c2]=some y2 from h2)
 cases e2
 obtain⟨y3,h3⟩:=zbf hxl hg 3 _ rfl 31 3 5 rfl rfl zr3
 obtain⟨x,q1,q2⟩:=zoY _ _ _ h3
 refine⟨⟨x0,x1,x2,x.1,x.2.1,x.2.2.1,x.2.2.2.1,x.2.2.2.2⟩,q2,RVs.agg (show RVs _ w ([.int .i64 x0, .int .i64 x1, .int .i64 x2]++[c3,c4,c5,c6,c7]) ([I x0,I x1,I x2]++inE x) from RVs.app ⟨⟨rfl, .lit _⟩,⟨rfl, .lit _⟩,⟨rfl, .lit _⟩,trivial⟩ q1)⟩
end
end

end Go.Proofs.YtnbjaghjdeicmaaGreatDoor