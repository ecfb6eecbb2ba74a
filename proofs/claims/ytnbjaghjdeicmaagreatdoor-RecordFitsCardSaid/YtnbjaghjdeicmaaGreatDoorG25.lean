/- The reader's inst. -/
import Derived.Test.YtnbjaghjdeicmaaGreatDoorG24
import Derived.Deep.RegionLaw
import Derived.Deep.DeepCutAuto
import Derived.Deep.CutBlock
set_option maxRecDepth 100000
set_option maxHeartbeats 4000000
namespace Go.Proofs.YtnbjaghjdeicmaaGreatDoor
open Go.RowKit
theorem c5 {w:World} {g:Nat} {t:TypeId} {a b c d e:Value} (h:Whole w g t #[a,b,c,d,e]):w.cell? ⟨g,0,none⟩=some a/\w.cell? ⟨g,1,none⟩=some b/\w.cell? ⟨g,2,none⟩=some c/\w.cell? ⟨g,3,none⟩=some d/\w.cell? ⟨g,4,none⟩=some e:=
 ⟨h.cell 0,h.cell 1,h.cell 2,h.cell 3,h.cell 4⟩
theorem zci {α:Type} {bs:List UInt8} {at_ wd m at':Nat} {bad bad':Bool} {T:Option α} {k:Nat×Nat->Option α} (h:Inv bad T ((pnum bs at_ wd).bind k)) (ht:zfJ bs at_ wd bad m at' bad'):Inv bad' T (k (m,at')):=
 h.go ht.1
theorem zq5 {α:Type} {bs:List UInt8} {at_ at':Nat} {s:List UInt8} {bad bad':Bool} {T:Option α} {k:List UInt8×Nat->Option α} (h:Inv bad T ((ptext bs at_).bind k)) (ht:zgF bs at_ bad s at' bad'):Inv bad' T (k (s,at')):=
 h.go ht.1
theorem zlu {α:Type} {T k k':Option α} (h:Inv true T k):Inv true T k':=⟨fun hh=>(by cases hh),fun _=>h.2 rfl⟩
def zrM (w:World) (g:Nat) (A:Option Addr) (n c:Nat) (bs:List UInt8) (T:Option Rc) (ch bo st:Int) (e:Ending) (w':World):Prop:=
 ∃(va vv vm vt:Value) (r:Rc) (at':Nat) (bad':Bool),e= .returned (.agg #[va,vv,vm,vt, .bool r.over])/\RdAt w' g A n c bs at' bad'/\w.grownBy w' (some g)/\OwnIn w' w.heap.size va vv vm vt r/\r.chart=ch/\r.born=bo/\r.steps=st/\Inv bad' T (some r)
structure MidAt (w wr:World) (g I:Nat) (A:Option Addr) (n c:Nat) (bs:List UInt8) (at_:Nat) (bad:Bool) (va vv vm vt:Value) (ov:Bool):Prop where
 rd:RdAt wr g A n c bs at_ bad
 only:w.grownBy wr (some g)
 ins:Whole wr I 31 #[va,vv,vm,vt, .bool ov]
 two: ∃cs,Whole wr (I-1) 31 cs/\cs.size=5
 hI:I=w.heap.size+1
 hg:g<w.heap.size
 byt: ∀b off,A=some ⟨b,off,none⟩->b<w.heap.size
theorem MidAt.num {w wr w1:World} {g I:Nat} {A:Option Addr} {n c:Nat} {bs:List UInt8} {at_ at':Nat} {bad bad':Bool} {va vv vm vt:Value} {ov:Bool} (h:MidAt w wr g I A n c bs at_ bad va vv vm vt ov) (hr:RdAt w1 g A n c bs at' bad') (hg:wr.grownBy w1 (some g)):MidAt w w1 g I A n c bs at' bad' va vv vm vt ov:=by
 have hI:=h.hI
 have hgl:=h.hg
 obtain⟨cs,h1,h2⟩:=h.two
 exact⟨hr,h.only.trans hg,h.ins.grown hg (by simp; omega),⟨cs,h1.grown hg (by simp; omega),h2⟩,hI,hgl,h.byt⟩
theorem MidAt.alloc {w wr:World} {g I:Nat} {A:Option Addr} {n c:Nat} {bs:List UInt8} {at_:Nat} {bad:Bool} {va vv vm vt:Value} {ov:Bool} (h:MidAt w wr g I A n c bs at_ bad va vv vm vt ov) (o:Obj):MidAt w (wr.alloc o) g I A n c bs at_ bad va vv vm vt ov:=by
 obtain⟨cs,h1,h2⟩:=h.two
 exact⟨h.rd.below ((Below.refl _ wr).alloc (Nat.le_refl _) o),zbq h.only o,h.ins.alloc o,⟨cs,h1.alloc o,h2⟩,h.hI,h.hg,h.byt⟩
theorem MidAt.drew {w wr:World} {g I:Nat} {A:Option Addr} {n c:Nat} {bs:List UInt8} {at_:Nat} {bad:Bool} {va vv vm vt:Value} {ov:Bool} (h:MidAt w wr g I A n c bs at_ bad va vv vm vt ov):MidAt w wr.drew g I A n c bs at_ bad va vv vm vt ov:=
 ⟨h.rd.below (Below.refl _ wr).drew,zdR h.only,h.ins,h.two,h.hI,h.hg,h.byt⟩
theorem MidAt.bel {w wr w1:World} {g I:Nat} {A:Option Addr} {n c:Nat} {bs:List UInt8} {at_:Nat} {bad:Bool} {va vv vm vt:Value} {ov:Bool} (h:MidAt w wr g I A n c bs at_ bad va vv vm vt ov) (hb1:Below (w.heap.size+2) wr w1):MidAt w w1 g I A n c bs at_ bad va vv vm vt ov:=by
 have hI:=h.hI
 have hgl:=h.hg
 have hil:=h.ins.lt
 obtain⟨cs,h1,h2⟩:=h.two
 refine⟨⟨h.rd.cells.below hb1 (by omega),h.rd.len, ?_,h.rd.ne,h.rd.at_le,h.rd.cap,h.rd.few⟩, ?_,h.ins.below hb1 (by omega),⟨cs,h1.below hb1 (by omega),h2⟩,hI,hgl,h.byt⟩
 ·refine⟨h.rd.reads.1,fun hp=> ?_⟩
  obtain⟨b,off,e,hlt,hc⟩:=h.rd.reads.2 hp
  have:=h.byt b off e
  exact⟨b,off,e,Nat.lt_of_lt_of_le hlt hb1.size,fun j u hu=>(hb1.cell (p:=⟨b,off+j,none⟩) (by show b<_; omega)).trans (hc j u hu)⟩
 ·exact⟨hb1.os.trans h.only.os,hb1.tape.trans h.only.tape,hb1.output.trans h.only.output,Nat.le_trans h.only.size hb1.size,fun i hi hne=>(hb1.block i (by omega)).trans (h.only.block i hi hne)⟩
theorem MidAt.row {w wr w1:World} {g I:Nat} {A:Option Addr} {n c:Nat} {bs:List UInt8} {at_:Nat} {bad:Bool} {va vv vm vt:Value} {ov:Bool} (h:MidAt w wr g I A n c bs at_ bad va vv vm vt ov) {base size k:Nat} {e:TypeId} {v:Value} {xs:List Value} (ho:wr.ownsRow base e size v k xs) (hb:w.heap.size+2<=base) (hg:wr.grownBy w1 v.ownBlock):MidAt w w1 g I A n c bs at_ bad va vv vm vt ov:=by
 have hil:=h.ins.lt
 have hI:=h.hI
 exact h.bel ⟨hg.os,hg.tape,hg.output,hg.size,fun b hb'=>hg.block b (by omega) (fun e'=>by
  have:=(ho.lt b e'.symm).1
  omega)⟩
theorem MidAt.far {w wr:World} {g I:Nat} {A:Option Addr} {n c:Nat} {bs:List UInt8} {at_:Nat} {bad:Bool} {va vv vm vt:Value} {ov:Bool} (h:MidAt w wr g I A n c bs at_ bad va vv vm vt ov) {p:Addr} (hp:w.heap.size+2<=p.block) (u:Value):MidAt w (wr.setCell p u) g I A n c bs at_ bad va vv vm vt ov:=
 h.bel ((Below.refl _ wr).setCell hp u)
theorem MidAt.put {w wr:World} {g I:Nat} {A:Option Addr} {n c:Nat} {bs:List UInt8} {at_:Nat} {bad:Bool} {va vv vm vt:Value} {ov:Bool} (h:MidAt w wr g I A n c bs at_ bad va vv vm vt ov) (i:Nat) (u va' vv' vm' vt':Value) (ov':Bool) (hc:(#[va,vv,vm,vt, .bool ov]:Array Value).setIfInBounds i u= #[va',vv',vm',vt', .bool ov']):MidAt w (wr.setCell ⟨I,i,none⟩ u) g I A n c bs at_ bad va' vv' vm' vt' ov':=by
 have hI:=h.hI
 have hgl:=h.hg
 obtain⟨cs,h1,h2⟩:=h.two
 refine⟨⟨h.rd.cells.far (by simp; omega) u,h.rd.len, ?_,h.rd.ne,h.rd.at_le,h.rd.cap,h.rd.few⟩,zam h.only (.inr (by simp; omega)) u, ?_,⟨cs,h1.far (by simp; omega) u,h2⟩,hI,hgl,h.byt⟩
 ·refine⟨h.rd.reads.1,fun hp=> ?_⟩
  obtain⟨b,off,e,hlt,hcc⟩:=h.rd.reads.2 hp
  have:=h.byt b off e
  refine⟨b,off,e,by simpa [World.setCell] using hlt,fun j u' hu=> ?_⟩
  rw [World.cell?_setCell_other _ _ _ _ (fun e'=>by injection e' with e1; omega)]
  exact hcc j u' hu
 ·have:=h.ins.put i u
  rw [hc] at this
  exact this
theorem zoV {w:World} {base size n I i:Nat} {e:TypeId} {v u:Value} {xs:List Value} (ho:w.ownsRow base e size v n xs) (hI:I<base):(w.setCell ⟨I,i,none⟩ u).ownsRow base e size v n xs:=
 zeU (g:=I) ho (zam (World.grownBy.refl w _) (.inl rfl) u) hI
structure V1 (w wr:World) (g:Nat) (A:Option Addr) (n c:Nat) (bs:List UInt8) (at_:Nat) (bad:Bool) (va vv:Value) (ov:Bool) (ac vs:List Int) (base1:Nat):Prop where
 mid:MidAt w wr g (w.heap.size+1) A n c bs at_ bad va vv (.slice none 0 0) (.slice none 0 0) ov
 act:wr.ownsRow (w.heap.size+2) 3 1 va ac.length (iv ac)
 lo: ∀k,va.ownBlock=some k->k<base1
 vars:wr.ownsRow base1 3 1 vv vs.length (iv vs)
 hb:w.heap.size+2<=base1
 hs:base1<=wr.heap.size
def L1 (w W:World) (g:Nat) (A:Option Addr) (n c:Nat) (bs:List UInt8) (T:Option Rc) (ch bo st:Int) (va:Value) (ov:Bool) (ac:List Int) (base1:Nat):Prop:=
 ∃at' bad' vs vv,V1 w W g A n c bs at' bad' va vv ov ac vs base1/\vs.length<=255/\Inv bad' T (p8 bs ch bo st ov ac vs at')
theorem zsO {w w':World} {base base1 size n size' n':Nat} {e e':TypeId} {va v:Value} {xs xs':List Value} (ho:w.ownsRow base e size va n xs) (lo: ∀k,va.ownBlock=some k->k<base1) (hr:w.ownsRow base1 e' size' v n' xs') (hg:w.grownBy w' v.ownBlock):w'.ownsRow base e size va n xs:=
 ho.kept hg (by
  cases hv:va.ownBlock with
  | none=>exact .inl rfl
  | some k=>
    right
    intro e
    have h1:=lo k hv
    have h2:=(hr.lt k e.symm).1
    omega)
theorem OwnIn.only {w w':World} {base g:Nat} {va vv vm vt:Value} {r:Rc} (h:OwnIn w base va vv vm vt r) (hg:w.grownBy w' (some g)) (hb:g<base):OwnIn w' base va vv vm vt r:=
 h.stay fun b hb' hl=>hg.block b hl (by simp; omega)
theorem OwnIn.alloc {w:World} {base:Nat} {va vv vm vt:Value} {r:Rc} (h:OwnIn w base va vv vm vt r) (o:Obj):OwnIn (w.alloc o) base va vv vm vt r:=
 h.stay fun b _ hl=>Below.heap_alloc w o b hl
theorem OwnIn.put {w:World} {base I i:Nat} {va vv vm vt u:Value} {r:Rc} (h:OwnIn w base va vv vm vt r) (hI:I<base):OwnIn (w.setCell ⟨I,i,none⟩ u) base va vv vm vt r:=
 h.stay fun b hb' _=>Below.heap_setCell w ⟨I,i,none⟩ u b (by simp; omega)
theorem zc4 {w w':World} {base:Nat} (hk:zbt 3 w w') (cs:List Value) (m:Int×List Int) (h:memO w base cs m):memO w' base cs m:=by
 obtain⟨v,e,ho⟩:=h
 exact⟨v,e,hk.own ho⟩
theorem OwnIn.setX {w:World} {base X i:Nat} {va vv vm vt u:Value} {r:Rc} {cs:Array Value} (h:OwnIn w base va vv vm vt r) (hX:Whole w X 85 cs) (hm: ∀k,vm.ownBlock=some k->k≠X):OwnIn (w.setCell ⟨X,i,none⟩ u) base va vv vm vt r:=by
 have hg:=zam (p:=⟨X,i,none⟩) (World.grownBy.refl w (some X)) (.inl rfl) u
 have k1:zbt 3 w (w.setCell ⟨X,i,none⟩ u):=zbt.of_only hg hX (by decide)
 have k2:zbt 114 w (w.setCell ⟨X,i,none⟩ u):=zbt.of_only hg hX (by decide)
 obtain⟨xm,hm1,hm2⟩:=h.mem
 obtain⟨xt,ht1,ht2⟩:=h.tms
 refine⟨k1.own h.act,k1.own h.vars,⟨xm,hm1.kept hg ?_,rows_moved hm2 fun cs m _ hh=>zc4 k1 cs m hh⟩,⟨xt,k2.own ht1,ht2⟩⟩
 cases hv:vm.ownBlock with
 | none=>exact .inl rfl
 | some k=>
   right
   intro e
   cases e
   exact hm _ hv rfl
theorem OwnIn.setT {w:World} {base X i:Nat} {va vv vm vt u:Value} {r:Rc} {cs:Array Value} (h:OwnIn w base va vv vm vt r) (hX:Whole w X 114 cs) (hm: ∀k,vt.ownBlock=some k->k≠X):OwnIn (w.setCell ⟨X,i,none⟩ u) base va vv vm vt r:=by
 have hg:=zam (p:=⟨X,i,none⟩) (World.grownBy.refl w (some X)) (.inl rfl) u
 have k1:zbt 3 w (w.setCell ⟨X,i,none⟩ u):=zbt.of_only hg hX (by decide)
 have k2:zbt 85 w (w.setCell ⟨X,i,none⟩ u):=zbt.of_only hg hX (by decide)
 obtain⟨xm,hm1,hm2⟩:=h.mem
 obtain⟨xt,ht1,ht2⟩:=h.tms
 refine⟨k1.own h.act,k1.own h.vars,⟨xm,k2.own hm1,rows_moved hm2 fun cs m _ hh=>zc4 k1 cs m hh⟩,⟨xt,ht1.kept hg ?_,ht2⟩⟩
 cases hv:vt.ownBlock with
 | none=>exact .inl rfl
 | some k=>
   right
   intro e
   cases e
   exact hm _ hv rfl
theorem OwnIn.moreM {w w':World} {base nn:Nat} {va vv vm vt vm':Value} {ch bo st:Int} {ac vs:List Int} {ms:List (Int×List Int)} {ts:List (List UInt8×Int)} {ov:Bool} (h:OwnIn w base va vv vm vt ⟨ch,bo,st,ac,vs,ms,ts,ov⟩) {xs:List Value} (hx:w.ownsRow base 85 2 vm ms.length xs) (hxr:zcT 2 (memO w base) xs ms)
 (hg:w.grownBy w' vm.ownBlock) {cs:List Value} {m:Int×List Int} (hc:memO w base cs m) (hcl:cs.length=2) (ho:w'.ownsRow base 85 2 vm' nn (xs++cs)) (hn:nn=ms.length+1):OwnIn w' base va vv vm' vt ⟨ch,bo,st,ac,vs,ms++[m],ts,ov⟩:=by
 have k1:zbt 3 w w':=zbt.of_row hg hx (by decide)
 have k2:zbt 114 w w':=zbt.of_row hg hx (by decide)
 obtain⟨xt,ht1,ht2⟩:=h.tms
 subst hn
 exact⟨k1.own h.act,k1.own h.vars,⟨xs++cs,by simpa using ho,zjt (rows_moved hxr fun cs m _ hh=>zc4 k1 cs m hh) hcl (zc4 k1 cs m hc)⟩,⟨xt,k2.own ht1,ht2⟩⟩
theorem OwnIn.moreT {w w':World} {base nn:Nat} {va vv vm vt vt':Value} {ch bo st:Int} {ac vs:List Int} {ms:List (Int×List Int)} {ts:List (List UInt8×Int)} {ov:Bool} (h:OwnIn w base va vv vm vt ⟨ch,bo,st,ac,vs,ms,ts,ov⟩) {xs:List Value} (hx:w.ownsRow base 114 2 vt ts.length xs) (hxr:zcT 2 tmR xs ts)
 (hg:w.grownBy w' vt.ownBlock) {cs:List Value} {m:List UInt8×Int} (hc:tmR cs m) (hcl:cs.length=2) (ho:w'.ownsRow base 114 2 vt' nn (xs++cs)) (hn:nn=ts.length+1):OwnIn w' base va vv vm vt' ⟨ch,bo,st,ac,vs,ms,ts++[m],ov⟩:=by
 have k1:zbt 3 w w':=zbt.of_row hg hx (by decide)
 have k2:zbt 85 w w':=zbt.of_row hg hx (by decide)
 obtain⟨xm,hm1,hm2⟩:=h.mem
 subst hn
 exact⟨k1.own h.act,k1.own h.vars,⟨xm,k2.own hm1,rows_moved hm2 fun cs m _ hh=>zc4 k1 cs m hh⟩,⟨xs++cs,by simpa using ho,zjt hxr hcl hc⟩⟩
structure VA (w wr:World) (g:Nat) (A:Option Addr) (n c:Nat) (bs:List UInt8) (at_:Nat) (bad:Bool) (va vv vm vt:Value) (r:Rc):Prop where
 mid:MidAt w wr g (w.heap.size+1) A n c bs at_ bad va vv vm vt r.over
 own:OwnIn wr (w.heap.size+2) va vv vm vt r
theorem VA.num {w wr w1:World} {g:Nat} {A:Option Addr} {n c:Nat} {bs:List UInt8} {at_ at':Nat} {bad bad':Bool} {va vv vm vt:Value} {r:Rc} (h:VA w wr g A n c bs at_ bad va vv vm vt r) (hr:RdAt w1 g A n c bs at' bad') (hg:wr.grownBy w1 (some g)):VA w w1 g A n c bs at' bad' va vv vm vt r:=
 ⟨h.mid.num hr hg,h.own.only hg (by have:=h.mid.hg; omega)⟩
theorem VA.alloc {w wr:World} {g:Nat} {A:Option Addr} {n c:Nat} {bs:List UInt8} {at_:Nat} {bad:Bool} {va vv vm vt:Value} {r:Rc} (h:VA w wr g A n c bs at_ bad va vv vm vt r) (o:Obj):VA w (wr.alloc o) g A n c bs at_ bad va vv vm vt r:=
 ⟨h.mid.alloc o,h.own.alloc o⟩
def L2 (w W:World) (g:Nat) (A:Option Addr) (n c:Nat) (bs:List UInt8) (T:Option Rc) (ch bo st:Int) (va vv:Value) (ov:Bool) (ac vs:List Int):Prop:=
 ∃at' bad' ms vm,VA w W g A n c bs at' bad' va vv vm (.slice none 0 0) ⟨ch,bo,st,ac,vs,ms,[],ov⟩/\ms.length<=255/\Inv bad' T (p9 bs ch bo st ov ac vs ms at')
def L3 (w W:World) (g:Nat) (A:Option Addr) (n c:Nat) (bs:List UInt8) (T:Option Rc) (ch bo st:Int) (va vv vm:Value) (ov:Bool) (ac vs:List Int) (ms:List (Int×List Int)):Prop:=
 ∃at' bad' ts vt,VA w W g A n c bs at' bad' va vv vm vt ⟨ch,bo,st,ac,vs,ms,ts,ov⟩/\Inv bad' T (some ⟨ch,bo,st,ac,vs,ms,ts,ov⟩)
theorem Tryz.infoMem:(Tryz.prog.info? 85).map (fun i=>(i.zero,i.size,i.bytes))=some (some (.agg #[.int .i64 0, .slice none 0 0]),2,32):=by kernel_rfl
theorem Tryz.infoTim:(Tryz.prog.info? 114).map (fun i=>(i.zero,i.size,i.bytes))=some (some (.agg #[.string ⟨#[]⟩, .int .i64 0]),2,24):=by kernel_rfl
structure FinAt (w W:World) (g:Nat) (A:Option Addr) (n c:Nat) (bs:List UInt8) (at_:Nat) (bad:Bool) (va vv vm vt:Value) (r:Rc):Prop where
 rd:RdAt W g A n c bs at_ bad
 only:w.grownBy W (some g)
 own:OwnIn W (w.heap.size+2) va vv vm vt r
 hg:g<w.heap.size
 byt: ∀b off,A=some ⟨b,off,none⟩->b<w.heap.size
theorem VA.fin {w W:World} {g:Nat} {A:Option Addr} {n c:Nat} {bs:List UInt8} {at_:Nat} {bad:Bool} {va vv vm vt:Value} {r:Rc} (h:VA w W g A n c bs at_ bad va vv vm vt r):FinAt w W g A n c bs at_ bad va vv vm vt r:=⟨h.mid.rd,h.mid.only,h.own,h.mid.hg,h.mid.byt⟩
theorem FinAt.put {w W:World} {g:Nat} {A:Option Addr} {n c:Nat} {bs:List UInt8} {at_:Nat} {bad:Bool} {va vv vm vt:Value} {r:Rc} (h:FinAt w W g A n c bs at_ bad va vv vm vt r) (i:Nat) (u:Value):FinAt w (W.setCell ⟨w.heap.size,i,none⟩ u) g A n c bs at_ bad va vv vm vt r:=by
 have hgl:=h.hg
 refine⟨⟨h.rd.cells.far (by simp; omega) u,h.rd.len, ?_,h.rd.ne,h.rd.at_le,h.rd.cap,h.rd.few⟩,zam h.only (.inr (by simp)) u,h.own.put (by omega),hgl,h.byt⟩
 refine⟨h.rd.reads.1,fun hp=> ?_⟩
 obtain⟨b,off,e,hlt,hcc⟩:=h.rd.reads.2 hp
 have:=h.byt b off e
 refine⟨b,off,e,by simpa [World.setCell] using hlt,fun j u' hu=> ?_⟩
 rw [World.cell?_setCell_other _ _ _ _ (fun e'=>by injection e' with e1; omega)]
 exact hcc j u' hu
theorem zq6 (g:Nat) (A:Option Addr) (n c:Nat) (bs:List UInt8) (at_:Nat) (bad:Bool) (w:World) (h:RdAt w g A n c bs at_ bad) (hby: ∀b off,A=some ⟨b,off,none⟩->b<w.heap.size) (aF:Addr)
 (hE: ∀w',w.grownBy w' (some g)->Sent w' 1 aF/\TabAt w') (T:Option Rc) (ch bo st:Int) (hI:Inv bad T (p5 bs ch bo st at_)):
 Calls Tryz.prog 121 #[.pointer (some ⟨g,0,none⟩)] w (zrM w g A n c bs T ch bo st):=by
 obtain⟨i0,hi0,hz0,hz1,hz2⟩:=info_parts Tryz.infoInt
 have M0:MidAt w ((w.alloc (.cells #[.slice none 0 0, .slice none 0 0, .slice none 0 0, .slice none 0 0, .bool false] 31)).alloc (.cells #[.slice none 0 0, .slice none 0 0, .slice none 0 0, .slice none 0 0, .bool false] 31)) g (w.heap.size+1) A n c bs at_ bad (.slice none 0 0) (.slice none 0 0) (.slice none 0 0) (.slice none 0 0) false:=by
  have hb:=((Below.refl w.heap.size w).alloc (Nat.le_refl _) (.cells #[.slice none 0 0, .slice none 0 0, .slice none 0 0, .slice none 0 0, .bool false] 31)).alloc (by simp) (.cells #[.slice none 0 0, .slice none 0 0, .slice none 0 0, .slice none 0 0, .bool false] 31)
  refine⟨h.below hb,zct (World.grownBy.refl _ _) hb, ?_,⟨_,(Whole.new w _ _).alloc _,rfl⟩,rfl,h.cells.lt,hby⟩
  have:=Whole.new (w.alloc (.cells #[.slice none 0 0, .slice none 0 0, .slice none 0 0, .slice none 0 0, .bool false] 31)) 31 #[.slice none 0 0, .slice none 0 0, .slice none 0 0, .slice none 0 0, .bool false]
  rw [World.size_alloc] at this
  exact this
 have HM:=Lib.hid M0
 have HE:=Lib.hid hE
 have HI:=Lib.hid hI
 have hgl:=h.cells.lt
 try clear h M0 hE hI hby
 go_enter Tryz.func121,Tryz.ntmps121
 go_wp2_with fail
 refine(zcA g A n c bs at_ 1 bad _ HM.out.rd (by omega) 1 rfl aF (HE.out _ HM.out.only).1).mono ?_
 rintro e w1 ⟨m,at1,bad1,rfl,h1,h2,h3⟩
 have I1:=Lib.hid (show Inv bad1 T (p6 bs ch bo st (decide (m=1)) at1) from zci (k:=fun x=>p6 bs ch bo st (decide (x.1=1)) x.2) HI.out h3)
 have hM1:=HM.out.num h1 h2
 have M1:=Lib.hid (hM1.put 4 (.bool (decide (m=1))) _ _ _ _ (decide (m=1)) rfl)
 obtain⟨s0,s1,s2,s3,s4⟩:=c5 hM1.ins
 have f4:=hM1.ins.frozen 4
 have eb:((m:Int)==1)=decide (m=1):=by rw [Bool.eq_iff_iff]; simp; omega
 try clear h1 h2 h3 hM1 HM HI
 generalize decide (m=1)=ov at*
 go_wp2_with fail
 refine(zgU g A n c bs at1 bad1 _ M1.out.rd aF (HE.out _ M1.out.only).1 (fun w' hw'=>(HE.out _ (M1.out.only.trans hw')).2)).mono ?_
 rintro e w2 ⟨m2,at2,bad2,va,rfl,h1,h2,ho,h3⟩
 have I2:=Lib.hid (show Inv bad2 T (p7 bs ch bo st ov (setOf m2) at2) from zci (k:=fun x=>p7 bs ch bo st ov (setOf x.1) x.2) I1.out h3)
 have hM2:=M1.out.num h1 h2
 have M2:=Lib.hid (hM2.put 0 va va _ _ _ ov rfl)
 obtain⟨s0,s1,s2,s3,s4⟩:=c5 hM2.ins
 have f0:=hM2.ins.frozen 0
 have hls:w.heap.size+2<=(w1.setCell ⟨w.heap.size+1,4,none⟩ (.bool ov)).heap.size:=by have:=M1.out.ins.lt; omega
 obtain⟨A1,k1,rfl,_⟩:=zaz ho
 have hoa:=zeU (g:=w.heap.size+1) (zbz ho hls) (zam (p:=⟨w.heap.size+1,0,none⟩) (World.grownBy.refl w2 _) (.inl rfl) (.slice A1 (setOf m2).length k1)) (by omega)
 have OA:=Lib.hid hoa
 try clear h1 h2 h3 hM2 M1 I1 ho hoa
 generalize setOf m2=ac at*
 go_wp2_with fail
 refine(zcA g A n c bs at2 1 bad2 _ M2.out.rd (by omega) 1 rfl aF (HE.out _ M2.out.only).1).mono ?_
 rintro e w3 ⟨nv,at3,bad3,rfl,h1,h2,h3⟩
 have I3:=Lib.hid (show Inv bad3 T (pvars bs (fun vs a'=>p8 bs ch bo st ov ac vs a') nv at3 []) from zci (k:=fun x=>pvars bs (fun vs a'=>p8 bs ch bo st ov ac vs a') x.1 x.2 []) I2.out h3)
 have hnv:nv<256:=h3.2.1
 have M3:=Lib.hid (M2.out.num h1 h2)
 have OA3:=Lib.hid (zeU OA.out h2 (by omega))
 have hs3:w.heap.size+2<=w3.heap.size:=by have:=M3.out.ins.lt; omega
 have V3:=Lib.hid (show V1 w w3 g A n c bs at3 bad3 (.slice A1 ac.length k1) (.slice none 0 0) ov ac [] w3.heap.size from⟨M3.out,OA3.out,fun k hk=>(OA3.out.lt k hk).2,World.ownsRow_nil _ _ _ _,hs3,Nat.le_refl _⟩)
 try clear h1 h2 h3 M2 I2 OA f0 s0 s1 s2 s3 s4 M3 OA3
 go_upto_block 0 with(fail)
 go_cut [4] (fun _ W=>L1 w W g A n c bs T ch bo st (.slice A1 ac.length k1) ov ac w3.heap.size)
 case first=>
  go_wp2_with fail
  go_loopw [4] (fun v4 wr=> ∃(rem at_:Nat) (bad:Bool) (vs:List Int) (vv:Value),v4= .int .i64 rem/\V1 w wr g A n c bs at_ bad (.slice A1 ac.length k1) vv ov ac vs w3.heap.size/\vs.length+rem<=255/\Inv bad T (pvars bs (fun vs a'=>p8 bs ch bo st ov ac vs a') rem at_ vs)) (fun v4 _=>(intOf v4).toNat)
  case atStart=>exact⟨nv,at3,bad3,[],_,rfl,V3.out,by simp; omega,I3.out⟩
  case round=>
   obtain⟨rem,at_,bad,vs,vv,rfl,hV,hlen,hI⟩:=hrel
   have VV:=Lib.hid hV
   have II:=Lib.hid hI
   obtain⟨s0,s1,s2,s3,s4⟩:=c5 hV.mid.ins
   obtain⟨r0,r1,r2⟩:=hV.mid.rd.cells.c3
   have hgl':=hV.mid.rd.cells.lt
   cases rem with
   | zero=>
     try clear hV hI s0 s1 s2 s3 s4 r0 r1 r2
     go_wp2_with fail
     go_meet
     exact⟨at_,bad,vs,vv,VV.out,by omega,II.out⟩
   | succ rem=>
     cases bad with
     | true=>
       try clear hV hI s0 s1 s2 s3 s4 r0 r1
       go_wp2_with fail
       go_meet
       exact⟨at_,true,vs,vv,VV.out,by omega,zlu II.out⟩
     | false=>
       have hbb:=hV.hb
       have hss:=hV.hs
       have f1:=hV.mid.ins.frozen 1
       obtain⟨Av,kv,ev,_⟩:=zaz hV.vars
       subst ev
       try clear hV hI s0 s2 s3 s4 r0 r1
       go_wp2_with fail
       go_region_law (first
        |(go_simp; go_at_call 120; refine(zcA g A n c bs at_ 4 false _ VV.out.mid.drew.rd (by omega) 4 rfl aF (HE.out _ VV.out.mid.drew.only).1).mono ?_; rintro e w4 ⟨x4,at4,bad4,rfl,h1,h2,h3⟩; have hx4:x4<4294967296:=h3.2.1; have M4:=VV.out.mid.drew.num h1 h2; obtain⟨q0,q1,q2,q3,q4⟩:=c5 M4.ins; have hI4:w.heap.size+1<w4.heap.size:=M4.ins.lt; have HM4:=Lib.hid M4; have OV4:=Lib.hid (zeU VV.out.vars.drew h2 (by omega)); have OA4:=Lib.hid (zeU VV.out.act.drew h2 (by omega)); have hs4:=h2.size; have I4:=Lib.hid (zci (k:=fun x=>pvars bs (fun vs a'=>p8 bs ch bo st ov ac vs a') rem x.2 (vs++[unfoldI x.1])) II.out h3); clear h1 h2 h3 M4 q0 q2 q3 q4)
        |(go_simp; go_at_call 196; refine(zmU x4 hx4 _).mono ?_; rintro e w' ⟨rfl,rfl⟩)
        |(refine zfk rfl (.tmp 35) (.tmp 41) _ rfl w3.heap.size 3 i0 _ 1 8 Tryz.underlying27 hi0 hz0 hz1 hz2 rfl (by decide) (.slice Av vs.length kv) vs.length (iv vs) rfl (OV4.out.alloc _) (w4.heap.size+1) (some ⟨w4.heap.size,0,none⟩) 1 1 [.int .i64 (unfoldI x4)] rfl (Reads.boxed w4 3 #[.int .i64 (unfoldI x4)] 1 1 rfl) (by simp [Value.oneCell']) (by unfold maxLen; omega) (by omega) (by simp at hs4 |-; omega) ?_; intro v5 w5 ho5 hg5 hat5; have M5:=(HM4.out.alloc _).row (OV4.out.alloc _) hbb hg5; obtain⟨t0,t1,t2,t3,t4⟩:=c5 M5.ins; have f5:=M5.ins.frozen 1; have HM5:=Lib.hid M5; have HO5:=Lib.hid ho5; have OA5:=Lib.hid (zsO (OA4.out.alloc _) VV.out.lo (OV4.out.alloc _) hg5); have hs5:=hg5.size; obtain⟨A5,k5,rfl,_⟩:=zaz ho5; clear M5 ho5 hg5 hat5 t0 t2 t3 t4))
       all_goals
        have VN:=Lib.hid (show V1 w (w5.setCell ⟨w.heap.size+1,1,none⟩ (.slice A5 (vs.length+1) k5)) g A n c bs at4 bad4 (.slice A1 ac.length k1) (.slice A5 (vs.length+1) k5) ov ac (vs++[unfoldI x4]) w3.heap.size from
         ⟨HM5.out.put 1 _ _ _ _ _ ov rfl,zoV OA5.out (by omega),VV.out.lo,zoV (by simpa [iv] using HO5.out) (by omega),hbb,by simp at hs4 hs5 |-; omega⟩)
        try clear t1 f5 q1
        go_wp2_with fail
        go_roundw
        case rel=>exact⟨rem,at4,bad4,vs++[unfoldI x4],_,by go_num,VN.out,by simp; omega,I4.out⟩
        case measure=>simp [intOf]
 case rest=>
  obtain⟨at5,bad5,vs,vv,hV5,hvl,hI5⟩:=hcut
  obtain⟨Av,kv,ev,_⟩:=zaz hV5.vars
  subst ev
  have VA5:=Lib.hid (show VA w wc g A n c bs at5 bad5 (.slice A1 ac.length k1) (.slice Av vs.length kv) (.slice none 0 0) (.slice none 0 0) ⟨ch,bo,st,ac,vs,[],[],ov⟩ from
   ⟨hV5.mid,⟨hV5.act,zbz hV5.vars hV5.hb,⟨[],World.ownsRow_nil _ _ _ _,zd9 _ _⟩,⟨[],World.ownsRow_nil _ _ _ _,zd9 _ _⟩⟩⟩)
  have I5:=Lib.hid hI5
  try clear hV5 hI5 V3 I3
  go_wp2_with fail
  refine(zcA g A n c bs at5 1 bad5 _ VA5.out.mid.rd (by omega) 1 rfl aF (HE.out _ VA5.out.mid.only).1).mono ?_
  rintro e w6 ⟨nm,at6,bad6,rfl,h1,h2,h3⟩
  have I6:=Lib.hid (show Inv bad6 T (pmems bs (fun ms a'=>p9 bs ch bo st ov ac vs ms a') nm at6 []) from zci (k:=fun x=>pmems bs (fun ms a'=>p9 bs ch bo st ov ac vs ms a') x.1 x.2 []) I5.out h3)
  have hnm:nm<256:=h3.2.1
  have VA6:=Lib.hid (VA5.out.num h1 h2)
  try clear h1 h2 h3 VA5 I5
  go_upto_block 2 with(fail)
  go_cut [5] (fun _ W=>L2 w W g A n c bs T ch bo st (.slice A1 ac.length k1) (.slice Av vs.length kv) ov ac vs)
  case first=>
   go_wp2_with fail
   go_loopw [5] (fun v5 wr=> ∃(rem at_:Nat) (bad:Bool) (ms:List (Int×List Int)) (vm:Value),v5= .int .i64 rem/\VA w wr g A n c bs at_ bad (.slice A1 ac.length k1) (.slice Av vs.length kv) vm (.slice none 0 0) ⟨ch,bo,st,ac,vs,ms,[],ov⟩/\ms.length+rem<=255/\Inv bad T (pmems bs (fun ms a'=>p9 bs ch bo st ov ac vs ms a') rem at_ ms)) (fun v5 _=>(intOf v5).toNat)
   case atStart=>exact⟨nm,at6,bad6,[],_,rfl,VA6.out,by simp; omega,I6.out⟩
   case round=>
    obtain⟨rem,at_,bad,ms,vm,rfl,hV,hlen,hI⟩:=hrel
    have VV:=Lib.hid hV
    have II:=Lib.hid hI
    obtain⟨r0,r1,r2⟩:=hV.mid.rd.cells.c3
    have hgl':=hV.mid.rd.cells.lt
    cases rem with
    | zero=>
      try clear hV hI r0 r1 r2
      go_wp2_with fail
      go_meet
      exact⟨at_,bad,ms,vm,VV.out,by omega,II.out⟩
    | succ rem=>
      cases bad with
      | true=>
        try clear hV hI r0 r1
        go_wp2_with fail
        go_meet
        exact⟨at_,true,ms,vm,VV.out,by omega,zlu II.out⟩
      | false=>
        try clear hV hI r0 r1
        go_wp2_with fail
        refine(zcA g A n c bs at_ 1 false _ VV.out.mid.rd (by omega) 1 rfl aF (HE.out _ VV.out.mid.only).1).mono ?_
        rintro e w7 ⟨x7,at7,bad7,rfl,h1,h2,h3⟩
        have I7:=Lib.hid (zci (k:=fun x=>(pnum bs x.2 4).bind fun y=>pmems bs (fun ms a'=>p9 bs ch bo st ov ac vs ms a') rem y.2 (ms++[((x.1:Int),setOf y.1)])) II.out h3)
        have hV7:=VV.out.num h1 h2
        have V7:=Lib.hid (hV7.alloc (.cells #[.int .i64 x7, .slice none 0 0] 85))
        have X7:=Lib.hid (Whole.new w7 85 #[.int .i64 x7, .slice none 0 0])
        have N7:Hid (∀k,vm.ownBlock=some k->k≠w7.heap.size):=Lib.hid (fun k hk=>by
         obtain⟨xs,hx,_⟩:=hV7.own.mem
         have:=(hx.lt k hk).2
         omega)
        have hl7:w.heap.size+2<=w7.heap.size:=by have:=hV7.mid.ins.lt; omega
        try clear h1 h2 h3 hV7 r2
        go_wp2_with fail
        refine(zgU g A n c bs at7 bad7 _ V7.out.mid.rd aF (HE.out _ V7.out.mid.only).1 (fun w' hw'=>(HE.out _ (V7.out.mid.only.trans hw')).2)).mono ?_
        rintro e w8 ⟨m8,at8,bad8,sv,rfl,h1,h2,ho,h3⟩
        have I8:=Lib.hid (zci (k:=fun y=>pmems bs (fun ms a'=>p9 bs ch bo st ov ac vs ms a') rem y.2 (ms++[((x7:Int),setOf y.1)])) I7.out h3)
        have hX8:=X7.out.grown h2 (by simp; omega)
        have hV8:=V7.out.num h1 h2
        have hV9:VA w (w8.setCell ⟨w7.heap.size,1,none⟩ sv) g A n c bs at8 bad8 (.slice A1 ac.length k1) (.slice Av vs.length kv) vm (.slice none 0 0) ⟨ch,bo,st,ac,vs,ms,[],ov⟩:=⟨hV8.mid.far (by simpa using hl7) sv,hV8.own.setX hX8 N7.out⟩
        have hX9:=hX8.put 1 sv
        have hk9:zbt 3 w8 (w8.setCell ⟨w7.heap.size,1,none⟩ sv):=zbt.of_only (zam (p:=⟨w7.heap.size,1,none⟩) (World.grownBy.refl w8 _) (.inl rfl) sv) hX8 (by decide)
        have O9:=Lib.hid (hk9.own (zbz ho (show w.heap.size+2<=_ by simp; omega)))
        obtain⟨As,ks,es,_⟩:=zaz ho
        subst es
        obtain⟨x80,x81⟩:=hX8.c2
        have xf:=hX8.frozen 1
        obtain⟨xs,hx1,hx2⟩:=hV9.own.mem
        obtain⟨Am,km,em,_⟩:=zaz hx1
        simp only at em
        subst em
        obtain⟨s0,s1,s2,s3,s4⟩:=c5 hV9.mid.ins
        have f2:=hV9.mid.ins.frozen 2
        simp only [Array.setIfInBounds] at hX9
        obtain⟨y0,y1⟩:=hX9.c2
        have hI9:=hV9.mid.ins.lt
        have V9:=Lib.hid hV9
        have HX1:=Lib.hid hx1
        have HX2:=Lib.hid hx2
        have hl8:w7.heap.size<w8.heap.size:=hX8.lt
        try clear h1 h2 h3 hX8 hV8 hV9 hX9 hk9 ho hx1 hx2 V7 X7 I7
        generalize setOf m8=sl at*
        obtain⟨j0,hj0,hy0,hy1,hy2⟩:=info_parts Tryz.infoMem
        have RB:Reads ((w8.setCell ⟨w7.heap.size,1,none⟩ (.slice As sl.length ks)).alloc (.cells #[.int .i64 x7, .slice As sl.length ks] 85)) (w8.heap.size+1) 2 (some ⟨w8.heap.size,0,none⟩) 1 [.int .i64 x7, .slice As sl.length ks]:=by
         have:=Reads.boxed (w8.setCell ⟨w7.heap.size,1,none⟩ (.slice As sl.length ks)) 85 #[.int .i64 x7, .slice As sl.length ks] 2 1 rfl
         rw [World.size_setCell] at this
         exact this
        have RB':=Lib.hid RB
        try clear RB
        go_wp2_with (at_builtin; refine zaT _ rfl (.tmp 69) (.tmp 71) _ rfl (w.heap.size+2) 85 j0 _ 2 32 Tryz.underlying28 hj0 hy0 hy1 hy2 rfl (by decide) (.slice Am ms.length km) ms.length xs rfl (HX1.out.alloc _) (w8.heap.size+1) (some ⟨w8.heap.size,0,none⟩) 1 1 [.int .i64 x7, .slice As sl.length ks] rfl RB'.out (by simp [Value.oneCell']) (by unfold maxLen; omega) (by omega) (by simp; omega) ?_; intro v10 w10 ho10 hg10 hat10; obtain⟨A10,k10,rfl,_⟩:=zaz ho10; have VB:=V9.out.alloc (.cells #[.int .i64 x7, .slice As sl.length ks] 85); have hM10:=VB.mid.row (HX1.out.alloc _) (Nat.le_refl _) hg10; have hO10:=VB.own.moreM (HX1.out.alloc _) (rows_moved HX2.out fun cs m _ hh=>zc4 (zbt.of_below ((Below.refl _ _).alloc (Nat.le_refl _) _)) cs m hh) hg10 (cs:=[.int .i64 x7, .slice As sl.length ks]) (m:=((x7:Int),sl)) ⟨_,rfl,O9.out.alloc _⟩ rfl ho10 rfl; obtain⟨t0,t1,t2,t3,t4⟩:=c5 hM10.ins; have f10:=hM10.ins.frozen 2; have VN:=Lib.hid (show VA w (w10.setCell ⟨w.heap.size+1,2,none⟩ (.slice A10 (ms.length+1) k10)) g A n c bs at8 bad8 (.slice A1 ac.length k1) (.slice Av vs.length kv) (.slice A10 (ms.length+1) k10) (.slice none 0 0) ⟨ch,bo,st,ac,vs,ms++[((x7:Int),sl)],[],ov⟩ from⟨hM10.put 2 _ _ _ _ _ ov rfl,hO10.put (by omega)⟩); clear VB hM10 hO10 ho10 hg10 hat10 s0 s1 s2 s3 s4 f2 x80 x81 xf y0 y1 t0 t1 t3 t4)
        go_roundw
        case rel=>exact⟨rem,at8,bad8,_,_,by go_num,VN.out,by simp; omega,I8.out⟩
        case measure=>simp [intOf]
  case rest=>
   obtain⟨at9,bad9,ms,vm,hV9,hml,hI9⟩:=hcut
   obtain⟨xs,hx1,_⟩:=hV9.own.mem
   obtain⟨Am,km,em,_⟩:=zaz hx1
   simp only at em
   subst em
   have VA9:=Lib.hid hV9
   have I9:=Lib.hid hI9
   try clear hV9 hI9 hx1 VA6 I6
   go_wp2_with fail
   refine(zcA g A n c bs at9 1 bad9 _ VA9.out.mid.rd (by omega) 1 rfl aF (HE.out _ VA9.out.mid.only).1).mono ?_
   rintro e w11 ⟨nt,at11,bad11,rfl,h1,h2,h3⟩
   have I11:=Lib.hid (show Inv bad11 T (ptms bs (fun ts _=>some (⟨ch,bo,st,ac,vs,ms,ts,ov⟩:Rc)) nt at11 []) from zci (k:=fun x=>ptms bs (fun ts _=>some (⟨ch,bo,st,ac,vs,ms,ts,ov⟩:Rc)) x.1 x.2 []) I9.out h3)
   have hnt:nt<256:=h3.2.1
   have VA11:=Lib.hid (VA9.out.num h1 h2)
   try clear h1 h2 h3 VA9 I9
   go_upto_block 4 with(fail)
   go_cut [7] (fun _ W=>L3 w W g A n c bs T ch bo st (.slice A1 ac.length k1) (.slice Av vs.length kv) (.slice Am ms.length km) ov ac vs ms)
   case first=>
    go_wp2_with fail
    go_loopw [7] (fun v7 wr=> ∃(rem at_:Nat) (bad:Bool) (ts:List (List UInt8×Int)) (vt:Value),v7= .int .i64 rem/\VA w wr g A n c bs at_ bad (.slice A1 ac.length k1) (.slice Av vs.length kv) (.slice Am ms.length km) vt ⟨ch,bo,st,ac,vs,ms,ts,ov⟩/\ts.length+rem<=255/\Inv bad T (ptms bs (fun ts _=>some (⟨ch,bo,st,ac,vs,ms,ts,ov⟩:Rc)) rem at_ ts)) (fun v7 _=>(intOf v7).toNat)
    case atStart=>exact⟨nt,at11,bad11,[],_,rfl,VA11.out,by simp; omega,I11.out⟩
    case round=>
     obtain⟨rem,at_,bad,ts,vt,rfl,hV,hlen,hI⟩:=hrel
     have VV:=Lib.hid hV
     have II:=Lib.hid hI
     obtain⟨r0,r1,r2⟩:=hV.mid.rd.cells.c3
     have hgl':=hV.mid.rd.cells.lt
     cases rem with
     | zero=>
       try clear hV hI r0 r1 r2
       go_wp2_with fail
       go_meet
       exact⟨at_,bad,ts,vt,VV.out,II.out⟩
     | succ rem=>
       cases bad with
       | true=>
         try clear hV hI r0 r1
         go_wp2_with fail
         go_meet
         exact⟨at_,true,ts,vt,VV.out,zlu II.out⟩
       | false=>
         try clear hV hI r0 r1
         go_wp2_with fail
         refine(zos g A n c bs at_ false _ VV.out.mid.rd aF (HE.out _ VV.out.mid.only).1).mono ?_
         rintro e w12 ⟨tn,at12,bad12,rfl,h1,h2,h3⟩
         have I12:=Lib.hid (zq5 (k:=fun x=>(pnum bs x.2 8).bind fun y=>ptms bs (fun ts _=>some (⟨ch,bo,st,ac,vs,ms,ts,ov⟩:Rc)) rem y.2 (ts++[(x.1,(y.1:Int))])) II.out h3)
         have htn:=h3.2
         have hV12:=VV.out.num h1 h2
         have V12:=Lib.hid (hV12.alloc (.cells #[.string ⟨tn.toArray⟩, .int .i64 0] 114))
         have X12:=Lib.hid (Whole.new w12 114 #[.string ⟨tn.toArray⟩, .int .i64 0])
         have N12:Hid (∀k,vt.ownBlock=some k->k≠w12.heap.size):=Lib.hid (fun k hk=>by
          obtain⟨xs,hx,_⟩:=hV12.own.tms
          have:=(hx.lt k hk).2
          omega)
         have hl12:w.heap.size+2<=w12.heap.size:=by have:=hV12.mid.ins.lt; omega
         try clear h1 h2 h3 hV12 r2
         go_wp2_with fail
         refine(zcA g A n c bs at12 8 bad12 _ V12.out.mid.rd (by omega) 8 rfl aF (HE.out _ V12.out.mid.only).1).mono ?_
         rintro e w13 ⟨x13,at13,bad13,rfl,h1,h2,h3⟩
         have I13:=Lib.hid (zci (k:=fun y=>ptms bs (fun ts _=>some (⟨ch,bo,st,ac,vs,ms,ts,ov⟩:Rc)) rem y.2 (ts++[(tn,(y.1:Int))])) I12.out h3)
         have hX8:=X12.out.grown h2 (by simp; omega)
         have hV8:=V12.out.num h1 h2
         have hV9:VA w (w13.setCell ⟨w12.heap.size,1,none⟩ (.int .i64 x13)) g A n c bs at13 bad13 (.slice A1 ac.length k1) (.slice Av vs.length kv) (.slice Am ms.length km) vt ⟨ch,bo,st,ac,vs,ms,ts,ov⟩:=⟨hV8.mid.far (by simpa using hl12) _,hV8.own.setT hX8 N12.out⟩
         have hX9:=hX8.put 1 (.int .i64 x13)
         obtain⟨x80,x81⟩:=hX8.c2
         have xf:=hX8.frozen 1
         obtain⟨xt,hx1,hx2⟩:=hV9.own.tms
         obtain⟨At,kt,et,_⟩:=zaz hx1
         simp only at et
         subst et
         obtain⟨s0,s1,s2,s3,s4⟩:=c5 hV9.mid.ins
         have f3:=hV9.mid.ins.frozen 3
         simp only [Array.setIfInBounds] at hX9
         obtain⟨y0,y1⟩:=hX9.c2
         have hI9:=hV9.mid.ins.lt
         have V9:=Lib.hid hV9
         have HX1:=Lib.hid hx1
         have HX2:=Lib.hid hx2
         have hl8:w12.heap.size<w13.heap.size:=hX8.lt
         try clear h1 h2 h3 hX8 hV8 hV9 hX9 hx1 hx2 V12 X12 I12
         obtain⟨j0,hj0,hy0,hy1,hy2⟩:=info_parts Tryz.infoTim
         have RB:Reads ((w13.setCell ⟨w12.heap.size,1,none⟩ (.int .i64 x13)).alloc (.cells #[.string ⟨tn.toArray⟩, .int .i64 x13] 114)) (w13.heap.size+1) 2 (some ⟨w13.heap.size,0,none⟩) 1 [.string ⟨tn.toArray⟩, .int .i64 x13]:=by
          have:=Reads.boxed (w13.setCell ⟨w12.heap.size,1,none⟩ (.int .i64 x13)) 114 #[.string ⟨tn.toArray⟩, .int .i64 x13] 2 1 rfl
          rw [World.size_setCell] at this
          exact this
         have RB':=Lib.hid RB
         try clear RB
         go_wp2_with (at_builtin; refine zaT _ rfl (.tmp 101) (.tmp 103) _ rfl (w.heap.size+2) 114 j0 _ 2 24 Tryz.underlying29 hj0 hy0 hy1 hy2 rfl (by decide) (.slice At ts.length kt) ts.length xt rfl (HX1.out.alloc _) (w13.heap.size+1) (some ⟨w13.heap.size,0,none⟩) 1 1 [.string ⟨tn.toArray⟩, .int .i64 x13] rfl RB'.out (by simp [Value.oneCell']) (by unfold maxLen; omega) (by omega) (by simp; omega) ?_; intro v10 w10 ho10 hg10 hat10; obtain⟨A10,k10,rfl,_⟩:=zaz ho10; have VB:=V9.out.alloc (.cells #[.string ⟨tn.toArray⟩, .int .i64 x13] 114); have hM10:=VB.mid.row (HX1.out.alloc _) (Nat.le_refl _) hg10; have hO10:=VB.own.moreT (HX1.out.alloc _) HX2.out hg10 (cs:=[.string ⟨tn.toArray⟩, .int .i64 x13]) (m:=(tn,(x13:Int))) ⟨rfl,htn⟩ rfl ho10 rfl; obtain⟨t0,t1,t2,t3,t4⟩:=c5 hM10.ins; have f10:=hM10.ins.frozen 3; have VN:=Lib.hid (show VA w (w10.setCell ⟨w.heap.size+1,3,none⟩ (.slice A10 (ts.length+1) k10)) g A n c bs at13 bad13 (.slice A1 ac.length k1) (.slice Av vs.length kv) (.slice Am ms.length km) (.slice A10 (ts.length+1) k10) ⟨ch,bo,st,ac,vs,ms,ts++[(tn,(x13:Int))],ov⟩ from⟨hM10.put 3 _ _ _ _ _ ov rfl,hO10.put (by omega)⟩); clear VB hM10 hO10 ho10 hg10 hat10 s0 s1 s2 s3 s4 f3 x80 x81 xf y0 y1 t0 t1 t2 t4)
         go_roundw
         case rel=>exact⟨rem,at13,bad13,_,_,by go_num,VN.out,by simp; omega,I13.out⟩
         case measure=>simp [intOf]
   case rest=>
    obtain⟨at14,bad14,ts,vt,hV14,hI14⟩:=hcut
    obtain⟨xt,hx1,_⟩:=hV14.own.tms
    obtain⟨At,kt,et,_⟩:=zaz hx1
    simp only at et
    subst et
    obtain⟨s0,s1,s2,s3,s4⟩:=c5 hV14.mid.ins
    obtain⟨cs2,hc2,hcs⟩:=hV14.mid.two
    rw [Nat.add_sub_cancel] at hc2
    match cs2,hcs with
    | ⟨[b0,b1,b2,b3,b4]⟩,_=>
    obtain⟨z0,z1,z2,z3,z4⟩:=c5 hc2
    have zf0:=hc2.frozen 0
    have zf1:=hc2.frozen 1
    have zf2:=hc2.frozen 2
    have zf3:=hc2.frozen 3
    have zf4:=hc2.frozen 4
    have HV:=Lib.hid hV14
    have HI2:=Lib.hid hI14
    try clear hV14 hI14 hx1 VA11 I11 hc2
    go_wp2_with fail
    refine bodyPost_ret (v:= .agg #[.slice A1 ac.length k1, .slice Av vs.length kv, .slice Am ms.length km, .slice At ts.length kt, .bool ov]) (by simp [results,Tryz.results121,go_sem,z0,z1,z2,z3,z4]) rfl ?_
    have F:=(((((HV.out.fin.put 0 (.slice A1 ac.length k1)).put 1 (.slice Av vs.length kv)).put 2 (.slice Am ms.length km)).put 3 (.slice At ts.length kt)).put 4 (.bool ov))
    exact⟨_,_,_,_,⟨ch,bo,st,ac,vs,ms,ts,ov⟩,at14,bad14,rfl,F.rd,F.only,F.own.lower (by omega),rfl,rfl,rfl,HI2.out⟩
end Go.Proofs.YtnbjaghjdeicmaaGreatDoor
