/- Charts as plain data, and as values of the walk without memory; a chart that came in, opened. -/
import Derived.Test.YtnbjaghjdeicmaaGreatDoorProg
import Derived.Test.YtnbjaghjdeicmaaGreatDoorD1
import Derived.LaidEql
import Derived.Stop.Asserts
import Derived.Test.YtnbjaghjdeicmaaGreatDoorD5
import Derived.Test.YtnbjaghjdeicmaaGreatDoorD4
set_option maxRecDepth 100000
set_option maxHeartbeats 1000000
set_option linter.unusedSimpArgs false
namespace Go.Proofs.YtnbjaghjdeicmaaGreatDoor
section
open Go.RowKit Go.Stop
def Lies (w:World) (a:Addr):Prop:= ∃(ca:Array Value) (ta:TypeId),w.heap[a.block]? =some (.cells ca ta (0,0))
def Sent (w:World) (g:Nat) (a:Addr):Prop:=w.cell? ⟨g,0,none⟩=some (.iface 379 (.pointer (some a)))/\Lies w a
def zch (w:World) (a:Addr):Nat->Value->Prop
 | 0,E=>E= .iface 379 (.pointer (some a))/\Lies w a
 | n+1,E=> ∃(pb po:Nat) (E':Value),E= .iface 159 (.pointer (some ⟨pb,po,none⟩))/\w.cell? ⟨pb,po+2,none⟩=some E'/\zch w a n E'
theorem Lies.lt {w:World} {a:Addr} (h:Lies w a):a.block<w.heap.size:=by
 obtain⟨ca,ta,h⟩:=h
 by_cases hl:a.block<w.heap.size
 ·exact hl
 ·rw [Array.getElem?_eq_none (by omega)] at h
  cases h
theorem Lies.below {w w':World} {a:Addr} (h:Lies w a) (hb:Below w.heap.size w w'):Lies w' a:=by
 have:=h.lt
 obtain⟨ca,ta,h⟩:=h
 exact⟨ca,ta,(hb.block _ this).trans h⟩
theorem zfN {w:World} {b o:Nat} {v:Value} (h:w.cell? ⟨b,o,none⟩=some v):b<w.heap.size:=World.block_lt_of_cell? w ⟨b,o,none⟩ h
theorem cell_below {w w':World} {b o:Nat} {v:Value} (h:w.cell? ⟨b,o,none⟩=some v) (hb:Below w.heap.size w w'):w'.cell? ⟨b,o,none⟩=some v:=
 (hb.cell (p:=⟨b,o,none⟩) (zfN h)).trans h
theorem Sent.below {w w':World} {g:Nat} {a:Addr} (h:Sent w g a) (hb:Below w.heap.size w w'):Sent w' g a:=⟨cell_below h.1 hb,h.2.below hb⟩
theorem zch.below {w w':World} {a:Addr} (hb:Below w.heap.size w w'): ∀ {n:Nat} {E:Value},zch w a n E->zch w' a n E
 | 0,_,h=>⟨h.1,h.2.below hb⟩
 | _+1,_,⟨pb,po,E',h1,h2,h3⟩=>⟨pb,po,E',h1,cell_below h2 hb,zch.below hb h3⟩
theorem zch.form {w:World} {a:Addr} {n:Nat} {E:Value} (h:zch w a n E): ∃t v,E= .iface t v:=by
 cases n with
 | zero=>exact⟨_,_,h.1⟩
 | succ n=>exact⟨_,_,h.choose_spec.choose_spec.choose_spec.1⟩
theorem zch.new {w:World} {g:Nat} {a:Addr} (h:Sent w g a) (s:ByteArray) (p:Int):
 zch (w.alloc (.cells #[.string s, .int .i64 p, .iface 379 (.pointer (some a))] 163)) a 1 (.iface 159 (.pointer (some ⟨w.heap.size,0,none⟩))):=
 ⟨_,0,_,rfl,(Whole.new w 163 _).cell 2,rfl,h.2.below ((Below.refl _ _).alloc (Nat.le_refl _) _)⟩
theorem zch.wrap {w:World} {a:Addr} {n:Nat} {E:Value} (h:zch w a n E) (s:ByteArray) (p:Int):
 zch (w.alloc (.cells #[.string s, .int .i64 p,E] 163)) a (n+1) (.iface 159 (.pointer (some ⟨w.heap.size,0,none⟩))):=
 ⟨_,0,_,rfl,(Whole.new w 163 _).cell 2,h.below ((Below.refl _ _).alloc (Nat.le_refl _) _)⟩
/-! Closed facts -/
theorem Tryz.callTypeOf (v:Value) (w:World):(callFunc 185 #[.iface 379 v]).run Tryz.prog w= .ok (.value (.iface 297 (.agg #[.pointer (some ⟨11,379,none⟩)]))) w:=by kernel_rfl
theorem Tryz.callComparable (w:World):(callFunc 377 #[.agg #[.pointer (some ⟨11,379,none⟩)]]).run Tryz.prog w= .ok (.value (.bool true)) w:=by kernel_rfl
theorem Tryz.isComp:(Tryz.prog.info? 379).map (·.comparable)=some true:=by kernel_rfl
theorem Tryz.isSize:(Tryz.prog.info? 398).map (·.size)=some 1:=by kernel_rfl
theorem Tryz.noIsE (v:Value) (xT:TypeId) (w:World):(Instr.typeAssert (.iface 379 v) xT 309 true).run Tryz.prog w= .ok (.tuple #[.nilIface, .bool false]) w:=run_typeAssert_lacksB Tryz.underlying309 (by kernel_rfl) (by kernel_rfl) v xT w
theorem Tryz.noUnwrapE (v:Value) (xT:TypeId) (w:World):(Instr.typeAssert (.iface 379 v) xT 304 true).run Tryz.prog w= .ok (.tuple #[.nilIface, .bool false]) w:=run_typeAssert_lacksB Tryz.underlying304 (by kernel_rfl) (by kernel_rfl) v xT w
theorem Tryz.noUnwrapsE (v:Value) (xT:TypeId) (w:World):(Instr.typeAssert (.iface 379 v) xT 306 true).run Tryz.prog w= .ok (.tuple #[.nilIface, .bool false]) w:=run_typeAssert_lacksB Tryz.underlying306 (by kernel_rfl) (by kernel_rfl) v xT w
theorem Tryz.noIsW (v:Value) (xT:TypeId) (w:World):(Instr.typeAssert (.iface 159 v) xT 309 true).run Tryz.prog w= .ok (.tuple #[.nilIface, .bool false]) w:=run_typeAssert_lacksB Tryz.underlying309 (by kernel_rfl) (by kernel_rfl) v xT w
theorem Tryz.hasUnwrapW (v:Value) (xT:TypeId) (w:World):(Instr.typeAssert (.iface 159 v) xT 304 true).run Tryz.prog w= .ok (.tuple #[.iface 159 v, .bool true]) w:=run_typeAssert_hasB Tryz.underlying304 (by kernel_rfl) v xT w
theorem zsv {W:World} (a b:Addr) (hb:Lies W b): ∀(n:Nat) (E:Value),zch W a n E->
 Calls Tryz.prog 186 #[E, .iface 379 (.pointer (some b)), .bool true] W fun e w'=>e= .returned (.bool (decide (a=b)))/\W=w':=by
 intro n E hE
 obtain⟨i,hi,hcmp⟩:=Option.map_eq_some_iff.1 Tryz.isComp
 obtain⟨j,hj,hjs⟩:=Option.map_eq_some_iff.1 Tryz.isSize
 have nE:=Tryz.noIsE
 have uE:=Tryz.noUnwrapE
 have vE:=Tryz.noUnwrapsE
 have nW:=Tryz.noIsW
 have uW:=Tryz.hasUnwrapW
 have HE:=Lib.hid hE
 try clear hE
 go_enter Tryz.func186,Tryz.ntmps186
 go_wp2
 go_loopg [0] n (fun m E' wl=>W=wl/\zch W a m E')
 case atStart=>exact⟨rfl,HE.out⟩
 case round=>
  obtain⟨rfl,hE⟩:=hrel
  cases gk with
  | zero=>
    obtain⟨rfl,ca,ta,ha⟩:=hE
    by_cases hab:a=b
    ·subst hab
     have heq:=run_eql_iface_ptr_same (P:=Tryz.prog) W a Tryz.underlying37 Tryz.underlying379 hi hcmp hj
     try clear ha
     go_wp2
     go_ret
     exact⟨by simp,rfl⟩
    ·obtain⟨cb,tb,hb'⟩:=hb
     have heq:=run_eql_iface_ptr_other (P:=Tryz.prog) W Tryz.underlying37 Tryz.underlying379 hi hcmp hj (by rw [hjs]; decide) hab ha hb'
     try clear ha hb'
     go_wp2
     go_ret
     exact⟨by simp [hab],rfl⟩
  | succ m=>
    obtain⟨pb,po,E',rfl,hcell,hE'⟩:=hE
    have hty:=run_eql_iface_types (P:=Tryz.prog) 159 379 (.pointer (some ⟨pb,po,none⟩)) (.pointer (some b)) Tryz.underlying37 (by decide) W
    obtain⟨u1,v1,rfl⟩:=hE'.form
    have HE':=Lib.hid hE'
    try clear hE'
    go_wp2
    go_roundg m
    case rel=>exact⟨rfl,HE'.out⟩
    case measure=>omega
theorem zaw {W:World} (a b:Addr) (hb:Lies W b) (n:Nat) (E:Value) (hE:zch W a n E):
 Calls Tryz.prog 105 #[E, .iface 379 (.pointer (some b))] W fun e w'=>e= .returned (.bool (decide (a=b)))/\W=w':=by
 have tT:=Tryz.callTypeOf
 have cT:=Tryz.callComparable
 obtain⟨t,v,rfl⟩:=hE.form
 have HE:=Lib.hid hE
 try clear hE
 go_enter Tryz.func105,Tryz.ntmps105
 go_wp2_with (go_at_call 186; refine(zsv a b hb n _ HE.out).mono ?_; rintro e w' ⟨rfl,rfl⟩)
 go_ret
 exact⟨rfl,rfl⟩
structure Sents (w:World) (ad:Nat->Addr):Prop where
 s1:Sent w 1 (ad 1)
 s2:Sent w 2 (ad 2)
 s3:Sent w 3 (ad 3)
 s4:Sent w 4 (ad 4)
 s5:Sent w 5 (ad 5)
 s6:Sent w 6 (ad 6)
 s7:Sent w 0 (ad 7)
 s8:Sent w 7 (ad 8)
 s9:Sent w 8 (ad 9)
 inj: ∀i j,1<=i->i<=9->1<=j->j<=9->ad i=ad j->i=j
theorem Sents.below {w w':World} {ad:Nat->Addr} (h:Sents w ad) (hb:Below w.heap.size w w'):Sents w' ad:=
 ⟨h.s1.below hb,h.s2.below hb,h.s3.below hb,h.s4.below hb,h.s5.below hb,h.s6.below hb,h.s7.below hb,h.s8.below hb,h.s9.below hb,h.inj⟩
theorem Sents.ne {w:World} {ad:Nat->Addr} (h:Sents w ad) {i j:Nat} (hi:1<=i/\i<=9) (hj:1<=j/\j<=9) (hne:i≠j):decide (ad i=ad j)=false:=by
 rw [decide_eq_false_iff_not]
 exact fun e=>hne (h.inj i j hi.1 hi.2 hj.1 hj.2 e)
theorem zuK {W:World} {ad:Nat->Addr} (h:Sents W ad) (n:Nat) (E:Value) (hE:zch W (ad 1) n E):
 Calls Tryz.prog 42 #[E] W fun e w'=>e= .returned (.int .i64 1)/\W=w':=by
 obtain⟨t,v,rfl⟩:=hE.form
 have HE:=Lib.hid hE
 try clear hE
 have c1:=h.s1.1
 go_enter Tryz.func42,Tryz.ntmps42
 go_wp2_with fail
 refine(zaw (ad 1) (ad 1) h.s1.2 n _ HE.out).mono ?_
 rintro e w' ⟨rfl,rfl⟩
 rw [decide_eq_true rfl]
 go_wp2_with fail
 go_ret
 exact⟨rfl,rfl⟩
theorem zuJ {W:World} {ad:Nat->Addr} (h:Sents W ad) (n:Nat) (E:Value) (hE:zch W (ad 2) n E):
 Calls Tryz.prog 42 #[E] W fun e w'=>e= .returned (.int .i64 2)/\W=w':=by
 obtain⟨t,v,rfl⟩:=hE.form
 have HE:=Lib.hid hE
 try clear hE
 have c1:=h.s1.1
 have c2:=h.s2.1
 have d1:=h.ne (i:=2) (j:=1) (by omega) (by omega) (by omega)
 go_enter Tryz.func42,Tryz.ntmps42
 go_wp2_with fail
 refine(zaw (ad 2) (ad 1) h.s1.2 n _ HE.out).mono ?_
 rintro e w' ⟨rfl,rfl⟩
 rw [d1]
 go_wp2_with fail
 refine(zaw (ad 2) (ad 2) h.s2.2 n _ HE.out).mono ?_
 rintro e w' ⟨rfl,rfl⟩
 rw [decide_eq_true rfl]
 go_wp2_with fail
 go_ret
 exact⟨rfl,rfl⟩
theorem zuI {W:World} {ad:Nat->Addr} (h:Sents W ad) (n:Nat) (E:Value) (hE:zch W (ad 3) n E):
 Calls Tryz.prog 42 #[E] W fun e w'=>e= .returned (.int .i64 3)/\W=w':=by
 obtain⟨t,v,rfl⟩:=hE.form
 have HE:=Lib.hid hE
 try clear hE
 have c1:=h.s1.1
 have c2:=h.s2.1
 have c3:=h.s3.1
 have d1:=h.ne (i:=3) (j:=1) (by omega) (by omega) (by omega)
 have d2:=h.ne (i:=3) (j:=2) (by omega) (by omega) (by omega)
 go_enter Tryz.func42,Tryz.ntmps42
 go_wp2_with fail
 refine(zaw (ad 3) (ad 1) h.s1.2 n _ HE.out).mono ?_
 rintro e w' ⟨rfl,rfl⟩
 rw [d1]
 go_wp2_with fail
 refine(zaw (ad 3) (ad 2) h.s2.2 n _ HE.out).mono ?_
 rintro e w' ⟨rfl,rfl⟩
 rw [d2]
 go_wp2_with fail
 refine(zaw (ad 3) (ad 3) h.s3.2 n _ HE.out).mono ?_
 rintro e w' ⟨rfl,rfl⟩
 rw [decide_eq_true rfl]
 go_wp2_with fail
 go_ret
 exact⟨rfl,rfl⟩
theorem zuH {W:World} {ad:Nat->Addr} (h:Sents W ad) (n:Nat) (E:Value) (hE:zch W (ad 4) n E):
 Calls Tryz.prog 42 #[E] W fun e w'=>e= .returned (.int .i64 4)/\W=w':=by
 obtain⟨t,v,rfl⟩:=hE.form
 have HE:=Lib.hid hE
 try clear hE
 have c1:=h.s1.1
 have c2:=h.s2.1
 have c3:=h.s3.1
 have c4:=h.s4.1
 have d1:=h.ne (i:=4) (j:=1) (by omega) (by omega) (by omega)
 have d2:=h.ne (i:=4) (j:=2) (by omega) (by omega) (by omega)
 have d3:=h.ne (i:=4) (j:=3) (by omega) (by omega) (by omega)
 go_enter Tryz.func42,Tryz.ntmps42
 go_wp2_with fail
 refine(zaw (ad 4) (ad 1) h.s1.2 n _ HE.out).mono ?_
 rintro e w' ⟨rfl,rfl⟩
 rw [d1]
 go_wp2_with fail
 refine(zaw (ad 4) (ad 2) h.s2.2 n _ HE.out).mono ?_
 rintro e w' ⟨rfl,rfl⟩
 rw [d2]
 go_wp2_with fail
 refine(zaw (ad 4) (ad 3) h.s3.2 n _ HE.out).mono ?_
 rintro e w' ⟨rfl,rfl⟩
 rw [d3]
 go_wp2_with fail
 refine(zaw (ad 4) (ad 4) h.s4.2 n _ HE.out).mono ?_
 rintro e w' ⟨rfl,rfl⟩
 rw [decide_eq_true rfl]
 go_wp2_with fail
 go_ret
 exact⟨rfl,rfl⟩
theorem zuG {W:World} {ad:Nat->Addr} (h:Sents W ad) (n:Nat) (E:Value) (hE:zch W (ad 5) n E):
 Calls Tryz.prog 42 #[E] W fun e w'=>e= .returned (.int .i64 5)/\W=w':=by
 obtain⟨t,v,rfl⟩:=hE.form
 have HE:=Lib.hid hE
 try clear hE
 have c1:=h.s1.1
 have c2:=h.s2.1
 have c3:=h.s3.1
 have c4:=h.s4.1
 have c5:=h.s5.1
 have d1:=h.ne (i:=5) (j:=1) (by omega) (by omega) (by omega)
 have d2:=h.ne (i:=5) (j:=2) (by omega) (by omega) (by omega)
 have d3:=h.ne (i:=5) (j:=3) (by omega) (by omega) (by omega)
 have d4:=h.ne (i:=5) (j:=4) (by omega) (by omega) (by omega)
 go_enter Tryz.func42,Tryz.ntmps42
 go_wp2_with fail
 refine(zaw (ad 5) (ad 1) h.s1.2 n _ HE.out).mono ?_
 rintro e w' ⟨rfl,rfl⟩
 rw [d1]
 go_wp2_with fail
 refine(zaw (ad 5) (ad 2) h.s2.2 n _ HE.out).mono ?_
 rintro e w' ⟨rfl,rfl⟩
 rw [d2]
 go_wp2_with fail
 refine(zaw (ad 5) (ad 3) h.s3.2 n _ HE.out).mono ?_
 rintro e w' ⟨rfl,rfl⟩
 rw [d3]
 go_wp2_with fail
 refine(zaw (ad 5) (ad 4) h.s4.2 n _ HE.out).mono ?_
 rintro e w' ⟨rfl,rfl⟩
 rw [d4]
 go_wp2_with fail
 refine(zaw (ad 5) (ad 5) h.s5.2 n _ HE.out).mono ?_
 rintro e w' ⟨rfl,rfl⟩
 rw [decide_eq_true rfl]
 go_wp2_with fail
 go_ret
 exact⟨rfl,rfl⟩
theorem zuF {W:World} {ad:Nat->Addr} (h:Sents W ad) (n:Nat) (E:Value) (hE:zch W (ad 6) n E):
 Calls Tryz.prog 42 #[E] W fun e w'=>e= .returned (.int .i64 6)/\W=w':=by
 obtain⟨t,v,rfl⟩:=hE.form
 have HE:=Lib.hid hE
 try clear hE
 have c1:=h.s1.1
 have c2:=h.s2.1
 have c3:=h.s3.1
 have c4:=h.s4.1
 have c5:=h.s5.1
 have c6:=h.s6.1
 have d1:=h.ne (i:=6) (j:=1) (by omega) (by omega) (by omega)
 have d2:=h.ne (i:=6) (j:=2) (by omega) (by omega) (by omega)
 have d3:=h.ne (i:=6) (j:=3) (by omega) (by omega) (by omega)
 have d4:=h.ne (i:=6) (j:=4) (by omega) (by omega) (by omega)
 have d5:=h.ne (i:=6) (j:=5) (by omega) (by omega) (by omega)
 go_enter Tryz.func42,Tryz.ntmps42
 go_wp2_with fail
 refine(zaw (ad 6) (ad 1) h.s1.2 n _ HE.out).mono ?_
 rintro e w' ⟨rfl,rfl⟩
 rw [d1]
 go_wp2_with fail
 refine(zaw (ad 6) (ad 2) h.s2.2 n _ HE.out).mono ?_
 rintro e w' ⟨rfl,rfl⟩
 rw [d2]
 go_wp2_with fail
 refine(zaw (ad 6) (ad 3) h.s3.2 n _ HE.out).mono ?_
 rintro e w' ⟨rfl,rfl⟩
 rw [d3]
 go_wp2_with fail
 refine(zaw (ad 6) (ad 4) h.s4.2 n _ HE.out).mono ?_
 rintro e w' ⟨rfl,rfl⟩
 rw [d4]
 go_wp2_with fail
 refine(zaw (ad 6) (ad 5) h.s5.2 n _ HE.out).mono ?_
 rintro e w' ⟨rfl,rfl⟩
 rw [d5]
 go_wp2_with fail
 refine(zaw (ad 6) (ad 6) h.s6.2 n _ HE.out).mono ?_
 rintro e w' ⟨rfl,rfl⟩
 rw [decide_eq_true rfl]
 go_wp2_with fail
 go_ret
 exact⟨rfl,rfl⟩
theorem zuE {W:World} {ad:Nat->Addr} (h:Sents W ad) (n:Nat) (E:Value) (hE:zch W (ad 7) n E):
 Calls Tryz.prog 42 #[E] W fun e w'=>e= .returned (.int .i64 7)/\W=w':=by
 obtain⟨t,v,rfl⟩:=hE.form
 have HE:=Lib.hid hE
 try clear hE
 have c1:=h.s1.1
 have c2:=h.s2.1
 have c3:=h.s3.1
 have c4:=h.s4.1
 have c5:=h.s5.1
 have c6:=h.s6.1
 have c7:=h.s7.1
 have d1:=h.ne (i:=7) (j:=1) (by omega) (by omega) (by omega)
 have d2:=h.ne (i:=7) (j:=2) (by omega) (by omega) (by omega)
 have d3:=h.ne (i:=7) (j:=3) (by omega) (by omega) (by omega)
 have d4:=h.ne (i:=7) (j:=4) (by omega) (by omega) (by omega)
 have d5:=h.ne (i:=7) (j:=5) (by omega) (by omega) (by omega)
 have d6:=h.ne (i:=7) (j:=6) (by omega) (by omega) (by omega)
 go_enter Tryz.func42,Tryz.ntmps42
 go_wp2_with fail
 refine(zaw (ad 7) (ad 1) h.s1.2 n _ HE.out).mono ?_
 rintro e w' ⟨rfl,rfl⟩
 rw [d1]
 go_wp2_with fail
 refine(zaw (ad 7) (ad 2) h.s2.2 n _ HE.out).mono ?_
 rintro e w' ⟨rfl,rfl⟩
 rw [d2]
 go_wp2_with fail
 refine(zaw (ad 7) (ad 3) h.s3.2 n _ HE.out).mono ?_
 rintro e w' ⟨rfl,rfl⟩
 rw [d3]
 go_wp2_with fail
 refine(zaw (ad 7) (ad 4) h.s4.2 n _ HE.out).mono ?_
 rintro e w' ⟨rfl,rfl⟩
 rw [d4]
 go_wp2_with fail
 refine(zaw (ad 7) (ad 5) h.s5.2 n _ HE.out).mono ?_
 rintro e w' ⟨rfl,rfl⟩
 rw [d5]
 go_wp2_with fail
 refine(zaw (ad 7) (ad 6) h.s6.2 n _ HE.out).mono ?_
 rintro e w' ⟨rfl,rfl⟩
 rw [d6]
 go_wp2_with fail
 refine(zaw (ad 7) (ad 7) h.s7.2 n _ HE.out).mono ?_
 rintro e w' ⟨rfl,rfl⟩
 rw [decide_eq_true rfl]
 go_wp2_with fail
 go_ret
 exact⟨rfl,rfl⟩
theorem zuD {W:World} {ad:Nat->Addr} (h:Sents W ad) (n:Nat) (E:Value) (hE:zch W (ad 8) n E):
 Calls Tryz.prog 42 #[E] W fun e w'=>e= .returned (.int .i64 8)/\W=w':=by
 obtain⟨t,v,rfl⟩:=hE.form
 have HE:=Lib.hid hE
 try clear hE
 have c1:=h.s1.1
 have c2:=h.s2.1
 have c3:=h.s3.1
 have c4:=h.s4.1
 have c5:=h.s5.1
 have c6:=h.s6.1
 have c7:=h.s7.1
 have c8:=h.s8.1
 have d1:=h.ne (i:=8) (j:=1) (by omega) (by omega) (by omega)
 have d2:=h.ne (i:=8) (j:=2) (by omega) (by omega) (by omega)
 have d3:=h.ne (i:=8) (j:=3) (by omega) (by omega) (by omega)
 have d4:=h.ne (i:=8) (j:=4) (by omega) (by omega) (by omega)
 have d5:=h.ne (i:=8) (j:=5) (by omega) (by omega) (by omega)
 have d6:=h.ne (i:=8) (j:=6) (by omega) (by omega) (by omega)
 have d7:=h.ne (i:=8) (j:=7) (by omega) (by omega) (by omega)
 go_enter Tryz.func42,Tryz.ntmps42
 go_wp2_with fail
 refine(zaw (ad 8) (ad 1) h.s1.2 n _ HE.out).mono ?_
 rintro e w' ⟨rfl,rfl⟩
 rw [d1]
 go_wp2_with fail
 refine(zaw (ad 8) (ad 2) h.s2.2 n _ HE.out).mono ?_
 rintro e w' ⟨rfl,rfl⟩
 rw [d2]
 go_wp2_with fail
 refine(zaw (ad 8) (ad 3) h.s3.2 n _ HE.out).mono ?_
 rintro e w' ⟨rfl,rfl⟩
 rw [d3]
 go_wp2_with fail
 refine(zaw (ad 8) (ad 4) h.s4.2 n _ HE.out).mono ?_
 rintro e w' ⟨rfl,rfl⟩
 rw [d4]
 go_wp2_with fail
 refine(zaw (ad 8) (ad 5) h.s5.2 n _ HE.out).mono ?_
 rintro e w' ⟨rfl,rfl⟩
 rw [d5]
 go_wp2_with fail
 refine(zaw (ad 8) (ad 6) h.s6.2 n _ HE.out).mono ?_
 rintro e w' ⟨rfl,rfl⟩
 rw [d6]
 go_wp2_with fail
 refine(zaw (ad 8) (ad 7) h.s7.2 n _ HE.out).mono ?_
 rintro e w' ⟨rfl,rfl⟩
 rw [d7]
 go_wp2_with fail
 refine(zaw (ad 8) (ad 8) h.s8.2 n _ HE.out).mono ?_
 rintro e w' ⟨rfl,rfl⟩
 rw [decide_eq_true rfl]
 go_wp2_with fail
 go_ret
 exact⟨rfl,rfl⟩
theorem zuC {W:World} {ad:Nat->Addr} (h:Sents W ad) (n:Nat) (E:Value) (hE:zch W (ad 9) n E):
 Calls Tryz.prog 42 #[E] W fun e w'=>e= .returned (.int .i64 9)/\W=w':=by
 obtain⟨t,v,rfl⟩:=hE.form
 have HE:=Lib.hid hE
 try clear hE
 have c1:=h.s1.1
 have c2:=h.s2.1
 have c3:=h.s3.1
 have c4:=h.s4.1
 have c5:=h.s5.1
 have c6:=h.s6.1
 have c7:=h.s7.1
 have c8:=h.s8.1
 have c9:=h.s9.1
 have d1:=h.ne (i:=9) (j:=1) (by omega) (by omega) (by omega)
 have d2:=h.ne (i:=9) (j:=2) (by omega) (by omega) (by omega)
 have d3:=h.ne (i:=9) (j:=3) (by omega) (by omega) (by omega)
 have d4:=h.ne (i:=9) (j:=4) (by omega) (by omega) (by omega)
 have d5:=h.ne (i:=9) (j:=5) (by omega) (by omega) (by omega)
 have d6:=h.ne (i:=9) (j:=6) (by omega) (by omega) (by omega)
 have d7:=h.ne (i:=9) (j:=7) (by omega) (by omega) (by omega)
 have d8:=h.ne (i:=9) (j:=8) (by omega) (by omega) (by omega)
 go_enter Tryz.func42,Tryz.ntmps42
 go_wp2_with fail
 refine(zaw (ad 9) (ad 1) h.s1.2 n _ HE.out).mono ?_
 rintro e w' ⟨rfl,rfl⟩
 rw [d1]
 go_wp2_with fail
 refine(zaw (ad 9) (ad 2) h.s2.2 n _ HE.out).mono ?_
 rintro e w' ⟨rfl,rfl⟩
 rw [d2]
 go_wp2_with fail
 refine(zaw (ad 9) (ad 3) h.s3.2 n _ HE.out).mono ?_
 rintro e w' ⟨rfl,rfl⟩
 rw [d3]
 go_wp2_with fail
 refine(zaw (ad 9) (ad 4) h.s4.2 n _ HE.out).mono ?_
 rintro e w' ⟨rfl,rfl⟩
 rw [d4]
 go_wp2_with fail
 refine(zaw (ad 9) (ad 5) h.s5.2 n _ HE.out).mono ?_
 rintro e w' ⟨rfl,rfl⟩
 rw [d5]
 go_wp2_with fail
 refine(zaw (ad 9) (ad 6) h.s6.2 n _ HE.out).mono ?_
 rintro e w' ⟨rfl,rfl⟩
 rw [d6]
 go_wp2_with fail
 refine(zaw (ad 9) (ad 7) h.s7.2 n _ HE.out).mono ?_
 rintro e w' ⟨rfl,rfl⟩
 rw [d7]
 go_wp2_with fail
 refine(zaw (ad 9) (ad 8) h.s8.2 n _ HE.out).mono ?_
 rintro e w' ⟨rfl,rfl⟩
 rw [d8]
 go_wp2_with fail
 refine(zaw (ad 9) (ad 9) h.s9.2 n _ HE.out).mono ?_
 rintro e w' ⟨rfl,rfl⟩
 rw [decide_eq_true rfl]
 go_wp2_with fail
 go_ret
 exact⟨rfl,rfl⟩
theorem zsT {W:World} {ad:Nat->Addr} (h:Sents W ad) (k:Nat) (hk:1<=k/\k<=9) (n:Nat) (E:Value) (hE:zch W (ad k) n E):
 Calls Tryz.prog 42 #[E] W fun e w'=>e= .returned (.int .i64 k)/\W=w':=by
 obtain rfl | rfl | rfl | rfl | rfl | rfl | rfl | rfl | rfl:k=1\/k=2\/k=3\/k=4\/k=5\/k=6\/k=7\/k=8\/k=9:=by omega
 ·exact zuK h n E hE
 ·exact zuJ h n E hE
 ·exact zuI h n E hE
 ·exact zuH h n E hE
 ·exact zuG h n E hE
 ·exact zuF h n E hE
 ·exact zuE h n E hE
 ·exact zuD h n E hE
 ·exact zuC h n E hE
end
section
open Go.RowKit
attribute [local go_sem_proc ↓] reduceIte
attribute [local go_sem_proc] reduceCtorEq Nat.reduceBEq Nat.reduceAdd Nat.reduceSub Nat.reduceEqDiff Nat.reduceLT Nat.reduceLeDiff Nat.reduceMul Int.reduceToNat Int.reduceBEq Int.reduceBNe Int.reduceEq Int.reduceLT Int.reduceLE
attribute [local go_sem] zrb zk3 znw zhq zne zfJ zh5 zfK List.isEmpty_cons Array.isEmpty_iff zig zkX zga zhp zfi zdf zce zkY zd4 zfk zcG zeo zmW zbp mfind zek Rd.map AV.bare AV.bare.bareL AV.ofVal zao zc6 zdO zd8 zdv Takes zal zah zq8 zkZ zq7 znz zts znx zfj zra znq zny zq6 zii znu zq9 znr zgc znv zgb znt zih ztr zk0 ztp ztq zrc zrd ztk ztm zqP ztl zqM zqN zqO zp6 zmD zmu zlH zqq unRd zl9 exRd val zdU zcK seen AV.plain AV.soft adopt fzArgs Rd.run AV.asCells zf0 runL Comes' Rd.row Rd.bind Out.app apps Eff.app St.renew St.setRow St.show St.put St.init upd zhr zk5 zsI eqFs zby zk4 zeQ zoP zcH zcI zhu zht bound zhs zds zep zk1 zcC zf9 zd1 zck fz zbx zcl shows zbi splice wrs wes Value.oneCell' List.getD_cons_zero List.getD_cons_succ List.getD_nil List.length_cons List.length_nil List.map_cons List.map_nil List.nil_append List.cons_append List.all_cons List.all_nil List.getElem?_cons_zero List.getElem?_cons_succ List.set_cons_zero List.set_cons_succ List.take_succ_cons List.take_zero List.drop_succ_cons List.drop_zero List.take_nil List.drop_nil List.replicate_succ List.replicate_zero Bool.and_true Bool.true_and Bool.and_self and_self true_and and_true Nat.zero_add Nat.add_zero Option.some.injEq Nat.zero_lt_succ Bool.not_true Bool.not_false ne_eq not_true_eq_false not_false_eq_true Option.map_some Option.map_none List.toList_toArray head zhe zaI List.length_map Int.toNat_natCast Int.natCast_nonneg List.getElem?_map decide_true decide_false Bool.false_eq_true if_true if_false Bool.or_self Bool.or_true Bool.true_or Bool.false_or Bool.or_false Bool.and_false Bool.false_and List.flatten_cons List.flatten_nil List.append_nil nat0 or_self or_false false_or or_true true_or and_false false_and List.length_append List.isEmpty_nil bne_self_eq_false beq_self_eq_true zai ztd bytesOf_map wants Int.cast_ofNat_Int gt_iff_lt ge_iff_le
attribute [local go_sem <-] List.map_drop List.map_take
/-! Weaker values -/
theorem Str.iface {t:TypeId} {c' c:AV} (h:Str c' c):Str (.iface t c') (.iface t c):=fun S w v hv=>by
 cases hv with
 | iface _ v _ hv=>exact .iface t v c (h S w v hv)
theorem Str.ref1 {cs' cs:List AV} {off:Nat} (h:Strs cs' cs):Str (.ref cs.length [cs'] 0 off) (.ref cs.length [cs] 0 off):=fun S w v hv=>by
 cases hv with
 | ref sz es i off b o u hz hc hr=>
   have at': ∀(i j:Nat) (c:AV),cellAt [cs] i j=some c-> ∃c',cellAt [cs'] i j=some c'/\Str c' c:=fun i j c hcc=>by
    cases i with
    | zero=>
      have hj:cs[j]? =some c:=hcc
      have hlt:j<cs'.length:=by rw [h.1]; exact(List.getElem?_eq_some_iff.1 hj).1
      exact⟨cs'[j],List.getElem?_eq_getElem hlt,h.2 j _ c (List.getElem?_eq_getElem hlt) hj⟩
    | succ i=>simp [cellAt] at hcc
   refine .ref _ [cs] 0 off b o u (fun i e he=>by
    cases i with
    | zero=>simp at he; rw [<-he]
    | succ i=>simp at he) (fun i j c hcc=> ?_) fun i j c hcc=> ?_
   ·obtain⟨c',h1,_⟩:=at' i j c hcc
    exact hc i j c' h1
   ·obtain⟨c',h1,h2⟩:=at' i j c hcc
    exact h2 S w _ (hr i j c' h1)
abbrev sentV (a:Addr):AV:= .lit (.iface 379 (.pointer (some a)))
abbrev errV (p:Int) (e:AV):AV:= .iface 159 (.ref 3 [[.any,I p,e]] 0 0)
abbrev nilE:AV:= .lit .nilIface
theorem zsJ (s p:AV) (q:Int) (hp:p=I q) (e:AV):RStr (.iface 159 (.ref 3 [[s,p,e]] 0 0)) (errV q e):=by
 subst hp
 exact .of (.iface (.ref1 (cs:=[.any,I q,e]) (.cons (.any _) (.refl _)))) (fun _ _ _ h=>by cases h) (fun _ _ _ h=>by cases h)
def zjT (ad:Nat->Addr) (g:Nat):Option AV:=
 if g=1 then some (sentV (ad 1)) else
 if g=2 then some (sentV (ad 2)) else
 if g=3 then some (sentV (ad 3)) else
 if g=4 then some (sentV (ad 4)) else
 if g=5 then some (sentV (ad 5)) else
 if g=6 then some (sentV (ad 6)) else
 if g=0 then some (sentV (ad 7)) else
 if g=7 then some (sentV (ad 8)) else
 if g=8 then some (sentV (ad 9)) else none
structure More where
 inv:World->Prop
 up: ∀w w',inv w->Below w.heap.size w w'->inv w'
def zuA (ad:Nat->Addr) (mo:More):Env:=⟨zjT ad,fun w=>Sents w ad/\mo.inv w,fun w w' h hb=>⟨h.1.below hb,mo.up w w' h.2 hb⟩⟩
theorem zrf {ad:Nat->Addr} {mo:More} {w:World} (h:Sents w ad) (hm:mo.inv w):EnvOk (zuA ad mo) (fun b _=>b<w.heap.size) w:=by
 refine⟨⟨h,hm⟩,fun b o hb=>hb,fun g c hg=> ?_⟩
 have one: ∀ {g:Nat} {a:Addr},Sent w g a-> ∃u,w.cell? ⟨g,0,none⟩=some u/\u.oneCell'=true/\g<w.heap.size/\RV (fun b _=>b<w.heap.size) w u (sentV a):=fun hs=>⟨_,hs.1,rfl,zfN hs.1, .lit _⟩
 have hg:zjT ad g=some c:=hg
 unfold zjT at hg
 split at hg
 ·rename_i e; subst e; cases hg; exact one h.s1
 split at hg
 ·rename_i e; subst e; cases hg; exact one h.s2
 split at hg
 ·rename_i e; subst e; cases hg; exact one h.s3
 split at hg
 ·rename_i e; subst e; cases hg; exact one h.s4
 split at hg
 ·rename_i e; subst e; cases hg; exact one h.s5
 split at hg
 ·rename_i e; subst e; cases hg; exact one h.s6
 split at hg
 ·rename_i e; subst e; cases hg; exact one h.s7
 split at hg
 ·rename_i e; subst e; cases hg; exact one h.s8
 split at hg
 ·rename_i e; subst e; cases hg; exact one h.s9
 cases hg
section
variable {ad:Nat->Addr} {mo:More} {f:Nat->AV}
end
theorem zhf {env:Env} {g:Nat} {c:AV} (h:env g=some c) (f:Nat->AV):gt env f (.global g)= .ref 1 [[c]] 0 0:=by simp only [gt,h]
theorem zb4 (env:Env) (s:List UInt8) (a:Addr):Con Tryz.prog env 84 [Sg s,sentV a] (errV (-1) (sentV a)):=by
 refine zan Tryz.func84 rfl Tryz.call84 (by rw [Tryz.ntmps84]; simp) ?_
 rw [Tryz.ntmps84,Tryz.results84]
 repeat (first | refine oO rfl (by simp only [go_sem]; exact⟨rfl,rfl⟩) ?_ | refine gR ?_ | refine gO ?_ | refine oZ (zas ?_) | refine oZ ?_ | refine oS ?_ | refine gT ?_ | refine gD Tryz.mixed ?_ | refine oB ?_ | refine oK ?_ | (refine oX ?_; simp only [zal,zah, ↓reduceIte,Nat.reduceEqDiff,reduceCtorEq]))
 (refine zaf ?_; refine⟨_,(by show (zao _ _ _).run _=some _; simp only [go_sem]; rfl), ?_⟩)
 exact zsJ _ _ _ rfl _
/-! fault.Code -/
theorem zmp {P:Program} {env:Env} {f:FuncId} {cs:List AV} {u:Value} (henter: ∀(args:Array Value) (w:World),(callFunc f args).run P w= .ok (.enter f args) w)
 (h: ∀(w:World) (S:Nat->Nat->Prop) (vs:List Value),EnvOk env S w->vs.length=cs.length->(∀(i:Nat) (v:Value) (c:AV),vs[i]? =some v->cs[i]? =some c->RV S w v c)->Calls P f vs.toArray w fun e w'=>e= .returned u/\Below w.heap.size w w'):Con P env f cs (.lit u):=by
 refine⟨henter,fun w S vs hE hl hv=>(h w S vs hE hl hv).mono ?_⟩
 rintro e w' ⟨rfl,hb⟩
 exact⟨u,rfl,hb,S,fun _ _ h=>h,fun _ _ h=> .inl h,fun b o hb'=>Nat.lt_of_lt_of_le (hE.low b o hb') hb.size, .lit _⟩
theorem zn6 {w:World} {ad:Nat->Addr} (h:Sents w ad) (k:Nat) (hk:1<=k/\k<=9):Lies w (ad k):=by
 obtain rfl | rfl | rfl | rfl | rfl | rfl | rfl | rfl | rfl:k=1\/k=2\/k=3\/k=4\/k=5\/k=6\/k=7\/k=8\/k=9:=by omega
 ·exact h.s1.2
 ·exact h.s2.2
 ·exact h.s3.2
 ·exact h.s4.2
 ·exact h.s5.2
 ·exact h.s6.2
 ·exact h.s7.2
 ·exact h.s8.2
 ·exact h.s9.2
end
section
open Go.RowKit
attribute [go_sem_proc ↓] reduceIte
attribute [go_sem_proc] reduceCtorEq Nat.reduceBEq Nat.reduceAdd Nat.reduceSub Nat.reduceEqDiff Nat.reduceLT Nat.reduceLeDiff Nat.reduceMul Int.reduceToNat Int.reduceBEq Int.reduceBNe Int.reduceEq Int.reduceLT Int.reduceLE
attribute [go_sem] zrb zk3 znw zhq zne zfJ zh5 zfK List.isEmpty_cons Array.isEmpty_iff zig zkX zga zhp zfi zdf zce zkY zd4 zfk zcG zeo zmW zbp mfind zek Rd.map AV.bare AV.bare.bareL AV.ofVal zao zc6 zdO zd8 zdv Takes zal zah zq8 zkZ zq7 znz zts znx zfj zra znq zny zq6 zii znu zq9 znr zgc znv zgb znt zih ztr zk0 ztp ztq zrc zrd ztk ztm zqP ztl zqM zqN zqO zp6 zmD zmu zlH zqq unRd zl9 exRd val zdU zcK seen AV.plain AV.soft adopt fzArgs Rd.run AV.asCells zf0 runL Comes' Rd.row Rd.bind Out.app apps Eff.app St.renew St.setRow St.show St.put St.init upd zhr zk5 zsI eqFs zby zk4 zeQ zoP zcH zcI zhu zht bound zhs zds zep zk1 zcC zf9 zd1 zck fz zbx zcl shows zbi splice wrs wes Value.oneCell' List.getD_cons_zero List.getD_cons_succ List.getD_nil List.length_cons List.length_nil List.map_cons List.map_nil List.nil_append List.cons_append List.all_cons List.all_nil List.getElem?_cons_zero List.getElem?_cons_succ List.set_cons_zero List.set_cons_succ List.take_succ_cons List.take_zero List.drop_succ_cons List.drop_zero List.take_nil List.drop_nil List.replicate_succ List.replicate_zero Bool.and_true Bool.true_and Bool.and_self and_self true_and and_true Nat.zero_add Nat.add_zero Option.some.injEq Nat.zero_lt_succ Bool.not_true Bool.not_false ne_eq not_true_eq_false not_false_eq_true Option.map_some Option.map_none List.toList_toArray head zhe zaI List.length_map Int.toNat_natCast Int.natCast_nonneg List.getElem?_map decide_true decide_false Bool.false_eq_true if_true if_false Bool.or_self Bool.or_true Bool.true_or Bool.false_or Bool.or_false Bool.and_false Bool.false_and List.flatten_cons List.flatten_nil List.append_nil nat0 or_self or_false false_or or_true true_or and_false false_and List.length_append List.isEmpty_nil bne_self_eq_false beq_self_eq_true zai ztd bytesOf_map wants Int.cast_ofNat_Int gt_iff_lt ge_iff_le
attribute [go_sem <-] List.map_drop List.map_take
end
section
open Go.RowKit
theorem bneA:(∀a b:Int,(a != b)= !(a==b))/\(∀a b:Nat,(a != b)= !(a==b))/\(∀a b:List UInt8,(a != b)= !(a==b))/\(∀a b:Bool,(a != b)= !(a==b)):=⟨fun _ _=>rfl,fun _ _=>rfl,fun _ _=>rfl,fun _ _=>rfl⟩
theorem st0 {p q:Prop} (k:q) (h:q->p:=by
 intro k
 first
 | refine oO rfl (by simp only [go_sem]; exact⟨rfl,rfl⟩) ?_
 | refine gR ?_
 | refine gO ?_
 | refine oZ (zas ?_)
 | refine oZ ?_
 | refine oS ?_
 | refine gT ?_
 | refine gD Tryz.mixed ?_
 | refine oB ?_
 | refine oK ?_
 |(refine oX ?_; simp only [zal,zah, ↓reduceIte,Nat.reduceEqDiff,reduceCtorEq])
 | refine oY (by simp only [go_sem]; exact iR) ?_
 | refine oN (by simp only [go_sem]; exact iR) ?_
 exact k):p:=h k
theorem st {p q:Prop} (k:q) (h:q->p:=by
 intro k
 first
 | refine oO rfl (by simp only [go_sem,F]; exact⟨rfl,rfl⟩) ?_
 | refine gR ?_
 | refine gO ?_
 | refine oZ (zas ?_)
 | refine oZ ?_
 | refine oS ?_
 | refine gT ?_
 | refine gD Tryz.mixed ?_
 | refine oB ?_
 | refine oK ?_
 |(refine oX ?_; simp only [zal,zah, ↓reduceIte,Nat.reduceEqDiff,reduceCtorEq])
 | refine oY (by simp only [go_sem,F]; exact iR) ?_
 | refine oN (by simp only [go_sem,F]; exact iR) ?_
 exact k):p:=h k
theorem sg0 {p q:Prop} (k:q) (h:q->p:=by
 intro k
 first
 | refine oO rfl (by simp only [go_sem]; exact⟨rfl,rfl⟩) ?_
 | refine gR ?_
 | refine gO ?_
 | refine oZ (zas ?_)
 | refine oZ ?_
 | refine oS ?_
 | refine gT ?_
 | refine gD Tryz.mixed ?_
 | refine oB ?_
 | refine oK ?_
 |(refine oX ?_; simp only [zal,zah, ↓reduceIte,Nat.reduceEqDiff,reduceCtorEq])
 exact k):p:=h k
theorem sg {p q:Prop} (k:q) (h:q->p:=by
 intro k
 first
 | refine oO rfl (by simp only [go_sem,F]; exact⟨rfl,rfl⟩) ?_
 | refine gR ?_
 | refine gO ?_
 | refine oZ (zas ?_)
 | refine oZ ?_
 | refine oS ?_
 | refine gT ?_
 | refine gD Tryz.mixed ?_
 | refine oB ?_
 | refine oK ?_
 |(refine oX ?_; simp only [zal,zah, ↓reduceIte,Nat.reduceEqDiff,reduceCtorEq])
 exact k):p:=h k
section
variable {P:Program} {env:Env} {nt:Nat} {Q:Exit->St->Prop} {s:St}
theorem cC0 {o:Oper} {f:FuncId} {args:List AV} {rest:List Stp} {s1:St} {ft:Foot} {cs:List AV} {res:AV} {K:St->List Foot->Prop} (hcon:Con P env f cs res) (k:aops P env rest s1 fun s2 fts=>K s2 (ft::fts)) (hc:zaZ env s.f o=some (f,args):=by exact rfl)
 (ha:Takes (fzArgs args) s cs:=by simp only [go_sem]; exact iR) (h:Comes' (runL (zcK false o.dst args res) s [] []) s o.dst s1 ft:=by simp only [go_sem]; exact⟨rfl,rfl⟩):aops P env (⟨o, .always⟩::rest) s K:=oC hc hcon ha h k
theorem cC {o:Oper} {f:FuncId} {args:List AV} {rest:List Stp} {s1:St} {ft:Foot} {cs:List AV} {res:AV} {K:St->List Foot->Prop} (hcon:Con P env f cs res) (k:aops P env rest s1 fun s2 fts=>K s2 (ft::fts)) (hc:zaZ env s.f o=some (f,args):=by exact rfl)
 (ha:Takes (fzArgs args) s cs:=by simp only [go_sem,F]; exact iR) (h:Comes' (runL (zcK false o.dst args res) s [] []) s o.dst s1 ft:=by simp only [go_sem,F]; exact⟨rfl,rfl⟩):aops P env (⟨o, .always⟩::rest) s K:=oC hc hcon ha h k
theorem aR0 (h:Q .ret s:=by show (zao _ _ _).run _=some _; simp only [go_sem]):awp P env nt .ret Q s:=zaf h
theorem aR (h:Q .ret s:=by show (zao _ _ _).run _=some _; simp only [go_sem,F]):awp P env nt .ret Q s:=zaf h
end
end
section
open Go.RowKit
def zbB (c:Int):Bool:=decide (c=95\/(97<=c/\c<=122)\/(65<=c/\c<=90))
def zgd (c:Int):Bool:=decide (48<=c/\c<=57)
def zbq (c:Int):Bool:=zbB c||zgd c||decide (c=46)
theorem zfF (c:Int) (w:World):Calls Tryz.prog 240 #[.int .u8 c] w fun e w'=>e= .returned (.bool (zbB c))/\w=w':=by
 by_cases h1:c=95
 ·subst h1
  go_enter Tryz.func240,Tryz.ntmps240
  go_wp2
  go_ret
  exact⟨rfl,rfl⟩
 have e1:(c==95)=false:=by simp [h1]
 by_cases h2:97<=c<;>by_cases h3:c<=122<;>by_cases h4:65<=c<;>by_cases h5:c<=90
 all_goals first
  |(exfalso; omega)
  |(go_enter Tryz.func240,Tryz.ntmps240
    go_wp2
    go_ret
    exact⟨by simp [zbB]; omega,rfl⟩)
theorem zrl (c:Int) (w:World):Calls Tryz.prog 287 #[.int .u8 c] w fun e w'=>e= .returned (.bool (zgd c))/\w=w':=by
 by_cases h2:48<=c
 all_goals
  go_enter Tryz.func287,Tryz.ntmps287
  go_wp2
  go_ret
  exact⟨by simp [zgd]; try omega,rfl⟩
theorem zky (c:Int) (w:World):Calls Tryz.prog 242 #[.int .u8 c] w fun e w'=>e= .returned (.bool (zbq c))/\w=w':=by
 by_cases h1:zbB c<;>by_cases h2:zgd c
 all_goals
  go_enter Tryz.func242,Tryz.ntmps242
  go_wp2_with (first
   |(go_at_call 240; refine(zfF _ _).mono ?_; rintro e w' ⟨rfl,rfl⟩)
   |(go_at_call 287; refine(zrl _ _).mono ?_; rintro e w' ⟨rfl,rfl⟩))
  go_ret
  exact⟨by simp [zbq,h1,h2]<;>rfl,rfl⟩
def innerLen (l:List UInt8):Nat:=(l.takeWhile fun c=>zbq c.toNat).length
theorem zg7 (l:List UInt8) (k:Nat) (hk:k<=l.length) (h1: ∀j (h:j<l.length),j<k->zbq l[j].toNat=true) (h2: ∀h:k<l.length,¬zbq l[k].toNat=true):innerLen l=k:=by
 unfold innerLen
 induction l generalizing k with
 | nil=>simp at hk |-; omega
 | cons c l ih=>
   rw [List.takeWhile_cons]
   cases k with
   | zero=>
     rw [if_neg (show ¬zbq c.toNat=true from h2 (by simp))]
     rfl
   | succ k=>
     rw [if_pos (show zbq c.toNat=true from h1 0 (by simp) (by omega))]
     simp only [List.length_cons] at hk |-
     rw [ih k (by omega) (fun j h hj=>h1 (j+1) (by simpa using h) (by omega)) (fun h=>h2 (by simpa using h))]
theorem zpN (l:List UInt8) (hl:l.length<=9223372036854775807) (w:World):
 Calls Tryz.prog 241 #[.string ⟨l.toArray⟩, .int .i64 0, .func (.func 242) #[] #[]] w fun e w'=>e= .returned (.int .i64 (innerLen l))/\w=w':=by
 go_enter Tryz.func241,Tryz.ntmps241
 go_wp2_with fail
 go_loop [1] (fun i=> ∃k:Nat,k<=l.length/\i= .int .i64 k/\ ∀j (h:j<l.length),j<k->zbq l[j].toNat=true) (fun i=>l.length-(intOf i).toNat)
 case atStart=>exact⟨0,by omega,rfl,fun j _ h=>by omega⟩
 case round=>
  obtain⟨k,hk,rfl,hall⟩:=hrel
  have HA:=Lib.hid hall
  try clear hall
  by_cases hlt:k<l.length
  ·by_cases hin:zbq l[k].toNat=true
   ·have hin':zbq (((ByteArray.mk l.toArray)[k]'(by simpa [ByteArray.size] using hlt)).toNat)=true:=hin
    have HI:=Lib.hid hin
    try clear hin
    go_wp2_with (go_at_call 242; refine(zky _ _).mono ?_; rintro e w' ⟨rfl,rfl⟩)
    go_round
    case rel=>
     refine⟨k+1,by omega,by go_num,fun j h hj=> ?_⟩
     rcases Nat.lt_or_ge j k with h' | h'
     ·exact HA.out j h h'
     ·obtain rfl:j=k:=by omega
      exact HI.out
    case measure=>simp [intOf]; omega
   ·have hin':zbq (((ByteArray.mk l.toArray)[k]'(by simpa [ByteArray.size] using hlt)).toNat)=false:=Bool.eq_false_iff.2 hin
    have HI:=Lib.hid hin
    try clear hin
    go_wp2_with (go_at_call 242; refine(zky _ _).mono ?_; rintro e w' ⟨rfl,rfl⟩)
    go_ret
    refine⟨?_,rfl⟩
    rw [zg7 l k hk HA.out (fun _=>HI.out)]
    rfl
  ·go_wp2_with fail
   go_ret
   refine⟨?_,rfl⟩
   rw [zg7 l k hk HA.out (fun h=>absurd h hlt)]
   rfl
def zaJ (l:List UInt8):Bool:=decide (l.length<=32)&&(match l with | []=>false | c::_=>zbB c.toNat)&&l.all fun c=>zbq c.toNat
theorem zkz (l:List UInt8):(innerLen l=l.length)↔(l.all fun c=>zbq c.toNat)=true:=by
 unfold innerLen
 induction l with
 | nil=>simp
 | cons c l ih=>
   rw [List.takeWhile_cons]
   by_cases h:zbq c.toNat=true
   ·rw [if_pos h]
    simp only [List.length_cons,List.all_cons,h,Bool.true_and]
    rw [<-ih]
    omega
   ·rw [if_neg h]
    simp [h]
theorem zsm (l:List UInt8) (hl:l.length<=9223372036854775807) (w:World):
 Calls Tryz.prog 178 #[.string ⟨l.toArray⟩] w fun e w'=>e= .returned (.bool (zaJ l))/\w=w':=by
 cases l with
 | nil=>
   go_enter Tryz.func178,Tryz.ntmps178
   go_wp2_with fail
   go_ret
   exact⟨rfl,rfl⟩
 | cons c r=>
   generalize hL:c::r=l at*
   have hpos:0<l.length:=by rw [<-hL]; simp
   have h0:l[0]=c:=by subst hL; rfl
   have hne:l.isEmpty=false:=by rw [<-hL]; rfl
   have hN:zaJ l=(decide (l.length<=32)&&zbB c.toNat&&decide ((innerLen l:Int)=l.length)):=by
    subst hL
    simp only [zaJ]
    congr 1
    rw [Bool.eq_iff_iff, <-zkz]
    simp only [decide_eq_true_eq]
    omega
   have HN:=Lib.hid hN
   try clear hN hL
   by_cases h32:l.length<=32
   ·by_cases hc:zbB c.toNat=true
    ·have hc':zbB (((ByteArray.mk l.toArray)[0]'(by simpa [ByteArray.size] using hpos)).toNat)=true:=by rw [ztc l 0 hpos,h0]; exact hc
     have HC:=Lib.hid hc
     try clear hc h0
     go_enter Tryz.func178,Tryz.ntmps178
     go_wp2_with (first
      |(go_at_call 240; refine(zfF _ _).mono ?_; rintro e w' ⟨rfl,rfl⟩)
      |(go_at_call 241; refine(zpN l hl _).mono ?_; rintro e w' ⟨rfl,rfl⟩))
     go_ret
     rw [HN.out]
     refine⟨?_,rfl⟩
     simp [h32,HC.out]
     rfl
    ·have hc':zbB (((ByteArray.mk l.toArray)[0]'(by simpa [ByteArray.size] using hpos)).toNat)=false:=by rw [ztc l 0 hpos,h0]; exact Bool.eq_false_iff.2 hc
     have HC:=Lib.hid hc
     try clear hc h0
     go_enter Tryz.func178,Tryz.ntmps178
     go_wp2_with (go_at_call 240; refine(zfF _ _).mono ?_; rintro e w' ⟨rfl,rfl⟩)
     go_ret
     rw [HN.out]
     exact⟨by simp [HC.out],rfl⟩
   ·go_enter Tryz.func178,Tryz.ntmps178
    go_wp2_with fail
    go_ret
    rw [HN.out]
    exact⟨by simp [h32]; try omega,rfl⟩
/-! The document's -/
end
section
open Go.RowKit
theorem zbE (env:Env) (c:UInt8):Con Tryz.prog env 135 [.lit (.int .u8 (c.toNat:Int))] (B (zbB c.toNat)):=by
 refine zaa Tryz.func135 rfl Tryz.call135 (by rw [Tryz.ntmps135]; simp) ?_
 rw [Tryz.ntmps135,Tryz.results135]
 have hc:=c.toNat_lt
 generalize c.toNat=n at*
 unfold zbB
 by_cases h1:(n:Int)=95
 ·have e:decide ((n:Int)=95\/(97<=(n:Int)/\(n:Int)<=122)\/(65<=(n:Int)/\(n:Int)<=90))=true:=by simp; omega
  rw [e]
  have h1:((n:Int)==95)=true:=by simp; omega
  have F:=h1
  repeat refine sg ?_
  exact aR
 ·have h1':((n:Int)==95)=false:=by simp; omega
  by_cases h2:(97:Int)<=(n:Int)
  ·by_cases h3:(n:Int)<=122
   ·have e:decide ((n:Int)=95\/(97<=(n:Int)/\(n:Int)<=122)\/(65<=(n:Int)/\(n:Int)<=90))=true:=by simp; omega
    rw [e]
    have F:=ai h1'<|ai h2<|h3
    repeat refine sg ?_
    exact aR
   ·have e:decide ((n:Int)=95\/(97<=(n:Int)/\(n:Int)<=122)\/(65<=(n:Int)/\(n:Int)<=90))=false:=by simp; omega
    have h4:(65:Int)<=(n:Int):=by omega
    have h5: ¬(n:Int)<=90:=by omega
    rw [e]
    have F:=ai h1'<|ai h2<|ai h3<|ai h4<|h5
    repeat refine sg ?_
    exact aR
  ·by_cases h4:(65:Int)<=(n:Int)
   ·by_cases h5:(n:Int)<=90
    ·have e:decide ((n:Int)=95\/(97<=(n:Int)/\(n:Int)<=122)\/(65<=(n:Int)/\(n:Int)<=90))=true:=by simp; omega
     rw [e]
     have F:=ai h1'<|ai h2<|ai h4<|h5
     repeat refine sg ?_
     exact aR
    ·have e:decide ((n:Int)=95\/(97<=(n:Int)/\(n:Int)<=122)\/(65<=(n:Int)/\(n:Int)<=90))=false:=by simp; omega
     rw [e]
     have F:=ai h1'<|ai h2<|ai h4<|h5
     repeat refine sg ?_
     exact aR
   ·have e:decide ((n:Int)=95\/(97<=(n:Int)/\(n:Int)<=122)\/(65<=(n:Int)/\(n:Int)<=90))=false:=by simp; omega
    rw [e]
    have F:=ai h1'<|ai h2<|h4
    repeat refine sg ?_
    exact aR
theorem zeB (env:Env) (c:UInt8):Con Tryz.prog env 136 [.lit (.int .u8 (c.toNat:Int))] (B (zgd c.toNat)):=by
 refine zaa Tryz.func136 rfl Tryz.call136 (by rw [Tryz.ntmps136]; simp) ?_
 rw [Tryz.ntmps136,Tryz.results136]
 generalize c.toNat=n at*
 unfold zgd
 by_cases h2:(48:Int)<=(n:Int)
 ·by_cases h3:(n:Int)<=57
  ·rw [decide_eq_true ⟨h2,h3⟩]
   have F:=ai h2<|h3
   repeat refine sg ?_
   exact aR
  ·rw [decide_eq_false (by omega)]
   have F:=ai h2<|h3
   repeat refine sg ?_
   exact aR
 ·rw [decide_eq_false (by omega)]
  have F:=h2
  repeat refine sg ?_
  exact aR
theorem zjA {l:List UInt8} {p:UInt8->Bool} {i:Nat} (h:(l.take i).all p=true) (hi:i<l.length) (hp:p l[i]=true):(l.take (i+1)).all p=true:=by
 rw [List.take_succ_eq_append_getElem hi,List.all_append,h]
 simp [hp]
theorem zuY {l:List UInt8} {p:UInt8->Bool} {i:Nat} (hi:i<l.length) (hp:p l[i]=false):l.all p=false:=by
 rw [Bool.eq_false_iff]
 intro h
 rw [List.all_eq_true] at h
 rw [h _ (List.getElem_mem hi)] at hp
 cases hp
theorem zb0 (env:Env) (l:List UInt8):Con Tryz.prog env 57 [Sg l] (B (zaJ l)):=by
 refine zaa Tryz.func57 rfl Tryz.call57 (by rw [Tryz.ntmps57]; simp) ?_
 rw [Tryz.ntmps57,Tryz.results57]
 by_cases h0:l=[]
 ·subst h0
  repeat refine sg0 ?_
  refine oY (by simp only [go_sem]; exact iR) ?_
  repeat refine sg0 ?_
  (refine zaf ?_; show (zao _ _ _).run _=some _; simp only [go_sem])
  rfl
 obtain⟨c,hc⟩: ∃c,l[0]? =some c:=⟨l[0]'(List.length_pos_iff.2 h0),List.getElem?_eq_getElem _⟩
 have g0:((l.length:Int)==0)=false:=by
  have:=List.length_pos_iff.2 h0
  simp; exact h0
 by_cases h1:l.length<=32
 ·have g1: ¬32< (l.length:Int):=by omega
  by_cases h2:zbB c.toNat=true
  ·have hnm:zaJ l=l.all fun c=>zbq c.toNat:=by
    cases l with
    | nil=>exact(h0 rfl).elim
    | cons d r=>
      simp only [List.getElem?_cons_zero,Option.some.injEq] at hc
      subst hc
      unfold zaJ
      simp only [h2,decide_eq_true h1,Bool.true_and]
   have F:=ai g0<|ai g1<|ai hc<|h2
   repeat refine sg ?_
   refine cC (zbE env c) ?_
   repeat refine sg ?_
   refine oN (by simp only [go_sem,F]; exact iR) ?_
   repeat refine sg ?_
   refine zac (D:=Nat) (fun i _=>[(0,Sg l),(3,I i)]) (fun _ _=>[]) (fun i _ _=>i<=l.length/\((l.take i).all fun c=>zbq c.toNat)=true) (fun i=>l.length-i) 0 ?_ ?_ ?_ ?_
   ·exact⟨Nat.zero_le _,rfl⟩
   ·(simp only [go_sem,F])
   ·(simp only [go_sem,F])
   rintro i vs esc ⟨hi,ha⟩
   by_cases hlt:i<l.length
   ·have g2:=nlt hlt
    have g3:=zab hlt (by omega)
    have g4:l[i]? =some l[i]:=List.getElem?_eq_getElem hlt
    have hnxt:=fun hp=>zjA (p:=fun c=>zbq c.toNat) ha hlt hp
    have hnot:=fun hp=>zuY (p:=fun c=>zbq c.toNat) hlt hp
    try simp only at hnxt
    try simp only at hnot
    generalize l[i]=x at*
    by_cases h5:zbB x.toNat=true
    ·
     have F:=ai g2<|ai g3<|ai g4<|h5
     repeat refine sg ?_
     refine oY (by simp only [go_sem,F]; exact iR) ?_
     repeat refine sg ?_
     refine cC (zbE env x) ?_
     repeat refine sg ?_
     refine oN (by simp only [go_sem,F]; exact iR) ?_
     repeat refine sg ?_
     refine⟨i+1,⟨hlt,hnxt (by simp [zbq,h5])⟩, ?_, ?_, ?_⟩
     ·(simp only [go_sem,F])
     ·(simp only [go_sem,F])
     ·omega
    have h5:zbB x.toNat=false:=by simpa using h5
    by_cases h6:zgd x.toNat=true
    ·
     have F:=ai g2<|ai g3<|ai g4<|ai h5<|h6
     repeat refine sg ?_
     refine oY (by simp only [go_sem,F]; exact iR) ?_
     repeat refine sg ?_
     refine cC (zbE env x) ?_
     repeat refine sg ?_
     refine cC (zeB env x) ?_
     repeat refine sg ?_
     refine oN (by simp only [go_sem,F]; exact iR) ?_
     repeat refine sg ?_
     refine⟨i+1,⟨hlt,hnxt (by simp [zbq,h5,h6])⟩, ?_, ?_, ?_⟩
     ·(simp only [go_sem,F])
     ·(simp only [go_sem,F])
     ·omega
    have h6:zgd x.toNat=false:=by simpa using h6
    by_cases h7:(x.toNat:Int)=46
    ·have h8:((x.toNat:Int) != 46)=false:=by rw [h7]; rfl
     have F:=ai g2<|ai g3<|ai g4<|ai h5<|ai h6<|h8
     repeat refine sg ?_
     refine oY (by simp only [go_sem,F]; exact iR) ?_
     repeat refine sg ?_
     refine cC (zbE env x) ?_
     repeat refine sg ?_
     refine cC (zeB env x) ?_
     repeat refine sg ?_
     refine oN (by simp only [go_sem,F]; exact iR) ?_
     repeat refine sg ?_
     refine⟨i+1,⟨hlt,hnxt (by simp only [zbq,h5,h6,decide_eq_true h7,Bool.or_true])⟩, ?_, ?_, ?_⟩
     ·(simp only [go_sem,F])
     ·(simp only [go_sem,F])
     ·omega
    ·have h8:((x.toNat:Int) != 46)=true:=bne_iff_ne.2 h7
     have F:=ai g2<|ai g3<|ai g4<|ai h5<|ai h6<|h8
     repeat refine sg ?_
     refine oY (by simp only [go_sem,F]; exact iR) ?_
     repeat refine sg ?_
     refine cC (zbE env x) ?_
     repeat refine sg ?_
     refine cC (zeB env x) ?_
     repeat refine sg ?_
     refine oY (by simp only [go_sem,F]; exact iR) ?_
     repeat refine sg ?_
     (refine zaf ?_; show (zao _ _ _).run _=some _; simp only [go_sem,F])
     rw [hnm,hnot (by simp only [zbq,h5,h6,decide_eq_false h7,Bool.or_false])]
   ·have g2: ¬(i:Int)< (l.length:Int):=by omega
    have F:=g2
    repeat refine sg ?_
    refine oN (by simp only [go_sem,F]; exact iR) ?_
    repeat refine sg ?_
    (refine zaf ?_; show (zao _ _ _).run _=some _; simp only [go_sem,F])
    rw [hnm, <-ha,List.take_of_length_le (by omega)]
  ·have h2:zbB c.toNat=false:=by simpa using h2
   have hnm:zaJ l=false:=by
    cases l with
    | nil=>exact(h0 rfl).elim
    | cons d r=>
      simp only [List.getElem?_cons_zero,Option.some.injEq] at hc
      subst hc
      unfold zaJ
      simp only [h2,Bool.and_false,Bool.false_and]
   rw [hnm]
   have F:=ai g0<|ai g1<|ai hc<|h2
   repeat refine sg ?_
   refine cC (zbE env c) ?_
   repeat refine sg ?_
   refine oY (by simp only [go_sem,F]; exact iR) ?_
   repeat refine sg ?_
   exact aR
 ·have g1:32< (l.length:Int):=by omega
  have hnm:zaJ l=false:=by
   unfold zaJ
   rw [decide_eq_false h1]
   rfl
  rw [hnm]
  have F:=ai g0<|ai g1<|hc
  repeat refine sg ?_
  refine oY (by simp only [go_sem,F]; exact iR) ?_
  repeat refine sg ?_
  exact aR
end
section
open Go.RowKit
structure OpD where
 kind:Int
 n:Int
 deriving DecidableEq,Inhabited
structure ActD where
 kind:Int
 n:Int
 name:List UInt8
 code:List OpD
 deriving DecidableEq,Inhabited
structure StD where
 name:List UInt8
 kind:Int
 parent:Int
 initial:Int
 inn:List ActD
 out:List ActD
 deriving DecidableEq,Inhabited
structure TrD where
 src:Int
 event:List UInt8
 guard:List OpD
 acts:List ActD
 target:Int
 deriving DecidableEq,Inhabited
structure VarD where
 name:List UInt8
 start:Int
 deriving DecidableEq,Inhabited
structure ChD where
 name:List UInt8
 initial:Int
 vars:List VarD
 states:List StD
 trans:List TrD
 deriving DecidableEq,Inhabited
def opAV (x:OpD):List AV:=[I x.kind,I x.n]
abbrev opsAV (l:List OpD):AV:= .seq 2 (l.map opAV)
def zaK (x:ActD):List AV:=[I x.kind,I x.n,Sg x.name,opsAV x.code]
abbrev actsAV (l:List ActD):AV:= .seq 4 (l.map zaK)
def stAV (x:StD):List AV:=[Sg x.name,I x.kind,I x.parent,I x.initial,actsAV x.inn,actsAV x.out]
abbrev stsAV (l:List StD):AV:= .seq 6 (l.map stAV)
def trAV (x:TrD):List AV:=[I x.src,Sg x.event,opsAV x.guard,actsAV x.acts,I x.target]
abbrev trsAV (l:List TrD):AV:= .seq 5 (l.map trAV)
def zcO (x:VarD):List AV:=[Sg x.name,I x.start]
abbrev varsAV (l:List VarD):AV:= .seq 2 (l.map zcO)
def chAV (x:ChD):List AV:=[Sg x.name,I x.initial,varsAV x.vars,stsAV x.states,trsAV x.trans]
/-! Lists that are no longer than memory is. -/
def zkR (_:OpD):Prop:=True
def zd2 (x:ActD):Prop:=x.name.length<=maxLen/\(x.code.length<=maxLen/\ ∀y∈x.code,zkR y)
def zkQ (x:StD):Prop:=x.name.length<=maxLen/\(x.inn.length<=maxLen/\ ∀y∈x.inn,zd2 y)/\(x.out.length<=maxLen/\ ∀y∈x.out,zd2 y)
def zkP (x:TrD):Prop:=x.event.length<=maxLen/\(x.guard.length<=maxLen/\ ∀y∈x.guard,zkR y)/\(x.acts.length<=maxLen/\ ∀y∈x.acts,zd2 y)
def zhn (x:VarD):Prop:=x.name.length<=maxLen
def zeA (x:ChD):Prop:=x.name.length<=maxLen/\(x.vars.length<=maxLen/\ ∀y∈x.vars,zhn y)/\(x.states.length<=maxLen/\ ∀y∈x.states,zkQ y)/\(x.trans.length<=maxLen/\ ∀y∈x.trans,zkP y)
end

end Go.Proofs.YtnbjaghjdeicmaaGreatDoor