/- Errors: chains of Faults that end in a sentinel; errors.Is, fault.Code over them. -/
import Derived.Test.YtlmekdfleciejaaGreatDoorProg
import Derived.Test.YtlmekdfleciejaaGreatDoorD1
import Derived.LaidEql
import Derived.Stop.Asserts
set_option maxRecDepth 100000
namespace Go.Proofs.YtlmekdfleciejaaGreatDoor
open Go.RowKit Go.Stop
def Lies (w:World) (a:Addr):Prop:= ∃(ca:Array Value) (ta:TypeId),w.heap[a.block]? =some (.cells ca ta (0,0))
def Sent (w:World) (g:Nat) (a:Addr):Prop:=w.cell? ⟨g,0,none⟩=some (.iface 261 (.pointer (some a)))/\Lies w a
def zbT (w:World) (a:Addr):Nat->Value->Prop
 | 0,E=>E= .iface 261 (.pointer (some a))/\Lies w a
 | n+1,E=> ∃(pb po:Nat) (E':Value),E= .iface 120 (.pointer (some ⟨pb,po,none⟩))/\w.cell? ⟨pb,po+2,none⟩=some E'/\zbT w a n E'
theorem Lies.lt {w:World} {a:Addr} (h:Lies w a):a.block<w.heap.size:=by
 obtain⟨ca,ta,h⟩:=h
 by_cases hl:a.block<w.heap.size
 ·exact hl
 ·rw [Array.getElem?_eq_none (by omega)] at h
  cases h
theorem Lies.below {w w':World} {a:Addr} (h:Lies w a) (hb:Below w.heap.size w w'):Lies w' a:=by
 have:=h.lt
 obtain⟨ca,ta,h⟩:=h
 exact⟨ca,ta,(hb.block _ this).trans h⟩
theorem zoE {w:World} {b o:Nat} {v:Value} (h:w.cell? ⟨b,o,none⟩=some v):b<w.heap.size:=World.block_lt_of_cell? w ⟨b,o,none⟩ h
theorem cell_below {w w':World} {b o:Nat} {v:Value} (h:w.cell? ⟨b,o,none⟩=some v) (hb:Below w.heap.size w w'):w'.cell? ⟨b,o,none⟩=some v:=
 (hb.cell (p:=⟨b,o,none⟩) (zoE h)).trans h
theorem Sent.below {w w':World} {g:Nat} {a:Addr} (h:Sent w g a) (hb:Below w.heap.size w w'):Sent w' g a:=⟨cell_below h.1 hb,h.2.below hb⟩
theorem zbT.below {w w':World} {a:Addr} (hb:Below w.heap.size w w'): ∀ {n:Nat} {E:Value},zbT w a n E->zbT w' a n E
 | 0,_,h=>⟨h.1,h.2.below hb⟩
 | _+1,_,⟨pb,po,E',h1,h2,h3⟩=>⟨pb,po,E',h1,cell_below h2 hb,zbT.below hb h3⟩
theorem zbT.form {w:World} {a:Addr} {n:Nat} {E:Value} (h:zbT w a n E): ∃t v,E= .iface t v:=by
 cases n with
 | zero=>exact⟨_,_,h.1⟩
 | succ n=>exact⟨_,_,h.choose_spec.choose_spec.choose_spec.1⟩
theorem zbT.new {w:World} {g:Nat} {a:Addr} (h:Sent w g a) (s:ByteArray) (p:Int):
 zbT (w.alloc (.cells #[.string s, .int .i64 p, .iface 261 (.pointer (some a))] 124)) a 1 (.iface 120 (.pointer (some ⟨w.heap.size,0,none⟩))):=
 ⟨_,0,_,rfl,(Whole.new w 124 _).cell 2,rfl,h.2.below ((Below.refl _ _).alloc (Nat.le_refl _) _)⟩
theorem zbT.wrap {w:World} {a:Addr} {n:Nat} {E:Value} (h:zbT w a n E) (s:ByteArray) (p:Int):
 zbT (w.alloc (.cells #[.string s, .int .i64 p,E] 124)) a (n+1) (.iface 120 (.pointer (some ⟨w.heap.size,0,none⟩))):=
 ⟨_,0,_,rfl,(Whole.new w 124 _).cell 2,h.below ((Below.refl _ _).alloc (Nat.le_refl _) _)⟩
/-! Closed facts -/
theorem Tryz.callTypeOf (v:Value) (w:World):(callFunc 188 #[.iface 261 v]).run Tryz.prog w= .ok (.value (.iface 207 (.agg #[.pointer (some ⟨11,261,none⟩)]))) w:=by kernel_rfl
theorem Tryz.callComparable (w:World):(callFunc 278 #[.agg #[.pointer (some ⟨11,261,none⟩)]]).run Tryz.prog w= .ok (.value (.bool true)) w:=by kernel_rfl
theorem Tryz.isComp:(Tryz.prog.info? 261).map (·.comparable)=some true:=by kernel_rfl
theorem Tryz.isSize:(Tryz.prog.info? 281).map (·.size)=some 1:=by kernel_rfl
theorem Tryz.noIsE (v:Value) (xT:TypeId) (w:World):(Instr.typeAssert (.iface 261 v) xT 244 true).run Tryz.prog w= .ok (.tuple #[.nilIface, .bool false]) w:=run_typeAssert_lacksB Tryz.underlying244 (by kernel_rfl) (by kernel_rfl) v xT w
theorem Tryz.noUnwrapE (v:Value) (xT:TypeId) (w:World):(Instr.typeAssert (.iface 261 v) xT 214 true).run Tryz.prog w= .ok (.tuple #[.nilIface, .bool false]) w:=run_typeAssert_lacksB Tryz.underlying214 (by kernel_rfl) (by kernel_rfl) v xT w
theorem Tryz.noUnwrapsE (v:Value) (xT:TypeId) (w:World):(Instr.typeAssert (.iface 261 v) xT 216 true).run Tryz.prog w= .ok (.tuple #[.nilIface, .bool false]) w:=run_typeAssert_lacksB Tryz.underlying216 (by kernel_rfl) (by kernel_rfl) v xT w
theorem Tryz.noIsW (v:Value) (xT:TypeId) (w:World):(Instr.typeAssert (.iface 120 v) xT 244 true).run Tryz.prog w= .ok (.tuple #[.nilIface, .bool false]) w:=run_typeAssert_lacksB Tryz.underlying244 (by kernel_rfl) (by kernel_rfl) v xT w
theorem Tryz.hasUnwrapW (v:Value) (xT:TypeId) (w:World):(Instr.typeAssert (.iface 120 v) xT 214 true).run Tryz.prog w= .ok (.tuple #[.iface 120 v, .bool true]) w:=run_typeAssert_hasB Tryz.underlying214 (by kernel_rfl) v xT w
theorem zpp {W:World} (a b:Addr) (hb:Lies W b): ∀(n:Nat) (E:Value),zbT W a n E->
 Calls Tryz.prog 189 #[E, .iface 261 (.pointer (some b)), .bool true] W fun e w'=>e= .returned (.bool (decide (a=b)))/\W=w':=by
 intro n E hE
 obtain⟨i,hi,hcmp⟩:=Option.map_eq_some_iff.1 Tryz.isComp
 obtain⟨j,hj,hjs⟩:=Option.map_eq_some_iff.1 Tryz.isSize
 have nE:=Tryz.noIsE
 have uE:=Tryz.noUnwrapE
 have vE:=Tryz.noUnwrapsE
 have nW:=Tryz.noIsW
 have uW:=Tryz.hasUnwrapW
 have HE:=Lib.hid hE
 try clear hE
 go_enter Tryz.func189,Tryz.ntmps189
 go_wp2
 go_loopg [0] n (fun m E' wl=>W=wl/\zbT W a m E')
 case atStart=>exact⟨rfl,HE.out⟩
 case round=>
  obtain⟨rfl,hE⟩:=hrel
  cases gk with
  | zero=>
    obtain⟨rfl,ca,ta,ha⟩:=hE
    by_cases hab:a=b
    ·subst hab
     have heq:=run_eql_iface_ptr_same (P:=Tryz.prog) W a Tryz.underlying51 Tryz.underlying261 hi hcmp hj
     try clear ha
     go_wp2
     go_ret
     exact⟨by simp,rfl⟩
    ·obtain⟨cb,tb,hb'⟩:=hb
     have heq:=run_eql_iface_ptr_other (P:=Tryz.prog) W Tryz.underlying51 Tryz.underlying261 hi hcmp hj (by rw [hjs]; decide) hab ha hb'
     try clear ha hb'
     go_wp2
     go_ret
     exact⟨by simp [hab],rfl⟩
  | succ m=>
    obtain⟨pb,po,E',rfl,hcell,hE'⟩:=hE
    have hty:=run_eql_iface_types (P:=Tryz.prog) 120 261 (.pointer (some ⟨pb,po,none⟩)) (.pointer (some b)) Tryz.underlying51 (by decide) W
    obtain⟨u1,v1,rfl⟩:=hE'.form
    have HE':=Lib.hid hE'
    try clear hE'
    go_wp2
    go_roundg m
    case rel=>exact⟨rfl,HE'.out⟩
    case measure=>omega
theorem zao {W:World} (a b:Addr) (hb:Lies W b) (n:Nat) (E:Value) (hE:zbT W a n E):
 Calls Tryz.prog 149 #[E, .iface 261 (.pointer (some b))] W fun e w'=>e= .returned (.bool (decide (a=b)))/\W=w':=by
 have tT:=Tryz.callTypeOf
 have cT:=Tryz.callComparable
 obtain⟨t,v,rfl⟩:=hE.form
 have HE:=Lib.hid hE
 try clear hE
 go_enter Tryz.func149,Tryz.ntmps149
 go_wp2_with (go_at_call 189; refine(zpp a b hb n _ HE.out).mono ?_; rintro e w' ⟨rfl,rfl⟩)
 go_ret
 exact⟨rfl,rfl⟩
structure Sents (w:World) (ad:Nat->Addr):Prop where
 s1:Sent w 1 (ad 1)
 s2:Sent w 2 (ad 2)
 s3:Sent w 3 (ad 3)
 s4:Sent w 4 (ad 4)
 s5:Sent w 5 (ad 5)
 s6:Sent w 6 (ad 6)
 s7:Sent w 0 (ad 7)
 s8:Sent w 7 (ad 8)
 s9:Sent w 8 (ad 9)
 inj: ∀i j,1<=i->i<=9->1<=j->j<=9->ad i=ad j->i=j
theorem Sents.below {w w':World} {ad:Nat->Addr} (h:Sents w ad) (hb:Below w.heap.size w w'):Sents w' ad:=
 ⟨h.s1.below hb,h.s2.below hb,h.s3.below hb,h.s4.below hb,h.s5.below hb,h.s6.below hb,h.s7.below hb,h.s8.below hb,h.s9.below hb,h.inj⟩
theorem Sents.ne {w:World} {ad:Nat->Addr} (h:Sents w ad) {i j:Nat} (hi:1<=i/\i<=9) (hj:1<=j/\j<=9) (hne:i≠j):decide (ad i=ad j)=false:=by
 rw [decide_eq_false_iff_not]
 exact fun e=>hne (h.inj i j hi.1 hi.2 hj.1 hj.2 e)
theorem zpH (w:World):Calls Tryz.prog 97 #[.nilIface] w fun e w'=>e= .returned (.int .i64 0)/\w=w':=by
 go_enter Tryz.func97,Tryz.ntmps97
 go_wp2
 go_ret
 exact⟨rfl,rfl⟩
theorem zq5 {W:World} {ad:Nat->Addr} (h:Sents W ad) (n:Nat) (E:Value) (hE:zbT W (ad 1) n E):
 Calls Tryz.prog 97 #[E] W fun e w'=>e= .returned (.int .i64 1)/\W=w':=by
 obtain⟨t,v,rfl⟩:=hE.form
 have HE:=Lib.hid hE
 try clear hE
 have c1:=h.s1.1
 go_enter Tryz.func97,Tryz.ntmps97
 go_wp2_with fail
 refine(zao (ad 1) (ad 1) h.s1.2 n _ HE.out).mono ?_
 rintro e w' ⟨rfl,rfl⟩
 rw [decide_eq_true rfl]
 go_wp2_with fail
 go_ret
 exact⟨rfl,rfl⟩
theorem zq4 {W:World} {ad:Nat->Addr} (h:Sents W ad) (n:Nat) (E:Value) (hE:zbT W (ad 2) n E):
 Calls Tryz.prog 97 #[E] W fun e w'=>e= .returned (.int .i64 2)/\W=w':=by
 obtain⟨t,v,rfl⟩:=hE.form
 have HE:=Lib.hid hE
 try clear hE
 have c1:=h.s1.1
 have c2:=h.s2.1
 have d1:=h.ne (i:=2) (j:=1) (by omega) (by omega) (by omega)
 go_enter Tryz.func97,Tryz.ntmps97
 go_wp2_with fail
 refine(zao (ad 2) (ad 1) h.s1.2 n _ HE.out).mono ?_
 rintro e w' ⟨rfl,rfl⟩
 rw [d1]
 go_wp2_with fail
 refine(zao (ad 2) (ad 2) h.s2.2 n _ HE.out).mono ?_
 rintro e w' ⟨rfl,rfl⟩
 rw [decide_eq_true rfl]
 go_wp2_with fail
 go_ret
 exact⟨rfl,rfl⟩
theorem zq3 {W:World} {ad:Nat->Addr} (h:Sents W ad) (n:Nat) (E:Value) (hE:zbT W (ad 3) n E):
 Calls Tryz.prog 97 #[E] W fun e w'=>e= .returned (.int .i64 3)/\W=w':=by
 obtain⟨t,v,rfl⟩:=hE.form
 have HE:=Lib.hid hE
 try clear hE
 have c1:=h.s1.1
 have c2:=h.s2.1
 have c3:=h.s3.1
 have d1:=h.ne (i:=3) (j:=1) (by omega) (by omega) (by omega)
 have d2:=h.ne (i:=3) (j:=2) (by omega) (by omega) (by omega)
 go_enter Tryz.func97,Tryz.ntmps97
 go_wp2_with fail
 refine(zao (ad 3) (ad 1) h.s1.2 n _ HE.out).mono ?_
 rintro e w' ⟨rfl,rfl⟩
 rw [d1]
 go_wp2_with fail
 refine(zao (ad 3) (ad 2) h.s2.2 n _ HE.out).mono ?_
 rintro e w' ⟨rfl,rfl⟩
 rw [d2]
 go_wp2_with fail
 refine(zao (ad 3) (ad 3) h.s3.2 n _ HE.out).mono ?_
 rintro e w' ⟨rfl,rfl⟩
 rw [decide_eq_true rfl]
 go_wp2_with fail
 go_ret
 exact⟨rfl,rfl⟩
theorem zq2 {W:World} {ad:Nat->Addr} (h:Sents W ad) (n:Nat) (E:Value) (hE:zbT W (ad 4) n E):
 Calls Tryz.prog 97 #[E] W fun e w'=>e= .returned (.int .i64 4)/\W=w':=by
 obtain⟨t,v,rfl⟩:=hE.form
 have HE:=Lib.hid hE
 try clear hE
 have c1:=h.s1.1
 have c2:=h.s2.1
 have c3:=h.s3.1
 have c4:=h.s4.1
 have d1:=h.ne (i:=4) (j:=1) (by omega) (by omega) (by omega)
 have d2:=h.ne (i:=4) (j:=2) (by omega) (by omega) (by omega)
 have d3:=h.ne (i:=4) (j:=3) (by omega) (by omega) (by omega)
 go_enter Tryz.func97,Tryz.ntmps97
 go_wp2_with fail
 refine(zao (ad 4) (ad 1) h.s1.2 n _ HE.out).mono ?_
 rintro e w' ⟨rfl,rfl⟩
 rw [d1]
 go_wp2_with fail
 refine(zao (ad 4) (ad 2) h.s2.2 n _ HE.out).mono ?_
 rintro e w' ⟨rfl,rfl⟩
 rw [d2]
 go_wp2_with fail
 refine(zao (ad 4) (ad 3) h.s3.2 n _ HE.out).mono ?_
 rintro e w' ⟨rfl,rfl⟩
 rw [d3]
 go_wp2_with fail
 refine(zao (ad 4) (ad 4) h.s4.2 n _ HE.out).mono ?_
 rintro e w' ⟨rfl,rfl⟩
 rw [decide_eq_true rfl]
 go_wp2_with fail
 go_ret
 exact⟨rfl,rfl⟩
theorem zq1 {W:World} {ad:Nat->Addr} (h:Sents W ad) (n:Nat) (E:Value) (hE:zbT W (ad 5) n E):
 Calls Tryz.prog 97 #[E] W fun e w'=>e= .returned (.int .i64 5)/\W=w':=by
 obtain⟨t,v,rfl⟩:=hE.form
 have HE:=Lib.hid hE
 try clear hE
 have c1:=h.s1.1
 have c2:=h.s2.1
 have c3:=h.s3.1
 have c4:=h.s4.1
 have c5:=h.s5.1
 have d1:=h.ne (i:=5) (j:=1) (by omega) (by omega) (by omega)
 have d2:=h.ne (i:=5) (j:=2) (by omega) (by omega) (by omega)
 have d3:=h.ne (i:=5) (j:=3) (by omega) (by omega) (by omega)
 have d4:=h.ne (i:=5) (j:=4) (by omega) (by omega) (by omega)
 go_enter Tryz.func97,Tryz.ntmps97
 go_wp2_with fail
 refine(zao (ad 5) (ad 1) h.s1.2 n _ HE.out).mono ?_
 rintro e w' ⟨rfl,rfl⟩
 rw [d1]
 go_wp2_with fail
 refine(zao (ad 5) (ad 2) h.s2.2 n _ HE.out).mono ?_
 rintro e w' ⟨rfl,rfl⟩
 rw [d2]
 go_wp2_with fail
 refine(zao (ad 5) (ad 3) h.s3.2 n _ HE.out).mono ?_
 rintro e w' ⟨rfl,rfl⟩
 rw [d3]
 go_wp2_with fail
 refine(zao (ad 5) (ad 4) h.s4.2 n _ HE.out).mono ?_
 rintro e w' ⟨rfl,rfl⟩
 rw [d4]
 go_wp2_with fail
 refine(zao (ad 5) (ad 5) h.s5.2 n _ HE.out).mono ?_
 rintro e w' ⟨rfl,rfl⟩
 rw [decide_eq_true rfl]
 go_wp2_with fail
 go_ret
 exact⟨rfl,rfl⟩
theorem zq0 {W:World} {ad:Nat->Addr} (h:Sents W ad) (n:Nat) (E:Value) (hE:zbT W (ad 6) n E):
 Calls Tryz.prog 97 #[E] W fun e w'=>e= .returned (.int .i64 6)/\W=w':=by
 obtain⟨t,v,rfl⟩:=hE.form
 have HE:=Lib.hid hE
 try clear hE
 have c1:=h.s1.1
 have c2:=h.s2.1
 have c3:=h.s3.1
 have c4:=h.s4.1
 have c5:=h.s5.1
 have c6:=h.s6.1
 have d1:=h.ne (i:=6) (j:=1) (by omega) (by omega) (by omega)
 have d2:=h.ne (i:=6) (j:=2) (by omega) (by omega) (by omega)
 have d3:=h.ne (i:=6) (j:=3) (by omega) (by omega) (by omega)
 have d4:=h.ne (i:=6) (j:=4) (by omega) (by omega) (by omega)
 have d5:=h.ne (i:=6) (j:=5) (by omega) (by omega) (by omega)
 go_enter Tryz.func97,Tryz.ntmps97
 go_wp2_with fail
 refine(zao (ad 6) (ad 1) h.s1.2 n _ HE.out).mono ?_
 rintro e w' ⟨rfl,rfl⟩
 rw [d1]
 go_wp2_with fail
 refine(zao (ad 6) (ad 2) h.s2.2 n _ HE.out).mono ?_
 rintro e w' ⟨rfl,rfl⟩
 rw [d2]
 go_wp2_with fail
 refine(zao (ad 6) (ad 3) h.s3.2 n _ HE.out).mono ?_
 rintro e w' ⟨rfl,rfl⟩
 rw [d3]
 go_wp2_with fail
 refine(zao (ad 6) (ad 4) h.s4.2 n _ HE.out).mono ?_
 rintro e w' ⟨rfl,rfl⟩
 rw [d4]
 go_wp2_with fail
 refine(zao (ad 6) (ad 5) h.s5.2 n _ HE.out).mono ?_
 rintro e w' ⟨rfl,rfl⟩
 rw [d5]
 go_wp2_with fail
 refine(zao (ad 6) (ad 6) h.s6.2 n _ HE.out).mono ?_
 rintro e w' ⟨rfl,rfl⟩
 rw [decide_eq_true rfl]
 go_wp2_with fail
 go_ret
 exact⟨rfl,rfl⟩
theorem zqZ {W:World} {ad:Nat->Addr} (h:Sents W ad) (n:Nat) (E:Value) (hE:zbT W (ad 7) n E):
 Calls Tryz.prog 97 #[E] W fun e w'=>e= .returned (.int .i64 7)/\W=w':=by
 obtain⟨t,v,rfl⟩:=hE.form
 have HE:=Lib.hid hE
 try clear hE
 have c1:=h.s1.1
 have c2:=h.s2.1
 have c3:=h.s3.1
 have c4:=h.s4.1
 have c5:=h.s5.1
 have c6:=h.s6.1
 have c7:=h.s7.1
 have d1:=h.ne (i:=7) (j:=1) (by omega) (by omega) (by omega)
 have d2:=h.ne (i:=7) (j:=2) (by omega) (by omega) (by omega)
 have d3:=h.ne (i:=7) (j:=3) (by omega) (by omega) (by omega)
 have d4:=h.ne (i:=7) (j:=4) (by omega) (by omega) (by omega)
 have d5:=h.ne (i:=7) (j:=5) (by omega) (by omega) (by omega)
 have d6:=h.ne (i:=7) (j:=6) (by omega) (by omega) (by omega)
 go_enter Tryz.func97,Tryz.ntmps97
 go_wp2_with fail
 refine(zao (ad 7) (ad 1) h.s1.2 n _ HE.out).mono ?_
 rintro e w' ⟨rfl,rfl⟩
 rw [d1]
 go_wp2_with fail
 refine(zao (ad 7) (ad 2) h.s2.2 n _ HE.out).mono ?_
 rintro e w' ⟨rfl,rfl⟩
 rw [d2]
 go_wp2_with fail
 refine(zao (ad 7) (ad 3) h.s3.2 n _ HE.out).mono ?_
 rintro e w' ⟨rfl,rfl⟩
 rw [d3]
 go_wp2_with fail
 refine(zao (ad 7) (ad 4) h.s4.2 n _ HE.out).mono ?_
 rintro e w' ⟨rfl,rfl⟩
 rw [d4]
 go_wp2_with fail
 refine(zao (ad 7) (ad 5) h.s5.2 n _ HE.out).mono ?_
 rintro e w' ⟨rfl,rfl⟩
 rw [d5]
 go_wp2_with fail
 refine(zao (ad 7) (ad 6) h.s6.2 n _ HE.out).mono ?_
 rintro e w' ⟨rfl,rfl⟩
 rw [d6]
 go_wp2_with fail
 refine(zao (ad 7) (ad 7) h.s7.2 n _ HE.out).mono ?_
 rintro e w' ⟨rfl,rfl⟩
 rw [decide_eq_true rfl]
 go_wp2_with fail
 go_ret
 exact⟨rfl,rfl⟩
theorem zqY {W:World} {ad:Nat->Addr} (h:Sents W ad) (n:Nat) (E:Value) (hE:zbT W (ad 8) n E):
 Calls Tryz.prog 97 #[E] W fun e w'=>e= .returned (.int .i64 8)/\W=w':=by
 obtain⟨t,v,rfl⟩:=hE.form
 have HE:=Lib.hid hE
 try clear hE
 have c1:=h.s1.1
 have c2:=h.s2.1
 have c3:=h.s3.1
 have c4:=h.s4.1
 have c5:=h.s5.1
 have c6:=h.s6.1
 have c7:=h.s7.1
 have c8:=h.s8.1
 have d1:=h.ne (i:=8) (j:=1) (by omega) (by omega) (by omega)
 have d2:=h.ne (i:=8) (j:=2) (by omega) (by omega) (by omega)
 have d3:=h.ne (i:=8) (j:=3) (by omega) (by omega) (by omega)
 have d4:=h.ne (i:=8) (j:=4) (by omega) (by omega) (by omega)
 have d5:=h.ne (i:=8) (j:=5) (by omega) (by omega) (by omega)
 have d6:=h.ne (i:=8) (j:=6) (by omega) (by omega) (by omega)
 have d7:=h.ne (i:=8) (j:=7) (by omega) (by omega) (by omega)
 go_enter Tryz.func97,Tryz.ntmps97
 go_wp2_with fail
 refine(zao (ad 8) (ad 1) h.s1.2 n _ HE.out).mono ?_
 rintro e w' ⟨rfl,rfl⟩
 rw [d1]
 go_wp2_with fail
 refine(zao (ad 8) (ad 2) h.s2.2 n _ HE.out).mono ?_
 rintro e w' ⟨rfl,rfl⟩
 rw [d2]
 go_wp2_with fail
 refine(zao (ad 8) (ad 3) h.s3.2 n _ HE.out).mono ?_
 rintro e w' ⟨rfl,rfl⟩
 rw [d3]
 go_wp2_with fail
 refine(zao (ad 8) (ad 4) h.s4.2 n _ HE.out).mono ?_
 rintro e w' ⟨rfl,rfl⟩
 rw [d4]
 go_wp2_with fail
 refine(zao (ad 8) (ad 5) h.s5.2 n _ HE.out).mono ?_
 rintro e w' ⟨rfl,rfl⟩
 rw [d5]
 go_wp2_with fail
 refine(zao (ad 8) (ad 6) h.s6.2 n _ HE.out).mono ?_
 rintro e w' ⟨rfl,rfl⟩
 rw [d6]
 go_wp2_with fail
 refine(zao (ad 8) (ad 7) h.s7.2 n _ HE.out).mono ?_
 rintro e w' ⟨rfl,rfl⟩
 rw [d7]
 go_wp2_with fail
 refine(zao (ad 8) (ad 8) h.s8.2 n _ HE.out).mono ?_
 rintro e w' ⟨rfl,rfl⟩
 rw [decide_eq_true rfl]
 go_wp2_with fail
 go_ret
 exact⟨rfl,rfl⟩
theorem zqX {W:World} {ad:Nat->Addr} (h:Sents W ad) (n:Nat) (E:Value) (hE:zbT W (ad 9) n E):
 Calls Tryz.prog 97 #[E] W fun e w'=>e= .returned (.int .i64 9)/\W=w':=by
 obtain⟨t,v,rfl⟩:=hE.form
 have HE:=Lib.hid hE
 try clear hE
 have c1:=h.s1.1
 have c2:=h.s2.1
 have c3:=h.s3.1
 have c4:=h.s4.1
 have c5:=h.s5.1
 have c6:=h.s6.1
 have c7:=h.s7.1
 have c8:=h.s8.1
 have c9:=h.s9.1
 have d1:=h.ne (i:=9) (j:=1) (by omega) (by omega) (by omega)
 have d2:=h.ne (i:=9) (j:=2) (by omega) (by omega) (by omega)
 have d3:=h.ne (i:=9) (j:=3) (by omega) (by omega) (by omega)
 have d4:=h.ne (i:=9) (j:=4) (by omega) (by omega) (by omega)
 have d5:=h.ne (i:=9) (j:=5) (by omega) (by omega) (by omega)
 have d6:=h.ne (i:=9) (j:=6) (by omega) (by omega) (by omega)
 have d7:=h.ne (i:=9) (j:=7) (by omega) (by omega) (by omega)
 have d8:=h.ne (i:=9) (j:=8) (by omega) (by omega) (by omega)
 go_enter Tryz.func97,Tryz.ntmps97
 go_wp2_with fail
 refine(zao (ad 9) (ad 1) h.s1.2 n _ HE.out).mono ?_
 rintro e w' ⟨rfl,rfl⟩
 rw [d1]
 go_wp2_with fail
 refine(zao (ad 9) (ad 2) h.s2.2 n _ HE.out).mono ?_
 rintro e w' ⟨rfl,rfl⟩
 rw [d2]
 go_wp2_with fail
 refine(zao (ad 9) (ad 3) h.s3.2 n _ HE.out).mono ?_
 rintro e w' ⟨rfl,rfl⟩
 rw [d3]
 go_wp2_with fail
 refine(zao (ad 9) (ad 4) h.s4.2 n _ HE.out).mono ?_
 rintro e w' ⟨rfl,rfl⟩
 rw [d4]
 go_wp2_with fail
 refine(zao (ad 9) (ad 5) h.s5.2 n _ HE.out).mono ?_
 rintro e w' ⟨rfl,rfl⟩
 rw [d5]
 go_wp2_with fail
 refine(zao (ad 9) (ad 6) h.s6.2 n _ HE.out).mono ?_
 rintro e w' ⟨rfl,rfl⟩
 rw [d6]
 go_wp2_with fail
 refine(zao (ad 9) (ad 7) h.s7.2 n _ HE.out).mono ?_
 rintro e w' ⟨rfl,rfl⟩
 rw [d7]
 go_wp2_with fail
 refine(zao (ad 9) (ad 8) h.s8.2 n _ HE.out).mono ?_
 rintro e w' ⟨rfl,rfl⟩
 rw [d8]
 go_wp2_with fail
 refine(zao (ad 9) (ad 9) h.s9.2 n _ HE.out).mono ?_
 rintro e w' ⟨rfl,rfl⟩
 rw [decide_eq_true rfl]
 go_wp2_with fail
 go_ret
 exact⟨rfl,rfl⟩
theorem zpI {W:World} {ad:Nat->Addr} (h:Sents W ad) (k:Nat) (hk:1<=k/\k<=9) (n:Nat) (E:Value) (hE:zbT W (ad k) n E):
 Calls Tryz.prog 97 #[E] W fun e w'=>e= .returned (.int .i64 k)/\W=w':=by
 obtain rfl | rfl | rfl | rfl | rfl | rfl | rfl | rfl | rfl:k=1\/k=2\/k=3\/k=4\/k=5\/k=6\/k=7\/k=8\/k=9:=by omega
 ·exact zq5 h n E hE
 ·exact zq4 h n E hE
 ·exact zq3 h n E hE
 ·exact zq2 h n E hE
 ·exact zq1 h n E hE
 ·exact zq0 h n E hE
 ·exact zqZ h n E hE
 ·exact zqY h n E hE
 ·exact zqX h n E hE
end Go.Proofs.YtlmekdfleciejaaGreatDoor
