/- Words for memory that all later texts use: a block known whole, a slice that reads as a list of cells, small laws on them. No program is named here. -/
import Derived.Test.YtbjldjekgepopaaGreatDoorT0
import Derived.WalkLawsBesides
import Derived.WalkSpells
import Derived.Handy
import Derived.BigQuiet
import Derived.Deep.RegionHeld3
import Derived.Deep.LoopGhost
import Derived.Deep.AppendLies
import Derived.Lib.SlBytesConst
set_option linter.unusedSimpArgs false
namespace Go.Proofs.YtbjldjekgepopaaGreatDoor
open Go.RowKit
def Whole (w:World) (g:Nat) (t:TypeId) (cs:Array Value):Prop:=w.heap[g]? =some (.cells cs t (0,0))
section
variable {w w':World} {g:Nat} {t:TypeId} {cs:Array Value}
theorem Whole.lt (h:Whole w g t cs):g<w.heap.size:=by
 by_cases hl:g<w.heap.size
 ·exact hl
 ·unfold Whole at h;rw[NE (by omega)]at h;cases h
theorem Whole.cell (h:Whole w g t cs) (i:Nat):w.cell? ⟨g,i,none⟩=cs[i]? :=by
 unfold Whole at h;simp[World.cell?,h]
theorem Whole.cellAt (h:Whole w g t cs) {i:Nat} {v:Value} (hi:cs[i]? =some v):w.cell? ⟨g,i,none⟩=some v:=(h.cell i).trans hi
theorem Whole.frozen (h:Whole w g t cs) (i:Nat):w.frozen? ⟨g,i,none⟩=false:=by
 unfold Whole at h;simp[World.frozen?,h]
theorem Whole.new (w:World) (t:TypeId) (cs:Array Value):Whole (w.alloc (.cells cs t)) w.heap.size t cs:=by
 show (w.heap.push _)[w.heap.size]? =_;simp
theorem Whole.drew (h:Whole w g t cs):Whole w.drew g t cs:=h
theorem Whole.drewN (h:Whole w g t cs) (n:Nat):Whole (w.drewN n) g t cs:=h
theorem Whole.alloc (h:Whole w g t cs) (o:Obj):Whole (w.alloc o) g t cs:=(MH w o g h.lt).trans h
theorem Whole.put (h:Whole w g t cs) (i:Nat) (u:Value):Whole (w.setCell ⟨g,i,none⟩ u) g t (cs.setIfInBounds i u):=by
 unfold Whole at h |-;simp[World.setCell,MC,h]
theorem Whole.below {B:Nat} (h:Whole w g t cs) (hb:Below B w w') (hg:g<B):Whole w' g t cs:=(hb.block g hg).trans h
theorem Whole.grown {row:Option Nat} (h:Whole w g t cs) (hb:w.grownBy w' row) (hg:some g≠row):Whole w' g t cs:=(hb.block g h.lt hg).trans h
end
theorem Whole.c1 {w:World} {g:Nat} {t:TypeId} {x:Value} (h:Whole w g t #[x]):w.cell? ⟨g,0,none⟩=some x:=h.cell 0
theorem Whole.c2 {w:World} {g:Nat} {t:TypeId} {x y:Value} (h:Whole w g t #[x,y]):w.cell? ⟨g,0,none⟩=some x/\w.cell? ⟨g,1,none⟩=some y:=⟨h.cell 0,h.cell 1⟩
theorem Whole.c3 {w:World} {g:Nat} {t:TypeId} {x y z:Value} (h:Whole w g t #[x,y,z]):w.cell? ⟨g,0,none⟩=some x/\w.cell? ⟨g,1,none⟩=some y/\w.cell? ⟨g,2,none⟩=some z:=⟨h.cell 0,h.cell 1,h.cell 2⟩
theorem below_drewN {B:Nat} {a w:World} (h:Below B a w) (n:Nat):Below B a (w.drewN n):=⟨h.os,h.tape,h.output,h.size,h.block⟩
def Reads (w:World) (B size:Nat) (A:Option Addr) (n:Nat) (xs:List Value):Prop:=
 xs.length=n*size/\(0<n-> ∃b off,A=some ⟨b,off,none⟩/\b<B/\ ∀j u,xs[j]? =some u->w.cell? ⟨b,off+j,none⟩=some u)
section
variable {w w':World} {B B' size n:Nat} {A:Option Addr} {xs:List Value}
theorem Reads.empty (w:World) (B size:Nat) (A:Option Addr):Reads w B size A 0 []:=⟨by simp,fun h=>absurd h (by omega)⟩
theorem Reads.moved (h:Reads w B size A n xs) (hk: ∀b off,b<B->w'.cell? ⟨b,off,none⟩=w.cell? ⟨b,off,none⟩):Reads w' B size A n xs:=by
 refine⟨h.1,fun hn=> ?_⟩;obtain⟨b,off,e,hb,hc⟩:=h.2 hn;exact⟨b,off,e,hb,fun j u hu=>(hk _ _ hb).trans (hc j u hu)⟩
theorem Reads.wider (h:Reads w B size A n xs) (hB:B<=B'):Reads w B' size A n xs:=by
 refine⟨h.1,fun hn=> ?_⟩;obtain⟨b,off,e,hb,hc⟩:=h.2 hn;exact⟨b,off,e,by omega,hc⟩
theorem Reads.below (h:Reads w B size A n xs) (hb:Below B w w'):Reads w' B size A n xs:=h.moved fun b off hp=>hb.cell (p:=⟨b,off,none⟩) hp
theorem Reads.drew (h:Reads w B size A n xs):Reads w.drew B size A n xs:=h
theorem Reads.drewN (h:Reads w B size A n xs) (k:Nat):Reads (w.drewN k) B size A n xs:=h
theorem Reads.alloc (h:Reads w B size A n xs) (hB:B<=w.heap.size) (o:Obj):Reads (w.alloc o) B size A n xs:=h.moved fun b off hp=>World.cell?_alloc_lt w o ⟨b,off,none⟩ (show b<w.heap.size by omega)
theorem Reads.setCell (h:Reads w B size A n xs) {p:Addr} (hB:B<=p.block) (u:Value):Reads (w.setCell p u) B size A n xs:=
 h.moved fun b off hq=>World.cell?_setCell_other w p ⟨b,off,none⟩ u (fun e=>by subst e;simp at hB;omega)
theorem Reads.at_ {k:Nat} (h:Reads w B 1 A n xs) (hk:k<n): ∃b off u,A=some ⟨b,off,none⟩/\b<B/\xs[k]? =some u/\w.cell? ⟨b,off+k,none⟩=some u:=by
 obtain⟨b,off,e,hb,hc⟩:=h.2 (by omega);have hl:k<xs.length:=by have:=h.1;omega
 exact⟨b,off,xs[k],e,hb,KV hl,hc k _ (KV hl)⟩
theorem add_plain (b off j:Nat):(⟨b,off,none⟩:Addr).add j=⟨b,off+j,none⟩:=by
 unfold Addr.add;split<;>simp_all
theorem Reads.of_own {base:Nat} {e:TypeId} {c:Nat} (h:w.ownsRow base e size (.slice A n c) n xs):Reads w w.heap.size size A n xs:=by
 refine⟨h.1,fun hn=> ?_⟩;obtain⟨g,cap,hv,_,hlt⟩:=h.form hn;have hA:A=some ⟨g,0,none⟩:=by injection hv
 subst hA;exact⟨g,0,rfl,hlt,fun j u hu=>by rw[<-add_plain];exact h.cells (g:=g) rfl j u hu⟩
end
theorem Ef {w:World} {base base' size n:Nat} {e:TypeId} {v:Value} {xs:List Value} (h:w.ownsRow base e size v n xs) (hb:base'<=base):w.ownsRow base' e size v n xs:=by
 obtain⟨h1,h2⟩:=h;refine⟨h1,?_⟩;rcases h2 with h2|⟨g,cap,cur,h3,h4,h5⟩
 ·exact .inl h2
 ·exact .inr ⟨g,cap,cur,h3,by omega,h5⟩
theorem uc {w:World} {base size n:Nat} {e:TypeId} {v:Value} {xs:List Value} (h:w.ownsRow base e size v n xs): ∃A c,v= .slice A n c/\Reads w w.heap.size size A n xs:=by
 rcases h.2 with⟨rfl,rfl⟩|⟨g,cap,cur,rfl,_⟩
 ·exact⟨none,0,rfl,Reads.of_own h⟩
 ·exact⟨_,_,rfl,Reads.of_own h⟩
section
variable {P:Program} (w:World)
end
/-! Quiet regions: contracts that leave the world as it was -/
/-! Strings as lists of bytes -/
theorem wK (l:List UInt8) (a b:Nat):(ByteArray.mk l.toArray).extract a b=⟨((l.drop a).take (b-a)).toArray⟩:=by
 apply ByteArray.ext;rw[ByteArray.data_extract];simp[List.extract_eq_take_drop]
theorem oM (l:List UInt8):(ByteArray.mk l.toArray).size=l.length:=by simp[ByteArray.size]
theorem H7 (l:List UInt8) (k:Nat) (h:k<l.length):(ByteArray.mk l.toArray)[k]'(by simpa[ByteArray.size]using h)=l[k]:=rfl
theorem IP {P:Program} (x y:List UInt8) (h:x.length+y.length<=9223372036854775807) (w:World):
 (Op.stringOp .add ⟨x.toArray⟩ ⟨y.toArray⟩).run P w= .ok (.string ⟨(x++y).toArray⟩) w:=by
 rw[run_string_add_if,KZ (by simp only[oM];omega),ByteArray.mk_append_mk]
def bv (l:List UInt8):List Value:=l.map fun b=> .int .u8 (b.toNat:Int)
theorem Jn (l:List UInt8):(bv l).length=l.length:=by simp[bv]
theorem Bw {P:Program} (w:World) (src dst e:TypeId) (l:List UInt8) (hs:P.underlying src=some .string) (hd:P.underlying dst=some (.slice e)) (he:P.underlying e=some (.int .u8)):
 ∃c w1,(convert src dst (.string ⟨l.toArray⟩)).run P w= .ok (.slice (some ⟨w.heap.size,0,none⟩) l.length c) w1/\Below w.heap.size w w1/\Reads w1 (w.heap.size+1) 1 (some ⟨w.heap.size,0,none⟩) l.length (bv l):=by
 refine⟨_,_,(run_bytes_of_string w src dst e ⟨l.toArray⟩ hs hd he).trans (by rw[oM]),?_,by simp[bv],fun _=>⟨_,_,rfl,by omega,fun j u hu=> ?_⟩⟩
 ·exact(MM _ _).drew.alloc (K8 _) _
 ·have hj:j<l.length:=by
   rcases Mt j l.length with h|h
   ·exact h
   ·rw[K7 (by simpa[bv]using h)]at hu;cases hu
  rw[Lc];have:=World.cell?_alloc_mark w.drew (bytesRow ⟨l.toArray⟩ (grownCap w (ByteArray.mk l.toArray).size 0 e)) e ((bytesRow ⟨l.toArray⟩ (grownCap w (ByteArray.mk l.toArray).size 0 e)).size,(bytesRow ⟨l.toArray⟩ (grownCap w (ByteArray.mk l.toArray).size 0 e)).size+1) j;rw[oM]at this;refine this.trans ?_;rw[bytesRow_at _ _ _ (by simpa using hj), <-hu];simp[bv,hj]
end Go.Proofs.YtbjldjekgepopaaGreatDoor
