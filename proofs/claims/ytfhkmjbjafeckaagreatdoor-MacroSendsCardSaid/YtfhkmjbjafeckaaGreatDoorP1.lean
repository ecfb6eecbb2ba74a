/- Words for memory that all later texts use: a block known whole, a slice that reads as a list of cells, small laws on them. No program is named here. -/
import Derived.Test.YtfhkmjbjafeckaaGreatDoorP0
import Derived.WalkLawsBesides
import Derived.WalkSpells
import Derived.Handy
import Derived.BigQuiet
import Derived.Deep.RegionHeld3
import Derived.Deep.LoopGhost
import Derived.Deep.AppendLies
import Derived.Lib.SlBytesConst
set_option linter.unusedSimpArgs false
set_option linter.defProp false
namespace Go.Proofs.YtfhkmjbjafeckaaGreatDoor
open Go.RowKit
def fI(w:World)(g:Nat)(t:TypeId)(cs:Array Value):Prop:=w.heap[g]? =some (.cells cs t (0,0))
section
variable {w w':World} {g:Nat} {t:TypeId} {cs:Array Value}
theorem fI.lt(h:fI w g t cs):g<w.heap.size:=by
 by_cases a:g<w.heap.size
 ·exact a
 unfold fI at h;rw[P9 (by omega)]at h;cases h
theorem fI.cell(h:fI w g t cs)(i:Nat):w.cell? ⟨g,i,none⟩=cs[i]? :=by
 unfold fI at h;simp[World.cell?,h]
theorem fI.cellAt(h:fI w g t cs){i:Nat}{v:Value}(hi:cs[i]? =some v):w.cell? ⟨g,i,none⟩=some v:=(h.cell i).trans hi
theorem fI.frozen(h:fI w g t cs)(i:Nat):w.frozen? ⟨g,i,none⟩=false:=by
 unfold fI at h;simp[World.frozen?,h]
theorem fI.new(w:World)(t:TypeId)(cs:Array Value):fI (w.alloc (.cells cs t)) w.heap.size t cs:=by
 show (w.heap.push _)[w.heap.size]? =_;simp
theorem fI.drew(h:fI w g t cs):fI w.drew g t cs:=h
theorem fI.drewN(h:fI w g t cs)(n:Nat):fI (w.drewN n) g t cs:=h
theorem fI.alloc(h:fI w g t cs)(o:Obj):fI (w.alloc o) g t cs:=(Oo w o g h.lt).trans h
theorem fI.put(h:fI w g t cs)(i:Nat)(u:Value):fI (w.setCell ⟨g,i,none⟩ u) g t (cs.setIfInBounds i u):=by
 unfold fI at h |-;simp[World.setCell,Of,h]
theorem fI.below{B:Nat}(h:fI w g t cs)(a:Below B w w')(b:g<B):fI w' g t cs:=(a.block g b).trans h
theorem fI.grown{row:Option Nat}(h:fI w g t cs)(a:w.grownBy w' row)(b:some g≠row):fI w' g t cs:=(a.block g h.lt b).trans h
end
def fI.c1{w:World}{g:Nat}{t:TypeId}{x:Value}(h:fI w g t #[x]):w.cell? ⟨g,0,none⟩=some x:=h.cell 0
def fI.c2{w:World}{g:Nat}{t:TypeId}{x y:Value}(h:fI w g t #[x,y]):w.cell? ⟨g,0,none⟩=some x/\w.cell? ⟨g,1,none⟩=some y:=⟨h.cell 0,h.cell 1⟩
def fI.c3{w:World}{g:Nat}{t:TypeId}{x y z:Value}(h:fI w g t #[x,y,z]):w.cell? ⟨g,0,none⟩=some x/\w.cell? ⟨g,1,none⟩=some y/\w.cell? ⟨g,2,none⟩=some z:=⟨h.cell 0,h.cell 1,h.cell 2⟩
def below_drewN{B:Nat}{a w:World}(h:Below B a w)(n:Nat):Below B a (w.drewN n):=⟨h.os,h.tape,h.output,h.size,h.block⟩
def jn(w:World)(B size:Nat)(A:Option Addr)(n:Nat)(xs:List Value):Prop:=
 xs.length=n*size/\(0<n-> ∃b a,A=some ⟨b,a,none⟩/\b<B/\ ∀j u,xs[j]? =some u->w.cell? ⟨b,a+j,none⟩=some u)
section
variable {w w':World} {B B' size n:Nat} {A:Option Addr} {xs:List Value}
theorem jn.empty(w:World)(B size:Nat)(A:Option Addr):jn w B size A 0 []:=⟨by simp,fun h=>absurd h (by omega)⟩
theorem jn.moved(h:jn w B size A n xs)(d: ∀b off,b<B->w'.cell? ⟨b,off,none⟩=w.cell? ⟨b,off,none⟩):jn w' B size A n xs:=by
 refine⟨h.1,fun f=> ?_⟩;obtain⟨b,off,e,a,c⟩:=h.2 f;exact⟨b,off,e,a,fun j u g=>(d _ _ a).trans (c j u g)⟩
theorem jn.wider(h:jn w B size A n xs)(f:B<=B'):jn w B' size A n xs:=by
 refine⟨h.1,fun d=> ?_⟩;obtain⟨b,a,e,g,c⟩:=h.2 d;exact⟨b,a,e,by omega,c⟩
theorem jn.below(h:jn w B size A n xs)(c:Below B w w'):jn w' B size A n xs:=h.moved fun b a d=>c.cell (p:=⟨b,a,none⟩) d
theorem jn.drew(h:jn w B size A n xs):jn w.drew B size A n xs:=h
theorem jn.drewN(h:jn w B size A n xs)(k:Nat):jn (w.drewN k) B size A n xs:=h
theorem jn.alloc(h:jn w B size A n xs)(c:B<=w.heap.size)(o:Obj):jn (w.alloc o) B size A n xs:=h.moved fun b a d=>OU w o ⟨b,a,none⟩ (show b<w.heap.size by omega)
theorem jn.setCell(h:jn w B size A n xs){p:Addr}(c:B<=p.block)(u:Value):jn (w.setCell p u) B size A n xs:=
 h.moved fun b a d=>World.cell?_setCell_other w p ⟨b,a,none⟩ u (fun e=>by subst e;simp at c;omega)
theorem jn.at_{k:Nat}(h:jn w B 1 A n xs)(f:k<n): ∃b off u,A=some ⟨b,off,none⟩/\b<B/\xs[k]? =some u/\w.cell? ⟨b,off+k,none⟩=some u:=by
 obtain⟨b,off,e,c,d⟩:=h.2 (by omega);have a:k<xs.length:=by have:=h.1;omega
 exact⟨b,off,xs[k],e,c,Mq a,d k _ (Mq a)⟩
theorem add_plain(b off j:Nat):(⟨b,off,none⟩:Addr).add j=⟨b,off+j,none⟩:=by
 unfold Addr.add;split<;>simp_all
theorem jn.of_own{base:Nat}{e:TypeId}{c:Nat}(h:w.ownsRow base e size (.slice A n c) n xs):jn w w.heap.size size A n xs:=by
 refine⟨h.1,fun f=> ?_⟩;obtain⟨g,b,k,_,a⟩:=h.form f;have d:A=some ⟨g,0,none⟩:=by injection k
 subst d;exact⟨g,0,rfl,a,fun j u i=>by rw[<-add_plain];exact h.cells (g:=g) rfl j u i⟩
end
def HF{w:World}{base a size n:Nat}{e:TypeId}{v:Value}{xs:List Value}(h:w.ownsRow base e size v n xs)(l:a<=base):w.ownsRow a e size v n xs:=by
 obtain⟨f,d⟩:=h;refine⟨f,?_⟩;rcases d with d|⟨g,b,c,i,k,j⟩
 ·exact .inl d
 exact .inr ⟨g,b,c,i,by omega,j⟩
def wi{w:World}{base size n:Nat}{e:TypeId}{v:Value}{xs:List Value}(h:w.ownsRow base e size v n xs): ∃A c,v= .slice A n c/\jn w w.heap.size size A n xs:=by
 rcases h.2 with⟨rfl,rfl⟩|⟨g,a,b,rfl,_⟩
 ·exact⟨none,0,rfl,jn.of_own h⟩
 exact⟨_,_,rfl,jn.of_own h⟩
section
variable {P:Program} (w:World)
end
/-! Quiet regions: contracts that leave the world as it was -/
/-! Strings as lists of bytes -/
def yX(l:List UInt8)(a b:Nat):(ByteArray.mk l.toArray).extract a b=⟨((l.drop a).take (b-a)).toArray⟩:=by
 apply ByteArray.ext;rw[ByteArray.data_extract];simp[List.extract_eq_take_drop]
def pd(l:List UInt8):(ByteArray.mk l.toArray).size=l.length:=by simp[ByteArray.size]
def Jw(l:List UInt8)(k:Nat)(h:k<l.length):(ByteArray.mk l.toArray)[k]'(by simpa[ByteArray.size]using h)=l[k]:=rfl
def Kg{P:Program}(x y:List UInt8)(h:x.length+y.length<=9223372036854775807)(w:World):
 (Op.stringOp .add ⟨x.toArray⟩ ⟨y.toArray⟩).run P w= .ok (.string ⟨(x++y).toArray⟩) w:=by
 rw[run_string_add_if,Mt (by simp only[pd];omega),ByteArray.mk_append_mk]
def bv(l:List UInt8):List Value:=l.map fun b=> .int .u8 (b.toNat:Int)
def MO(l:List UInt8):(bv l).length=l.length:=by simp[bv]
def EF{P:Program}(w:World)(b a e:TypeId)(l:List UInt8)(m:P.underlying b=some .string)(i:P.underlying a=some (.slice e))(k:P.underlying e=some (.int .u8)):
 ∃c f,(convert b a (.string ⟨l.toArray⟩)).run P w= .ok (.slice (some ⟨w.heap.size,0,none⟩) l.length c) f/\Below w.heap.size w f/\jn f (w.heap.size+1) 1 (some ⟨w.heap.size,0,none⟩) l.length (bv l):=by
 refine⟨_,_,(run_bytes_of_string w b a e ⟨l.toArray⟩ m i k).trans (by rw[pd]),?_,by simp[bv],fun _=>⟨_,_,rfl,by omega,fun j u d=> ?_⟩⟩
 ·exact(O1 _ _).drew.alloc (NC _) _
 have g:j<l.length:=by
  rcases Pa j l.length with h|h
  ·exact h
  rw[NI (by simpa[bv]using h)]at d;cases d
 rw[OM];have:=World.cell?_alloc_mark w.drew (bytesRow ⟨l.toArray⟩ (grownCap w (ByteArray.mk l.toArray).size 0 e)) e ((bytesRow ⟨l.toArray⟩ (grownCap w (ByteArray.mk l.toArray).size 0 e)).size,(bytesRow ⟨l.toArray⟩ (grownCap w (ByteArray.mk l.toArray).size 0 e)).size+1) j;rw[pd]at this;refine this.trans ?_;rw[bytesRow_at _ _ _ (by simpa using g), <-d];simp[bv,g]
end Go.Proofs.YtfhkmjbjafeckaaGreatDoor
