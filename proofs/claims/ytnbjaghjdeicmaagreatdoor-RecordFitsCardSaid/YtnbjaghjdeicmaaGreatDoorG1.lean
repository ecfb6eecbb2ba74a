/- Words for memory that all later texts use: a block known whole, a slice that reads as a list of cells, small laws on them. No program is named here. -/
import Derived.WalkKit
import Derived.WalkLawsBesides
import Derived.WalkSpells
import Derived.Outline
import Derived.LoopTactic
import Derived.Handy
import Derived.OwnWalk
import Derived.BigQuiet
import Derived.Deep.QuietTactic
import Derived.Deep.RegionHeld3
import Derived.Deep.RegionWith
import Derived.Deep.LoopGhost
import Derived.Deep.Draws
import Derived.Deep.AppendLies
import Derived.Maps.AppendAt
import Derived.Laws.BytesArg
import Derived.Laws.Rows
import Derived.Lib.Hide
import Derived.Lib.SlBytesConst
namespace Go.Proofs.YtnbjaghjdeicmaaGreatDoor
open Go.RowKit
def Whole (w:World) (g:Nat) (t:TypeId) (cs:Array Value):Prop:=w.heap[g]? =some (.cells cs t (0,0))
section
variable {w w':World} {g:Nat} {t:TypeId} {cs:Array Value}
theorem Whole.lt (h:Whole w g t cs):g<w.heap.size:=by
 by_cases hl:g<w.heap.size
 ·exact hl
 ·unfold Whole at h
  rw [Array.getElem?_eq_none (by omega)] at h
  cases h
theorem Whole.cell (h:Whole w g t cs) (i:Nat):w.cell? ⟨g,i,none⟩=cs[i]? :=by
 unfold Whole at h
 simp [World.cell?,h]
theorem Whole.cellAt (h:Whole w g t cs) {i:Nat} {v:Value} (hi:cs[i]? =some v):w.cell? ⟨g,i,none⟩=some v:=(h.cell i).trans hi
theorem Whole.frozen (h:Whole w g t cs) (i:Nat):w.frozen? ⟨g,i,none⟩=false:=by
 unfold Whole at h
 simp [World.frozen?,h]
theorem Whole.new (w:World) (t:TypeId) (cs:Array Value):Whole (w.alloc (.cells cs t)) w.heap.size t cs:=by
 show (w.heap.push _)[w.heap.size]? =_
 simp
theorem Whole.drew (h:Whole w g t cs):Whole w.drew g t cs:=h
theorem Whole.drewN (h:Whole w g t cs) (n:Nat):Whole (w.drewN n) g t cs:=h
theorem Whole.alloc (h:Whole w g t cs) (o:Obj):Whole (w.alloc o) g t cs:=(Below.heap_alloc w o g h.lt).trans h
theorem Whole.put (h:Whole w g t cs) (i:Nat) (u:Value):Whole (w.setCell ⟨g,i,none⟩ u) g t (cs.setIfInBounds i u):=by
 unfold Whole at h |-
 simp [World.setCell,Array.getElem?_modify,h]
theorem Whole.far (h:Whole w g t cs) {p:Addr} (hp:g≠p.block) (u:Value):Whole (w.setCell p u) g t cs:=(Below.heap_setCell w p u g hp).trans h
theorem Whole.below {B:Nat} (h:Whole w g t cs) (hb:Below B w w') (hg:g<B):Whole w' g t cs:=(hb.block g hg).trans h
theorem Whole.grown {row:Option Nat} (h:Whole w g t cs) (hb:w.grownBy w' row) (hg:some g≠row):Whole w' g t cs:=(hb.block g h.lt hg).trans h
end
theorem Whole.c1 {w:World} {g:Nat} {t:TypeId} {x:Value} (h:Whole w g t #[x]):w.cell? ⟨g,0,none⟩=some x:=h.cell 0
theorem Whole.c2 {w:World} {g:Nat} {t:TypeId} {x y:Value} (h:Whole w g t #[x,y]):w.cell? ⟨g,0,none⟩=some x/\w.cell? ⟨g,1,none⟩=some y:=⟨h.cell 0,h.cell 1⟩
theorem Whole.c3 {w:World} {g:Nat} {t:TypeId} {x y z:Value} (h:Whole w g t #[x,y,z]):w.cell? ⟨g,0,none⟩=some x/\w.cell? ⟨g,1,none⟩=some y/\w.cell? ⟨g,2,none⟩=some z:=⟨h.cell 0,h.cell 1,h.cell 2⟩
theorem below_drewN {B:Nat} {a w:World} (h:Below B a w) (n:Nat):Below B a (w.drewN n):=⟨h.os,h.tape,h.output,h.size,h.block⟩
def Reads (w:World) (B size:Nat) (A:Option Addr) (n:Nat) (xs:List Value):Prop:=
 xs.length=n*size/\(0<n-> ∃b off,A=some ⟨b,off,none⟩/\b<B/\ ∀j u,xs[j]? =some u->w.cell? ⟨b,off+j,none⟩=some u)
section
variable {w w':World} {B B' size n:Nat} {A:Option Addr} {xs:List Value}
theorem Reads.empty (w:World) (B size:Nat) (A:Option Addr):Reads w B size A 0 []:=⟨by simp,fun h=>absurd h (by omega)⟩
theorem Reads.moved (h:Reads w B size A n xs) (hk: ∀b off,b<B->w'.cell? ⟨b,off,none⟩=w.cell? ⟨b,off,none⟩):Reads w' B size A n xs:=by
 refine⟨h.1,fun hn=> ?_⟩
 obtain⟨b,off,e,hb,hc⟩:=h.2 hn
 exact⟨b,off,e,hb,fun j u hu=>(hk _ _ hb).trans (hc j u hu)⟩
theorem Reads.wider (h:Reads w B size A n xs) (hB:B<=B'):Reads w B' size A n xs:=by
 refine⟨h.1,fun hn=> ?_⟩
 obtain⟨b,off,e,hb,hc⟩:=h.2 hn
 exact⟨b,off,e,by omega,hc⟩
theorem Reads.below (h:Reads w B size A n xs) (hb:Below B w w'):Reads w' B size A n xs:=h.moved fun b off hp=>hb.cell (p:=⟨b,off,none⟩) hp
theorem Reads.drew (h:Reads w B size A n xs):Reads w.drew B size A n xs:=h
theorem Reads.drewN (h:Reads w B size A n xs) (k:Nat):Reads (w.drewN k) B size A n xs:=h
theorem Reads.alloc (h:Reads w B size A n xs) (hB:B<=w.heap.size) (o:Obj):Reads (w.alloc o) B size A n xs:=h.moved fun b off hp=>World.cell?_alloc_lt w o ⟨b,off,none⟩ (show b<w.heap.size by omega)
theorem Reads.setCell (h:Reads w B size A n xs) {p:Addr} (hB:B<=p.block) (u:Value):Reads (w.setCell p u) B size A n xs:=
 h.moved fun b off hq=>World.cell?_setCell_other w p ⟨b,off,none⟩ u (fun e=>by subst e; simp at hB; omega)
theorem Reads.at_ {k:Nat} (h:Reads w B 1 A n xs) (hk:k<n): ∃b off u,A=some ⟨b,off,none⟩/\b<B/\xs[k]? =some u/\w.cell? ⟨b,off+k,none⟩=some u:=by
 obtain⟨b,off,e,hb,hc⟩:=h.2 (by omega)
 have hl:k<xs.length:=by have:=h.1; omega
 exact⟨b,off,xs[k],e,hb,List.getElem?_eq_getElem hl,hc k _ (List.getElem?_eq_getElem hl)⟩
theorem add_plain (b off j:Nat):(⟨b,off,none⟩:Addr).add j=⟨b,off+j,none⟩:=by
 unfold Addr.add
 split<;>simp_all
theorem Reads.of_own {base:Nat} {e:TypeId} {c:Nat} (h:w.ownsRow base e size (.slice A n c) n xs):Reads w w.heap.size size A n xs:=by
 refine⟨h.1,fun hn=> ?_⟩
 obtain⟨g,cap,hv,_,hlt⟩:=h.form hn
 have hA:A=some ⟨g,0,none⟩:=by injection hv
 subst hA
 exact⟨g,0,rfl,hlt,fun j u hu=>by rw [<-add_plain]; exact h.cells (g:=g) rfl j u hu⟩
end
theorem zbz {w:World} {base base' size n:Nat} {e:TypeId} {v:Value} {xs:List Value} (h:w.ownsRow base e size v n xs) (hb:base'<=base):w.ownsRow base' e size v n xs:=by
 obtain⟨h1,h2⟩:=h
 refine⟨h1, ?_⟩
 rcases h2 with h2 | ⟨g,cap,cur,h3,h4,h5⟩
 ·exact .inl h2
 ·exact .inr ⟨g,cap,cur,h3,by omega,h5⟩
theorem zaz {w:World} {base size n:Nat} {e:TypeId} {v:Value} {xs:List Value} (h:w.ownsRow base e size v n xs): ∃A c,v= .slice A n c/\Reads w w.heap.size size A n xs:=by
 rcases h.2 with⟨rfl,rfl⟩ | ⟨g,cap,cur,rfl,_⟩
 ·exact⟨none,0,rfl,Reads.of_own h⟩
 ·exact⟨_,_,rfl,Reads.of_own h⟩
theorem Reads.boxed (w:World) (t:TypeId) (cs:Array Value) (size n:Nat) (h:cs.size=n*size):Reads (w.alloc (.cells cs t)) (w.heap.size+1) size (some ⟨w.heap.size,0,none⟩) n cs.toList:=
 ⟨by simpa using h,fun _=>⟨w.heap.size,0,rfl,by omega,fun j u hu=>by rw [Nat.zero_add,(Whole.new w t cs).cell, <-hu]; simp⟩⟩
theorem Reads.marked (w:World) (t:TypeId) (cs:Array Value) (f:Nat×Nat) (size n:Nat) (h:cs.size=n*size):Reads (w.alloc (.cells cs t f)) (w.heap.size+1) size (some ⟨w.heap.size,0,none⟩) n cs.toList:=
 ⟨by simpa using h,fun _=>⟨w.heap.size,0,rfl,by omega,fun j u hu=>by rw [Nat.zero_add,World.cell?_alloc_mark, <-hu]; simp⟩⟩
theorem zgi {B n size:Nat} {W wr w':World} {o:Obj} {v:Value} {e:TypeId} {xs:List Value} (hB:Below B W wr) (hle:B<=wr.heap.size) (hg:(wr.alloc o).grownBy w' v.ownBlock) (hown:wr.ownsRow B e size v n xs):Below B W w':=
 (hB.alloc hle o).grown hg (by simp; omega) (fun k hk=>(hown.lt k hk).1)
theorem zi9 {B n size:Nat} {W wr w':World} {v:Value} {e:TypeId} {xs:List Value} (hB:Below B W wr) (hle:B<=wr.heap.size) (hg:wr.grownBy w' v.ownBlock) (hown:wr.ownsRow B e size v n xs):Below B W w':=
 hB.grown hg hle (fun k hk=>(hown.lt k hk).1)
section
variable {P:Program} (w:World)
theorem zdr (base:Nat) (t ty e:TypeId) (i:TypeInfo) (z:Value) (size bytes:Nat) (ht:P.underlying t=some (.slice e)) (hi:P.info? e=some i) (hz:i.zero=some z)
 (hsize:i.size=size) (hby:i.bytes=bytes) (hzs:z.cells.size=size) (hsz:0<size)
 (v:Value) (n:Nat) (xs:List Value) (hown:w.ownsRow base e size v n xs)
 (B:Nat) (A:Option Addr) (m c:Nat) (news:List Value) (hr:Reads w B size A m news) (h1: ∀u∈news,u.oneCell'=true)
 (h63:n+m<=maxLen) (hbytes:(n+m)*bytes<=140737488355328) (hbase:base<=w.heap.size):
 ∃v' w',(Builtin.append_ #[t,t] ty #[v, .slice A m c]).run P w= .ok v' w'/\w'.ownsRow base e size v' (n+m) (xs++news)/\w.grownBy w' v.ownBlock/\
  (v'.ownBlock=v.ownBlock\/v'.ownBlock=some w.heap.size):=by
 cases A with
 | none=>
   obtain rfl:m=0:=Nat.eq_zero_of_not_pos fun h0=>by
    obtain⟨_,_,e,_⟩:=hr.2 h0
    cases e
   obtain rfl:news=[]:=List.eq_nil_of_length_eq_zero (by simpa using hr.1)
   refine⟨v,w, ?_,by simpa using hown,World.grownBy.refl w _, .inl rfl⟩
   rcases hown.2 with⟨rfl,rfl⟩ | ⟨g,cap,cur,rfl,_,_,hnc,_⟩
   ·simp [Builtin.append_,run_underlying ht,sizeOf,typeInfo,hi,Builtin.lenOf,Builtin.firstCells]
   ·simp [Builtin.append_,run_underlying ht,sizeOf,typeInfo,hi,Builtin.lenOf,Builtin.firstCells,hnc,storeCells]
 | some ad=>
   have hcells: ∀j u,news[j]? =some u->w.cell? (ad.add j)=some u:=fun j u hu=>by
    rcases Nat.eq_zero_or_pos m with h0 | h0
    ·subst h0
     obtain rfl:news=[]:=List.eq_nil_of_length_eq_zero (by simpa using hr.1)
     simp at hu
    ·obtain⟨b,off,e,_,hc⟩:=hr.2 h0
     injection e with e
     subst e
     rw [add_plain]
     exact hc j u hu
   obtain⟨v',w',hrun,h2,h3,_,h5⟩:=run_append_own_at (P:=P) w base t ty e i z size bytes ht hi hz hsize hby hzs hsz v n xs hown ad m c news hr.1 hcells h1 h63 hbytes hbase
   exact⟨v',w',hrun,h2,h3,h5⟩
theorem zaT {ops:Array Oper} {rest:List Oper} {o:Oper} {a:Act} {Q:Exit->Act->World->Prop} (hgd:o.guard=none) (s x:Operand) (t:TypeId)
 (ho:o.op= .call { callee:= .builtin .append,args:= #[s,x],argTypes:= #[t,t] })
 (base:Nat) (e:TypeId) (i:TypeInfo) (z:Value) (size bytes:Nat) (ht:P.underlying t=some (.slice e)) (hi:P.info? e=some i) (hz:i.zero=some z)
 (hsize:i.size=size) (hby:i.bytes=bytes) (hzs:z.cells.size=size) (hsz:0<size)
 (v:Value) (n:Nat) (xs:List Value) (hs:a.eval s=v) (hown:w.ownsRow base e size v n xs)
 (B:Nat) (A:Option Addr) (m c:Nat) (news:List Value) (hx:a.eval x= .slice A m c) (hr:Reads w B size A m news) (h1: ∀u∈news,u.oneCell'=true)
 (h63:n+m<=maxLen) (hbytes:(n+m)*bytes<=140737488355328) (hbase:base<=w.heap.size)
 (h: ∀v' w',w'.ownsRow base e size v' (n+m) (xs++news)->w.grownBy w' v.ownBlock->(v'.ownBlock=v.ownBlock\/v'.ownBlock=some w.heap.size)->wpList P ops Q rest (a.put o.dst v') w'):wpList P ops Q (o::rest) a w:=by
 refine wpList_plain hgd fun K hK=> ?_
 obtain⟨v',w',hr,h2,h3,h5⟩:=zdr (P:=P) w base t o.type e i z size bytes ht hi hz hsize hby hzs hsz v n xs hown B A m c news hr h1 h63 hbytes hbase
 unfold Oper.wp execOp
 simp only [ho,resolve,invoke,builtin,Sem.run_bind,Sem.run_pure,Result.andThen_ok,List.map_toArray,List.map_cons,List.map_nil,hs,hx,hr]
 exact hK _ _ (h v' w' h2 h3 h5)
end
/-! Quiet regions: contracts that leave the world as it was -/
theorem zaE {P:Program} {f:FuncId} {args:Array Value} {w:World} {n:Nat} {v:Value}
 (h:Calls P f args (w.drewN n) fun e w'=>e= .returned v/\w.drewN n=w'):Calls P f args (w.drewN n) fun e w''=>e= .returned v/\ ∃m,w''=w.drewN m:=
 h.mono fun _ _ ⟨he,hm⟩=>⟨he,n,hm.symm⟩
/-! Strings as lists of bytes -/
theorem zkj (l:List UInt8) (a b:Nat):(ByteArray.mk l.toArray).extract a b=⟨((l.drop a).take (b-a)).toArray⟩:=by
 apply ByteArray.ext
 rw [ByteArray.data_extract]
 simp [List.extract_eq_take_drop]
theorem zeN (l:List UInt8):(ByteArray.mk l.toArray).size=l.length:=by simp [ByteArray.size]
theorem zrQ (l:List UInt8) (k:Nat) (h:k<l.length):(ByteArray.mk l.toArray)[k]'(by simpa [ByteArray.size] using h)=l[k]:=rfl
theorem zsd {P:Program} (x y:List UInt8) (h:x.length+y.length<=9223372036854775807) (w:World):
 (Op.stringOp .add ⟨x.toArray⟩ ⟨y.toArray⟩).run P w= .ok (.string ⟨(x++y).toArray⟩) w:=by
 rw [run_string_add_if,if_neg (by simp only [zeN]; omega),ByteArray.mk_append_mk]
def bv (l:List UInt8):List Value:=l.map fun b=> .int .u8 (b.toNat:Int)
theorem ztd (l:List UInt8):(bv l).length=l.length:=by simp [bv]
theorem zkE (a b:List UInt8):bv (a++b)=bv a++bv b:=by simp [bv]
theorem ztc (l:List UInt8): ∀u∈bv l,u.oneCell'=true:=by
 intro u hu
 simp only [bv,List.mem_map] at hu
 obtain⟨b,_,rfl⟩:=hu
 rfl
theorem znH {P:Program} (w:World) (src dst e:TypeId) (l:List UInt8) (hs:P.underlying src=some .string) (hd:P.underlying dst=some (.slice e)) (he:P.underlying e=some (.int .u8)):
 ∃c w1,(convert src dst (.string ⟨l.toArray⟩)).run P w= .ok (.slice (some ⟨w.heap.size,0,none⟩) l.length c) w1/\Below w.heap.size w w1/\Reads w1 (w.heap.size+1) 1 (some ⟨w.heap.size,0,none⟩) l.length (bv l):=by
 refine⟨_,_,(run_bytes_of_string w src dst e ⟨l.toArray⟩ hs hd he).trans (by rw [zeN]), ?_,by simp [bv],fun _=>⟨_,_,rfl,by omega,fun j u hu=> ?_⟩⟩
 ·exact(Below.refl _ _).drew.alloc (Nat.le_refl _) _
 ·have hj:j<l.length:=by
   rcases Nat.lt_or_ge j l.length with h | h
   ·exact h
   ·rw [List.getElem?_eq_none (by simpa [bv] using h)] at hu
    cases hu
  rw [Nat.zero_add]
  have:=World.cell?_alloc_mark w.drew (bytesRow ⟨l.toArray⟩ (grownCap w (ByteArray.mk l.toArray).size 0 e)) e ((bytesRow ⟨l.toArray⟩ (grownCap w (ByteArray.mk l.toArray).size 0 e)).size,(bytesRow ⟨l.toArray⟩ (grownCap w (ByteArray.mk l.toArray).size 0 e)).size+1) j
  rw [zeN] at this
  refine this.trans ?_
  rw [bytesRow_at _ _ _ (by simpa using hj), <-hu]
  simp [bv,hj]
end Go.Proofs.YtnbjaghjdeicmaaGreatDoor
