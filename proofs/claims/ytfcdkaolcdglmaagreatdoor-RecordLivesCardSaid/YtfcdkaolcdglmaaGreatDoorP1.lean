/- Words for memory that all later texts use: a block known whole, a slice that reads as a list of cells, small laws on them. No program is named here. -/
import Derived.Test.YtfcdkaolcdglmaaGreatDoorP0
import Derived.WalkLawsBesides
import Derived.WalkSpells
import Derived.Handy
import Derived.BigQuiet
import Derived.Deep.RegionHeld3
import Derived.Deep.LoopGhost
import Derived.Deep.AppendLies
import Derived.Lib.SlBytesConst
set_option linter.unusedSimpArgs false
set_option linter.defProp false
namespace Go.Proofs.YtfcdkaolcdglmaaGreatDoor
open Go.RowKit
def cU(w:World)(g:Nat)(t:TypeId)(cs:Array Value):Prop:=w.heap[g]? =some (.cells cs t (0,0))
section
variable {w w':World} {g:Nat} {t:TypeId} {cs:Array Value}
theorem cU.lt(h:cU w g t cs):g<w.heap.size:=by
 by_cases a:g<w.heap.size
 ·exact a
 unfold cU at h;rw[Qh (by omega)]at h;cases h
theorem cU.cell(h:cU w g t cs)(i:Nat):w.cell? ⟨g,i,none⟩=cs[i]? :=by
 unfold cU at h;simp[World.cell?,h]
theorem cU.cellAt(h:cU w g t cs){i:Nat}{v:Value}(hi:cs[i]? =some v):w.cell? ⟨g,i,none⟩=some v:=(h.cell i).trans hi
theorem cU.frozen(h:cU w g t cs)(i:Nat):w.frozen? ⟨g,i,none⟩=false:=by
 unfold cU at h;simp[World.frozen?,h]
theorem cU.new(w:World)(t:TypeId)(cs:Array Value):cU (w.alloc (.cells cs t)) w.heap.size t cs:=by
 show (w.heap.push _)[w.heap.size]? =_;simp
theorem cU.drew(h:cU w g t cs):cU w.drew g t cs:=h
theorem cU.drewN(h:cU w g t cs)(n:Nat):cU (w.drewN n) g t cs:=h
theorem cU.alloc(h:cU w g t cs)(o:Obj):cU (w.alloc o) g t cs:=(Pj w o g h.lt).trans h
theorem cU.put(h:cU w g t cs)(i:Nat)(u:Value):cU (w.setCell ⟨g,i,none⟩ u) g t (cs.setIfInBounds i u):=by
 unfold cU at h |-;simp[World.setCell,Pu,h]
theorem cU.far(h:cU w g t cs){p:Addr}(a:g≠p.block)(u:Value):cU (w.setCell p u) g t cs:=(SK w p u g a).trans h
theorem cU.below{B:Nat}(h:cU w g t cs)(a:Below B w w')(b:g<B):cU w' g t cs:=(a.block g b).trans h
theorem cU.grown{row:Option Nat}(h:cU w g t cs)(a:w.grownBy w' row)(b:some g≠row):cU w' g t cs:=(a.block g h.lt b).trans h
end
def cU.c1{w:World}{g:Nat}{t:TypeId}{x:Value}(h:cU w g t #[x]):w.cell? ⟨g,0,none⟩=some x:=h.cell 0
def cU.c2{w:World}{g:Nat}{t:TypeId}{x y:Value}(h:cU w g t #[x,y]):w.cell? ⟨g,0,none⟩=some x/\w.cell? ⟨g,1,none⟩=some y:=⟨h.cell 0,h.cell 1⟩
def cU.c3{w:World}{g:Nat}{t:TypeId}{x y z:Value}(h:cU w g t #[x,y,z]):w.cell? ⟨g,0,none⟩=some x/\w.cell? ⟨g,1,none⟩=some y/\w.cell? ⟨g,2,none⟩=some z:=⟨h.cell 0,h.cell 1,h.cell 2⟩
def below_drewN{B:Nat}{a w:World}(h:Below B a w)(n:Nat):Below B a (w.drewN n):=⟨h.os,h.tape,h.output,h.size,h.block⟩
def c0(w:World)(B size:Nat)(A:Option Addr)(n:Nat)(xs:List Value):Prop:=
 xs.length=n*size/\(0<n-> ∃b off,A=some ⟨b,off,none⟩/\b<B/\ ∀j u,xs[j]? =some u->w.cell? ⟨b,off+j,none⟩=some u)
section
variable {w w':World} {B B' size n:Nat} {A:Option Addr} {xs:List Value}
theorem c0.empty(w:World)(B size:Nat)(A:Option Addr):c0 w B size A 0 []:=⟨by simp,fun h=>absurd h (by omega)⟩
theorem c0.moved(h:c0 w B size A n xs)(d: ∀b off,b<B->w'.cell? ⟨b,off,none⟩=w.cell? ⟨b,off,none⟩):c0 w' B size A n xs:=by
 refine⟨h.1,fun f=> ?_⟩;obtain⟨b,off,e,a,c⟩:=h.2 f;exact⟨b,off,e,a,fun j u g=>(d _ _ a).trans (c j u g)⟩
theorem c0.wider(h:c0 w B size A n xs)(d:B<=B'):c0 w B' size A n xs:=by
 refine⟨h.1,fun c=> ?_⟩;obtain⟨b,off,e,f,a⟩:=h.2 c;exact⟨b,off,e,by omega,a⟩
theorem c0.below(h:c0 w B size A n xs)(a:Below B w w'):c0 w' B size A n xs:=h.moved fun b off c=>a.cell (p:=⟨b,off,none⟩) c
theorem c0.drew(h:c0 w B size A n xs):c0 w.drew B size A n xs:=h
theorem c0.drewN(h:c0 w B size A n xs)(k:Nat):c0 (w.drewN k) B size A n xs:=h
theorem c0.alloc(h:c0 w B size A n xs)(a:B<=w.heap.size)(o:Obj):c0 (w.alloc o) B size A n xs:=h.moved fun b off c=>Rr w o ⟨b,off,none⟩ (show b<w.heap.size by omega)
theorem c0.setCell(h:c0 w B size A n xs){p:Addr}(a:B<=p.block)(u:Value):c0 (w.setCell p u) B size A n xs:=
 h.moved fun b off c=>QL w p ⟨b,off,none⟩ u (fun e=>by subst e;simp at a;omega)
theorem c0.at_{k:Nat}(h:c0 w B 1 A n xs)(f:k<n): ∃b off u,A=some ⟨b,off,none⟩/\b<B/\xs[k]? =some u/\w.cell? ⟨b,off+k,none⟩=some u:=by
 obtain⟨b,off,e,c,d⟩:=h.2 (by omega);have a:k<xs.length:=by have:=h.1;omega
 exact⟨b,off,xs[k],e,c,OE a,d k _ (OE a)⟩
theorem add_plain(b off j:Nat):(⟨b,off,none⟩:Addr).add j=⟨b,off+j,none⟩:=by
 unfold Addr.add;split<;>simp_all
theorem c0.of_own{base:Nat}{e:TypeId}{c:Nat}(h:w.ownsRow base e size (.slice A n c) n xs):c0 w w.heap.size size A n xs:=by
 refine⟨h.1,fun f=> ?_⟩;obtain⟨g,b,k,_,a⟩:=h.form f;have d:A=some ⟨g,0,none⟩:=by injection k
 subst d;exact⟨g,0,rfl,a,fun j u i=>by rw[<-add_plain];exact h.cells (g:=g) rfl j u i⟩
end
def dG{w:World}{base a size n:Nat}{e:TypeId}{v:Value}{xs:List Value}(h:w.ownsRow base e size v n xs)(l:a<=base):w.ownsRow a e size v n xs:=by
 obtain⟨f,d⟩:=h;refine⟨f,?_⟩;rcases d with d|⟨g,b,c,i,k,j⟩
 ·exact .inl d
 exact .inr ⟨g,b,c,i,by omega,j⟩
def aj{w:World}{base size n:Nat}{e:TypeId}{v:Value}{xs:List Value}(h:w.ownsRow base e size v n xs): ∃A c,v= .slice A n c/\c0 w w.heap.size size A n xs:=by
 rcases h.2 with⟨rfl,rfl⟩|⟨g,a,b,rfl,_⟩
 ·exact⟨none,0,rfl,c0.of_own h⟩
 exact⟨_,_,rfl,c0.of_own h⟩
def c0.boxed(w:World)(t:TypeId)(cs:Array Value)(size n:Nat)(h:cs.size=n*size):c0 (w.alloc (.cells cs t)) (w.heap.size+1) size (some ⟨w.heap.size,0,none⟩) n cs.toList:=
 ⟨by simpa using h,fun _=>⟨w.heap.size,0,rfl,by omega,fun j u a=>by rw[PR,(cU.new w t cs).cell, <-a];simp⟩⟩
def c0.marked(w:World)(t:TypeId)(cs:Array Value)(f:Nat×Nat)(size n:Nat)(h:cs.size=n*size):c0 (w.alloc (.cells cs t f)) (w.heap.size+1) size (some ⟨w.heap.size,0,none⟩) n cs.toList:=
 ⟨by simpa using h,fun _=>⟨w.heap.size,0,rfl,by omega,fun j u a=>by rw[PR,World.cell?_alloc_mark, <-a];simp⟩⟩
def oR{B n size:Nat}{W b w':World}{o:Obj}{v:Value}{e:TypeId}{xs:List Value}(d:Below B W b)(c:B<=b.heap.size)(f:(b.alloc o).grownBy w' v.ownBlock)(a:b.ownsRow B e size v n xs):Below B W w':=
 (d.alloc c o).grown f (by simp;omega) (fun k g=>(a.lt k g).1)
def vM{B n size:Nat}{W b w':World}{v:Value}{e:TypeId}{xs:List Value}(d:Below B W b)(c:B<=b.heap.size)(f:b.grownBy w' v.ownBlock)(a:b.ownsRow B e size v n xs):Below B W w':=
 d.grown f c (fun k g=>(a.lt k g).1)
section
variable {P:Program} (w:World)
theorem jJ(base:Nat)(t J e:TypeId)(i:TypeInfo)(z:Value)(size d:Nat)(E:P.underlying t=some (.slice e))(hi:P.info? e=some i)(S:i.zero=some z)
 (o:i.size=size)(y:i.bytes=d)(G:z.cells.size=size)(D:0<size)
 (v:Value)(n:Nat)(xs:List Value)(f:w.ownsRow base e size v n xs)
 (B:Nat)(A:Option Addr)(m c:Nat)(a:List Value)(r:c0 w B size A m a)(M: ∀u∈a,u.oneCell'=true)
 (x:n+m<=maxLen)(h:(n+m)*d<=140737488355328)(l:base<=w.heap.size):
 ∃p w',(Builtin.append_ #[t,t] J #[v, .slice A m c]).run P w= .ok p w'/\w'.ownsRow base e size p (n+m) (xs++a)/\w.grownBy w' v.ownBlock/\
  (p.ownBlock=v.ownBlock\/p.ownBlock=some w.heap.size):=by
 cases A with
 | none=>
   obtain rfl:m=0:=Nat.eq_zero_of_not_pos fun q=>by
    obtain⟨_,_,e,_⟩:=r.2 q;cases e
   obtain rfl:a=[]:=Ox (by simpa using r.1);refine⟨v,w,?_,by simpa using f,PL w _, .inl rfl⟩;rcases f.2 with⟨rfl,rfl⟩|⟨g,K,L,rfl,_,_,C,_⟩
   ·simp[Builtin.append_,OV E,sizeOf,typeInfo,hi,Builtin.lenOf,Builtin.firstCells]
   simp[Builtin.append_,OV E,sizeOf,typeInfo,hi,Builtin.lenOf,Builtin.firstCells,C,storeCells]
 | some H=>
   have k: ∀j u,a[j]? =some u->w.cell? (H.add j)=some u:=fun j u I=>by
    rcases Nat.eq_zero_or_pos m with q|q
    ·subst q;obtain rfl:a=[]:=Ox (by simpa using r.1);simp at I
    obtain⟨b,off,e,_,R⟩:=r.2 q;injection e with e
    subst e;rw[add_plain];exact R j u I
   obtain⟨p,w',s,N,O,_,Q⟩:=run_append_own_at (P:=P) w base t J e i z size d E hi S o y G D v n xs f H m c a r.1 k M x h l;exact⟨p,w',s,N,O,Q⟩
theorem bS{ops:Array Oper}{rest:List Oper}{o:Oper}{a:Act}{Q:Exit->Act->World->Prop}(r:o.guard=none)(s x:Operand)(t:TypeId)
 (L:o.op= .call { callee:= .builtin .append,args:= #[s,x],argTypes:= #[t,t] })
 (base:Nat)(e:TypeId)(i:TypeInfo)(z:Value)(size b:Nat)(N:P.underlying t=some (.slice e))(hi:P.info? e=some i)(R:i.zero=some z)
 (j:i.size=size)(q:i.bytes=b)(D:z.cells.size=size)(C:0<size)
 (v:Value)(n:Nat)(xs:List Value)(M:a.eval s=v)(l:w.ownsRow base e size v n xs)
 (B:Nat)(A:Option Addr)(m c:Nat)(d:List Value)(O:a.eval x= .slice A m c)(y:c0 w B size A m d)(E: ∀u∈d,u.oneCell'=true)
 (p:n+m<=maxLen)(f:(n+m)*b<=140737488355328)(g:base<=w.heap.size)
 (h: ∀k w',w'.ownsRow base e size k (n+m) (xs++d)->w.grownBy w' v.ownBlock->(k.ownBlock=v.ownBlock\/k.ownBlock=some w.heap.size)->wpList P ops Q rest (a.put o.dst k) w'):wpList P ops Q (o::rest) a w:=by
 refine wpList_plain r fun K J=> ?_;obtain⟨k,w',y,G,H,I⟩:=jJ (P:=P) w base t o.type e i z size b N hi R j q D C v n xs l B A m c d y E p f g;unfold Oper.wp execOp;simp only[L,resolve,invoke,builtin,Oc,PF,OX,R5,PE,Pv,M,O,y];exact J _ _ (h k w' G H I)
end
/-! Quiet regions: contracts that leave the world as it was -/
def ax{P:Program}{f:FuncId}{args:Array Value}{w:World}{n:Nat}{v:Value}
 (h:Calls P f args (w.drewN n) fun e w'=>e= .returned v/\w.drewN n=w'):Calls P f args (w.drewN n) fun e a=>e= .returned v/\ ∃m,a=w.drewN m:=
 h.mono fun _ _ ⟨b,c⟩=>⟨b,n,c.symm⟩
/-! Strings as lists of bytes -/
def xi(l:List UInt8)(a b:Nat):(ByteArray.mk l.toArray).extract a b=⟨((l.drop a).take (b-a)).toArray⟩:=by
 apply ByteArray.ext;rw[ByteArray.data_extract];simp[List.extract_eq_take_drop]
def lX(l:List UInt8):(ByteArray.mk l.toArray).size=l.length:=by simp[ByteArray.size]
def Kj(l:List UInt8)(k:Nat)(h:k<l.length):(ByteArray.mk l.toArray)[k]'(by simpa[ByteArray.size]using h)=l[k]:=rfl
def Ld{P:Program}(x y:List UInt8)(h:x.length+y.length<=9223372036854775807)(w:World):
 (Op.stringOp .add ⟨x.toArray⟩ ⟨y.toArray⟩).run P w= .ok (.string ⟨(x++y).toArray⟩) w:=by
 rw[run_string_add_if,OK (by simp only[lX];omega),ByteArray.mk_append_mk]
def bv(l:List UInt8):List Value:=l.map fun b=> .int .u8 (b.toNat:Int)
def NX(l:List UInt8):(bv l).length=l.length:=by simp[bv]
def xI(a b:List UInt8):bv (a++b)=bv a++bv b:=by simp[bv]
def NW(l:List UInt8): ∀u∈bv l,u.oneCell'=true:=by
 intro u a;simp only[bv,OW]at a;obtain⟨b,_,rfl⟩:=a;rfl
def Dk{P:Program}(w:World)(b a e:TypeId)(l:List UInt8)(m:P.underlying b=some .string)(i:P.underlying a=some (.slice e))(k:P.underlying e=some (.int .u8)):
 ∃c f,(convert b a (.string ⟨l.toArray⟩)).run P w= .ok (.slice (some ⟨w.heap.size,0,none⟩) l.length c) f/\Below w.heap.size w f/\c0 f (w.heap.size+1) 1 (some ⟨w.heap.size,0,none⟩) l.length (bv l):=by
 refine⟨_,_,(run_bytes_of_string w b a e ⟨l.toArray⟩ m i k).trans (by rw[lX]),?_,by simp[bv],fun _=>⟨_,_,rfl,by omega,fun j u d=> ?_⟩⟩
 ·exact(Oy _ _).drew.alloc (OO _) _
 have g:j<l.length:=by
  rcases QN j l.length with h|h
  ·exact h
  rw[OT (by simpa[bv]using h)]at d;cases d
 rw[PR];have:=World.cell?_alloc_mark w.drew (bytesRow ⟨l.toArray⟩ (grownCap w (ByteArray.mk l.toArray).size 0 e)) e ((bytesRow ⟨l.toArray⟩ (grownCap w (ByteArray.mk l.toArray).size 0 e)).size,(bytesRow ⟨l.toArray⟩ (grownCap w (ByteArray.mk l.toArray).size 0 e)).size+1) j;rw[lX]at this;refine this.trans ?_;rw[bytesRow_at _ _ _ (by simpa using g), <-d];simp[bv,g]
end Go.Proofs.YtfcdkaolcdglmaaGreatDoor
