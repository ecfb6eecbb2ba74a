/- awake of layer 31: the chart of two states, and what its table tells. -/
import Derived.Test.YtknkhdgfhbogdaaGreatDoorP28
import Derived.Lib.Overlaps
import Derived.Lib.AppendZerosOnto
set_option maxRecDepth 100000
set_option maxHeartbeats 16000000
set_option linter.unusedSimpArgs false
set_option linter.defProp false
namespace Go.Proofs.YtknkhdgfhbogdaaGreatDoor
open Go.Proofs.Tryz
open Go.RowKit
section
def kQ{P:Program}(w:World){ops:Array Oper}{b:List Oper}{o:Oper}{a:Act}{Q:Exit->Act->World->Prop}(c:o.guard=none)(d s:Operand)(t e:TypeId)
 (k:o.op= .call { callee:= .builtin .copy,args:= #[d,s],argTypes:= #[t,e] })(v u:Value)(j:a.eval d=v)(m:a.eval s=u){f:Value}{g:World}
 (l:(Builtin.copy_ #[t,e] o.type #[v,u]).run P w= .ok f g)(h:wpList P ops Q b (a.put o.dst f) g):wpList P ops Q (o::b) a w:=
 wpList_plain c fun K i=>by
  unfold Oper.wp execOp;simp only[k,resolve,invoke,builtin,MQ,Mc,MD,Ph,M1,NH,j,m,l];exact i _ _ h
def nI{P:Program}{ops:Array Oper}{o:Oper}{a:Act}{w:World}{K:Act->World->Prop}{Q:Exit->Act->World->Prop}{E:Prop}
 (j:o.guard=none)(d x:Operand)(c e:TypeId)(b:o.op=Op.call { callee:=Callee.builtin Builtin.copy,args:= #[d,x],argTypes:= #[c,e] })
 (v u:Value)(i:a.eval d=v)(l:a.eval x=u){f:Value}{g:World}(k:(Builtin.copy_ #[c,e] o.type #[v,u]).run P w= .ok f g)(h:K (a.put o.dst f) g):
 if Region.wanted o (yielded ops a.tmps)=true then Oper.wp P o a w K Q else E:=by
 rw[Lj (by simp[Region.wanted,j])];unfold Oper.wp;simp[execOp,b,resolve,invoke,builtin,i,l,k,Result.andThen];exact h
def tt{w:World}{base n sz:Nat}{e:TypeId}{v:Value}{xs:List Value}(h:w.ownsRow base e sz v n xs)(b:0<n):
 ∃g cap a,v= .slice (some ⟨g,0,none⟩) n cap/\base<=g/\w.heap[g]? =some (.cells a e (0,0))/\n<=cap/\cap<=maxLen/\a.size=cap*sz/\a.toList.take (n*sz)=xs:=by
 rcases h.2 with⟨_,h⟩|h
 ·omega
 exact h
def km{w:World}{g:Nat}{a:Array Value}{e:TypeId}(b:w.heap[g]? =some (.cells a e (0,0)))(k:Nat):w.cell? ⟨g,k,none⟩=a[k]? :=by simp[World.cell?,b]
def rW{w:World}{g:Nat}{a:Array Value}{e:TypeId}(b:w.heap[g]? =some (.cells a e (0,0)))(k:Nat):w.frozen? ⟨g,k,none⟩=false:=by simp[World.frozen?,b]
def DW:ew prog 28=some ⟨.slice 122 2 32 [.int .i64 0, .slice none 0 0],1,[.slice none 0 0]⟩:=by kernel_rfl
def Hz(w:World)(base n:Nat)(v u:Value)(xs ys:List Value)(hbw:base<=w.heap.size)(hx:w.ownsRow base 122 2 v n xs)(hy:w.ownsRow base 122 2 u 1 ys)(h1y: ∀y∈ys,y.oneCell'=true)(hn:n<=4096):
 Calls prog 284 #[v, .int .i64 (n:Int),u] w fun ex w'=> ∃v',ex= .returned v'/\w.grownBy w' v.ownBlock/\(∀g,v'.ownBlock=some g->v.ownBlock=some g\/w.heap.size<=g)/\w'.ownsRow base 122 2 v' (n+1) (xs++ys):=by
 obtain⟨hu,ie,ze,i1,i2,i3,i4,i5⟩:=bG DW
 have hzc:ze.cells.size=2:=by
  have:=MS List.length i5;simpa using this
 obtain⟨g2,c2,cur2,rfl,_,hg2,_⟩:=tt hy (by omega);obtain⟨v',w',hrun,ho,hgr⟩:=ei (P:=prog) w base 28 28 122 ie ze 2 32 hu i1 i2 i3 i4 hzc (by decide) v n xs hx (some ⟨g2,0,none⟩) 1 c2 ys hy.1 (fun _=>⟨_,rfl,fun j y hj=>hy.cells rfl j y hj⟩) h1y (by unfold maxLen;omega) (by omega) hbw
 have fin: ∃v'',Ending.returned v'= .returned v''/\w.grownBy w' v.ownBlock/\(∀g,v''.ownBlock=some g->v.ownBlock=some g\/w.heap.size<=g)/\w'.ownsRow base 122 2 v'' (n+1) (xs++ys):=by
  refine⟨v',rfl,?_,fun g hg=> ?_,ho⟩
  ·rcases hgr with⟨_,h⟩|⟨_,h⟩
   ·exact h
   exact⟨h.os,h.tape,h.output,h.size,fun k hk _=>h.block k hk (by simp)⟩
  rcases hgr with⟨e,_⟩|⟨e,_⟩
  ·rw[e]at hg;exact .inl hg
  rw[e]at hg;cases hg;exact .inr (Lr _)
 try clear hgr ho i1 i2 i3 i4 i5 hzc
 rcases hx.2 with⟨rfl,rfl⟩|⟨g,cap,cur,rfl,_,hg,hnc,hcm,_,_⟩
 ·clear hx hy
  go_enter func284,ntmps284
  go_wp2_with (at_builtin;refine Pf _ rfl _ _ _ _ rfl _ _ rfl rfl _ _ hrun ?_)
  all_goals (go_ret;exact fin)
 clear hx hy;unfold maxLen at hcm
 go_enter func284,ntmps284
 go_wp2_with (at_builtin;refine Pf _ rfl _ _ _ _ rfl _ _ rfl rfl _ _ hrun ?_)
 all_goals (go_ret;exact fin)
def fp(a:Array Value)(i n:Nat):List Value:=(a.toList.drop (i*2)).take ((n-i)*2)
def cj(l:List Value)(o:Nat)(cs:List Value):List Value:=l.take o++cs++l.drop (o+cs.length)
def oA{a:Array Value}{i n cap:Nat}(c:a.size=cap*2)(b:i<=n)(d:n<=cap):(fp a i n).length=(n-i)*2:=by
 unfold fp;rw[Lw,NP,Mr,c];omega
def rm{a:Array Value}{i n j:Nat}{v:Value}(h:(fp a i n)[j]? =some v):a[i*2+j]? =some v:=by
 unfold fp at h;rw[MV]at h;split at h
 ·rw[Ms]at h;simpa using h
 cases h
def eB{l:List Value}{o:Nat}{cs:List Value}(h:o+cs.length<=l.length):(cj l o cs).length=l.length:=by
 unfold cj;simp only[Ll,Lw,NP];omega
def nN{w b:World}{g:Nat}{R:Array Value}(h:w.grownBy b (some g)):w.grownBy (b.setRow g R) (some g):=
 ⟨h.os,h.tape,h.output,by simp[World.setRow];exact h.size,fun k c a=>by rw[Nk b g k R (fun e=>a (by rw[e]))];exact h.block k c a⟩
def ml{w a:World}{r:Option Nat}(h:w.grownBy a r):w.grownBy a.drew r:=⟨h.os,h.tape,h.output,h.size,h.block⟩
def GG(w:World)(g cap i n g2 c2:Nat)(cur cur2:Array Value)(hg:w.heap[g]? =some (.cells cur 122 (0,0)))(hg2:w.heap[g2]? =some (.cells cur2 122 (0,0)))(hne:g2≠g)(hi:i<n)(hroom:n+1<=cap)(hcap:cap<=9223372036854775807)(hsz:cur.size=cap*2)(hsz2:cur2.size=c2*2)(hc2:1<=c2)
 (h1c: ∀u∈fp cur i n,u.oneCell'=true)(h1y: ∀u∈fp cur2 0 1,u.oneCell'=true)(hn:n<=4096):
 Calls prog 284 #[.slice (some ⟨g,0,none⟩) n cap, .int .i64 (i:Int), .slice (some ⟨g2,0,none⟩) 1 c2] w fun e w'=>
  e= .returned (.slice (some ⟨g,0,none⟩) (n+1) cap)/\w.grownBy w' (some g)/\w'.heap[g]? =some (.cells (cj (cj cur.toList ((i+1)*2) (fp cur i n)) (i*2) (fp cur2 0 1)).toArray 122 (0,0)):=by
 obtain⟨hu,ie,ze,i1,i2,i3,i4,i5⟩:=bG DW;have hol:=oA hsz (QV hi) (by omega:n<=cap);have hyl:=oA hsz2 (Lx 1) hc2;have hl1:(cj cur.toList ((i+1)*2) (fp cur i n)).length=cap*2:=by rw[eB (by rw[hol,Mr,hsz];omega),Mr,hsz]
 have hov: ∀(W:World)(lb cb:Nat),W.heap=w.heap->(callFunc 291 #[.slice (some ⟨g2,0,none⟩) 1 c2, .slice (some ⟨g,(i+1)*2,none⟩) lb cb]).run prog W= .ok (.value (.bool false)) W:=fun W lb cb hW=>by
  have k1:W.heap[g]? =some (.cells cur 122 (0,0)):=by rw[hW];exact hg
  have k2:W.heap[g2]? =some (.cells cur2 122 (0,0)):=by rw[hW];exact hg2
  rw[run_callFunc_extern func291 (by kernel_rfl) (by kernel_rfl) (by kernel_rfl) (e:=Extern.SlicesOverlaps.overlaps #[28,28] #[4]) (by kernel_rfl),
   Lib.run_overlaps_apart W 28 4 122 hu 2 (fun w0=>by simp[sizeOf,typeInfo,i1,i3]) ⟨g2,0,none⟩ ⟨g,(i+1)*2,none⟩ 1 c2 lb cb hne 122 122 cur2.size cur.size (by simp[World.shape?,k2]) (by simp[World.shape?,k1]) (by omega) (rW k2 _) (rW k2 _)]
  rfl
 have hcp1: ∀(W:World),W.heap=w.heap-> ∀(ty:TypeId)(dc sc:Nat),(Builtin.copy_ #[28,28] ty #[.slice (some ⟨g,(i+1)*2,none⟩) (n-i) dc, .slice (some ⟨g,i*2,none⟩) (n+1-i) sc]).run prog W= .ok (goInt ((n-i:Nat):Int)) (W.setRow g (cj cur.toList ((i+1)*2) (fp cur i n)).toArray):=fun W hW ty dc sc=>by
  have k1:W.heap[g]? =some (.cells cur 122 (0,0)):=by rw[hW];exact hg
  exact ia W _ _ ty 122 ie i1 g ((i+1)*2) (n-i) dc ⟨g,i*2,none⟩ (n+1-i) sc cur 122 (fp cur i n) (n-i) hu k1 (by simp only[Q7];split<;>omega) (by rw[hol,i3])
   (fun j v hj=>by rw[Pw,km k1];exact rm hj) (by rw[hol,hsz];omega) h1c
 obtain⟨R1,hR1⟩: ∃R1,R1=cj cur.toList ((i+1)*2) (fp cur i n):=⟨_,rfl⟩;rw[<-hR1]at hcp1 hl1 |-
 have hcp2: ∀(W:World),W.heap=(w.setRow g R1.toArray).heap-> ∀(ty:TypeId)(dc:Nat),(Builtin.copy_ #[28,28] ty #[.slice (some ⟨g,i*2,none⟩) (n+1-i) dc, .slice (some ⟨g2,0,none⟩) 1 c2]).run prog W= .ok (goInt 1) (W.setRow g (cj R1 (i*2) (fp cur2 0 1)).toArray):=fun W hW ty dc=>by
  have k1:W.heap[g]? =some (.cells R1.toArray 122 (0,0)):=by rw[hW];exact Oi w g cur _ _ _ hg
  have k2:W.heap[g2]? =some (.cells cur2 122 (0,0)):=by rw[hW,Nk w g g2 _ hne];exact hg2
  exact ia W _ _ ty 122 ie i1 g (i*2) (n+1-i) dc ⟨g2,0,none⟩ 1 c2 R1.toArray 122 (fp cur2 0 1) 1 hu k1 (by simp only[Q7];split<;>omega) (by rw[hyl,i3])
   (fun j v hj=>by rw[Pw,km k2];exact rm hj) (by rw[hyl];simp only[Nb,hl1];omega) h1y
 have fin: ∀(W:World),W=((w.drew.setRow g R1.toArray).setRow g (cj R1 (i*2) (fp cur2 0 1)).toArray)->w.grownBy W (some g)/\W.heap[g]? =some (.cells (cj R1 (i*2) (fp cur2 0 1)).toArray 122 (0,0)):=fun W hW=>by
  rw[hW];exact⟨nN (nN (ml (World.grownBy.refl w _))),Oi _ g _ _ _ _ (Oi w.drew g cur _ _ _ hg)⟩
 obtain⟨R2,hR2⟩: ∃R2,R2=(cj R1 (i*2) (fp cur2 0 1)).toArray:=⟨_,rfl⟩;rw[<-hR2]at hcp2 fin |-;obtain⟨A1,hA1⟩: ∃A1,A1=R1.toArray:=⟨_,rfl⟩;rw[<-hA1]at hcp1 hcp2 fin;have hw1:IntKind.i64.wrap ((i:Int)+1)=(i:Int)+1:=by rw[PM];omega
 have hw2:IntKind.i64.wrap ((n:Int)+1)=(n:Int)+1:=by rw[PM];omega
 have hz2: ¬((i:Int)=(n:Int)):=by omega
 have hb1:(0:Int)<=(i:Int)+1:=by omega
 have hin:i<=n:=by omega
 have htn:((i:Int)+1).toNat=i+1:=by omega
 have hb2: ¬(cap=i+1):=by omega
 have hb4: ¬(cap=i):=by omega
 have hb5: ¬((cap:Int)< (n:Int)+1):=by omega
 have hb3:(i:Int)<=(n:Int)+1:=by omega
 try clear hol hyl hl1 hsz hsz2 h1c h1y hR1 hR2 hA1 i1 i2 i3 i4 i5
 go_enter func284,ntmps284
 go_wp2_with (simp only[hov _ _ _ rfl])
 go_region_law (refine nI rfl _ _ 28 28 rfl _ _ (by simp[Act.eval,Act.put]) (by simp[Act.eval,Act.put]) (hcp1 w.drew rfl 3 (cap-(i+1)) (cap-i)) ?_)
 go_wp2_with (refine kQ _ rfl _ _ 28 28 rfl _ _ rfl rfl (hcp2 (w.drew.setRow g A1) rfl _ _) ?_)
 go_ret
 exact⟨rfl,fin _ rfl⟩
def GH(w:World)(g cap i n g2 c2:Nat)(cur cur2:Array Value)(hg:w.heap[g]? =some (.cells cur 122 (0,0)))(hg2:w.heap[g2]? =some (.cells cur2 122 (0,0)))(hi:i<n)(hnc:n<=cap)(hroom:cap<n+1)(hsz:cur.size=cap*2)(hsz2:cur2.size=c2*2)(hc2:1<=c2)
 (h1c: ∀u∈fp cur i n,u.oneCell'=true)(h1y: ∀u∈fp cur2 0 1,u.oneCell'=true)(hn:n<=4096):
 Calls prog 284 #[.slice (some ⟨g,0,none⟩) n cap, .int .i64 (i:Int), .slice (some ⟨g2,0,none⟩) 1 c2] w fun e w'=> ∃(G:Nat) (Z:List Value),
  e= .returned (.slice (some ⟨w.heap.size,0,none⟩) (n+1) G)/\w.grownBy w' none/\n+1<=G/\G<=maxLen/\Z.length=(G-i)*2/\w'.heap[w.heap.size]? =some (.cells (cj (cj (cur.toList.take (i*2)++Z) (i*2) (fp cur2 0 1)) ((i+1)*2) (fp cur i n)).toArray 122 (0,0)):=by
 obtain⟨hu,ie,ze,i1,i2,i3,i4,i5⟩:=bG DW
 have hzc:ze.cells.size=2:=by
  have:=MS List.length i5;simpa using this
 have hol:=oA hsz (QV hi) hnc;have hyl:=oA hsz2 (Lx 1) hc2;have hgw:g<w.heap.size:=(MN.1 hg).1;have hgw2:g2<w.heap.size:=(MN.1 hg2).1;have hkk:(n:Int)+1-(i:Int)=((n+1-i:Nat):Int):=by omega
 have hik:i+(n+1-i)=n+1:=by omega
 have hold:(Builtin.firstCells ie.size i (.slice (some ⟨g,0,none⟩) i cap)).run prog w.drew= .ok (cur.toList.take (i*2)).toArray w.drew:=by
  rw[i3];refine run_firstCells_some w.drew 2 i ⟨g,0,none⟩ i cap (cur.toList.take (i*2)) (by rw[Lw,Mr];omega) fun j v hj=> ?_;rw[Pw];show w.cell? _=_;rw[km hg];rw[MV]at hj;split at hj
  ·simpa using hj
  cases hj
 have hui:prog.underlying 3=some (.int .i64):=Tryz.underlying3
 have hrz: ∀ty,(Builtin.append_ #[28,3] ty #[.slice (some ⟨g,0,none⟩) i cap, .int .i64 ((n:Int)+1-(i:Int))]).run prog w= .ok (.slice (some ⟨w.heap.size,0,none⟩) (n+1) (grownCap w (n+1) cap 122)) (w.drew.alloc (.cells ((cur.toList.take (i*2)).toArray++Builtin.zeroCells ze.cells (n+1-i)++Builtin.zeroCells ze.cells (grownCap w (n+1) cap 122-(n+1))) 122)):=fun ty=>by
  have h:=Lib.run_append_grow_zeros w 28 3 ty 122 ie ze .i64 .i64 hu hui i1 i2 (some ⟨g,0,none⟩) i cap (cur.toList.take (i*2)) hold (n+1-i) (by omega) (by omega) (by omega) (by omega) (by rw[i4];omega) (by rw[i4,hik];exact Q1 hroom (by omega));rw[hik]at h;rw[hkk];exact h
 obtain⟨G,hG⟩: ∃G,G=grownCap w (n+1) cap 122:=⟨_,rfl⟩;rw[<-hG]at hrz;have hGn:n+1<=G:=by rw[hG];exact QZ w _ _ _
 have hGm:G<=maxLen:=by rw[hG];exact Py w _ _ _ (by unfold maxLen;omega)
 obtain⟨Z,hZ⟩: ∃Z:List Value,Z=(Builtin.zeroCells ze.cells (n+1-i)).toList++(Builtin.zeroCells ze.cells (G-(n+1))).toList:=⟨_,rfl⟩
 have hZl:Z.length=(G-i)*2:=by
  rw[hZ,Ll,Mr,Mr,Pz,Pz,hzc];omega
 obtain⟨R0,hR0⟩: ∃R0:List Value,R0=cur.toList.take (i*2)++Z:=⟨_,rfl⟩
 have hr0:(cur.toList.take (i*2)).toArray++Builtin.zeroCells ze.cells (n+1-i)++Builtin.zeroCells ze.cells (G-(n+1))=R0.toArray:=by
  rw[hR0,hZ];apply Array.ext';simp
 have hrl:R0.length=G*2:=by
  rw[hR0,Ll,hZl,Lw,Mr,hsz];omega
 rw[hr0]at hrz;obtain⟨W1,hW1⟩: ∃W1,W1=w.drew.alloc (.cells R0.toArray 122):=⟨_,rfl⟩;rw[<-hW1]at hrz;have hn1:W1.heap[w.heap.size]? =some (.cells R0.toArray 122 (0,0)):=by rw[hW1];exact Pp w.drew _
 have hn2:W1.heap[g]? =some (.cells cur 122 (0,0)):=by rw[hW1,N3 _ _ _ (by exact hgw)];exact hg
 have hn3:W1.heap[g2]? =some (.cells cur2 122 (0,0)):=by rw[hW1,N3 _ _ _ (by exact hgw2)];exact hg2
 have hgr1:w.grownBy W1 none:=by rw[hW1];exact⟨rfl,rfl,rfl,by simp,fun k hk _=>by rw[N3 _ _ _ (by exact hk)];rfl⟩
 obtain⟨A2,hA2⟩: ∃A2,A2=cj R0 (i*2) (fp cur2 0 1):=⟨_,rfl⟩;have hl2:A2.length=G*2:=by rw[hA2,eB (by rw[hyl,hrl];omega),hrl]
 have hcpA: ∀(W:World),W.heap=W1.heap-> ∀(ty:TypeId)(dc:Nat),(Builtin.copy_ #[28,28] ty #[.slice (some ⟨w.heap.size,i*2,none⟩) (n+1-i) dc, .slice (some ⟨g2,0,none⟩) 1 c2]).run prog W= .ok (goInt 1) (W.setRow w.heap.size A2.toArray):=fun W hW ty dc=>by
  have k1:W.heap[w.heap.size]? =some (.cells R0.toArray 122 (0,0)):=by rw[hW];exact hn1
  have k2:W.heap[g2]? =some (.cells cur2 122 (0,0)):=by rw[hW];exact hn3
  rw[hA2]
  exact ia W _ _ ty 122 ie i1 w.heap.size (i*2) (n+1-i) dc ⟨g2,0,none⟩ 1 c2 R0.toArray 122 (fp cur2 0 1) 1 hu k1 (by simp only[Q7];split<;>omega) (by rw[hyl,i3])
   (fun j v hj=>by rw[Pw,km k2];exact rm hj) (by rw[hyl];simp only[Nb,hrl];omega) h1y
 obtain⟨A3,hA3⟩: ∃A3,A3=cj A2 ((i+1)*2) (fp cur i n):=⟨_,rfl⟩
 have hcpB: ∀(W:World),W.heap=(W1.setRow w.heap.size A2.toArray).heap-> ∀(ty:TypeId)(dc sc:Nat),(Builtin.copy_ #[28,28] ty #[.slice (some ⟨w.heap.size,(i+1)*2,none⟩) (n-i) dc, .slice (some ⟨g,i*2,none⟩) (n-i) sc]).run prog W= .ok (goInt ((n-i:Nat):Int)) (W.setRow w.heap.size A3.toArray):=fun W hW ty dc sc=>by
  have k1:W.heap[w.heap.size]? =some (.cells A2.toArray 122 (0,0)):=by rw[hW];exact Oi W1 _ _ _ _ _ hn1
  have k2:W.heap[g]? =some (.cells cur 122 (0,0)):=by rw[hW,Nk W1 w.heap.size g _ (QT hgw)];exact hn2
  rw[hA3]
  exact ia W _ _ ty 122 ie i1 w.heap.size ((i+1)*2) (n-i) dc ⟨g,i*2,none⟩ (n-i) sc A2.toArray 122 (fp cur i n) (n-i) hu k1 (by simp only[Q7];split<;>omega) (by rw[hol,i3])
   (fun j v hj=>by rw[Pw,km k2];exact rm hj) (by rw[hol];simp only[Nb,hl2];omega) h1c
 have fin: ∀(W:World),w.grownBy W none->W.heap[w.heap.size]? =some (.cells A3.toArray 122 (0,0))-> ∃(G':Nat) (Z':List Value),(Ending.returned (.slice (some ⟨w.heap.size,0,none⟩) (n+1) G):Ending)= .returned (.slice (some ⟨w.heap.size,0,none⟩) (n+1) G')/\w.grownBy W none/\n+1<=G'/\G'<=maxLen/\Z'.length=(G'-i)*2/\W.heap[w.heap.size]? =some (.cells (cj (cj (cur.toList.take (i*2)++Z') (i*2) (fp cur2 0 1)) ((i+1)*2) (fp cur i n)).toArray 122 (0,0)):=fun W h1 h2=>
  ⟨G,Z,rfl,h1,hGn,hGm,hZl,by rw[h2,hA3,hA2,hR0]⟩
 have fin2: ∀(W:World),w.grownBy W none->W.heap[w.heap.size]? =some (.cells A2.toArray 122 (0,0))->w.grownBy (W.setRow w.heap.size A3.toArray) none/\(W.setRow w.heap.size A3.toArray).heap[w.heap.size]? =some (.cells A3.toArray 122 (0,0)):=fun W h1 h2=>
  ⟨⟨h1.os,h1.tape,h1.output,by simp[World.setRow];exact h1.size,fun k hk hne=>by rw[Nk W _ k _ (QT hk)];exact h1.block k hk hne⟩,Oi W _ _ _ _ _ h2⟩
 have hgrA:w.grownBy (W1.setRow w.heap.size A2.toArray) none:=⟨hgr1.os,hgr1.tape,hgr1.output,by simp[World.setRow];exact hgr1.size,fun k hk hne=>by rw[Nk W1 _ k _ (QT hk)];exact hgr1.block k hk hne⟩;have hnA:(W1.setRow w.heap.size A2.toArray).heap[w.heap.size]? =some (.cells A2.toArray 122 (0,0)):=Oi W1 _ _ _ _ _ hn1;have hw1:IntKind.i64.wrap ((i:Int)+1)=(i:Int)+1:=by rw[PM];omega
 have hw2:IntKind.i64.wrap ((n:Int)+1)=(n:Int)+1:=by rw[PM];omega
 have hw3:IntKind.i64.wrap ((n:Int)+1-(i:Int))=(n:Int)+1-(i:Int):=by rw[PM];omega
 have hz2: ¬((i:Int)=(n:Int)):=by omega
 have hz3:(cap:Int)< (n:Int)+1:=by omega
 have hb1:(0:Int)<=(i:Int)+1:=by omega
 have hin:i<=n:=by omega
 have htn:((i:Int)+1).toNat=i+1:=by omega
 have hGi: ¬(G=i):=by omega
 have hGim: ¬(G=i+1):=by omega
 have hci: ¬(cap=i):=by omega
 have hb3:(i:Int)<=(n:Int):=by omega
 obtain⟨B2,hB2⟩: ∃B2,B2=A2.toArray:=⟨_,rfl⟩;obtain⟨B3,hB3⟩: ∃B3,B3=A3.toArray:=⟨_,rfl⟩;obtain⟨N0,hN0⟩: ∃N0,N0=w.heap.size:=⟨_,rfl⟩;rw[<-hB2]at hcpA hcpB hgrA hnA fin2;rw[<-hB3]at hcpB fin fin2;rw[<-hN0]at hrz hcpA hcpB fin fin2 hgrA hnA |-;try clear hkk hik hold hG hrl hr0 hR0 hW1 hn1 hn2 hn3 hgr1 hA2 hA3 hl2 hB2 hB3 i1 i2 i3 i4 i5 hol hyl h1c h1y hsz hsz2 hZ hZl hzc hu hui hN0
 go_enter func284,ntmps284
 go_wp2_with (first
  |(at_builtin;refine Pf _ rfl _ _ _ _ rfl _ _ rfl rfl _ _ (hrz _) ?_)
  |(refine kQ _ rfl _ _ 28 28 rfl _ _ rfl rfl (hcpA W1 rfl _ _) ?_))
 go_region_law (refine nI rfl _ _ 28 28 rfl _ _ (by simp[Act.eval,Act.put]) (by simp[Act.eval,Act.put]) (hcpB (W1.setRow N0 B2).drew rfl 3 (G-(i+1)) (cap-i)) ?_)
 go_wp2
 go_ret
 exact fin _ (fin2 _ (ml hgrA) hnA).1 (fin2 _ (ml hgrA) hnA).2
end
section
def Ht(P Y Z X:List Value):cj (cj (P++Z) P.length Y) (P.length+Y.length) X=P++Y++X++(P++Y++Z.drop Y.length).drop (P.length+Y.length+X.length):=by
 have a:cj (P++Z) P.length Y=P++Y++Z.drop Y.length:=by
  unfold cj;rw[OW,List.drop_append,Mm (by omega),Nat.add_sub_cancel_left,Nz];rfl
 rw[a];unfold cj;rw[show (P++Y++Z.drop Y.length).take (P.length+Y.length)=P++Y from OW (by rw[Ll])]
def Hu(P Q S X Y:List Value)(h:Q.length=Y.length):cj (cj (P++Q++S) (P.length+Y.length) X) P.length Y=P++Y++X++(P++Q++S).drop (P.length+Y.length+X.length):=by
 have a:cj (P++Q++S) (P.length+Y.length) X=P++Q++X++(P++Q++S).drop (P.length+Y.length+X.length):=by
  unfold cj;rw[show (P++Q++S).take (P.length+Y.length)=P++Q from OW (by rw[Ll,h])]
 rw[a];generalize (P++Q++S).drop (P.length+Y.length+X.length)=T;unfold cj;rw[show (P++Q++X++T).take P.length=P by rw[M4,M4];exact OW rfl,show (P++Q++X++T).drop (P.length+Y.length)=X++T by rw[M4];exact List.drop_left' (by rw[Ll,h])];simp only[M4]
def Jz(l:List Value)(a b:Nat):l=l.take a++(l.drop a).take b++l.drop (a+b):=by
 rw[M4, <-Pa,Nw,Nw]
def La:Sc prog 284 122 2:=by
 refine⟨Px func284 (by kernel_rfl) rfl,fun w A i n v u l t E N V hd P D hi S=> ?_⟩;by_cases he:i=n
 ·subst he;have hxl:=N.1;rw[M8 (by omega),Mm (by omega),Mw];exact Hz w A i v u l t E N V D S
 obtain⟨g,m,a,rfl,R,hg,T,I,b,L⟩:=tt N (by omega);obtain⟨O,W,d,rfl,_,J,H,_,q,M⟩:=tt V (by omega);have U:O≠g:=fun e=>hd g rfl (by rw[e];rfl);have z:fp d 0 1=t:=by unfold fp;rw[<-M];rfl
 have y:fp a i n=l.drop (i*2):=by
  unfold fp;rw[<-L,List.drop_take]
  congr 1
  omega
 have X:l.take (i*2)=a.toList.take (i*2):=by
  rw[<-L,QC,OD (by omega)]
 have s:(l.take (i*2)).length=i*2:=by rw[Lw,N.1];omega
 have c:t.length=2:=V.1;have o:(l.drop (i*2)).length=(n-i)*2:=by rw[NP,N.1];omega
 have B: ∀x∈fp a i n,x.oneCell'=true:=fun x j=>by rw[y]at j;exact P x (OI j)
 have C: ∀x∈fp d 0 1,x.oneCell'=true:=fun x j=>by rw[z]at j;exact D x j
 have f:(l.take (i*2)++t++l.drop (i*2)).length=(n+1)*2:=by
  rw[Ll,Ll,s,c,o];omega
 by_cases h:n+1<=m
 ·refine(GG w g m i n O W a d hg J U (by omega) h (by unfold maxLen at I;omega) b q H B C S).mono ?_;rintro ex w' ⟨rfl,r,Q⟩;refine⟨_,rfl,r,fun k K=> .inl K,f, .inr ⟨g,m,_,rfl,R,Q,h,I,?_,?_⟩⟩
  ·simp only[Nb];rw[eB,eB,Mr,b]
   ·rw[y,o,Mr,b];omega
   rw[eB,z,c,Mr,b]
   ·omega
   rw[y,o,Mr,b];omega
  rw[y,z];have Y:=Jz a.toList (i*2) 2;rw[<-X]at Y;have hQ:((a.toList.drop (i*2)).take 2).length=t.length:=by rw[Lw,NP,Mr,b,c];omega
  have:=Hu (l.take (i*2)) ((a.toList.drop (i*2)).take 2) (a.toList.drop (i*2+2)) (l.drop (i*2)) t hQ;rw[<-Y,s,c]at this;rw[show (i+1)*2=i*2+2 by omega];show (List.take _ (cj _ _ _))=_;rw[this];exact OW f
 refine(GH w g m i n O W a d hg J (by omega) T (by omega) b q H B C S).mono ?_;rintro ex w' ⟨G,Z,rfl,r,Q,h3,h4,h5⟩;refine⟨_,rfl,⟨r.os,r.tape,r.output,r.size,fun k K _=>r.block k K (by simp)⟩,fun k K=> .inr (by cases K;exact Lr _),f, .inr ⟨w.heap.size,G,_,rfl,E,h5,Q,h3,?_,?_⟩⟩
 ·simp only[Nb];have p:(a.toList.take (i*2)++Z).length=G*2:=by rw[Ll,h4,Lw,Mr,b];omega
  rw[eB,eB,p]
  ·rw[z,c,p];omega
  rw[eB,y,o,p]
  ·omega
  rw[z,c,p];omega
 rw[y,z, <-X];have:=Ht (l.take (i*2)) t Z (l.drop (i*2));rw[s,c]at this;rw[show (i+1)*2=i*2+2 by omega];show (List.take _ (cj _ _ _))=_;rw[this];exact OW f
end
section
def Cv(env:b6)(es:List (List AV))(c:es.length<=4096):b7 prog env 283 [.seq 2 es] (.own 122 2 es):=by
 cases es with
 | nil=>
   refine b7.empty fun A a=> ?_;cases A with
   | none=>
     refine qw func283 call283 ntmps283 results283 ?_;repeat refine m8 ?_
     (refine aM ?_;refine⟨_,(by show (ag _ _ _).run _=some _;simp only[go_sem];rfl),?_⟩)
     exact fX.own_nil _ _ (by decide)
   | some A=>
     refine qf func283 call283 ntmps283 results283 ?_;repeat refine m8 ?_
     exact p'
 | cons d l=>
   have b:cI ((l.length+1)) 32:=aC (by simpa using c) (by omega);refine qf func283 call283 ntmps283 results283 ?_;have F:=b;exact dT
def BL(env:b6)(x:dg)(h:Int)(b:0<=x.1/\x.1<=1000000)(a:0<=h/\h<=1000000):b7 prog env 282 [.agg (eg x),I h] (I (x.1-h)):=by
 have q:IntKind.i64.wrap (x.1-h)=x.1-h:=O0 _ (by omega);unfold eg;refine qf func282 call282 ntmps282 results282 ?_;have F:=q;exact dT
def x7(env:b6)(l:List dg)(x:Int)(P:Qf l)(L: ∀m∈l,0<=m.1/\m.1<=1000000)(H:0<=x/\x<=1000000)(Q:l.length<=1000000):b7 prog env 281 [ff l,I x, .lit (.func (.func 282) #[] #[])] (.tuple [I (zs l x),B (Rs l x)]):=by
 have o:=xk x l;have O:=fun {j:Nat}{y:dg}(a:l[j]? =some y)=>Dw (h:=x) P a;have c:Rs l x=match l[zs l x]? with|some y=>y.1==x|none=>false:=rfl
 generalize Rs l x=b at*;generalize zs l x=p at*;refine qf func281 call281 ntmps281 results281 ?_;repeat refine m8 ?_
 refine Si (D:=Nat×Nat) (fun d _=>[(0,ff l),(1,I x),(2, .lit (.func (.func 282) #[] #[])),(8,I l.length),(9,I d.1),(10,I d.2)]) (fun _ _=>[]) (fun d _ _=>d.1<=p/\p<=d.2/\d.2<=l.length) (fun d=>d.2-d.1) (0,l.length) ⟨Lx _,o,Lr _⟩ ?_;rintro⟨i,j⟩ R M ⟨z,A,C⟩;simp only at z A C;by_cases r:i<j
 ·have f:=h9 r;have K:(i+j)/2<l.length:=by omega
  obtain⟨y,a⟩: ∃y,l[(i+j)/2]? =some y:=⟨l[(i+j)/2],Lc K⟩;have g:=O a;have f1:=BL env y x (L y (Lh a)) H;have e:IntKind.i64.wrap ((i:Int)+(j:Int))=((i+j:Nat):Int):=by rw[aW (by omega) (by omega)];omega
  have t:IntKind.u64.wrap ((i+j:Nat):Int)=((i+j:Nat):Int):=IntWalk.u64_in _ (by omega)
  have u:IntKind.i64.wrap (((i+j:Nat):Int).fdiv (2^min 1 64))=(((i+j)/2:Nat):Int):=by
   rw[show ((i+j:Nat):Int).fdiv (2^min 1 64)=(((i+j)/2:Nat):Int) from(Q4 (i+j) 2).symm,aW (by omega) (by omega)]
  have v:(((i+j)/2:Nat):Int)< (l.length:Int):=by omega
  have w:=aD (k:=(i+j)/2) (n:=l.length) K (by omega);generalize N:(i+j)/2=s at*;unfold eg at f1;by_cases E:y.1<x
  ·have q:y.1-x<0:=by omega
   have:=g.2 E;have F:=pf S6 f e t u v w a q;repeat refine st ?_
   refine oC (kA rfl (by simp only[go_sem,F];exact iR)) (f1) (by simp only[go_sem,F];exact iR) (by simp only[go_sem,F];exact⟨rfl,rfl⟩) ?_;repeat refine st ?_
   refine⟨(s+1,j),⟨?_,?_,?_⟩,?_,?_,?_⟩
   ·simp only;omega
   ·exact A
   ·exact C
   ·exact qe
   ·exact qe
   simp only;omega
  have q: ¬y.1-x<0:=by omega
  have: ¬s<p:=fun h=>E (g.1 h);have F:=pf S6 f e t u v w a q;repeat refine st ?_
  refine oC (kA rfl (by simp only[go_sem,F];exact iR)) (f1) (by simp only[go_sem,F];exact iR) (by simp only[go_sem,F];exact⟨rfl,rfl⟩) ?_;repeat refine st ?_
  refine⟨(i,s),⟨?_,?_,?_⟩,?_,?_,?_⟩
  ·exact z
  ·simp only;omega
  ·simp only;omega
  ·exact qe
  ·exact qe
  simp only;omega
 obtain rfl:i=j:=by omega
 obtain rfl:i=p:=by omega
 have f:=nl i;by_cases J:i<l.length
 ·have e:=h9 J;obtain⟨y,a⟩:=gE J;have f1:=BL env y x (L y (Lh a)) H;rw[a]at c;have c:b=(y.1==x):=c;unfold eg at f1;by_cases G:y.1=x
  ·have q:(y.1-x==0)=true:=by simp;omega
   rw[c,show (y.1==x)=true by simpa using G];have F:=g7 S6 f e a q;repeat refine st ?_
   refine oC (kA rfl (by simp only[go_sem,F];exact iR)) (f1) (by simp only[go_sem,F];exact iR) (by simp only[go_sem,F];exact⟨rfl,rfl⟩) ?_;exact dT
  have q:(y.1-x==0)=false:=by simp;omega
  rw[c,show (y.1==x)=false by simpa using G];have F:=g7 S6 f e a q;repeat refine st ?_
  refine oC (kA rfl (by simp only[go_sem,F];exact iR)) (f1) (by simp only[go_sem,F];exact iR) (by simp only[go_sem,F];exact⟨rfl,rfl⟩) ?_;exact dT
 have e: ¬(i:Int)< (l.length:Int):=by omega
 rw[Lu (by omega)]at c;have c:b=false:=c;rw[c];have F:=ai f e;exact dT
def Js(l:List dg)(p:Nat)(m:dg):mi p (eg m) (l.map eg)=(l.take p++m::l.drop p).map eg:=by
 unfold mi;rw[Ln,M1,List.map_take,List.map_drop]
def Dt(env:b6)(l:List dg)(m:dg)(f:Qf l)(h: ∀m∈l,0<=m.1/\m.1<=1000000)(e:0<=m.1/\m.1<=1000000)(k:l.length<=4000):b7 prog env 264 [ff l, .agg (eg m)] (.own 122 2 ((kp l m).map eg)):=by
 have f0:=x7 env l m.1 f h e (by omega);have f1:=Cv env (l.map eg) (by rw[ME];omega);cases a:Rs l m.1 with
 | true=>
   rw[a]at f0;have b:=Kl a;rw[AW a];generalize zs l m.1=p at*;have j:=h9 b;have c:(l.map eg).set p [I m.1, .seq 1 (m.2.map aa)]=(l.set p m).map eg:=by rw[O7];rfl
   obtain⟨y,g⟩:=gE b;refine qf func264 call264 ntmps264 results264 ?_;have F:=hH S6 j c g;exact m5 f0 f1
 | false=>
   rw[a]at f0;rw[AX a, <-Js];have d:=xk m.1 l;generalize zs l m.1=p at*;refine qf func264 call264 ntmps264 results264 ?_;have F:=eg.eq_1;repeat refine vb f0 f1 ?_
   refine Gt 24 27 rfl (row:=⟨2,l.map eg,122,true⟩) (row2:=⟨2,[eg m],122,true⟩) (i:=p) La (MZ 1) rfl rfl rfl rfl rfl (by decide) (by rw[ME];exact d) (by rw[ME];omega) (by simp only[go_sem];exact iR) (by simp only[go_sem];exact iR) (by simp only[go_sem];exact iR) (by simp only[go_sem];exact iR) (by simp only[go_sem];exact iR) (by simp only[go_sem];exact iR) iR ?_;exact dT
end
section
def Sk(c:aq)(l:List dg):Prop:=Qf l/\ ∀m∈l,ed c m.1=true
def Jg{c:aq}{l:List dg}{k:Nat}{v:List Int}(b:k<c.Z9.length)(h:Sk c l):Sk c (kp l ((k:Int),v)):=
 ⟨tm h.1,fun p d=>by
  rcases (nu h.1).1 d with rfl|⟨a,_⟩
  ·exact aV.2 b
  exact h.2 p a⟩
def xn{c:aq}{l:List dg}(h:Sk c l):l.length<=c.Z9.length:=by
 have i:(l.map fun m=>m.1.toNat).Nodup:=by
  refine Oz.2 (h.1.imp_of_mem fun {a b} d f e=> ?_);have:=(aI.1 (h.2 a d)).1;have:=(aI.1 (h.2 b f)).1;omega
 have:=i.length_le_of_subset (l₂:=List.range c.Z9.length) fun x j=>by
  obtain⟨m,g,rfl⟩:=Lp.1 j;have:=aI.1 (h.2 m g);exact MK.2 (by omega)
 simpa using this
def LP{c:aq}(a:Right c){l:List dg}(h:Sk c l): ∀m∈l,0<=m.1/\m.1<=1000000:=fun m b=>by
 have:=aI.1 (h.2 m b);have:=a.Z6;omega
def Ix{c:aq}{mem:List dg}(h:bZ c mem=true):Sk c mem:=by
 obtain⟨a,b⟩:=oe h;refine⟨a,fun m d=> ?_⟩;obtain⟨k,s,e,f,_⟩:=EC (b m d);rw[e];exact aV.2 (Ld.1 f).1
def Hx{c:aq}{act:List Int}{i:Int}(h:bx act (av c i true)=1): ∃(p a:Nat),(av c i true)[p]? =some a/\lv c act i=[(a:Int)]/\ ∀(q y:Nat),(av c i true)[q]? =some y->act.contains (y:Int)=decide (q=p):=by
 obtain⟨k,o,f,r,n⟩:=uA h;obtain⟨a,l,rfl⟩:=Lp.1 o;obtain⟨p,g⟩:=NL.1 l;refine⟨p,a,g,r,fun q y b=> ?_⟩;by_cases e:q=p
 ·subst e;rw[g]at b;cases b;rw[M2 rfl];exact Lk.2 f
 rw[MU e];refine OL.2 fun m=>e ?_;have j:(y:Int)∈(gv c i).filter fun k=>act.contains k:=Lq.2 ⟨Lp.2 ⟨y,Lh b,rfl⟩,m⟩;rw[n]at j;have d:(y:Int)=(a:Int):=MA.1 j;have d:y=a:=by omega
 subst d;exact(List.getElem?_inj (Ld.1 b).1 (bU c i true)).1 (b.trans g.symm)
def Bq{c:aq}{act gone:List Int}{o:List dg}{j:Nat}{x:Int}(h:gone[j]? =some x):ta c act gone o (j+1)=if al c x=true then py c act x (ta c act gone o j) (va c x) (va c x).length else ta c act gone o j:=by
 unfold ta;exact bX _ _ h
def zW{c:aq}{act:List Int}{i:Int}{o:List dg}{M:List Nat}{m h:Nat}(a:M[m]? =some h):py c act i o M (m+1)=kp (py c act i o M m) ((h:Int),ru c act i h):=by
 unfold py;exact bX _ _ a
def oW(a:Nat)(p q:Nat):AV:=if q<=p then ct else .seq 1 [aB a]
end
section
/-! As the document says -/
def vG(c:aq)(l:List Int)(j:Nat):List Nat:=(List.range j).filter fun i:Nat=>l.contains (i:Int)&&(bx l (av c i true)==0)
def zP(env:b6)(c:aq)(h:b8 c)(l:List Int)(r:l.length<=1000000):b7 prog env 188 [.agg (aA c), .seq 1 (l.map aa)] (.own 3 1 ((Iq c l).map aB)):=by
 have s:=h.Z6;have p:=fun(i:Int)=>be env c i true (by omega);unfold aA at p;show b7 _ _ _ _ (.own _ 1 ((vG c l c.Z9.length).map aB));refine qf func188 call188 ntmps188 results188 ?_;have F:=aA.eq_1;repeat refine st ?_
 have F:=aA.eq_1;refine lq c.Z9.length (by omega) (fun j t=>[(1, .seq 1 (l.map aa)),(2, .loc 2 (t 2) 0 0),(5, .row 7 (t 7)),(6,I j)]) (fun j _=>[(2,⟨5,[aA c],26,false⟩),(7,⟨1,(vG c l j).map aB,3,true⟩)]) (fun j _ d=>d 7=false) rfl ?_ ?_
 ·rintro j w d e f m b;have f0:=cF env l (j:Int) r;have a:vG c l (j+1)=if (l.contains (j:Int)&&(bx l (av c j true)==0)) then vG c l j++[j] else vG c l j:=jg (fun i:Nat=>l.contains (i:Int)&&(bx l (av c i true)==0)) j
  have v:(vG c l j).length<=j:=fo (fun i:Nat=>l.contains (i:Int)&&(bx l (av c i true)==0)) j;have u:cI ((vG c l j).length+1) 8:=aC (by omega) (by omega);cases q:l.contains (j:Int) with
  | false=>
    rw[q]at f0 a;rw[M0,Lf MW]at a;have F:=hH SR f m b;repeat refine ef f0 ?_
    refine⟨j+1,⟨e,by simp only[go_sem,b]⟩,?_,?_,by omega⟩
    ·exact qe
    have F:=ai SR a;exact qe
  | true=>
    rw[q]at f0 a;rw[M5]at a;have n:=p (j:Int);have x:=bC h.toRight j true;have o:=fg env l (av c j true) r (by omega);generalize av c (j:Int) true=K at*;cases g:(bx l K==0) with
    | true=>
      have k:(((bx l K:Nat):Int)==0)=true:=by simpa using g
      rw[g,Lj rfl]at a;generalize bx l K=N at*;have F:=ip SR f m b k u;repeat refine Qs f0 n o ?_
      refine⟨j+1,⟨e,by simp only[go_sem,b]⟩,?_,?_,by omega⟩
      ·exact qe
      have F:=hH SR SU a @Ln.{0,0};exact qe
    | false=>
      have k:(((bx l K:Nat):Int)==0)=false:=by
       have:bx l K≠0:=by simpa using g
       simp;omega
      rw[g,Lf MW]at a;generalize bx l K=N at*;have F:=g7 SR f m b k;repeat refine Qs f0 n o ?_
      refine⟨j+1,⟨e,by simp only[go_sem,b]⟩,?_,?_,by omega⟩
      ·exact qe
      have F:=ai SR a;exact qe
 rintro w d f b;have F:=fI SR f b;exact dT
end
section
def u9(env:b6)(c:aq)(h:b8 c)(hs:g6 c)(act gone:List Int)(mem:List dg)(hla:act.length<=4000)(hlg:gone.length<=1000000)(hlb:rx c act=true)(hgo: ∀x∈gone,x∈act)(hm:bZ c mem=true):hU prog env 238 [1001,1006] (fun _=>false) (fun g=>[aH c, .row 1001 (g 1001), .row 1006 (g 1006),ff mem]) (fun _=>[(1001,⟨1,act.map aa,3,true⟩),(1006,⟨1,gone.map aa,3,true⟩)]) (fun _=>[(1001,⟨1,act.map aa,3,true⟩),(1006,⟨1,gone.map aa,3,true⟩)]) (fun _=>ff (m7 c act gone mem)):=by
 have f0:=au env c hs;have hfew:=h.Z6;have hok:=Ix hm;have hml:=xn hok;have f1:=Co env mem (by omega) (fun m hm'=>by have:=(rz h hm m hm').2;omega);have S:=cr hlb;show hU _ _ _ _ _ _ _ _ fun _=>ff (ta c act gone mem gone.length);unfold aH at f0 |-;refine qi func238 call238 ntmps238 results238 ?_;intro l esc hesc;obtain⟨b,d⟩:=OF hesc;have F:=ai b d;repeat refine vb f0 f1 ?_
 refine eh (cU.frozen 21 10 ⟨2,mem.map eg,122,true⟩ rfl (MZ 1) (by simp only[go_sem]) (by simp only[go_sem])) ?_;refine aG (D:=Nat) (fun j l=>[(0, .ref 9 [ca c] 0 0),(1, .row 1001 (l 1001)),(9, .loc 9 (l 9) 0 0),(10,ff (ta c act gone mem j)),(22, .row 1006 (l 1006)),(23,I gone.length),(24,I j)]) (fun _ _=>[(9,⟨5,[aA c],26,false⟩),(1001,⟨1,act.map aa,3,true⟩),(1006,⟨1,gone.map aa,3,true⟩)]) (fun j t f=>(j<=gone.length/\Sk c (ta c act gone mem j))/\(t 1001=l 1001/\t 1006=l 1006)/\f 1001=false/\f 1006=false) (fun j=>gone.length-j) 0 ?_ ?_ ?_ ?_
 ·exact⟨⟨Lx _,hok⟩,by simp only[go_sem,Ls],by simp only[go_sem,b,d,Ls]⟩
 ·(simp only[go_sem,F])
  try rfl
 ·have F:=aA.eq_1
  (simp only[go_sem,F])
  try rfl
 try clear b d
 rintro j ws esc ⟨⟨hj,hO⟩,⟨C,E⟩,b,d⟩;by_cases G:j<gone.length
 ·obtain⟨x,hx⟩:=gE G;have q1:=h9 G;have q2:=aD G (by omega);have hxa:=hgo x (Lh hx);obtain⟨s0,hs0,Z, -, -,H, -⟩:=S.of hxa;obtain⟨k,s,rfl,Y,hat⟩:=cO Z;obtain rfl:s0=s:=by rw[hs0]at hat;cases hat;rfl
  have hk:=(Ld.1 Y).1;have q3:((k:Nat):Int)< (c.Z9.length:Int):=by omega
  have f2:=B6 env c h k;have Q:=br hs0;have B:=Bq (c:=c) (act:=act) (o:=mem) hx;unfold aH at f2;generalize ta c act gone mem j=o at*;by_cases W:s0.kind=1
  ·have b1:(s0.kind==1)=true:=by simp[W]
   rw[b1]at Q;rw[Q,Lj rfl]at B
   have hML: ∀y∈va c (k:Int),∃N,c.Z9[y]? =some N/\N.parent=(k:Int)/\aU N=true:=fun y L=>by
    obtain⟨N,e1,_,e3,e4⟩:=gL.1 L;exact⟨N,e1,e3,e4⟩
   have hMl:(va c (k:Int)).length<=1000000:=by
    unfold va;have:=MF (Jm c (k:Int)) (List.range c.Z9.length);rw[OT]at this;omega
   have f3:=zn env c h.toRight act hla (k:Int)
   have f4:=GJ env c h (fi c act (k:Int)) (Ly (MF ..) hla) (fun y L=>by
    have L:=(Lq.1 L).1;obtain⟨_,_,Z,_⟩:=S.of L
    exact Z)
   have f5:=bc env c h (k:Int);rw[Lj (.inr Z)]at f5;have H:=H W;generalize va c (k:Int)=M at*;unfold aH at f3 f4 f5;have F:=pc SR SS hx q1 q2 q3 Y b1 jC b d;repeat refine ef f2 ?_
   refine aG (D:=Nat) (fun m l=>[(0, .ref 9 [ca c] 0 0),(1, .row 1001 (l 1001)),(9, .loc 9 (l 9) 0 0),(10,ff (py c act k o M m)),(12,I k),(22, .row 1006 (l 1006)),(23,I gone.length),(24,I j),(37, .row 37 (l 37)),(38,I M.length),(39,I m)]) (fun _ _=>[(9,⟨5,[aA c],26,false⟩),(37,⟨1,M.map aB,3,true⟩),(1001,⟨1,act.map aa,3,true⟩),(1006,⟨1,gone.map aa,3,true⟩)]) (fun m t f=>(m<=M.length/\Sk c (py c act k o M m))/\(t 1001=l 1001/\t 1006=l 1006)/\f 1001=false/\f 1006=false) (fun m=>M.length-m) 0 ?_ ?_ ?_ ?_
   ·exact⟨⟨Lx _,hO⟩,by simp only[go_sem,C,E,Ls],by simp only[go_sem,b,d,Ls]⟩
   ·(simp only[go_sem,F])
    try rfl
   ·have F:=fI SR b d
    (simp only[go_sem,F])
    try rfl
   try clear b d C E
   rintro m us es ⟨⟨hml2,w⟩,⟨C,E⟩,b,d⟩;by_cases n:m<M.length
   ·obtain⟨y,L⟩:=gE n;have p1:=h9 n;have p2:=aD n (by omega);obtain⟨N,J,hpar,hmy⟩:=hML y (Lh L);have hyl:=(Ld.1 J).1;have p3:((y:Nat):Int)< (c.Z9.length:Int):=by omega
    have A:=zW (c:=c) (act:=act) (i:=(k:Int)) (o:=o) L;have P:ru c act (k:Int) y=if N.kind=5 then kk c (fi c act (k:Int)) else lv c act (k:Int):=by unfold ru;rw[J]
    have T:=Jg (v:=ru c act (k:Int) y) hyl w;rw[<-A]at T;have hz2:=LP h.toRight w;have hl2:=xn w;generalize py c act (k:Int) o M m=R at*;by_cases O:N.kind=5
    ·have b5:(N.kind==5)=true:=by simp[O]
     rw[Lj O]at P;rw[P]at A;have f6:b7 prog env 264 [ff R, .agg [I (y:Int), .seq 1 ((kk c (fi c act (k:Int))).map aa)]] (.own 122 2 ((kp R ((y:Int),kk c (fi c act (k:Int)))).map eg)):=Dt env R ((y:Int),kk c (fi c act (k:Int))) w.1 hz2 ⟨by simp only;omega,by simp only;omega⟩ (by omega);generalize kk c (fi c act (k:Int))=V at*;generalize fi c act (k:Int)=U at*;refine dq ?_;have F:=pc SR SS SU L J p1 p2 p3 b5 b d;repeat refine st ?_
     refine lL (f3.lend (aj (fun _=>rfl) _)) ?_;repeat refine vb f4 f6 ?_
     refine⟨_,cU.frozen 76 10 ⟨2,(kp R ((y:Int),V)).map eg,122,true⟩ rfl (MZ 1) (by simp only[go_sem]) (by simp only[go_sem]),m+1,⟨⟨n,T⟩,by simp only[go_sem,C,E,Ls],by simp only[go_sem,b,d,Ls]⟩,?_,?_,by omega⟩
     ·have F:=fI A b d
      (simp only[go_sem,F])
      try rfl
     have F:=fI SR b d;exact qe
    have b5:(N.kind==5)=false:=by simpa using O
    rw[Lf O]at P;rw[P]at A
    have hkn:av c (k:Int) true≠[]:=by
     have:=(ol h J hmy).2.2.1;rw[hpar]at this;exact this
    have hkf:=bC h.toRight (k:Int) true;obtain⟨p,a,hp,hlk,X⟩:=Hx (H hkn);rw[hlk]at A;have f6:b7 prog env 264 [ff R, .agg [I (y:Int), .seq 1 [aB a]]] (.own 122 2 ((kp R ((y:Int),[(a:Int)])).map eg)):=Dt env R ((y:Int),[(a:Int)]) w.1 hz2 ⟨by simp only;omega,by simp only;omega⟩ (by omega);generalize av c (k:Int) true=K at*;refine dq ?_;have F:=pc SR SS SU L J p1 p2 p3 b5 b d;repeat refine ef f5 ?_
    refine aG (D:=Nat) (fun q l=>[(0, .ref 9 [ca c] 0 0),(1, .row 1001 (l 1001)),(9, .loc 9 (l 9) 0 0),(10,ff R),(12,I k),(14,I y),(15, .loc 15 (l 15) 0 0),(22, .row 1006 (l 1006)),(23,I gone.length),(24,I j),(37, .row 37 (l 37)),(38,I M.length),(39,I m),(61, .row 61 (l 61)),(62,I K.length),(63,I q)]) (fun q _=>[(9,⟨5,[aA c],26,false⟩),(15,⟨2,[[I y,oW a p q]],122,false⟩),(37,⟨1,M.map aB,3,true⟩),(61,⟨1,K.map aB,3,true⟩),(1001,⟨1,act.map aa,3,true⟩),(1006,⟨1,gone.map aa,3,true⟩)]) (fun q t f=>(q<=K.length/\f 15=false)/\(t 1001=l 1001/\t 1006=l 1006)/\f 1001=false/\f 1006=false) (fun q=>K.length-q) 0 ?_ ?_ ?_ ?_
    ·exact⟨⟨Lx _,by simp only[go_sem]⟩,by simp only[go_sem,C,E,Ls],by simp only[go_sem,b,d,Ls]⟩
    ·(simp only[go_sem,F])
     try rfl
    ·have F:=fI SR b d
     (simp only[go_sem,F])
     try rfl
    try clear b d C E
    rintro q xs fs ⟨⟨hq,e5⟩,⟨C,E⟩,b,d⟩;by_cases r:q<K.length
    ·obtain⟨u,hu⟩:=gE r;have r1:=h9 r;have r2:=aD r (by omega);have g0:=bJ env act (u:Int) (by omega);rw[X q u hu]at g0;by_cases hqp:q=p
     ·subst hqp;rw[M2 rfl]at g0;obtain rfl:u=a:=by rw[hp]at hu;cases hu;rfl
      have c1:oW u q q=ct:=by unfold oW;rw[Lj (Lr _)]
      have c2:oW u q (q+1)= .seq 1 [aB u]:=by unfold oW;rw[Lf (by omega)]
      refine dq ?_;have F:=pf SR SU hu r1 r2 c1 e5 b d;repeat refine st ?_
      refine lL (g0.lend rfl) ?_;repeat refine st ?_
      refine⟨_,cU.sees [(71,xs 71+1, .seq 1 [aB u])] (fun z Z=> ?_),q+1,⟨⟨r,?_⟩,?_,?_⟩,?_,?_,by omega⟩
      ·rw[MA.1 Z];refine⟨by simp only[go_sem],⟨1,[aB u],3,true⟩,by simp only[go_sem,aB],MZ 0,rfl,rfl⟩
      ·simp only[j0,go_sem,e5,Ob,P8]
      ·simp only[j0,go_sem,C,E,Ls]
      ·simp only[j0,go_sem,b,d,Ob,P8,Ls]
      ·have F:=ai b d;exact qe
      have F:=g7 SR SU c2 b d;exact qe
     rw[MU hqp]at g0
     have c1:oW a p (q+1)=oW a p q:=by
      unfold oW;by_cases e:q<=p
      ·rw[Lj (by omega),Lj e]
      rw[Lf (by omega),Lf e]
     have F:=ns SR SU hu r1 r2 e5 b d;repeat refine st ?_
     refine lL (g0.lend rfl) ?_;repeat refine st ?_
     refine⟨q+1,⟨⟨r,by simp only[go_sem,e5]⟩,by simp only[go_sem,C,E,Ls],by simp only[go_sem,b,d,Ls]⟩,?_,?_,by omega⟩
     ·exact qe
     have F:=g7 SR SU c1 b d;exact qe
    obtain rfl:q=K.length:=by omega
    have r1:=nl K.length
    have c1:oW a p K.length= .seq 1 [aB a]:=by
     unfold oW;rw[Lf (by have:=(Ld.1 hp).1;omega)]
    have F:=ns SR SU r1 c1 p2 e5 b d;repeat refine ef f6 ?_
    refine⟨_,cU.frozen 76 10 ⟨2,(kp R ((y:Int),[(a:Int)])).map eg,122,true⟩ rfl (MZ 1) (by simp only[go_sem]) (by simp only[go_sem]),m+1,⟨⟨n,T⟩,by simp only[go_sem,C,E,Ls],by simp only[go_sem,b,d,Ls]⟩,?_,?_,by omega⟩
    ·have F:=fI A b d
     (simp only[go_sem,F])
     try rfl
    have F:=fI SR b d;exact qe
   obtain rfl:m=M.length:=by omega
   have p1:=nl M.length;rw[<-B]at w;have F:=hH p1 q2 b d;repeat refine st ?_
   refine⟨j+1,⟨⟨G,w⟩,by simp only[go_sem,C,E,Ls],by simp only[go_sem,b,d,Ls]⟩,?_,?_,by omega⟩
   ·have F:=fI B b d;exact qe
   have F:=fI SR b d;exact qe
  have b1:(s0.kind==1)=false:=by simpa using W
  rw[b1]at Q;rw[Q,Lf MW]at B;rw[<-B]at hO;have F:=pc SR SS hx q1 q2 q3 Y b1 jC b d;repeat refine ef f2 ?_
  refine⟨j+1,⟨⟨G,hO⟩,by simp only[go_sem,C,E,Ls],by simp only[go_sem,b,d,Ls]⟩,?_,?_,by omega⟩
  ·have F:=fI B b d;exact qe
  have F:=fI SR b d;exact qe
 obtain rfl:j=gone.length:=by omega
 have q1:=nl gone.length;have F:=g7 q1 b d C E;repeat refine st ?_
 exact rI
def vD(env:b6)(o p:Addr)(z:fq env o p)(c:aq)(h:b8 c)(s:g6 c)(act gone:List Int)(D:act.length<=4000)(q:gone.length<=1000000)(mem:List dg)(r:mem.length<=1000000)(C: ∀m∈mem,cI m.2.length 8)(y:rx c act=true)(A:bZ c mem=true)(k: ∀x∈gone,x∈act):hU prog env 203 [1001,1006] (fun _=>false) (fun g=>[aH c, .row 1001 (g 1001), .row 1006 (g 1006),ff mem]) (fun _=>[(1001,⟨1,act.map aa,3,true⟩),(1006,⟨1,gone.map aa,3,true⟩)]) (fun _=>[(1001,⟨1,act.map aa,3,true⟩),(1006,⟨1,gone.map aa,3,true⟩)]) (fun _=> .tuple [ff (m7 c act gone mem),h8]):=by
 have f0:=cd env o p z c h s act (by omega);have f2:=pZ env o p z c h s mem r C;have f4:=u9 env c h s act gone mem D q y k A;unfold vA at f0;unfold JK at f2;rw[y]at f0;rw[A,Lj rfl]at f2;simp only[Mb]at f0;have f0:=f0.lend rfl;unfold aH at f0 f2 f4 |-;refine qi func203 call203 ntmps203 results203 ?_;intro e f i;obtain⟨a,b⟩:=OF i;have F:=ai a b;repeat refine st ?_
 refine lL f0 ?_;repeat refine ef f2 ?_
 refine lq gone.length (by omega) (fun j e=>[(0, .ref 9 [ca c] 0 0),(1, .row 1001 (e 1001)),(2, .row 1006 (e 1006)),(3,ff mem),(25, .row 1006 (e 1006)),(26,I gone.length),(27,I j)]) (fun _ _=>[(1001,⟨1,act.map aa,3,true⟩),(1006,⟨1,gone.map aa,3,true⟩)]) (fun j n d=>(n 1001=e 1001/\n 1006=e 1006)/\d 1001=false/\d 1006=false) ⟨by simp only[go_sem,Ls],by simp only[go_sem,a,b,Ls]⟩ ?_ ?_
 ·try clear a b
  rintro j G f l t E ⟨⟨u,v⟩,a,b⟩;obtain⟨x,B⟩:=gE l;have w:=bJ env act x (by omega);rw[Lk.2 (k x (Lh B))]at w;have F:=g7 B t E a b;repeat refine st ?_
  refine lL (w.lend rfl) ?_;repeat refine st ?_
  exact qn (j+1) ⟨l,by simp only[go_sem,u,v,Ls],by simp only[go_sem,a,b,Ls]⟩
 try clear a b
 rintro G f t ⟨⟨u,v⟩,a,b⟩;have F:=g7 t a b u v;repeat refine st ?_
 refine iL [(1001,1001),(1006,1006)] f4 ?_;repeat refine st ?_
 exact rI
end
section
end
end Go.Proofs.YtknkhdgfhbogdaaGreatDoor
