/- Memories behind leaving states, where what is active and what is left are the caller's rows (printed by mkZP.py out of XQH). -/
import Derived.Test.YtdpjgflalmnkdaaGreatDoorT28
import Derived.Lib.Overlaps
import Derived.Lib.AppendZerosOnto
set_option maxRecDepth 100000
set_option maxHeartbeats 16000000
set_option linter.unusedSimpArgs false
namespace Go.Proofs.YtdpjgflalmnkdaaGreatDoor
open Go.Proofs.Tryz
open Go.RowKit
section
theorem kA {P:Program} (w:World) {ops:Array Oper} {rest:List Oper} {o:Oper} {a:Act} {Q:Exit->Act->World->Prop} (hgd:o.guard=none) (d s:Operand) (t t':TypeId)
 (ho:o.op= .call { callee:= .builtin .copy,args:= #[d,s],argTypes:= #[t,t'] }) (v u:Value) (hd:a.eval d=v) (hs:a.eval s=u) {v':Value} {w':World}
 (hr:(Builtin.copy_ #[t,t'] o.type #[v,u]).run P w= .ok v' w') (h:wpList P ops Q rest (a.put o.dst v') w'):wpList P ops Q (o::rest) a w:=
 wpList_plain hgd fun K hK=>by
  unfold Oper.wp execOp;simp only[ho,resolve,invoke,builtin,LB,LX,Kn,O0,LR,MD,hd,hs,hr];exact hK _ _ h
theorem me {P:Program} {ops:Array Oper} {o:Oper} {a:Act} {w:World} {K:Act->World->Prop} {Q:Exit->Act->World->Prop} {E:Prop}
 (hg:o.guard=none) (d x:Operand) (dT sT:TypeId) (hop:o.op=Op.call { callee:=Callee.builtin Builtin.copy,args:= #[d,x],argTypes:= #[dT,sT] })
 (v u:Value) (hd:a.eval d=v) (hx:a.eval x=u) {v':Value} {w':World} (hr:(Builtin.copy_ #[dT,sT] o.type #[v,u]).run P w= .ok v' w') (hK:K (a.put o.dst v') w'):
 if Region.wanted o (yielded ops a.tmps)=true then Oper.wp P o a w K Q else E:=by
 rw[K5 (by simp[Region.wanted,hg])];unfold Oper.wp;simp[execOp,hop,resolve,invoke,builtin,hd,hx,hr,Result.andThen];exact hK
theorem sl {w:World} {base n sz:Nat} {e:TypeId} {v:Value} {xs:List Value} (h:w.ownsRow base e sz v n xs) (hn:0<n):
 ∃g cap cur,v= .slice (some ⟨g,0,none⟩) n cap/\base<=g/\w.heap[g]? =some (.cells cur e (0,0))/\n<=cap/\cap<=maxLen/\cur.size=cap*sz/\cur.toList.take (n*sz)=xs:=by
 rcases h.2 with⟨_,h⟩|h
 ·omega
 ·exact h
theorem kU {w:World} {g:Nat} {cur:Array Value} {e:TypeId} (hg:w.heap[g]? =some (.cells cur e (0,0))) (k:Nat):w.cell? ⟨g,k,none⟩=cur[k]? :=by simp[World.cell?,hg]
theorem qq {w:World} {g:Nat} {cur:Array Value} {e:TypeId} (hg:w.heap[g]? =some (.cells cur e (0,0))) (k:Nat):w.frozen? ⟨g,k,none⟩=false:=by simp[World.frozen?,hg]
theorem tyMx:tyD prog 28=some ⟨.slice 134 2 32 [.int .i64 0, .slice none 0 0],1,[.slice none 0 0]⟩:=by kernel_rfl
theorem Gv (w:World) (base n:Nat) (v u:Value) (xs ys:List Value) (hbw:base<=w.heap.size) (hx:w.ownsRow base 134 2 v n xs) (hy:w.ownsRow base 134 2 u 1 ys) (h1y: ∀y∈ys,y.oneCell'=true) (hn:n<=4096):
 Calls prog 225 #[v, .int .i64 (n:Int),u] w fun ex w'=> ∃v',ex= .returned v'/\w.grownBy w' v.ownBlock/\(∀g,v'.ownBlock=some g->v.ownBlock=some g\/w.heap.size<=g)/\w'.ownsRow base 134 2 v' (n+1) (xs++ys):=by
 obtain⟨hu,ie,ze,i1,i2,i3,i4,i5⟩:=bC tyMx
 have hzc:ze.cells.size=2:=by
  have:=LF List.length i5;simpa using this
 obtain⟨g2,c2,cur2,rfl,_,hg2,_⟩:=sl hy (by omega);obtain⟨v',w',hrun,ho,hgr⟩:=eZ (P:=prog) w base 28 28 134 ie ze 2 32 hu i1 i2 i3 i4 hzc (by decide) v n xs hx (some ⟨g2,0,none⟩) 1 c2 ys hy.1 (fun _=>⟨_,rfl,fun j y hj=>hy.cells rfl j y hj⟩) h1y (by unfold maxLen;omega) (by omega) hbw
 have fin: ∃v'',Ending.returned v'= .returned v''/\w.grownBy w' v.ownBlock/\(∀g,v''.ownBlock=some g->v.ownBlock=some g\/w.heap.size<=g)/\w'.ownsRow base 134 2 v'' (n+1) (xs++ys):=by
  refine⟨v',rfl,?_,fun g hg=> ?_,ho⟩
  ·rcases hgr with⟨_,h⟩|⟨_,h⟩
   ·exact h
   ·exact⟨h.os,h.tape,h.output,h.size,fun k hk _=>h.block k hk (by simp)⟩
  ·rcases hgr with⟨e,_⟩|⟨e,_⟩
   ·rw[e]at hg;exact .inl hg
   ·rw[e]at hg;cases hg;exact .inr (Kc _)
 try clear hgr ho i1 i2 i3 i4 i5 hzc
 rcases hx.2 with⟨rfl,rfl⟩|⟨g,cap,cur,rfl,_,hg,hnc,hcm,_,_⟩
 ·clear hx hy
  go_enter func225,ntmps225
  go_wp2_with (at_builtin;refine OY _ rfl _ _ _ _ rfl _ _ rfl rfl _ _ hrun ?_)
  all_goals (go_ret;exact fin)
 ·clear hx hy;unfold maxLen at hcm
  go_enter func225,ntmps225
  go_wp2_with (at_builtin;refine OY _ rfl _ _ _ _ rfl _ _ rfl rfl _ _ hrun ?_)
  all_goals (go_ret;exact fin)
def fX (cur:Array Value) (i n:Nat):List Value:=(cur.toList.drop (i*2)).take ((n-i)*2)
def cX (l:List Value) (o:Nat) (cs:List Value):List Value:=l.take o++cs++l.drop (o+cs.length)
theorem nU {cur:Array Value} {i n cap:Nat} (hs:cur.size=cap*2) (hin:i<=n) (hn:n<=cap):(fX cur i n).length=(n-i)*2:=by
 unfold fX;rw[Kg,ME,Lf,hs];omega
theorem rF {cur:Array Value} {i n j:Nat} {v:Value} (h:(fX cur i n)[j]? =some v):cur[i*2+j]? =some v:=by
 unfold fX at h;rw[LG]at h;split at h
 ·rw[Lh]at h;simpa using h
 ·cases h
theorem dx {l:List Value} {o:Nat} {cs:List Value} (h:o+cs.length<=l.length):(cX l o cs).length=l.length:=by
 unfold cX;simp only[K8,Kg,ME];omega
theorem mn {w w':World} {g:Nat} {R:Array Value} (h:w.grownBy w' (some g)):w.grownBy (w'.setRow g R) (some g):=
 ⟨h.os,h.tape,h.output,by simp[World.setRow];exact h.size,fun k hk hne=>by rw[M7 w' g k R (fun e=>hne (by rw[e]))];exact h.block k hk hne⟩
theorem mO {w w':World} {r:Option Nat} (h:w.grownBy w' r):w.grownBy w'.drew r:=⟨h.os,h.tape,h.output,h.size,h.block⟩
theorem FG (w:World) (g cap i n g2 c2:Nat) (cur cur2:Array Value) (hg:w.heap[g]? =some (.cells cur 134 (0,0))) (hg2:w.heap[g2]? =some (.cells cur2 134 (0,0))) (hne:g2≠g) (hi:i<n) (hroom:n+1<=cap) (hcap:cap<=9223372036854775807) (hsz:cur.size=cap*2) (hsz2:cur2.size=c2*2) (hc2:1<=c2)
 (h1c: ∀u∈fX cur i n,u.oneCell'=true) (h1y: ∀u∈fX cur2 0 1,u.oneCell'=true) (hn:n<=4096):
 Calls prog 225 #[.slice (some ⟨g,0,none⟩) n cap, .int .i64 (i:Int), .slice (some ⟨g2,0,none⟩) 1 c2] w fun e w'=>
  e= .returned (.slice (some ⟨g,0,none⟩) (n+1) cap)/\w.grownBy w' (some g)/\w'.heap[g]? =some (.cells (cX (cX cur.toList ((i+1)*2) (fX cur i n)) (i*2) (fX cur2 0 1)).toArray 134 (0,0)):=by
 obtain⟨hu,ie,ze,i1,i2,i3,i4,i5⟩:=bC tyMx;have hol:=nU hsz (PE hi) (by omega:n<=cap);have hyl:=nU hsz2 (Kj 1) hc2;have hl1:(cX cur.toList ((i+1)*2) (fX cur i n)).length=cap*2:=by rw[dx (by rw[hol,Lf,hsz];omega),Lf,hsz]
 have hov: ∀(W:World) (lb cb:Nat),W.heap=w.heap->(callFunc 261 #[.slice (some ⟨g2,0,none⟩) 1 c2, .slice (some ⟨g,(i+1)*2,none⟩) lb cb]).run prog W= .ok (.value (.bool false)) W:=fun W lb cb hW=>by
  have k1:W.heap[g]? =some (.cells cur 134 (0,0)):=by rw[hW];exact hg
  have k2:W.heap[g2]? =some (.cells cur2 134 (0,0)):=by rw[hW];exact hg2
  rw[run_callFunc_extern func261 (by kernel_rfl) (by kernel_rfl) (by kernel_rfl) (e:=Extern.SlicesOverlaps.overlaps #[28,28] #[4]) (by kernel_rfl),
   Lib.run_overlaps_apart W 28 4 134 hu 2 (fun w0=>by simp[sizeOf,typeInfo,i1,i3]) ⟨g2,0,none⟩ ⟨g,(i+1)*2,none⟩ 1 c2 lb cb hne 134 134 cur2.size cur.size (by simp[World.shape?,k2]) (by simp[World.shape?,k1]) (by omega) (qq k2 _) (qq k2 _)]
  rfl
 have hcp1: ∀(W:World),W.heap=w.heap-> ∀(ty:TypeId) (dc sc:Nat),(Builtin.copy_ #[28,28] ty #[.slice (some ⟨g,(i+1)*2,none⟩) (n-i) dc, .slice (some ⟨g,i*2,none⟩) (n+1-i) sc]).run prog W= .ok (goInt ((n-i:Nat):Int)) (W.setRow g (cX cur.toList ((i+1)*2) (fX cur i n)).toArray):=fun W hW ty dc sc=>by
  have k1:W.heap[g]? =some (.cells cur 134 (0,0)):=by rw[hW];exact hg
  exact iT W _ _ ty 134 ie i1 g ((i+1)*2) (n-i) dc ⟨g,i*2,none⟩ (n+1-i) sc cur 134 (fX cur i n) (n-i) hu k1 (by simp only[PQ];split<;>omega) (by rw[hol,i3])
   (fun j v hj=>by rw[Oc,kU k1];exact rF hj) (by rw[hol,hsz];omega) h1c
 obtain⟨R1,hR1⟩: ∃R1,R1=cX cur.toList ((i+1)*2) (fX cur i n):=⟨_,rfl⟩;rw[<-hR1]at hcp1 hl1 |-
 have hcp2: ∀(W:World),W.heap=(w.setRow g R1.toArray).heap-> ∀(ty:TypeId) (dc:Nat),(Builtin.copy_ #[28,28] ty #[.slice (some ⟨g,i*2,none⟩) (n+1-i) dc, .slice (some ⟨g2,0,none⟩) 1 c2]).run prog W= .ok (goInt 1) (W.setRow g (cX R1 (i*2) (fX cur2 0 1)).toArray):=fun W hW ty dc=>by
  have k1:W.heap[g]? =some (.cells R1.toArray 134 (0,0)):=by rw[hW];exact N3 w g cur _ _ _ hg
  have k2:W.heap[g2]? =some (.cells cur2 134 (0,0)):=by rw[hW,M7 w g g2 _ hne];exact hg2
  exact iT W _ _ ty 134 ie i1 g (i*2) (n+1-i) dc ⟨g2,0,none⟩ 1 c2 R1.toArray 134 (fX cur2 0 1) 1 hu k1 (by simp only[PQ];split<;>omega) (by rw[hyl,i3])
   (fun j v hj=>by rw[Oc,kU k2];exact rF hj) (by rw[hyl];simp only[M0,hl1];omega) h1y
 have fin: ∀(W:World),W=((w.drew.setRow g R1.toArray).setRow g (cX R1 (i*2) (fX cur2 0 1)).toArray)->w.grownBy W (some g)/\W.heap[g]? =some (.cells (cX R1 (i*2) (fX cur2 0 1)).toArray 134 (0,0)):=fun W hW=>by
  rw[hW];exact⟨mn (mn (mO (World.grownBy.refl w _))),N3 _ g _ _ _ _ (N3 w.drew g cur _ _ _ hg)⟩
 obtain⟨R2,hR2⟩: ∃R2,R2=(cX R1 (i*2) (fX cur2 0 1)).toArray:=⟨_,rfl⟩;rw[<-hR2]at hcp2 fin |-;obtain⟨A1,hA1⟩: ∃A1,A1=R1.toArray:=⟨_,rfl⟩;rw[<-hA1]at hcp1 hcp2 fin;have hw1:IntKind.i64.wrap ((i:Int)+1)=(i:Int)+1:=by rw[Nt];omega
 have hw2:IntKind.i64.wrap ((n:Int)+1)=(n:Int)+1:=by rw[Nt];omega
 have hz2: ¬((i:Int)=(n:Int)):=by omega
 have hb1:(0:Int)<=(i:Int)+1:=by omega
 have hin:i<=n:=by omega
 have htn:((i:Int)+1).toNat=i+1:=by omega
 have hb2: ¬(cap=i+1):=by omega
 have hb4: ¬(cap=i):=by omega
 have hb5: ¬((cap:Int)< (n:Int)+1):=by omega
 have hb3:(i:Int)<=(n:Int)+1:=by omega
 try clear hol hyl hl1 hsz hsz2 h1c h1y hR1 hR2 hA1 i1 i2 i3 i4 i5
 go_enter func225,ntmps225
 go_wp2_with (simp only[hov _ _ _ rfl])
 go_region_law (refine me rfl _ _ 28 28 rfl _ _ (by simp[Act.eval,Act.put]) (by simp[Act.eval,Act.put]) (hcp1 w.drew rfl 3 (cap-(i+1)) (cap-i)) ?_)
 go_wp2_with (refine kA _ rfl _ _ 28 28 rfl _ _ rfl rfl (hcp2 (w.drew.setRow g A1) rfl _ _) ?_)
 go_ret
 exact⟨rfl,fin _ rfl⟩
theorem FH (w:World) (g cap i n g2 c2:Nat) (cur cur2:Array Value) (hg:w.heap[g]? =some (.cells cur 134 (0,0))) (hg2:w.heap[g2]? =some (.cells cur2 134 (0,0))) (hi:i<n) (hnc:n<=cap) (hroom:cap<n+1) (hsz:cur.size=cap*2) (hsz2:cur2.size=c2*2) (hc2:1<=c2)
 (h1c: ∀u∈fX cur i n,u.oneCell'=true) (h1y: ∀u∈fX cur2 0 1,u.oneCell'=true) (hn:n<=4096):
 Calls prog 225 #[.slice (some ⟨g,0,none⟩) n cap, .int .i64 (i:Int), .slice (some ⟨g2,0,none⟩) 1 c2] w fun e w'=> ∃(G:Nat) (Z:List Value),
  e= .returned (.slice (some ⟨w.heap.size,0,none⟩) (n+1) G)/\w.grownBy w' none/\n+1<=G/\G<=maxLen/\Z.length=(G-i)*2/\w'.heap[w.heap.size]? =some (.cells (cX (cX (cur.toList.take (i*2)++Z) (i*2) (fX cur2 0 1)) ((i+1)*2) (fX cur i n)).toArray 134 (0,0)):=by
 obtain⟨hu,ie,ze,i1,i2,i3,i4,i5⟩:=bC tyMx
 have hzc:ze.cells.size=2:=by
  have:=LF List.length i5;simpa using this
 have hol:=nU hsz (PE hi) hnc;have hyl:=nU hsz2 (Kj 1) hc2;have hgw:g<w.heap.size:=(Kz.1 hg).1;have hgw2:g2<w.heap.size:=(Kz.1 hg2).1;have hkk:(n:Int)+1-(i:Int)=((n+1-i:Nat):Int):=by omega
 have hik:i+(n+1-i)=n+1:=by omega
 have hold:(Builtin.firstCells ie.size i (.slice (some ⟨g,0,none⟩) i cap)).run prog w.drew= .ok (cur.toList.take (i*2)).toArray w.drew:=by
  rw[i3];refine run_firstCells_some w.drew 2 i ⟨g,0,none⟩ i cap (cur.toList.take (i*2)) (by rw[Kg,Lf];omega) fun j v hj=> ?_;rw[Oc];show w.cell? _=_;rw[kU hg];rw[LG]at hj;split at hj
  ·simpa using hj
  ·cases hj
 have hui:prog.underlying 3=some (.int .i64):=Tryz.underlying3
 have hrz: ∀ty,(Builtin.append_ #[28,3] ty #[.slice (some ⟨g,0,none⟩) i cap, .int .i64 ((n:Int)+1-(i:Int))]).run prog w= .ok (.slice (some ⟨w.heap.size,0,none⟩) (n+1) (grownCap w (n+1) cap 134)) (w.drew.alloc (.cells ((cur.toList.take (i*2)).toArray++Builtin.zeroCells ze.cells (n+1-i)++Builtin.zeroCells ze.cells (grownCap w (n+1) cap 134-(n+1))) 134)):=fun ty=>by
  have h:=Lib.run_append_grow_zeros w 28 3 ty 134 ie ze .i64 .i64 hu hui i1 i2 (some ⟨g,0,none⟩) i cap (cur.toList.take (i*2)) hold (n+1-i) (by omega) (by omega) (by omega) (by omega) (by rw[i4];omega) (by rw[i4,hik];exact PM hroom (by omega));rw[hik]at h;rw[hkk];exact h
 obtain⟨G,hG⟩: ∃G,G=grownCap w (n+1) cap 134:=⟨_,rfl⟩;rw[<-hG]at hrz;have hGn:n+1<=G:=by rw[hG];exact PI w _ _ _
 have hGm:G<=maxLen:=by rw[hG];exact Oe w _ _ _ (by unfold maxLen;omega)
 obtain⟨Z,hZ⟩: ∃Z:List Value,Z=(Builtin.zeroCells ze.cells (n+1-i)).toList++(Builtin.zeroCells ze.cells (G-(n+1))).toList:=⟨_,rfl⟩
 have hZl:Z.length=(G-i)*2:=by
  rw[hZ,K8,Lf,Lf,Of,Of,hzc];omega
 obtain⟨R0,hR0⟩: ∃R0:List Value,R0=cur.toList.take (i*2)++Z:=⟨_,rfl⟩
 have hr0:(cur.toList.take (i*2)).toArray++Builtin.zeroCells ze.cells (n+1-i)++Builtin.zeroCells ze.cells (G-(n+1))=R0.toArray:=by
  rw[hR0,hZ];apply Array.ext';simp
 have hrl:R0.length=G*2:=by
  rw[hR0,K8,hZl,Kg,Lf,hsz];omega
 rw[hr0]at hrz;obtain⟨W1,hW1⟩: ∃W1,W1=w.drew.alloc (.cells R0.toArray 134):=⟨_,rfl⟩;rw[<-hW1]at hrz;have hn1:W1.heap[w.heap.size]? =some (.cells R0.toArray 134 (0,0)):=by rw[hW1];exact O6 w.drew _
 have hn2:W1.heap[g]? =some (.cells cur 134 (0,0)):=by rw[hW1,MR _ _ _ (by exact hgw)];exact hg
 have hn3:W1.heap[g2]? =some (.cells cur2 134 (0,0)):=by rw[hW1,MR _ _ _ (by exact hgw2)];exact hg2
 have hgr1:w.grownBy W1 none:=by rw[hW1];exact⟨rfl,rfl,rfl,by simp,fun k hk _=>by rw[MR _ _ _ (by exact hk)];rfl⟩
 obtain⟨A2,hA2⟩: ∃A2,A2=cX R0 (i*2) (fX cur2 0 1):=⟨_,rfl⟩;have hl2:A2.length=G*2:=by rw[hA2,dx (by rw[hyl,hrl];omega),hrl]
 have hcpA: ∀(W:World),W.heap=W1.heap-> ∀(ty:TypeId) (dc:Nat),(Builtin.copy_ #[28,28] ty #[.slice (some ⟨w.heap.size,i*2,none⟩) (n+1-i) dc, .slice (some ⟨g2,0,none⟩) 1 c2]).run prog W= .ok (goInt 1) (W.setRow w.heap.size A2.toArray):=fun W hW ty dc=>by
  have k1:W.heap[w.heap.size]? =some (.cells R0.toArray 134 (0,0)):=by rw[hW];exact hn1
  have k2:W.heap[g2]? =some (.cells cur2 134 (0,0)):=by rw[hW];exact hn3
  rw[hA2]
  exact iT W _ _ ty 134 ie i1 w.heap.size (i*2) (n+1-i) dc ⟨g2,0,none⟩ 1 c2 R0.toArray 134 (fX cur2 0 1) 1 hu k1 (by simp only[PQ];split<;>omega) (by rw[hyl,i3])
   (fun j v hj=>by rw[Oc,kU k2];exact rF hj) (by rw[hyl];simp only[M0,hrl];omega) h1y
 obtain⟨A3,hA3⟩: ∃A3,A3=cX A2 ((i+1)*2) (fX cur i n):=⟨_,rfl⟩
 have hcpB: ∀(W:World),W.heap=(W1.setRow w.heap.size A2.toArray).heap-> ∀(ty:TypeId) (dc sc:Nat),(Builtin.copy_ #[28,28] ty #[.slice (some ⟨w.heap.size,(i+1)*2,none⟩) (n-i) dc, .slice (some ⟨g,i*2,none⟩) (n-i) sc]).run prog W= .ok (goInt ((n-i:Nat):Int)) (W.setRow w.heap.size A3.toArray):=fun W hW ty dc sc=>by
  have k1:W.heap[w.heap.size]? =some (.cells A2.toArray 134 (0,0)):=by rw[hW];exact N3 W1 _ _ _ _ _ hn1
  have k2:W.heap[g]? =some (.cells cur 134 (0,0)):=by rw[hW,M7 W1 w.heap.size g _ (PD hgw)];exact hn2
  rw[hA3]
  exact iT W _ _ ty 134 ie i1 w.heap.size ((i+1)*2) (n-i) dc ⟨g,i*2,none⟩ (n-i) sc A2.toArray 134 (fX cur i n) (n-i) hu k1 (by simp only[PQ];split<;>omega) (by rw[hol,i3])
   (fun j v hj=>by rw[Oc,kU k2];exact rF hj) (by rw[hol];simp only[M0,hl2];omega) h1c
 have fin: ∀(W:World),w.grownBy W none->W.heap[w.heap.size]? =some (.cells A3.toArray 134 (0,0))-> ∃(G':Nat) (Z':List Value),(Ending.returned (.slice (some ⟨w.heap.size,0,none⟩) (n+1) G):Ending)= .returned (.slice (some ⟨w.heap.size,0,none⟩) (n+1) G')/\w.grownBy W none/\n+1<=G'/\G'<=maxLen/\Z'.length=(G'-i)*2/\W.heap[w.heap.size]? =some (.cells (cX (cX (cur.toList.take (i*2)++Z') (i*2) (fX cur2 0 1)) ((i+1)*2) (fX cur i n)).toArray 134 (0,0)):=fun W h1 h2=>
  ⟨G,Z,rfl,h1,hGn,hGm,hZl,by rw[h2,hA3,hA2,hR0]⟩
 have fin2: ∀(W:World),w.grownBy W none->W.heap[w.heap.size]? =some (.cells A2.toArray 134 (0,0))->w.grownBy (W.setRow w.heap.size A3.toArray) none/\(W.setRow w.heap.size A3.toArray).heap[w.heap.size]? =some (.cells A3.toArray 134 (0,0)):=fun W h1 h2=>
  ⟨⟨h1.os,h1.tape,h1.output,by simp[World.setRow];exact h1.size,fun k hk hne=>by rw[M7 W _ k _ (PD hk)];exact h1.block k hk hne⟩,N3 W _ _ _ _ _ h2⟩
 have hgrA:w.grownBy (W1.setRow w.heap.size A2.toArray) none:=⟨hgr1.os,hgr1.tape,hgr1.output,by simp[World.setRow];exact hgr1.size,fun k hk hne=>by rw[M7 W1 _ k _ (PD hk)];exact hgr1.block k hk hne⟩;have hnA:(W1.setRow w.heap.size A2.toArray).heap[w.heap.size]? =some (.cells A2.toArray 134 (0,0)):=N3 W1 _ _ _ _ _ hn1;have hw1:IntKind.i64.wrap ((i:Int)+1)=(i:Int)+1:=by rw[Nt];omega
 have hw2:IntKind.i64.wrap ((n:Int)+1)=(n:Int)+1:=by rw[Nt];omega
 have hw3:IntKind.i64.wrap ((n:Int)+1-(i:Int))=(n:Int)+1-(i:Int):=by rw[Nt];omega
 have hz2: ¬((i:Int)=(n:Int)):=by omega
 have hz3:(cap:Int)< (n:Int)+1:=by omega
 have hb1:(0:Int)<=(i:Int)+1:=by omega
 have hin:i<=n:=by omega
 have htn:((i:Int)+1).toNat=i+1:=by omega
 have hGi: ¬(G=i):=by omega
 have hGim: ¬(G=i+1):=by omega
 have hci: ¬(cap=i):=by omega
 have hb3:(i:Int)<=(n:Int):=by omega
 obtain⟨B2,hB2⟩: ∃B2,B2=A2.toArray:=⟨_,rfl⟩;obtain⟨B3,hB3⟩: ∃B3,B3=A3.toArray:=⟨_,rfl⟩;obtain⟨N0,hN0⟩: ∃N0,N0=w.heap.size:=⟨_,rfl⟩;rw[<-hB2]at hcpA hcpB hgrA hnA fin2;rw[<-hB3]at hcpB fin fin2;rw[<-hN0]at hrz hcpA hcpB fin fin2 hgrA hnA |-;try clear hkk hik hold hG hrl hr0 hR0 hW1 hn1 hn2 hn3 hgr1 hA2 hA3 hl2 hB2 hB3 i1 i2 i3 i4 i5 hol hyl h1c h1y hsz hsz2 hZ hZl hzc hu hui hN0
 go_enter func225,ntmps225
 go_wp2_with (first
  |(at_builtin;refine OY _ rfl _ _ _ _ rfl _ _ rfl rfl _ _ (hrz _) ?_)
  |(refine kA _ rfl _ _ 28 28 rfl _ _ rfl rfl (hcpA W1 rfl _ _) ?_))
 go_region_law (refine me rfl _ _ 28 28 rfl _ _ (by simp[Act.eval,Act.put]) (by simp[Act.eval,Act.put]) (hcpB (W1.setRow N0 B2).drew rfl 3 (G-(i+1)) (cap-i)) ?_)
 go_wp2
 go_ret
 exact fin _ (fin2 _ (mO hgrA) hnA).1 (fin2 _ (mO hgrA) hnA).2
end
section
theorem Gl (P Y Z X:List Value):cX (cX (P++Z) P.length Y) (P.length+Y.length) X=P++Y++X++(P++Y++Z.drop Y.length).drop (P.length+Y.length+X.length):=by
 have e1:cX (P++Z) P.length Y=P++Y++Z.drop Y.length:=by
  unfold cX;rw[NH,List.drop_append,La (by omega),Nat.add_sub_cancel_left,Mw];rfl
 rw[e1];unfold cX;rw[show (P++Y++Z.drop Y.length).take (P.length+Y.length)=P++Y from NH (by rw[K8])]
theorem Gm (P Q S X Y:List Value) (h:Q.length=Y.length):cX (cX (P++Q++S) (P.length+Y.length) X) P.length Y=P++Y++X++(P++Q++S).drop (P.length+Y.length+X.length):=by
 have e1:cX (P++Q++S) (P.length+Y.length) X=P++Q++X++(P++Q++S).drop (P.length+Y.length+X.length):=by
  unfold cX;rw[show (P++Q++S).take (P.length+Y.length)=P++Q from NH (by rw[K8,h])]
 rw[e1];generalize (P++Q++S).drop (P.length+Y.length+X.length)=T;unfold cX;rw[show (P++Q++X++T).take P.length=P by rw[LM,LM];exact NH rfl,show (P++Q++X++T).drop (P.length+Y.length)=X++T by rw[LM];exact List.drop_left' (by rw[K8,h])];simp only[LM]
theorem JF (l:List Value) (a b:Nat):l=l.take a++(l.drop a).take b++l.drop (a+b):=by
 rw[LM, <-OV,Mh,Mh]
theorem KX:Insr prog 225 134 2:=by
 refine⟨Od func225 (by kernel_rfl) rfl,fun w base i n v u xs ys hbw hx hy hd h1x h1y hi hn=> ?_⟩;by_cases he:i=n
 ·subst he;have hxl:=hx.1;rw[LU (by omega),La (by omega),Lo];exact Gv w base i v u xs ys hbw hx hy h1y hn
 ·obtain⟨g,cap,cur,rfl,hbg,hg,hnc,hcm,hsz,htk⟩:=sl hx (by omega);obtain⟨g2,c2,cur2,rfl,_,hg2,hc2,_,hsz2,htk2⟩:=sl hy (by omega);have hne:g2≠g:=fun e=>hd g rfl (by rw[e];rfl);have e2:fX cur2 0 1=ys:=by unfold fX;rw[<-htk2];rfl
  have e1:fX cur i n=xs.drop (i*2):=by
   unfold fX;rw[<-htk,List.drop_take]
   congr 1
   omega
  have hP:xs.take (i*2)=cur.toList.take (i*2):=by
   rw[<-htk,Oh,Mn (by omega)]
  have hPl:(xs.take (i*2)).length=i*2:=by rw[Kg,hx.1];omega
  have hYl:ys.length=2:=hy.1;have hXl:(xs.drop (i*2)).length=(n-i)*2:=by rw[ME,hx.1];omega
  have h1X: ∀x∈fX cur i n,x.oneCell'=true:=fun x hx'=>by rw[e1]at hx';exact h1x x (Mp hx')
  have h1Y: ∀x∈fX cur2 0 1,x.oneCell'=true:=fun x hx'=>by rw[e2]at hx';exact h1y x hx'
  have hlen:(xs.take (i*2)++ys++xs.drop (i*2)).length=(n+1)*2:=by
   rw[K8,K8,hPl,hYl,hXl];omega
  by_cases hroom:n+1<=cap
  ·refine(FG w g cap i n g2 c2 cur cur2 hg hg2 hne (by omega) hroom (by unfold maxLen at hcm;omega) hsz hsz2 hc2 h1X h1Y hn).mono ?_;rintro ex w' ⟨rfl,h1,h2⟩;refine⟨_,rfl,h1,fun k hk=> .inl hk,hlen, .inr ⟨g,cap,_,rfl,hbg,h2,hroom,hcm,?_,?_⟩⟩
   ·simp only[M0];rw[dx,dx,Lf,hsz]
    ·rw[e1,hXl,Lf,hsz];omega
    ·rw[dx,e2,hYl,Lf,hsz]
     ·omega
     ·rw[e1,hXl,Lf,hsz];omega
   ·rw[e1,e2];have hc:=JF cur.toList (i*2) 2;rw[<-hP]at hc;have hQ:((cur.toList.drop (i*2)).take 2).length=ys.length:=by rw[Kg,ME,Lf,hsz,hYl];omega
    have:=Gm (xs.take (i*2)) ((cur.toList.drop (i*2)).take 2) (cur.toList.drop (i*2+2)) (xs.drop (i*2)) ys hQ;rw[<-hc,hPl,hYl]at this;rw[show (i+1)*2=i*2+2 by omega];show (List.take _ (cX _ _ _))=_;rw[this];exact NH hlen
  ·refine(FH w g cap i n g2 c2 cur cur2 hg hg2 (by omega) hnc (by omega) hsz hsz2 hc2 h1X h1Y hn).mono ?_;rintro ex w' ⟨G,Z,rfl,h1,h2,h3,h4,h5⟩;refine⟨_,rfl,⟨h1.os,h1.tape,h1.output,h1.size,fun k hk _=>h1.block k hk (by simp)⟩,fun k hk=> .inr (by cases hk;exact Kc _),hlen, .inr ⟨w.heap.size,G,_,rfl,hbw,h5,h2,h3,?_,?_⟩⟩
   ·simp only[M0];have hl0:(cur.toList.take (i*2)++Z).length=G*2:=by rw[K8,h4,Kg,Lf,hsz];omega
    rw[dx,dx,hl0]
    ·rw[e2,hYl,hl0];omega
    ·rw[dx,e1,hXl,hl0]
     ·omega
     ·rw[e2,hYl,hl0];omega
   ·rw[e1,e2, <-hP];have:=Gl (xs.take (i*2)) ys Z (xs.drop (i*2));rw[hPl,hYl]at this;rw[show (i+1)*2=i*2+2 by omega];show (List.take _ (cX _ _ _))=_;rw[this];exact NH hlen
end
section
theorem Bw (env:Env) (es:List (List AV)) (hl:es.length<=4096):Con prog env 224 [.seq 2 es] (.own 134 2 es):=by
 cases es with
 | nil=>
   refine Con.empty fun A cap=> ?_;cases A with
   | none=>
     refine qw func224 call224 ntmps224 results224 ?_;repeat refine st0 ?_
     (refine aM ?_;refine⟨_,(by show (ae _ _ _).run _=some _;simp only[go_sem];rfl),?_⟩)
     exact fo.own_nil _ _ (by decide)
   | some A=>
     refine qf func224 call224 ntmps224 results224 ?_;repeat refine st0 ?_
     exact aR0
 | cons d l=>
   have g1:Fits ((l.length+1)) 32:=aC (by simpa using hl) (by omega);refine qf func224 call224 ntmps224 results224 ?_;have F:=g1;repeat refine st ?_
   exact aR
theorem AH (env:Env) (x:MemD) (h:Int) (hx:0<=x.1/\x.1<=1000000) (hh:0<=h/\h<=1000000):Con prog env 223 [.agg (mmAV x),I h] (I (x.1-h)):=by
 have q:IntKind.i64.wrap (x.1-h)=x.1-h:=NL _ (by omega);unfold mmAV;refine qf func223 call223 ntmps223 results223 ?_;have F:=q;repeat refine st ?_
 exact aR
theorem w8 (env:Env) (l:List MemD) (x:Int) (hs:Srt l) (hz: ∀m∈l,0<=m.1/\m.1<=1000000) (hh:0<=x/\x<=1000000) (hl:l.length<=1000000):Con prog env 222 [memsAV l,I x, .lit (.func (.func 223) #[] #[])] (.tuple [I (posM l x),B (isM l x)]):=by
 have hle:=wt x l;have hp:=fun {j:Nat} {y:MemD} (hy:l[j]? =some y)=>Cq (h:=x) hs hy;have hI:isM l x=match l[posM l x]? with|some y=>y.1==x|none=>false:=rfl
 generalize isM l x=b at*;generalize posM l x=p at*;refine qf func222 call222 ntmps222 results222 ?_;repeat refine st0 ?_
 refine lp0 (D:=Nat×Nat) (fun d _=>[(0,memsAV l),(1,I x),(2, .lit (.func (.func 223) #[] #[])),(8,I l.length),(9,I d.1),(10,I d.2)]) (fun _ _=>[]) (fun d _ _=>d.1<=p/\p<=d.2/\d.2<=l.length) (fun d=>d.2-d.1) (0,l.length) ⟨Kj _,hle,Kc _⟩ ?_;rintro⟨i,j⟩ ws esc ⟨h1,h2,h3⟩;simp only at h1 h2 h3;by_cases hlt:i<j
 ·have g1:=nlt hlt;have hm:(i+j)/2<l.length:=by omega
  obtain⟨y,hy⟩: ∃y,l[(i+j)/2]? =some y:=⟨l[(i+j)/2],KZ hm⟩;have hyp:=hp hy;have f1:=AH env y x (hz y (K4 hy)) hh;have g2:IntKind.i64.wrap ((i:Int)+(j:Int))=((i+j:Nat):Int):=by rw[aU (by omega) (by omega)];omega
  have g3:IntKind.u64.wrap ((i+j:Nat):Int)=((i+j:Nat):Int):=IntWalk.u64_in _ (by omega)
  have g4:IntKind.i64.wrap (((i+j:Nat):Int).fdiv (2^min 1 64))=(((i+j)/2:Nat):Int):=by
   rw[show ((i+j:Nat):Int).fdiv (2^min 1 64)=(((i+j)/2:Nat):Int) from(PN (i+j) 2).symm,aU (by omega) (by omega)]
  have g5:(((i+j)/2:Nat):Int)< (l.length:Int):=by omega
  have g6:=aD (k:=(i+j)/2) (n:=l.length) hm (by omega);generalize hmm:(i+j)/2=mm at*;unfold mmAV at f1;by_cases hb:y.1<x
  ·have q:y.1-x<0:=by omega
   have:=hyp.2 hb;have F:=ai9 mmAV.eq_1 g1 g2 g3 g4 g5 g6 hy q;repeat refine st ?_
   refine oC (jl rfl (by simp only[go_sem,F];exact iR)) (f1) (by simp only[go_sem,F];exact iR) (by simp only[go_sem,F];exact⟨rfl,rfl⟩) ?_;repeat refine st ?_
   refine⟨(mm+1,j),⟨?_,?_,?_⟩,?_,?_,?_⟩
   ·simp only;omega
   ·exact h2
   ·exact h3
   ·exact qe
   ·exact qe
   ·simp only;omega
  ·have q: ¬y.1-x<0:=by omega
   have: ¬mm<p:=fun h=>hb (hyp.1 h);have F:=ai9 mmAV.eq_1 g1 g2 g3 g4 g5 g6 hy q;repeat refine st ?_
   refine oC (jl rfl (by simp only[go_sem,F];exact iR)) (f1) (by simp only[go_sem,F];exact iR) (by simp only[go_sem,F];exact⟨rfl,rfl⟩) ?_;repeat refine st ?_
   refine⟨(i,mm),⟨?_,?_,?_⟩,?_,?_,?_⟩
   ·exact h1
   ·simp only;omega
   ·simp only;omega
   ·exact qe
   ·exact qe
   ·simp only;omega
 ·obtain rfl:i=j:=by omega
  obtain rfl:i=p:=by omega
  have g1:=nl i;by_cases hi:i<l.length
  ·have g2:=nlt hi;obtain⟨y,hy⟩:=gE hi;have f1:=AH env y x (hz y (K4 hy)) hh;rw[hy]at hI;have hI:b=(y.1==x):=hI;unfold mmAV at f1;by_cases he:y.1=x
   ·have q:(y.1-x==0)=true:=by simp;omega
    rw[hI,show (y.1==x)=true by simpa using he];have F:=ai5 mmAV.eq_1 g1 g2 hy q;repeat refine st ?_
    refine oC (jl rfl (by simp only[go_sem,F];exact iR)) (f1) (by simp only[go_sem,F];exact iR) (by simp only[go_sem,F];exact⟨rfl,rfl⟩) ?_;repeat refine st ?_
    exact aR
   ·have q:(y.1-x==0)=false:=by simp;omega
    rw[hI,show (y.1==x)=false by simpa using he];have F:=ai5 mmAV.eq_1 g1 g2 hy q;repeat refine st ?_
    refine oC (jl rfl (by simp only[go_sem,F];exact iR)) (f1) (by simp only[go_sem,F];exact iR) (by simp only[go_sem,F];exact⟨rfl,rfl⟩) ?_;repeat refine st ?_
    exact aR
  ·have g2: ¬(i:Int)< (l.length:Int):=by omega
   rw[Kf (by omega)]at hI;have hI:b=false:=hI;rw[hI];have F:=ai g1 g2;repeat refine st ?_
   exact aR
theorem Iu (l:List MemD) (p:Nat) (m:MemD):mM p (mmAV m) (l.map mmAV)=(l.take p++m::l.drop p).map mmAV:=by
 unfold mM;rw[Ka,LR,List.map_take,List.map_drop]
theorem Cn (env:Env) (l:List MemD) (m:MemD) (hs:Srt l) (hz: ∀m∈l,0<=m.1/\m.1<=1000000) (hh:0<=m.1/\m.1<=1000000) (hl:l.length<=4000):Con prog env 186 [memsAV l, .agg (mmAV m)] (.own 134 2 ((kX l m).map mmAV)):=by
 have f0:=w8 env l m.1 hs hz hh (by omega);have f1:=Bw env (l.map mmAV) (by rw[Ko];omega);cases hb:isM l m.1 with
 | true=>
   rw[hb]at f0;have hlt:=Ji hb;rw[zR hb];generalize posM l m.1=p at*;have q0:=nlt hlt;have hset:(l.map mmAV).set p [I m.1, .seq 1 (m.2.map intAV)]=(l.set p m).map mmAV:=by rw[NT];rfl
   obtain⟨y,hy⟩:=gE hlt;refine qf func186 call186 ntmps186 results186 ?_;have F:=ai4 mmAV.eq_1 q0 hset hy;repeat refine tz2 f0 f1 ?_
   exact aR
 | false=>
   rw[hb]at f0;rw[zS hb, <-Iu];have hle:=wt m.1 l;generalize posM l m.1=p at*;refine qf func186 call186 ntmps186 results186 ?_;have F:=mmAV.eq_1;repeat refine tz2 f0 f1 ?_
   refine Fw 24 27 rfl (row:=⟨2,l.map mmAV,134,true⟩) (row2:=⟨2,[mmAV m],134,true⟩) (i:=p) KX (LL 1) rfl rfl rfl rfl rfl (by decide) (by rw[Ko];exact hle) (by rw[Ko];omega) (by simp only[go_sem];exact iR) (by simp only[go_sem];exact iR) (by simp only[go_sem];exact iR) (by simp only[go_sem];exact iR) (by simp only[go_sem];exact iR) (by simp only[go_sem];exact iR) iR ?_;repeat refine st ?_
   exact aR
end
section
def okM (c:ChD) (l:List MemD):Prop:=Srt l/\ ∀m∈l,inZ c m.1=true
theorem Ii {c:ChD} {l:List MemD} {k:Nat} {v:List Int} (hk:k<c.states.length) (h:okM c l):okM c (kX l ((k:Int),v)):=
 ⟨sj h.1,fun p hp=>by
  rcases (nR h.1).1 hp with rfl|⟨h1,_⟩
  ·exact aV.2 hk
  ·exact h.2 p h1⟩
theorem wv {c:ChD} {l:List MemD} (h:okM c l):l.length<=c.states.length:=by
 have hn:(l.map fun m=>m.1.toNat).Nodup:=by
  refine Ni.2 (h.1.imp_of_mem fun {a b} ha hb hab=> ?_);have:=(aH.1 (h.2 a ha)).1;have:=(aH.1 (h.2 b hb)).1;omega
 have:=hn.length_le_of_subset (l₂:=List.range c.states.length) fun x hx=>by
  obtain⟨m,hm,rfl⟩:=Kb.1 hx;have:=aH.1 (h.2 m hm);exact Kw.2 (by omega)
 simpa using this
theorem KH {c:ChD} (hc:Right c) {l:List MemD} (h:okM c l): ∀m∈l,0<=m.1/\m.1<=1000000:=fun m hm=>by
 have:=aH.1 (h.2 m hm);have:=hc.few;omega
theorem Ht {c:ChD} {mem:List MemD} (h:bU c mem=true):okM c mem:=by
 obtain⟨h1,h2⟩:=oQ h;refine⟨h1,fun m hm=> ?_⟩;obtain⟨k,s,e,hs,_⟩:=Cx (h2 m hm);rw[e];exact aV.2 (K0.1 hs).1
theorem Gq {c:ChD} {act:List Int} {i:Int} (h:manyI act (kidsL c i true)=1): ∃(p a:Nat),(kidsL c i true)[p]? =some a/\lX c act i=[(a:Int)]/\ ∀(q y:Nat),(kidsL c i true)[q]? =some y->act.contains (y:Int)=decide (q=p):=by
 obtain⟨k,hk,hka,hl,hf⟩:=sx h;obtain⟨a,ha,rfl⟩:=Kb.1 hk;obtain⟨p,hp⟩:=MA.1 ha;refine⟨p,a,hp,hl,fun q y hy=> ?_⟩;by_cases e:q=p
 ·subst e;rw[hp]at hy;cases hy;rw[LK rfl];exact K6.2 hka
 ·rw[LD e];refine Mt.2 fun hc=>e ?_;have hm:(y:Int)∈(kidZ c i).filter fun k=>act.contains k:=Ke.2 ⟨Kb.2 ⟨y,K4 hy,rfl⟩,hc⟩;rw[hf]at hm;have hya:(y:Int)=(a:Int):=Kl.1 hm;have hya:y=a:=by omega
  subst hya;exact(List.getElem?_inj (K0.1 hy).1 (bO c i true)).1 (hy.trans hp.symm)
theorem Ar {c:ChD} {act gone:List Int} {o:List MemD} {j:Nat} {x:Int} (h:gone[j]? =some x):remTo c act gone o (j+1)=if ah c x=true then memTo_ c act x (remTo c act gone o j) (memL c x) (memL c x).length else remTo c act gone o j:=by
 unfold remTo;exact bu _ _ h
theorem y8 {c:ChD} {act:List Int} {i:Int} {o:List MemD} {M:List Nat} {m h:Nat} (hm:M[m]? =some h):memTo_ c act i o M (m+1)=kX (memTo_ c act i o M m) ((h:Int),rJ c act i h):=by
 unfold memTo_;exact bu _ _ hm
def ny (a:Nat) (p q:Nat):AV:=if q<=p then nilS else .seq 1 [aB a]
end
section
/-! As the document says -/
def uT (c:ChD) (l:List Int) (j:Nat):List Nat:=(List.range j).filter fun i:Nat=>l.contains (i:Int)&&(manyI l (kidsL c i true)==0)
theorem yV (env:Env) (c:ChD) (h:Full c) (l:List Int) (hl:l.length<=1000000):Con prog env 84 [.agg (aA c), .seq 1 (l.map intAV)] (.own 3 1 ((Hq c l).map aB)):=by
 have hlen:=h.few;have fK:=fun(i:Int)=>bj env c i true (by omega);unfold aA at fK;show Con _ _ _ _ (.own _ 1 ((uT c l c.states.length).map aB));refine qf func84 call84 ntmps84 results84 ?_;have F:=aA.eq_1;repeat refine st ?_
 have F:=aA.eq_1;refine lq c.states.length (by omega) (fun j vs=>[(1, .seq 1 (l.map intAV)),(2, .loc 2 (vs 2) 0 0),(5, .row 7 (vs 7)),(6,I j)]) (fun j _=>[(2,⟨5,[aA c],26,false⟩),(7,⟨1,(uT c l j).map aB,3,true⟩)]) (fun j _ esc=>esc 7=false) rfl ?_ ?_
 ·rintro j ws esc hlt q1 q2 e0;have f0:=cL env l (j:Int) hl;have hn:uT c l (j+1)=if (l.contains (j:Int)&&(manyI l (kidsL c j true)==0)) then uT c l j++[j] else uT c l j:=mh (fun i:Nat=>l.contains (i:Int)&&(manyI l (kidsL c i true)==0)) j
  have hle:(uT c l j).length<=j:=kI (fun i:Nat=>l.contains (i:Int)&&(manyI l (kidsL c i true)==0)) j;have hf:Fits ((uT c l j).length+1) 8:=aC (by omega) (by omega);cases hc:l.contains (j:Int) with
  | false=>
    rw[hc]at f0 hn;rw[LJ,K2 LO]at hn;have F:=ai4 aA.eq_1 q1 q2 e0;repeat refine tz1 f0 ?_
    refine⟨j+1,⟨hlt,by simp only[go_sem,e0]⟩,?_,?_,by omega⟩
    ·exact qe
    ·have F:=ai aA.eq_1 hn;exact qe
  | true=>
    rw[hc]at f0 hn;rw[LN]at hn;have e4:=fK (j:Int);have hK:=bD h.toRight j true;have e5:=jE env l (kidsL c j true) hl (by omega);generalize kidsL c (j:Int) true=K at*;cases hm:(manyI l K==0) with
    | true=>
      have b3:(((manyI l K:Nat):Int)==0)=true:=by simpa using hm
      rw[hm,K5 rfl]at hn;generalize manyI l K=N at*;have F:=ai6 aA.eq_1 q1 q2 e0 b3 hf;repeat refine tz3 f0 e4 e5 ?_
      refine⟨j+1,⟨hlt,by simp only[go_sem,e0]⟩,?_,?_,by omega⟩
      ·exact qe
      ·have F:=ai4 aA.eq_1 aB.eq_1 hn @Ka.{0,0};exact qe
    | false=>
      have b3:(((manyI l K:Nat):Int)==0)=false:=by
       have:manyI l K≠0:=by simpa using hm
       simp;omega
      rw[hm,K2 LO]at hn;generalize manyI l K=N at*;have F:=ai5 aA.eq_1 q1 q2 e0 b3;repeat refine tz3 f0 e4 e5 ?_
      refine⟨j+1,⟨hlt,by simp only[go_sem,e0]⟩,?_,?_,by omega⟩
      ·exact qe
      ·have F:=ai aA.eq_1 hn;exact qe
 ·rintro ws esc q1 e0;have F:=ai3 aA.eq_1 q1 e0;repeat refine st ?_
  exact aR
end
section
theorem tm (env:Env) (c:ChD) (h:Full c) (hs:Small c) (act gone:List Int) (mem:List MemD) (hla:act.length<=4000) (hlg:gone.length<=1000000) (hlb:lgB c act=true) (hgo: ∀x∈gone,x∈act) (hm:bU c mem=true):ConI prog env 138 [1001,1006] (fun _=>false) (fun g=>[aJ c, .row 1001 (g 1001), .row 1006 (g 1006),memsAV mem]) (fun _=>[(1001,⟨1,act.map intAV,3,true⟩),(1006,⟨1,gone.map intAV,3,true⟩)]) (fun _=>[(1001,⟨1,act.map intAV,3,true⟩),(1006,⟨1,gone.map intAV,3,true⟩)]) (fun _=>memsAV (remL c act gone mem)):=by
 have f0:=ao env c hs;have hfew:=h.few;have hok:=Ht hm;have hml:=wv hok;have f1:=Bo env mem (by omega) (fun m hm'=>by have:=(rL h hm m hm').2;omega);have hlgc:=cx hlb;show ConI _ _ _ _ _ _ _ _ fun _=>memsAV (remTo c act gone mem gone.length);unfold aJ at f0 |-;refine qi func138 call138 ntmps138 results138 ?_;intro vs esc hesc;obtain⟨z1,z6⟩:=es2 hesc;have F:=ai z1 z6;repeat refine tz2 f0 f1 ?_
 refine iO (Turned.frozen 21 10 ⟨2,mem.map mmAV,134,true⟩ rfl (LL 1) (by simp only[go_sem]) (by simp only[go_sem])) ?_;refine aI (D:=Nat) (fun j vs=>[(0, .ref 9 [tabCells c] 0 0),(1, .row 1001 (vs 1001)),(9, .loc 9 (vs 9) 0 0),(10,memsAV (remTo c act gone mem j)),(22, .row 1006 (vs 1006)),(23,I gone.length),(24,I j)]) (fun _ _=>[(9,⟨5,[aA c],26,false⟩),(1001,⟨1,act.map intAV,3,true⟩),(1006,⟨1,gone.map intAV,3,true⟩)]) (fun j vs' esc'=>(j<=gone.length/\okM c (remTo c act gone mem j))/\(vs' 1001=vs 1001/\vs' 1006=vs 1006)/\esc' 1001=false/\esc' 1006=false) (fun j=>gone.length-j) 0 ?_ ?_ ?_ ?_
 ·exact⟨⟨Kj _,hok⟩,by simp only[go_sem,Kk],by simp only[go_sem,z1,z6,Kk]⟩
 ·(simp only[go_sem,F])
  try rfl
 ·have F:=aA.eq_1
  (simp only[go_sem,F])
  try rfl
 try clear z1 z6
 rintro j ws esc ⟨⟨hj,hO⟩,⟨w1,w6⟩,z1,z6⟩;by_cases hlt:j<gone.length
 ·obtain⟨x,hx⟩:=gE hlt;have q1:=nlt hlt;have q2:=aD hlt (by omega);have hxa:=hgo x (K4 hx);obtain⟨s0,hs0,hz, -, -,hone, -⟩:=hlgc.of hxa;obtain⟨k,s,rfl,hsk,hat⟩:=cF hz;obtain rfl:s0=s:=by rw[hs0]at hat;cases hat;rfl
  have hk:=(K0.1 hsk).1;have q3:((k:Nat):Int)< (c.states.length:Int):=by omega
  have f2:=A5 env c h k;have hpz:=bk hs0;have hrs:=Ar (c:=c) (act:=act) (o:=mem) hx;unfold aJ at f2;generalize remTo c act gone mem j=o at*;by_cases hk1:s0.kind=1
  ·have b1:(s0.kind==1)=true:=by simp[hk1]
   rw[b1]at hpz;rw[hpz,K5 rfl]at hrs
   have hML: ∀y∈memL c (k:Int),∃sy,c.states[y]? =some sy/\sy.parent=(k:Int)/\aT sy=true:=fun y hy=>by
    obtain⟨sy,e1,_,e3,e4⟩:=gC.1 hy;exact⟨sy,e1,e3,e4⟩
   have hMl:(memL c (k:Int)).length<=1000000:=by
    unfold memL;have:=Kq (Io c (k:Int)) (List.range c.states.length);rw[ND]at this;omega
   have f3:=yp env c h.toRight act hla (k:Int)
   have f4:=FJ env c h (underL c act (k:Int)) (Km (Kq ..) hla) (fun y hy=>by
    have hy:=(Ke.1 hy).1;obtain⟨_,_,hz,_⟩:=hlgc.of hy
    exact hz)
   have f5:=bV env c h (k:Int);rw[K5 (.inr hz)]at f5;have hone:=hone hk1;generalize memL c (k:Int)=M at*;unfold aJ at f3 f4 f5;have F:=ai11 aA.eq_1 aK.eq_1 hx q1 q2 q3 hsk b1 im z1 z6;repeat refine tz1 f2 ?_
   refine aI (D:=Nat) (fun m vs=>[(0, .ref 9 [tabCells c] 0 0),(1, .row 1001 (vs 1001)),(9, .loc 9 (vs 9) 0 0),(10,memsAV (memTo_ c act k o M m)),(12,I k),(22, .row 1006 (vs 1006)),(23,I gone.length),(24,I j),(37, .row 37 (vs 37)),(38,I M.length),(39,I m)]) (fun _ _=>[(9,⟨5,[aA c],26,false⟩),(37,⟨1,M.map aB,3,true⟩),(1001,⟨1,act.map intAV,3,true⟩),(1006,⟨1,gone.map intAV,3,true⟩)]) (fun m vs' esc'=>(m<=M.length/\okM c (memTo_ c act k o M m))/\(vs' 1001=vs 1001/\vs' 1006=vs 1006)/\esc' 1001=false/\esc' 1006=false) (fun m=>M.length-m) 0 ?_ ?_ ?_ ?_
   ·exact⟨⟨Kj _,hO⟩,by simp only[go_sem,w1,w6,Kk],by simp only[go_sem,z1,z6,Kk]⟩
   ·(simp only[go_sem,F])
    try rfl
   ·have F:=ai3 aA.eq_1 z1 z6
    (simp only[go_sem,F])
    try rfl
   try clear z1 z6 w1 w6
   rintro m us es ⟨⟨hml2,hO2⟩,⟨w1,w6⟩,z1,z6⟩;by_cases hlt2:m<M.length
   ·obtain⟨y,hy⟩:=gE hlt2;have p1:=nlt hlt2;have p2:=aD hlt2 (by omega);obtain⟨sy,hsy,hpar,hmy⟩:=hML y (K4 hy);have hyl:=(K0.1 hsy).1;have p3:((y:Nat):Int)< (c.states.length:Int):=by omega
    have hms:=y8 (c:=c) (act:=act) (i:=(k:Int)) (o:=o) hy;have hnv:rJ c act (k:Int) y=if sy.kind=5 then innerL c (underL c act (k:Int)) else lX c act (k:Int):=by unfold rJ;rw[hsy]
    have hO3:=Ii (v:=rJ c act (k:Int) y) hyl hO2;rw[<-hms]at hO3;have hz2:=KH h.toRight hO2;have hl2:=wv hO2;generalize memTo_ c act (k:Int) o M m=o2 at*;by_cases hk5:sy.kind=5
    ·have b5:(sy.kind==5)=true:=by simp[hk5]
     rw[K5 hk5]at hnv;rw[hnv]at hms;have f6:Con prog env 186 [memsAV o2, .agg [I (y:Int), .seq 1 ((innerL c (underL c act (k:Int))).map intAV)]] (.own 134 2 ((kX o2 ((y:Int),innerL c (underL c act (k:Int)))).map mmAV)):=Cn env o2 ((y:Int),innerL c (underL c act (k:Int))) hO2.1 hz2 ⟨by simp only;omega,by simp only;omega⟩ (by omega);generalize innerL c (underL c act (k:Int))=V at*;generalize underL c act (k:Int)=U at*;refine dh ?_;have F:=ai11 aA.eq_1 aK.eq_1 aB.eq_1 hy hsy p1 p2 p3 b5 z1 z6;repeat refine st ?_
     refine lL (f3.lend (ag (fun _=>rfl) _)) ?_;repeat refine tz2 f4 f6 ?_
     refine⟨_,Turned.frozen 76 10 ⟨2,(kX o2 ((y:Int),V)).map mmAV,134,true⟩ rfl (LL 1) (by simp only[go_sem]) (by simp only[go_sem]),m+1,⟨⟨hlt2,hO3⟩,by simp only[go_sem,w1,w6,Kk],by simp only[go_sem,z1,z6,Kk]⟩,?_,?_,by omega⟩
     ·have F:=ai3 hms z1 z6
      (simp only[go_sem,F])
      try rfl
     ·have F:=ai3 aA.eq_1 z1 z6;exact qe
    ·have b5:(sy.kind==5)=false:=by simpa using hk5
     rw[K2 hk5]at hnv;rw[hnv]at hms
     have hkn:kidsL c (k:Int) true≠[]:=by
      have:=(oU h hsy hmy).2.2.1;rw[hpar]at this;exact this
     have hkf:=bD h.toRight (k:Int) true;obtain⟨p,a,hp,hlk,hpick⟩:=Gq (hone hkn);rw[hlk]at hms;have f6:Con prog env 186 [memsAV o2, .agg [I (y:Int), .seq 1 [aB a]]] (.own 134 2 ((kX o2 ((y:Int),[(a:Int)])).map mmAV)):=Cn env o2 ((y:Int),[(a:Int)]) hO2.1 hz2 ⟨by simp only;omega,by simp only;omega⟩ (by omega);generalize kidsL c (k:Int) true=K at*;refine dh ?_;have F:=ai11 aA.eq_1 aK.eq_1 aB.eq_1 hy hsy p1 p2 p3 b5 z1 z6;repeat refine tz1 f5 ?_
     refine aI (D:=Nat) (fun q vs=>[(0, .ref 9 [tabCells c] 0 0),(1, .row 1001 (vs 1001)),(9, .loc 9 (vs 9) 0 0),(10,memsAV o2),(12,I k),(14,I y),(15, .loc 15 (vs 15) 0 0),(22, .row 1006 (vs 1006)),(23,I gone.length),(24,I j),(37, .row 37 (vs 37)),(38,I M.length),(39,I m),(61, .row 61 (vs 61)),(62,I K.length),(63,I q)]) (fun q _=>[(9,⟨5,[aA c],26,false⟩),(15,⟨2,[[I y,ny a p q]],134,false⟩),(37,⟨1,M.map aB,3,true⟩),(61,⟨1,K.map aB,3,true⟩),(1001,⟨1,act.map intAV,3,true⟩),(1006,⟨1,gone.map intAV,3,true⟩)]) (fun q vs' esc'=>(q<=K.length/\esc' 15=false)/\(vs' 1001=vs 1001/\vs' 1006=vs 1006)/\esc' 1001=false/\esc' 1006=false) (fun q=>K.length-q) 0 ?_ ?_ ?_ ?_
     ·exact⟨⟨Kj _,by simp only[go_sem]⟩,by simp only[go_sem,w1,w6,Kk],by simp only[go_sem,z1,z6,Kk]⟩
     ·(simp only[go_sem,F])
      try rfl
     ·have F:=ai3 aA.eq_1 z1 z6
      (simp only[go_sem,F])
      try rfl
     try clear z1 z6 w1 w6
     rintro q xs fs ⟨⟨hq,e5⟩,⟨w1,w6⟩,z1,z6⟩;by_cases hlt3:q<K.length
     ·obtain⟨u,hu⟩:=gE hlt3;have r1:=nlt hlt3;have r2:=aD hlt3 (by omega);have g0:=bG env act (u:Int) (by omega);rw[hpick q u hu]at g0;by_cases hqp:q=p
      ·subst hqp;rw[LK rfl]at g0;obtain rfl:u=a:=by rw[hp]at hu;cases hu;rfl
       have c1:ny u q q=nilS:=by unfold ny;rw[K5 (Kc _)]
       have c2:ny u q (q+1)= .seq 1 [aB u]:=by unfold ny;rw[K2 (by omega)]
       refine dh ?_;have F:=ai9 aA.eq_1 aB.eq_1 hu r1 r2 c1 e5 z1 z6;repeat refine st ?_
       refine lL (g0.lend rfl) ?_;repeat refine st ?_
       refine⟨_,Turned.sees [(71,xs 71+1, .seq 1 [aB u])] (fun z hz=> ?_),q+1,⟨⟨hlt3,?_⟩,?_,?_⟩,?_,?_,by omega⟩
       ·rw[Kl.1 hz];refine⟨by simp only[go_sem],⟨1,[aB u],3,true⟩,by simp only[go_sem,aB],LL 0,rfl,rfl⟩
       ·simp only[seenSt,go_sem,e5,NX,OT]
       ·simp only[seenSt,go_sem,w1,w6,Kk]
       ·simp only[seenSt,go_sem,z1,z6,NX,OT,Kk]
       ·have F:=ai z1 z6;exact qe
       ·have F:=ai5 aA.eq_1 aB.eq_1 c2 z1 z6;exact qe
      ·rw[LD hqp]at g0
       have c1:ny a p (q+1)=ny a p q:=by
        unfold ny;by_cases e:q<=p
        ·rw[K5 (by omega),K5 e]
        ·rw[K2 (by omega),K2 e]
       have F:=ai8 aA.eq_1 aB.eq_1 hu r1 r2 e5 z1 z6;repeat refine st ?_
       refine lL (g0.lend rfl) ?_;repeat refine st ?_
       refine⟨q+1,⟨⟨hlt3,by simp only[go_sem,e5]⟩,by simp only[go_sem,w1,w6,Kk],by simp only[go_sem,z1,z6,Kk]⟩,?_,?_,by omega⟩
       ·exact qe
       ·have F:=ai5 aA.eq_1 aB.eq_1 c1 z1 z6;exact qe
     ·obtain rfl:q=K.length:=by omega
      have r1:=nl K.length
      have c1:ny a p K.length= .seq 1 [aB a]:=by
       unfold ny;rw[K2 (by have:=(K0.1 hp).1;omega)]
      have F:=ai8 aA.eq_1 aB.eq_1 r1 c1 p2 e5 z1 z6;repeat refine tz1 f6 ?_
      refine⟨_,Turned.frozen 76 10 ⟨2,(kX o2 ((y:Int),[(a:Int)])).map mmAV,134,true⟩ rfl (LL 1) (by simp only[go_sem]) (by simp only[go_sem]),m+1,⟨⟨hlt2,hO3⟩,by simp only[go_sem,w1,w6,Kk],by simp only[go_sem,z1,z6,Kk]⟩,?_,?_,by omega⟩
      ·have F:=ai3 hms z1 z6
       (simp only[go_sem,F])
       try rfl
      ·have F:=ai3 aA.eq_1 z1 z6;exact qe
   ·obtain rfl:m=M.length:=by omega
    have p1:=nl M.length;rw[<-hrs]at hO2;have F:=ai4 p1 q2 z1 z6;repeat refine st ?_
    refine⟨j+1,⟨⟨hlt,hO2⟩,by simp only[go_sem,w1,w6,Kk],by simp only[go_sem,z1,z6,Kk]⟩,?_,?_,by omega⟩
    ·have F:=ai3 hrs z1 z6;exact qe
    ·have F:=ai3 aA.eq_1 z1 z6;exact qe
  ·have b1:(s0.kind==1)=false:=by simpa using hk1
   rw[b1]at hpz;rw[hpz,K2 LO]at hrs;rw[<-hrs]at hO;have F:=ai11 aA.eq_1 aK.eq_1 hx q1 q2 q3 hsk b1 im z1 z6;repeat refine tz1 f2 ?_
   refine⟨j+1,⟨⟨hlt,hO⟩,by simp only[go_sem,w1,w6,Kk],by simp only[go_sem,z1,z6,Kk]⟩,?_,?_,by omega⟩
   ·have F:=ai3 hrs z1 z6;exact qe
   ·have F:=ai3 aA.eq_1 z1 z6;exact qe
 ·obtain rfl:j=gone.length:=by omega
  have q1:=nl gone.length;have F:=ai5 q1 z1 z6 w1 w6;repeat refine st ?_
  exact rI
theorem uR (env:Env) (a1 a8:Addr) (he:ChEnv env a1 a8) (c:ChD) (h:Full c) (hs:Small c) (act gone:List Int) (hl:act.length<=4000) (hgl:gone.length<=1000000) (mem:List MemD) (hml:mem.length<=1000000) (hF: ∀m∈mem,Fits m.2.length 8) (hb:lgB c act=true) (hm:bU c mem=true) (hgo: ∀x∈gone,x∈act):ConI prog env 73 [1001,1006] (fun _=>false) (fun g=>[aJ c, .row 1001 (g 1001), .row 1006 (g 1006),memsAV mem]) (fun _=>[(1001,⟨1,act.map intAV,3,true⟩),(1006,⟨1,gone.map intAV,3,true⟩)]) (fun _=>[(1001,⟨1,act.map intAV,3,true⟩),(1006,⟨1,gone.map intAV,3,true⟩)]) (fun _=> .tuple [memsAV (remL c act gone mem),nilE]):=by
 have f0:=cQ env a1 a8 he c h hs act (by omega);have f2:=pF env a1 a8 he c h hs mem hml hF;have f4:=tm env c h hs act gone mem hl hgl hb hgo hm;unfold uO at f0;unfold IH at f2;rw[hb]at f0;rw[hm,K5 rfl]at f2;simp only[L1]at f0;have f0:=f0.lend rfl;unfold aJ at f0 f2 f4 |-;refine qi func73 call73 ntmps73 results73 ?_;intro vs esc hesc;obtain⟨z1,z6⟩:=es2 hesc;have F:=ai z1 z6;repeat refine st ?_
 refine lL f0 ?_;repeat refine tz1 f2 ?_
 refine lq gone.length (by omega) (fun j vs=>[(0, .ref 9 [tabCells c] 0 0),(1, .row 1001 (vs 1001)),(2, .row 1006 (vs 1006)),(3,memsAV mem),(25, .row 1006 (vs 1006)),(26,I gone.length),(27,I j)]) (fun _ _=>[(1001,⟨1,act.map intAV,3,true⟩),(1006,⟨1,gone.map intAV,3,true⟩)]) (fun j vs' esc'=>(vs' 1001=vs 1001/\vs' 1006=vs 1006)/\esc' 1001=false/\esc' 1006=false) ⟨by simp only[go_sem,Kk],by simp only[go_sem,z1,z6,Kk]⟩ ?_ ?_
 ·try clear z1 z6
  rintro j ws esc hlt q1 q2 ⟨⟨w1,w6⟩,z1,z6⟩;obtain⟨x,hx⟩:=gE hlt;have g0:=bG env act x (by omega);rw[K6.2 (hgo x (K4 hx))]at g0;have F:=ai5 hx q1 q2 z1 z6;repeat refine st ?_
  refine lL (g0.lend rfl) ?_;repeat refine st ?_
  exact qn (j+1) ⟨hlt,by simp only[go_sem,w1,w6,Kk],by simp only[go_sem,z1,z6,Kk]⟩
 ·try clear z1 z6
  rintro ws esc q1 ⟨⟨w1,w6⟩,z1,z6⟩;have F:=ai5 q1 z1 z6 w1 w6;repeat refine st ?_
  refine iL [(1001,1001),(1006,1006)] f4 ?_;repeat refine st ?_
  exact rI
end

end Go.Proofs.YtdpjgflalmnkdaaGreatDoor