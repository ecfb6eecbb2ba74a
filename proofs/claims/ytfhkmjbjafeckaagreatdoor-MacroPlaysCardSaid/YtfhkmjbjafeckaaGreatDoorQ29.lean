/- awake of layer 31: the chart of two states, and what its table tells. -/
import Derived.Test.YtfhkmjbjafeckaaGreatDoorQ28
import Derived.Lib.Overlaps
import Derived.Lib.AppendZerosOnto
set_option maxRecDepth 100000
set_option maxHeartbeats 16000000
set_option linter.unusedSimpArgs false
set_option linter.defProp false
namespace Go.Proofs.YtfhkmjbjafeckaaGreatDoor
open Go.Proofs.Tryz
open Go.RowKit
section
def ko{P:Program}(w:World){ops:Array Oper}{b:List Oper}{o:Oper}{a:Act}{Q:Exit->Act->World->Prop}(c:o.guard=none)(d s:Operand)(t e:TypeId)
 (k:o.op= .call { callee:= .builtin .copy,args:= #[d,s],argTypes:= #[t,e] })(v u:Value)(j:a.eval d=v)(m:a.eval s=u){f:Value}{g:World}
 (l:(Builtin.copy_ #[t,e] o.type #[v,u]).run P w= .ok f g)(h:wpList P ops Q b (a.put o.dst f) g):wpList P ops Q (o::b) a w:=
 wpList_plain c fun K i=>by
  unfold Oper.wp execOp;simp only[k,resolve,invoke,builtin,N2,Nq,NR,RF,Nh,O3,j,m,l];exact i _ _ h
def oE{P:Program}{ops:Array Oper}{o:Oper}{a:Act}{w:World}{K:Act->World->Prop}{Q:Exit->Act->World->Prop}{E:Prop}
 (j:o.guard=none)(d x:Operand)(c e:TypeId)(b:o.op=Op.call { callee:=Callee.builtin Builtin.copy,args:= #[d,x],argTypes:= #[c,e] })
 (v u:Value)(i:a.eval d=v)(l:a.eval x=u){f:Value}{g:World}(k:(Builtin.copy_ #[c,e] o.type #[v,u]).run P w= .ok f g)(h:K (a.put o.dst f) g):
 if Region.wanted o (yielded ops a.tmps)=true then Oper.wp P o a w K Q else E:=by
 rw[Mw (by simp[Region.wanted,j])];unfold Oper.wp;simp[execOp,b,resolve,invoke,builtin,i,l,k,Result.andThen];exact h
def uk{w:World}{base n sz:Nat}{e:TypeId}{v:Value}{xs:List Value}(h:w.ownsRow base e sz v n xs)(b:0<n):
 ∃g cap a,v= .slice (some ⟨g,0,none⟩) n cap/\base<=g/\w.heap[g]? =some (.cells a e (0,0))/\n<=cap/\cap<=maxLen/\a.size=cap*sz/\a.toList.take (n*sz)=xs:=by
 rcases h.2 with⟨_,h⟩|h
 ·omega
 exact h
def lO{w:World}{g:Nat}{a:Array Value}{e:TypeId}(b:w.heap[g]? =some (.cells a e (0,0)))(k:Nat):w.cell? ⟨g,k,none⟩=a[k]? :=by simp[World.cell?,b]
def sX{w:World}{g:Nat}{a:Array Value}{e:TypeId}(b:w.heap[g]? =some (.cells a e (0,0)))(k:Nat):w.frozen? ⟨g,k,none⟩=false:=by simp[World.frozen?,b]
def E9:ef prog 34=some ⟨.slice 146 2 32 [.int .i64 0, .slice none 0 0],1,[.slice none 0 0]⟩:=by kernel_rfl
def J2(w:World)(base n:Nat)(v u:Value)(xs ys:List Value)(hbw:base<=w.heap.size)(hx:w.ownsRow base 146 2 v n xs)(hy:w.ownsRow base 146 2 u 1 ys)(h1y: ∀y∈ys,y.oneCell'=true)(hn:n<=4096):
 Calls prog 311 #[v, .int .i64 (n:Int),u] w fun ex w'=> ∃v',ex= .returned v'/\w.grownBy w' v.ownBlock/\(∀g,v'.ownBlock=some g->v.ownBlock=some g\/w.heap.size<=g)/\w'.ownsRow base 146 2 v' (n+1) (xs++ys):=by
 obtain⟨hu,ie,ze,i1,i2,i3,i4,i5⟩:=bH E9
 have hzc:ze.cells.size=2:=by
  have:=N7 List.length i5;simpa using this
 obtain⟨g2,c2,cur2,rfl,_,hg2,_⟩:=uk hy (by omega);obtain⟨v',w',hrun,ho,hgr⟩:=fH (P:=prog) w base 34 34 146 ie ze 2 32 hu i1 i2 i3 i4 hzc (by decide) v n xs hx (some ⟨g2,0,none⟩) 1 c2 ys hy.1 (fun _=>⟨_,rfl,fun j y hj=>hy.cells rfl j y hj⟩) h1y (by unfold maxLen;omega) (by omega) hbw
 have fin: ∃v'',Ending.returned v'= .returned v''/\w.grownBy w' v.ownBlock/\(∀g,v''.ownBlock=some g->v.ownBlock=some g\/w.heap.size<=g)/\w'.ownsRow base 146 2 v'' (n+1) (xs++ys):=by
  refine⟨v',rfl,?_,fun g hg=> ?_,ho⟩
  ·rcases hgr with⟨_,h⟩|⟨_,h⟩
   ·exact h
   exact⟨h.os,h.tape,h.output,h.size,fun k hk _=>h.block k hk (by simp)⟩
  rcases hgr with⟨e,_⟩|⟨e,_⟩
  ·rw[e]at hg;exact .inl hg
  rw[e]at hg;cases hg;exact .inr (ND _)
 try clear hgr ho i1 i2 i3 i4 i5 hzc
 rcases hx.2 with⟨rfl,rfl⟩|⟨g,cap,cur,rfl,_,hg,hnc,hcm,_,_⟩
 ·clear hx hy
  go_enter func311,ntmps311
  go_wp2_with (at_builtin;refine RB _ rfl _ _ _ _ rfl _ _ rfl rfl _ _ hrun ?_)
  all_goals (go_ret;exact fin)
 clear hx hy;unfold maxLen at hcm
 go_enter func311,ntmps311
 go_wp2_with (at_builtin;refine RB _ rfl _ _ _ _ rfl _ _ rfl rfl _ _ hrun ?_)
 all_goals (go_ret;exact fin)
def gI(a:Array Value)(i n:Nat):List Value:=(a.toList.drop (i*2)).take ((n-i)*2)
def cn(l:List Value)(o:Nat)(cs:List Value):List Value:=l.take o++cs++l.drop (o+cs.length)
def ou{a:Array Value}{i n cap:Nat}(c:a.size=cap*2)(b:i<=n)(d:n<=cap):(gI a i n).length=(n-i)*2:=by
 unfold gI;rw[NK,O7,ON,c];omega
def sx{a:Array Value}{i n j:Nat}{v:Value}(h:(gI a i n)[j]? =some v):a[i*2+j]? =some v:=by
 unfold gI at h;rw[Na]at h;split at h
 ·rw[OS]at h;simpa using h
 cases h
def eI{l:List Value}{o:Nat}{cs:List Value}(h:o+cs.length<=l.length):(cn l o cs).length=l.length:=by
 unfold cn;simp only[NA,NK,O7];omega
def oM{w b:World}{g:Nat}{R:Array Value}(h:w.grownBy b (some g)):w.grownBy (b.setRow g R) (some g):=
 ⟨h.os,h.tape,h.output,by simp[World.setRow];exact h.size,fun k c a=>by rw[PI b g k R (fun e=>a (by rw[e]))];exact h.block k c a⟩
def nc{w a:World}{r:Option Nat}(h:w.grownBy a r):w.grownBy a.drew r:=⟨h.os,h.tape,h.output,h.size,h.block⟩
def H9(w:World)(g cap i n g2 c2:Nat)(cur cur2:Array Value)(hg:w.heap[g]? =some (.cells cur 146 (0,0)))(hg2:w.heap[g2]? =some (.cells cur2 146 (0,0)))(hne:g2≠g)(hi:i<n)(hroom:n+1<=cap)(hcap:cap<=9223372036854775807)(hsz:cur.size=cap*2)(hsz2:cur2.size=c2*2)(hc2:1<=c2)
 (h1c: ∀u∈gI cur i n,u.oneCell'=true)(h1y: ∀u∈gI cur2 0 1,u.oneCell'=true)(hn:n<=4096):
 Calls prog 311 #[.slice (some ⟨g,0,none⟩) n cap, .int .i64 (i:Int), .slice (some ⟨g2,0,none⟩) 1 c2] w fun e w'=>
  e= .returned (.slice (some ⟨g,0,none⟩) (n+1) cap)/\w.grownBy w' (some g)/\w'.heap[g]? =some (.cells (cn (cn cur.toList ((i+1)*2) (gI cur i n)) (i*2) (gI cur2 0 1)).toArray 146 (0,0)):=by
 obtain⟨hu,ie,ze,i1,i2,i3,i4,i5⟩:=bH E9;have hol:=ou hsz (R8 hi) (by omega:n<=cap);have hyl:=ou hsz2 (NJ 1) hc2;have hl1:(cn cur.toList ((i+1)*2) (gI cur i n)).length=cap*2:=by rw[eI (by rw[hol,ON,hsz];omega),ON,hsz]
 have hov: ∀(W:World)(lb cb:Nat),W.heap=w.heap->(callFunc 323 #[.slice (some ⟨g2,0,none⟩) 1 c2, .slice (some ⟨g,(i+1)*2,none⟩) lb cb]).run prog W= .ok (.value (.bool false)) W:=fun W lb cb hW=>by
  have k1:W.heap[g]? =some (.cells cur 146 (0,0)):=by rw[hW];exact hg
  have k2:W.heap[g2]? =some (.cells cur2 146 (0,0)):=by rw[hW];exact hg2
  rw[OC func323 (by kernel_rfl) (by kernel_rfl) (by kernel_rfl) (e:=Extern.SlicesOverlaps.overlaps #[34,34] #[4]) (by kernel_rfl),
   Lib.run_overlaps_apart W 34 4 146 hu 2 (fun w0=>by simp[sizeOf,typeInfo,i1,i3]) ⟨g2,0,none⟩ ⟨g,(i+1)*2,none⟩ 1 c2 lb cb hne 146 146 cur2.size cur.size (by simp[World.shape?,k2]) (by simp[World.shape?,k1]) (by omega) (sX k2 _) (sX k2 _)]
  rfl
 have hcp1: ∀(W:World),W.heap=w.heap-> ∀(ty:TypeId)(dc sc:Nat),(Builtin.copy_ #[34,34] ty #[.slice (some ⟨g,(i+1)*2,none⟩) (n-i) dc, .slice (some ⟨g,i*2,none⟩) (n+1-i) sc]).run prog W= .ok (goInt ((n-i:Nat):Int)) (W.setRow g (cn cur.toList ((i+1)*2) (gI cur i n)).toArray):=fun W hW ty dc sc=>by
  have k1:W.heap[g]? =some (.cells cur 146 (0,0)):=by rw[hW];exact hg
  exact iq W _ _ ty 146 ie i1 g ((i+1)*2) (n-i) dc ⟨g,i*2,none⟩ (n+1-i) sc cur 146 (gI cur i n) (n-i) hu k1 (by simp only[SN];split<;>omega) (by rw[hol,i3])
   (fun j v hj=>by rw[R9,lO k1];exact sx hj) (by rw[hol,hsz];omega) h1c
 obtain⟨R1,hR1⟩: ∃R1,R1=cn cur.toList ((i+1)*2) (gI cur i n):=⟨_,rfl⟩;rw[<-hR1]at hcp1 hl1 |-
 have hcp2: ∀(W:World),W.heap=(w.setRow g R1.toArray).heap-> ∀(ty:TypeId)(dc:Nat),(Builtin.copy_ #[34,34] ty #[.slice (some ⟨g,i*2,none⟩) (n+1-i) dc, .slice (some ⟨g2,0,none⟩) 1 c2]).run prog W= .ok (goInt 1) (W.setRow g (cn R1 (i*2) (gI cur2 0 1)).toArray):=fun W hW ty dc=>by
  have k1:W.heap[g]? =some (.cells R1.toArray 146 (0,0)):=by rw[hW];exact QO w g cur _ _ _ hg
  have k2:W.heap[g2]? =some (.cells cur2 146 (0,0)):=by rw[hW,PI w g g2 _ hne];exact hg2
  exact iq W _ _ ty 146 ie i1 g (i*2) (n+1-i) dc ⟨g2,0,none⟩ 1 c2 R1.toArray 146 (gI cur2 0 1) 1 hu k1 (by simp only[SN];split<;>omega) (by rw[hyl,i3])
   (fun j v hj=>by rw[R9,lO k2];exact sx hj) (by rw[hyl];simp only[PE,hl1];omega) h1y
 have fin: ∀(W:World),W=((w.drew.setRow g R1.toArray).setRow g (cn R1 (i*2) (gI cur2 0 1)).toArray)->w.grownBy W (some g)/\W.heap[g]? =some (.cells (cn R1 (i*2) (gI cur2 0 1)).toArray 146 (0,0)):=fun W hW=>by
  rw[hW];exact⟨oM (oM (nc (World.grownBy.refl w _))),QO _ g _ _ _ _ (QO w.drew g cur _ _ _ hg)⟩
 obtain⟨R2,hR2⟩: ∃R2,R2=(cn R1 (i*2) (gI cur2 0 1)).toArray:=⟨_,rfl⟩;rw[<-hR2]at hcp2 fin |-;obtain⟨A1,hA1⟩: ∃A1,A1=R1.toArray:=⟨_,rfl⟩;rw[<-hA1]at hcp1 hcp2 fin;have hw1:IntKind.i64.wrap ((i:Int)+1)=(i:Int)+1:=by rw[Qa];omega
 have hw2:IntKind.i64.wrap ((n:Int)+1)=(n:Int)+1:=by rw[Qa];omega
 have hz2: ¬((i:Int)=(n:Int)):=by omega
 have hb1:(0:Int)<=(i:Int)+1:=by omega
 have hin:i<=n:=by omega
 have htn:((i:Int)+1).toNat=i+1:=by omega
 have hb2: ¬(cap=i+1):=by omega
 have hb4: ¬(cap=i):=by omega
 have hb5: ¬((cap:Int)< (n:Int)+1):=by omega
 have hb3:(i:Int)<=(n:Int)+1:=by omega
 try clear hol hyl hl1 hsz hsz2 h1c h1y hR1 hR2 hA1 i1 i2 i3 i4 i5
 go_enter func311,ntmps311
 go_wp2_with (simp only[hov _ _ _ rfl])
 go_region_law (refine oE rfl _ _ 34 34 rfl _ _ (by simp[Act.eval,Act.put]) (by simp[Act.eval,Act.put]) (hcp1 w.drew rfl 3 (cap-(i+1)) (cap-i)) ?_)
 go_wp2_with (refine ko _ rfl _ _ 34 34 rfl _ _ rfl rfl (hcp2 (w.drew.setRow g A1) rfl _ _) ?_)
 go_ret
 exact⟨rfl,fin _ rfl⟩
def Ha(w:World)(g cap i n g2 c2:Nat)(cur cur2:Array Value)(hg:w.heap[g]? =some (.cells cur 146 (0,0)))(hg2:w.heap[g2]? =some (.cells cur2 146 (0,0)))(hi:i<n)(hnc:n<=cap)(hroom:cap<n+1)(hsz:cur.size=cap*2)(hsz2:cur2.size=c2*2)(hc2:1<=c2)
 (h1c: ∀u∈gI cur i n,u.oneCell'=true)(h1y: ∀u∈gI cur2 0 1,u.oneCell'=true)(hn:n<=4096):
 Calls prog 311 #[.slice (some ⟨g,0,none⟩) n cap, .int .i64 (i:Int), .slice (some ⟨g2,0,none⟩) 1 c2] w fun e w'=> ∃(G:Nat) (Z:List Value),
  e= .returned (.slice (some ⟨w.heap.size,0,none⟩) (n+1) G)/\w.grownBy w' none/\n+1<=G/\G<=maxLen/\Z.length=(G-i)*2/\w'.heap[w.heap.size]? =some (.cells (cn (cn (cur.toList.take (i*2)++Z) (i*2) (gI cur2 0 1)) ((i+1)*2) (gI cur i n)).toArray 146 (0,0)):=by
 obtain⟨hu,ie,ze,i1,i2,i3,i4,i5⟩:=bH E9
 have hzc:ze.cells.size=2:=by
  have:=N7 List.length i5;simpa using this
 have hol:=ou hsz (R8 hi) hnc;have hyl:=ou hsz2 (NJ 1) hc2;have hgw:g<w.heap.size:=(N5.1 hg).1;have hgw2:g2<w.heap.size:=(N5.1 hg2).1;have hkk:(n:Int)+1-(i:Int)=((n+1-i:Nat):Int):=by omega
 have hik:i+(n+1-i)=n+1:=by omega
 have hold:(Builtin.firstCells ie.size i (.slice (some ⟨g,0,none⟩) i cap)).run prog w.drew= .ok (cur.toList.take (i*2)).toArray w.drew:=by
  rw[i3];refine run_firstCells_some w.drew 2 i ⟨g,0,none⟩ i cap (cur.toList.take (i*2)) (by rw[NK,ON];omega) fun j v hj=> ?_;rw[R9];show w.cell? _=_;rw[lO hg];rw[Na]at hj;split at hj
  ·simpa using hj
  cases hj
 have hui:prog.underlying 3=some (.int .i64):=Tryz.underlying3
 have hrz: ∀ty,(Builtin.append_ #[34,3] ty #[.slice (some ⟨g,0,none⟩) i cap, .int .i64 ((n:Int)+1-(i:Int))]).run prog w= .ok (.slice (some ⟨w.heap.size,0,none⟩) (n+1) (grownCap w (n+1) cap 146)) (w.drew.alloc (.cells ((cur.toList.take (i*2)).toArray++Builtin.zeroCells ze.cells (n+1-i)++Builtin.zeroCells ze.cells (grownCap w (n+1) cap 146-(n+1))) 146)):=fun ty=>by
  have h:=Lib.run_append_grow_zeros w 34 3 ty 146 ie ze .i64 .i64 hu hui i1 i2 (some ⟨g,0,none⟩) i cap (cur.toList.take (i*2)) hold (n+1-i) (by omega) (by omega) (by omega) (by omega) (by rw[i4];omega) (by rw[i4,hik];exact SF hroom (by omega));rw[hik]at h;rw[hkk];exact h
 obtain⟨G,hG⟩: ∃G,G=grownCap w (n+1) cap 146:=⟨_,rfl⟩;rw[<-hG]at hrz;have hGn:n+1<=G:=by rw[hG];exact SC w _ _ _
 have hGm:G<=maxLen:=by rw[hG];exact Rb w _ _ _ (by unfold maxLen;omega)
 obtain⟨Z,hZ⟩: ∃Z:List Value,Z=(Builtin.zeroCells ze.cells (n+1-i)).toList++(Builtin.zeroCells ze.cells (G-(n+1))).toList:=⟨_,rfl⟩
 have hZl:Z.length=(G-i)*2:=by
  rw[hZ,NA,ON,ON,Re,Re,hzc];omega
 obtain⟨R0,hR0⟩: ∃R0:List Value,R0=cur.toList.take (i*2)++Z:=⟨_,rfl⟩
 have hr0:(cur.toList.take (i*2)).toArray++Builtin.zeroCells ze.cells (n+1-i)++Builtin.zeroCells ze.cells (G-(n+1))=R0.toArray:=by
  rw[hR0,hZ];apply Array.ext';simp
 have hrl:R0.length=G*2:=by
  rw[hR0,NA,hZl,NK,ON,hsz];omega
 rw[hr0]at hrz;obtain⟨W1,hW1⟩: ∃W1,W1=w.drew.alloc (.cells R0.toArray 146):=⟨_,rfl⟩;rw[<-hW1]at hrz;have hn1:W1.heap[w.heap.size]? =some (.cells R0.toArray 146 (0,0)):=by rw[hW1];exact RU w.drew _
 have hn2:W1.heap[g]? =some (.cells cur 146 (0,0)):=by rw[hW1,On _ _ _ (by exact hgw)];exact hg
 have hn3:W1.heap[g2]? =some (.cells cur2 146 (0,0)):=by rw[hW1,On _ _ _ (by exact hgw2)];exact hg2
 have hgr1:w.grownBy W1 none:=by rw[hW1];exact⟨rfl,rfl,rfl,by simp,fun k hk _=>by rw[On _ _ _ (by exact hk)];rfl⟩
 obtain⟨A2,hA2⟩: ∃A2,A2=cn R0 (i*2) (gI cur2 0 1):=⟨_,rfl⟩;have hl2:A2.length=G*2:=by rw[hA2,eI (by rw[hyl,hrl];omega),hrl]
 have hcpA: ∀(W:World),W.heap=W1.heap-> ∀(ty:TypeId)(dc:Nat),(Builtin.copy_ #[34,34] ty #[.slice (some ⟨w.heap.size,i*2,none⟩) (n+1-i) dc, .slice (some ⟨g2,0,none⟩) 1 c2]).run prog W= .ok (goInt 1) (W.setRow w.heap.size A2.toArray):=fun W hW ty dc=>by
  have k1:W.heap[w.heap.size]? =some (.cells R0.toArray 146 (0,0)):=by rw[hW];exact hn1
  have k2:W.heap[g2]? =some (.cells cur2 146 (0,0)):=by rw[hW];exact hn3
  rw[hA2]
  exact iq W _ _ ty 146 ie i1 w.heap.size (i*2) (n+1-i) dc ⟨g2,0,none⟩ 1 c2 R0.toArray 146 (gI cur2 0 1) 1 hu k1 (by simp only[SN];split<;>omega) (by rw[hyl,i3])
   (fun j v hj=>by rw[R9,lO k2];exact sx hj) (by rw[hyl];simp only[PE,hrl];omega) h1y
 obtain⟨A3,hA3⟩: ∃A3,A3=cn A2 ((i+1)*2) (gI cur i n):=⟨_,rfl⟩
 have hcpB: ∀(W:World),W.heap=(W1.setRow w.heap.size A2.toArray).heap-> ∀(ty:TypeId)(dc sc:Nat),(Builtin.copy_ #[34,34] ty #[.slice (some ⟨w.heap.size,(i+1)*2,none⟩) (n-i) dc, .slice (some ⟨g,i*2,none⟩) (n-i) sc]).run prog W= .ok (goInt ((n-i:Nat):Int)) (W.setRow w.heap.size A3.toArray):=fun W hW ty dc sc=>by
  have k1:W.heap[w.heap.size]? =some (.cells A2.toArray 146 (0,0)):=by rw[hW];exact QO W1 _ _ _ _ _ hn1
  have k2:W.heap[g]? =some (.cells cur 146 (0,0)):=by rw[hW,PI W1 w.heap.size g _ (Qt hgw)];exact hn2
  rw[hA3]
  exact iq W _ _ ty 146 ie i1 w.heap.size ((i+1)*2) (n-i) dc ⟨g,i*2,none⟩ (n-i) sc A2.toArray 146 (gI cur i n) (n-i) hu k1 (by simp only[SN];split<;>omega) (by rw[hol,i3])
   (fun j v hj=>by rw[R9,lO k2];exact sx hj) (by rw[hol];simp only[PE,hl2];omega) h1c
 have fin: ∀(W:World),w.grownBy W none->W.heap[w.heap.size]? =some (.cells A3.toArray 146 (0,0))-> ∃(G':Nat) (Z':List Value),(Ending.returned (.slice (some ⟨w.heap.size,0,none⟩) (n+1) G):Ending)= .returned (.slice (some ⟨w.heap.size,0,none⟩) (n+1) G')/\w.grownBy W none/\n+1<=G'/\G'<=maxLen/\Z'.length=(G'-i)*2/\W.heap[w.heap.size]? =some (.cells (cn (cn (cur.toList.take (i*2)++Z') (i*2) (gI cur2 0 1)) ((i+1)*2) (gI cur i n)).toArray 146 (0,0)):=fun W h1 h2=>
  ⟨G,Z,rfl,h1,hGn,hGm,hZl,by rw[h2,hA3,hA2,hR0]⟩
 have fin2: ∀(W:World),w.grownBy W none->W.heap[w.heap.size]? =some (.cells A2.toArray 146 (0,0))->w.grownBy (W.setRow w.heap.size A3.toArray) none/\(W.setRow w.heap.size A3.toArray).heap[w.heap.size]? =some (.cells A3.toArray 146 (0,0)):=fun W h1 h2=>
  ⟨⟨h1.os,h1.tape,h1.output,by simp[World.setRow];exact h1.size,fun k hk hne=>by rw[PI W _ k _ (Qt hk)];exact h1.block k hk hne⟩,QO W _ _ _ _ _ h2⟩
 have hgrA:w.grownBy (W1.setRow w.heap.size A2.toArray) none:=⟨hgr1.os,hgr1.tape,hgr1.output,by simp[World.setRow];exact hgr1.size,fun k hk hne=>by rw[PI W1 _ k _ (Qt hk)];exact hgr1.block k hk hne⟩;have hnA:(W1.setRow w.heap.size A2.toArray).heap[w.heap.size]? =some (.cells A2.toArray 146 (0,0)):=QO W1 _ _ _ _ _ hn1;have hw1:IntKind.i64.wrap ((i:Int)+1)=(i:Int)+1:=by rw[Qa];omega
 have hw2:IntKind.i64.wrap ((n:Int)+1)=(n:Int)+1:=by rw[Qa];omega
 have hw3:IntKind.i64.wrap ((n:Int)+1-(i:Int))=(n:Int)+1-(i:Int):=by rw[Qa];omega
 have hz2: ¬((i:Int)=(n:Int)):=by omega
 have hz3:(cap:Int)< (n:Int)+1:=by omega
 have hb1:(0:Int)<=(i:Int)+1:=by omega
 have hin:i<=n:=by omega
 have htn:((i:Int)+1).toNat=i+1:=by omega
 have hGi: ¬(G=i):=by omega
 have hGim: ¬(G=i+1):=by omega
 have hci: ¬(cap=i):=by omega
 have hb3:(i:Int)<=(n:Int):=by omega
 obtain⟨B2,hB2⟩: ∃B2,B2=A2.toArray:=⟨_,rfl⟩;obtain⟨B3,hB3⟩: ∃B3,B3=A3.toArray:=⟨_,rfl⟩;obtain⟨N0,hN0⟩: ∃N0,N0=w.heap.size:=⟨_,rfl⟩;rw[<-hB2]at hcpA hcpB hgrA hnA fin2;rw[<-hB3]at hcpB fin fin2;rw[<-hN0]at hrz hcpA hcpB fin fin2 hgrA hnA |-;try clear hkk hik hold hG hrl hr0 hR0 hW1 hn1 hn2 hn3 hgr1 hA2 hA3 hl2 hB2 hB3 i1 i2 i3 i4 i5 hol hyl h1c h1y hsz hsz2 hZ hZl hzc hu hui hN0
 go_enter func311,ntmps311
 go_wp2_with (first
  |(at_builtin;refine RB _ rfl _ _ _ _ rfl _ _ rfl rfl _ _ (hrz _) ?_)
  |(refine ko _ rfl _ _ 34 34 rfl _ _ rfl rfl (hcpA W1 rfl _ _) ?_))
 go_region_law (refine oE rfl _ _ 34 34 rfl _ _ (by simp[Act.eval,Act.put]) (by simp[Act.eval,Act.put]) (hcpB (W1.setRow N0 B2).drew rfl 3 (G-(i+1)) (cap-i)) ?_)
 go_wp2
 go_ret
 exact fin _ (fin2 _ (nc hgrA) hnA).1 (fin2 _ (nc hgrA) hnA).2
end
section
def JV(P Y Z X:List Value):cn (cn (P++Z) P.length Y) (P.length+Y.length) X=P++Y++X++(P++Y++Z.drop Y.length).drop (P.length+Y.length+X.length):=by
 have a:cn (P++Z) P.length Y=P++Y++Z.drop Y.length:=by
  unfold cn;rw[Pq,List.drop_append,OH (by omega),Nat.add_sub_cancel_left,PY];rfl
 rw[a];unfold cn;rw[show (P++Y++Z.drop Y.length).take (P.length+Y.length)=P++Y from Pq (by rw[NA])]
def JW(P Q S X Y:List Value)(h:Q.length=Y.length):cn (cn (P++Q++S) (P.length+Y.length) X) P.length Y=P++Y++X++(P++Q++S).drop (P.length+Y.length+X.length):=by
 have a:cn (P++Q++S) (P.length+Y.length) X=P++Q++X++(P++Q++S).drop (P.length+Y.length+X.length):=by
  unfold cn;rw[show (P++Q++S).take (P.length+Y.length)=P++Q from Pq (by rw[NA,h])]
 rw[a];generalize (P++Q++S).drop (P.length+Y.length+X.length)=T;unfold cn;rw[show (P++Q++X++T).take P.length=P by rw[Nj,Nj];exact Pq rfl,show (P++Q++X++T).drop (P.length+Y.length)=X++T by rw[Nj];exact List.drop_left' (by rw[NA,h])];simp only[Nj]
def LU(l:List Value)(a b:Nat):l=l.take a++(l.drop a).take b++l.drop (a+b):=by
 rw[Nj, <-Qx,PU,PU]
def Mn:TP prog 311 146 2:=by
 refine⟨Ra func311 (by kernel_rfl) rfl,fun w A i n v u l t E N V hd P D hi S=> ?_⟩;by_cases he:i=n
 ·subst he;have hxl:=N.1;rw[Nu (by omega),OH (by omega),OM];exact J2 w A i v u l t E N V D S
 obtain⟨g,m,a,rfl,R,hg,T,I,b,L⟩:=uk N (by omega);obtain⟨O,W,d,rfl,_,J,H,_,q,M⟩:=uk V (by omega);have U:O≠g:=fun e=>hd g rfl (by rw[e];rfl);have z:gI d 0 1=t:=by unfold gI;rw[<-M];rfl
 have y:gI a i n=l.drop (i*2):=by
  unfold gI;rw[<-L,List.drop_take]
  congr 1
  omega
 have X:l.take (i*2)=a.toList.take (i*2):=by
  rw[<-L,Ri,P3 (by omega)]
 have s:(l.take (i*2)).length=i*2:=by rw[NK,N.1];omega
 have c:t.length=2:=V.1;have o:(l.drop (i*2)).length=(n-i)*2:=by rw[O7,N.1];omega
 have B: ∀x∈gI a i n,x.oneCell'=true:=fun x j=>by rw[y]at j;exact P x (P6 j)
 have C: ∀x∈gI d 0 1,x.oneCell'=true:=fun x j=>by rw[z]at j;exact D x j
 have f:(l.take (i*2)++t++l.drop (i*2)).length=(n+1)*2:=by
  rw[NA,NA,s,c,o];omega
 by_cases h:n+1<=m
 ·refine(H9 w g m i n O W a d hg J U (by omega) h (by unfold maxLen at I;omega) b q H B C S).mono ?_;rintro ex w' ⟨rfl,r,Q⟩;refine⟨_,rfl,r,fun k K=> .inl K,f, .inr ⟨g,m,_,rfl,R,Q,h,I,?_,?_⟩⟩
  ·simp only[PE];rw[eI,eI,ON,b]
   ·rw[y,o,ON,b];omega
   rw[eI,z,c,ON,b]
   ·omega
   rw[y,o,ON,b];omega
  rw[y,z];have Y:=LU a.toList (i*2) 2;rw[<-X]at Y;have hQ:((a.toList.drop (i*2)).take 2).length=t.length:=by rw[NK,O7,ON,b,c];omega
  have:=JW (l.take (i*2)) ((a.toList.drop (i*2)).take 2) (a.toList.drop (i*2+2)) (l.drop (i*2)) t hQ;rw[<-Y,s,c]at this;rw[show (i+1)*2=i*2+2 by omega];show (List.take _ (cn _ _ _))=_;rw[this];exact Pq f
 refine(Ha w g m i n O W a d hg J (by omega) T (by omega) b q H B C S).mono ?_;rintro ex w' ⟨G,Z,rfl,r,Q,h3,h4,h5⟩;refine⟨_,rfl,⟨r.os,r.tape,r.output,r.size,fun k K _=>r.block k K (by simp)⟩,fun k K=> .inr (by cases K;exact ND _),f, .inr ⟨w.heap.size,G,_,rfl,E,h5,Q,h3,?_,?_⟩⟩
 ·simp only[PE];have p:(a.toList.take (i*2)++Z).length=G*2:=by rw[NA,h4,NK,ON,b];omega
  rw[eI,eI,p]
  ·rw[z,c,p];omega
  rw[eI,y,o,p]
  ·omega
  rw[z,c,p];omega
 rw[y,z, <-X];have:=JV (l.take (i*2)) t Z (l.drop (i*2));rw[s,c]at this;rw[show (i+1)*2=i*2+2 by omega];show (List.take _ (cn _ _ _))=_;rw[this];exact Pq f
end
section
def EO(env:cf)(es:List (List AV))(c:es.length<=4096):b8 prog env 310 [.seq 2 es] (.own 146 2 es):=by
 cases es with
 | nil=>
   refine b8.empty fun A a=> ?_;cases A with
   | none=>
     refine qw func310 call310 ntmps310 results310 ?_;repeat refine nw ?_
     (refine aM ?_;refine⟨_,(by show (ag _ _ _).run _=some _;simp only[go_sem];rfl),?_⟩)
     exact fN.own_nil _ _ (by decide)
   | some A=>
     refine qf func310 call310 ntmps310 results310 ?_;repeat refine nw ?_
     exact px
 | cons d l=>
   have b:dd ((l.length+1)) 32:=aC (by simpa using c) (by omega);refine qf func310 call310 ntmps310 results310 ?_;have F:=b;exact fc
def C4(env:cf)(x:eg)(h:Int)(b:0<=x.1/\x.1<=1000000)(a:0<=h/\h<=1000000):b8 prog env 309 [.agg (fj x),I h] (I (x.1-h)):=by
 have q:IntKind.i64.wrap (x.1-h)=x.1-h:=Q6 _ (by omega);unfold fj;refine qf func309 call309 ntmps309 results309 ?_;have F:=q;exact fc
def yh(env:cf)(l:List eg)(x:Int)(P:R' l)(L: ∀m∈l,0<=m.1/\m.1<=1000000)(H:0<=x/\x<=1000000)(Q:l.length<=1000000):b8 prog env 308 [go l,I x, .lit (.func (.func 309) #[] #[])] (.tuple [I (AI l x),B (Te l x)]):=by
 have o:=yv x l;have O:=fun {j:Nat}{y:eg}(a:l[j]? =some y)=>FI (h:=x) P a;have c:Te l x=match l[AI l x]? with|some y=>y.1==x|none=>false:=rfl
 generalize Te l x=b at*;generalize AI l x=p at*;refine qf func308 call308 ntmps308 results308 ?_;repeat refine nw ?_
 refine TW (D:=Nat×Nat) (fun d _=>[(0,go l),(1,I x),(2, .lit (.func (.func 309) #[] #[])),(8,I l.length),(9,I d.1),(10,I d.2)]) (fun _ _=>[]) (fun d _ _=>d.1<=p/\p<=d.2/\d.2<=l.length) (fun d=>d.2-d.1) (0,l.length) ⟨NJ _,o,ND _⟩ ?_;rintro⟨i,j⟩ R M ⟨z,A,C⟩;simp only at z A C;by_cases r:i<j
 ·have f:=ip r;have K:(i+j)/2<l.length:=by omega
  obtain⟨y,a⟩: ∃y,l[(i+j)/2]? =some y:=⟨l[(i+j)/2],Ms K⟩;have g:=O a;have f1:=C4 env y x (L y (My a)) H;have e:IntKind.i64.wrap ((i:Int)+(j:Int))=((i+j:Nat):Int):=by rw[aX (by omega) (by omega)];omega
  have t:IntKind.u64.wrap ((i+j:Nat):Int)=((i+j:Nat):Int):=IntWalk.u64_in _ (by omega)
  have u:IntKind.i64.wrap (((i+j:Nat):Int).fdiv (2^min 1 64))=(((i+j)/2:Nat):Int):=by
   rw[show ((i+j:Nat):Int).fdiv (2^min 1 64)=(((i+j)/2:Nat):Int) from(SI (i+j) 2).symm,aX (by omega) (by omega)]
  have v:(((i+j)/2:Nat):Int)< (l.length:Int):=by omega
  have w:=aD (k:=(i+j)/2) (n:=l.length) K (by omega);generalize N:(i+j)/2=s at*;unfold fj at f1;by_cases E:y.1<x
  ·have q:y.1-x<0:=by omega
   have:=g.2 E;have F:=qs UF f e t u v w a q;repeat refine st ?_
   refine oC (kP rfl (by simp only[go_sem,F];exact iR)) (f1) (by simp only[go_sem,F];exact iR) (by simp only[go_sem,F];exact⟨rfl,rfl⟩) ?_;repeat refine st ?_
   refine⟨(s+1,j),⟨?_,?_,?_⟩,?_,?_,?_⟩
   ·simp only;omega
   ·exact A
   ·exact C
   ·exact qe
   ·exact qe
   simp only;omega
  have q: ¬y.1-x<0:=by omega
  have: ¬s<p:=fun h=>E (g.1 h);have F:=qs UF f e t u v w a q;repeat refine st ?_
  refine oC (kP rfl (by simp only[go_sem,F];exact iR)) (f1) (by simp only[go_sem,F];exact iR) (by simp only[go_sem,F];exact⟨rfl,rfl⟩) ?_;repeat refine st ?_
  refine⟨(i,s),⟨?_,?_,?_⟩,?_,?_,?_⟩
  ·exact z
  ·simp only;omega
  ·simp only;omega
  ·exact qe
  ·exact qe
  simp only;omega
 obtain rfl:i=j:=by omega
 obtain rfl:i=p:=by omega
 have f:=nl i;by_cases J:i<l.length
 ·have e:=ip J;obtain⟨y,a⟩:=gE J;have f1:=C4 env y x (L y (My a)) H;rw[a]at c;have c:b=(y.1==x):=c;unfold fj at f1;by_cases G:y.1=x
  ·have q:(y.1-x==0)=true:=by simp;omega
   rw[c,show (y.1==x)=true by simpa using G];have F:=ii UF f e a q;repeat refine st ?_
   refine oC (kP rfl (by simp only[go_sem,F];exact iR)) (f1) (by simp only[go_sem,F];exact iR) (by simp only[go_sem,F];exact⟨rfl,rfl⟩) ?_;exact fc
  have q:(y.1-x==0)=false:=by simp;omega
  rw[c,show (y.1==x)=false by simpa using G];have F:=ii UF f e a q;repeat refine st ?_
  refine oC (kP rfl (by simp only[go_sem,F];exact iR)) (f1) (by simp only[go_sem,F];exact iR) (by simp only[go_sem,F];exact⟨rfl,rfl⟩) ?_;exact fc
 have e: ¬(i:Int)< (l.length:Int):=by omega
 rw[NL (by omega)]at c;have c:b=false:=c;rw[c];have F:=ai f e;exact fc
def LJ(l:List eg)(p:Nat)(m:eg):nY p (fj m) (l.map fj)=(l.take p++m::l.drop p).map fj:=by
 unfold nY;rw[NC,Nh,List.map_take,List.map_drop]
def FH(env:cf)(l:List eg)(m:eg)(f:R' l)(h: ∀m∈l,0<=m.1/\m.1<=1000000)(e:0<=m.1/\m.1<=1000000)(k:l.length<=4000):b8 prog env 299 [go l, .agg (fj m)] (.own 146 2 ((lR l m).map fj)):=by
 have f0:=yh env l m.1 f h e (by omega);have f1:=EO env (l.map fj) (by rw[NT];omega);cases a:Te l m.1 with
 | true=>
   rw[a]at f0;have b:=ML a;rw[Bd a];generalize AI l m.1=p at*;have j:=ip b;have c:(l.map fj).set p [I m.1, .seq 1 (m.2.map aa)]=(l.set p m).map fj:=by rw[QC];rfl
   obtain⟨y,g⟩:=gE b;refine qf func299 call299 ntmps299 results299 ?_;have F:=i0 UF j c g;exact ns f0 f1
 | false=>
   rw[a]at f0;rw[Be a, <-LJ];have d:=yv m.1 l;generalize AI l m.1=p at*;refine qf func299 call299 ntmps299 results299 ?_;have F:=fj.eq_1;repeat refine y3 f0 f1 ?_
   refine IL 24 27 rfl (row:=⟨2,l.map fj,146,true⟩) (row2:=⟨2,[fj m],146,true⟩) (i:=p) Mn (Ng 1) rfl rfl rfl rfl rfl (by decide) (by rw[NT];exact d) (by rw[NT];omega) (by simp only[go_sem];exact iR) (by simp only[go_sem];exact iR) (by simp only[go_sem];exact iR) (by simp only[go_sem];exact iR) (by simp only[go_sem];exact iR) (by simp only[go_sem];exact iR) iR ?_;exact fc
end
section
def TY(c:aq)(l:List eg):Prop:=R' l/\ ∀m∈l,fi c m.1=true
def Kw{c:aq}{l:List eg}{k:Nat}{v:List Int}(b:k<c.Z9.length)(h:TY c l):TY c (lR l ((k:Int),v)):=
 ⟨ui h.1,fun p d=>by
  rcases (oo h.1).1 d with rfl|⟨a,_⟩
  ·exact aW.2 b
  exact h.2 p a⟩
def yy{c:aq}{l:List eg}(h:TY c l):l.length<=c.Z9.length:=by
 have i:(l.map fun m=>m.1.toNat).Nodup:=by
  refine Q1.2 (h.1.imp_of_mem fun {a b} d f e=> ?_);have:=(aI.1 (h.2 a d)).1;have:=(aI.1 (h.2 b f)).1;omega
 have:=i.length_le_of_subset (l₂:=List.range c.Z9.length) fun x j=>by
  obtain⟨m,g,rfl⟩:=NG.1 j;have:=aI.1 (h.2 m g);exact NZ.2 (by omega)
 simpa using this
def Ma{c:aq}(a:Right c){l:List eg}(h:TY c l): ∀m∈l,0<=m.1/\m.1<=1000000:=fun m b=>by
 have:=aI.1 (h.2 m b);have:=a.Z6;omega
def KM{c:aq}{mem:List eg}(h:bm c mem=true):TY c mem:=by
 obtain⟨a,b⟩:=pU h;refine⟨a,fun m d=> ?_⟩;obtain⟨k,s,e,f,_⟩:=FU (b m d);rw[e];exact aW.2 (Mt.1 f).1
def JZ{c:aq}{act:List Int}{i:Int}(h:ch act (av c i true)=1): ∃(p a:Nat),(av c i true)[p]? =some a/\mT c act i=[(a:Int)]/\ ∀(q y:Nat),(av c i true)[q]? =some y->act.contains (y:Int)=decide (q=p):=by
 obtain⟨k,o,f,r,n⟩:=uv h;obtain⟨a,l,rfl⟩:=NG.1 o;obtain⟨p,g⟩:=Ox.1 l;refine⟨p,a,g,r,fun q y b=> ?_⟩;by_cases e:q=p
 ·subst e;rw[g]at b;cases b;rw[Ny rfl];exact Mz.2 f
 rw[Nm e];refine Pb.2 fun m=>e ?_;have j:(y:Int)∈(hH c i).filter fun k=>act.contains k:=NF.2 ⟨NG.2 ⟨y,My b,rfl⟩,m⟩;rw[n]at j;have d:(y:Int)=(a:Int):=NP.1 j;have d:y=a:=by omega
 subst d;exact(List.getElem?_inj (Mt.1 b).1 (bV c i true)).1 (b.trans g.symm)
def DJ{c:aq}{act gone:List Int}{o:List eg}{j:Nat}{x:Int}(h:gone[j]? =some x):u' c act gone o (j+1)=if an c x=true then rn c act x (u' c act gone o j) (x5 c x) (x5 c x).length else u' c act gone o j:=by
 unfold u';exact bY _ _ h
def Al{c:aq}{act:List Int}{i:Int}{o:List eg}{M:List Nat}{m h:Nat}(a:M[m]? =some h):rn c act i o M (m+1)=lR (rn c act i o M m) ((h:Int),tC c act i h):=by
 unfold rn;exact bY _ _ a
def pI(a:Nat)(p q:Nat):AV:=if q<=p then b6 else .seq 1 [aB a]
end
section
/-! As the document says -/
def wH(c:aq)(l:List Int)(j:Nat):List Nat:=(List.range j).filter fun i:Nat=>l.contains (i:Int)&&(ch l (av c i true)==0)
def Af(env:cf)(c:aq)(h:ct c)(l:List Int)(r:l.length<=1000000):b8 prog env 171 [.agg (aA c), .seq 1 (l.map aa)] (.own 3 1 ((KG c l).map aB)):=by
 have s:=h.Z6;have p:=fun(i:Int)=>dI env c i true (by omega);unfold aA at p;show b8 _ _ _ _ (.own _ 1 ((wH c l c.Z9.length).map aB));refine qf func171 call171 ntmps171 results171 ?_;have F:=aA.eq_1;repeat refine st ?_
 have F:=aA.eq_1;refine lq c.Z9.length (by omega) (fun j t=>[(1, .seq 1 (l.map aa)),(2, .loc 2 (t 2) 0 0),(5, .row 7 (t 7)),(6,I j)]) (fun j _=>[(2,⟨5,[aA c],26,false⟩),(7,⟨1,(wH c l j).map aB,3,true⟩)]) (fun j _ d=>d 7=false) rfl ?_ ?_
 ·rintro j w d e f m b;have f0:=dJ env l (j:Int) r;have a:wH c l (j+1)=if (l.contains (j:Int)&&(ch l (av c j true)==0)) then wH c l j++[j] else wH c l j:=jv (fun i:Nat=>l.contains (i:Int)&&(ch l (av c i true)==0)) j
  have v:(wH c l j).length<=j:=gH (fun i:Nat=>l.contains (i:Int)&&(ch l (av c i true)==0)) j;have u:dd ((wH c l j).length+1) 8:=aC (by omega) (by omega);cases q:l.contains (j:Int) with
  | false=>
    rw[q]at f0 a;rw[Nt,Mv Nb]at a;have F:=i0 Us f m b;repeat refine ff f0 ?_
    refine⟨j+1,⟨e,by simp only[go_sem,b]⟩,?_,?_,by omega⟩
    ·exact qe
    have F:=ai Us a;exact qe
  | true=>
    rw[q]at f0 a;rw[Np]at a;have n:=p (j:Int);have x:=bU h.toRight j true;have o:=lj env l (av c j true) r (by omega);generalize av c (j:Int) true=K at*;cases g:(ch l K==0) with
    | true=>
      have k:(((ch l K:Nat):Int)==0)=true:=by simpa using g
      rw[g,Mw rfl]at a;generalize ch l K=N at*;have F:=kv Us f m b k u;repeat refine Sw f0 n o ?_
      refine⟨j+1,⟨e,by simp only[go_sem,b]⟩,?_,?_,by omega⟩
      ·exact qe
      have F:=i0 Us Uu a @NC.{0,0};exact qe
    | false=>
      have k:(((ch l K:Nat):Int)==0)=false:=by
       have:ch l K≠0:=by simpa using g
       simp;omega
      rw[g,Mv Nb]at a;generalize ch l K=N at*;have F:=ii Us f m b k;repeat refine Sw f0 n o ?_
      refine⟨j+1,⟨e,by simp only[go_sem,b]⟩,?_,?_,by omega⟩
      ·exact qe
      have F:=ai Us a;exact qe
 rintro w d f b;have F:=gs Us f b;exact fc
end
section
def vg(env:cf)(c:aq)(h:ct c)(hs:hP c)(act gone:List Int)(mem:List eg)(hla:act.length<=4000)(hlg:gone.length<=1000000)(hlb:tU c act=true)(hgo: ∀x∈gone,x∈act)(hm:bm c mem=true):i9 prog env 274 [1001,1006] (fun _=>false) (fun g=>[aG c, .row 1001 (g 1001), .row 1006 (g 1006),go mem]) (fun _=>[(1001,⟨1,act.map aa,3,true⟩),(1006,⟨1,gone.map aa,3,true⟩)]) (fun _=>[(1001,⟨1,act.map aa,3,true⟩),(1006,⟨1,gone.map aa,3,true⟩)]) (fun _=>go (nr c act gone mem)):=by
 have f0:=ay env c hs;have hfew:=h.Z6;have hok:=KM hm;have hml:=yy hok;have f1:=EG env mem (by omega) (fun m hm'=>by have:=(tG h hm m hm').2;omega);have S:=cx hlb;show i9 _ _ _ _ _ _ _ _ fun _=>go (u' c act gone mem gone.length);unfold aG at f0 |-;refine qi func274 call274 ntmps274 results274 ?_;intro l esc hesc;obtain⟨b,d⟩:=OF hesc;have F:=ai b d;repeat refine y3 f0 f1 ?_
 refine fG (dg.frozen 21 10 ⟨2,mem.map fj,146,true⟩ rfl (Ng 1) (by simp only[go_sem]) (by simp only[go_sem])) ?_;refine aH (D:=Nat) (fun j l=>[(0, .ref 9 [cy c] 0 0),(1, .row 1001 (l 1001)),(9, .loc 9 (l 9) 0 0),(10,go (u' c act gone mem j)),(22, .row 1006 (l 1006)),(23,I gone.length),(24,I j)]) (fun _ _=>[(9,⟨5,[aA c],26,false⟩),(1001,⟨1,act.map aa,3,true⟩),(1006,⟨1,gone.map aa,3,true⟩)]) (fun j t f=>(j<=gone.length/\TY c (u' c act gone mem j))/\(t 1001=l 1001/\t 1006=l 1006)/\f 1001=false/\f 1006=false) (fun j=>gone.length-j) 0 ?_ ?_ ?_ ?_
 ·exact⟨⟨NJ _,hok⟩,by simp only[go_sem,NH],by simp only[go_sem,b,d,NH]⟩
 ·(simp only[go_sem,F])
  try rfl
 ·have F:=aA.eq_1
  (simp only[go_sem,F])
  try rfl
 try clear b d
 rintro j ws esc ⟨⟨hj,hO⟩,⟨C,E⟩,b,d⟩;by_cases G:j<gone.length
 ·obtain⟨x,hx⟩:=gE G;have q1:=ip G;have q2:=aD G (by omega);have hxa:=hgo x (My hx);obtain⟨s0,hs0,Z, -, -,H, -⟩:=S.of hxa;obtain⟨k,s,rfl,Y,hat⟩:=dB Z;obtain rfl:s0=s:=by rw[hs0]at hat;cases hat;rfl
  have hk:=(Mt.1 Y).1;have q3:((k:Nat):Int)< (c.Z9.length:Int):=by omega
  have f2:=Cm env c h k;have Q:=bw hs0;have B:=DJ (c:=c) (act:=act) (o:=mem) hx;unfold aG at f2;generalize u' c act gone mem j=o at*;by_cases W:s0.kind=1
  ·have b1:(s0.kind==1)=true:=by simp[W]
   rw[b1]at Q;rw[Q,Mw rfl]at B
   have hML: ∀y∈x5 c (k:Int),∃N,c.Z9[y]? =some N/\N.parent=(k:Int)/\aU N=true:=fun y L=>by
    obtain⟨N,e1,_,e3,e4⟩:=gV.1 L;exact⟨N,e1,e3,e4⟩
   have hMl:(x5 c (k:Int)).length<=1000000:=by
    unfold x5;have:=NV (LB c (k:Int)) (List.range c.Z9.length);rw[Pn]at this;omega
   have f3:=BH env c h.toRight act hla (k:Int)
   have f4:=Hc env c h (fA c act (k:Int)) (NN (NV ..) hla) (fun y L=>by
    have L:=(NF.1 L).1;obtain⟨_,_,Z,_⟩:=S.of L
    exact Z)
   have f5:=bc env c h (k:Int);rw[Mw (.inr Z)]at f5;have H:=H W;generalize x5 c (k:Int)=M at*;unfold aG at f3 f4 f5;have F:=o' Us Ut hx q1 q2 q3 Y b1 jM b d;repeat refine ff f2 ?_
   refine aH (D:=Nat) (fun m l=>[(0, .ref 9 [cy c] 0 0),(1, .row 1001 (l 1001)),(9, .loc 9 (l 9) 0 0),(10,go (rn c act k o M m)),(12,I k),(22, .row 1006 (l 1006)),(23,I gone.length),(24,I j),(37, .row 37 (l 37)),(38,I M.length),(39,I m)]) (fun _ _=>[(9,⟨5,[aA c],26,false⟩),(37,⟨1,M.map aB,3,true⟩),(1001,⟨1,act.map aa,3,true⟩),(1006,⟨1,gone.map aa,3,true⟩)]) (fun m t f=>(m<=M.length/\TY c (rn c act k o M m))/\(t 1001=l 1001/\t 1006=l 1006)/\f 1001=false/\f 1006=false) (fun m=>M.length-m) 0 ?_ ?_ ?_ ?_
   ·exact⟨⟨NJ _,hO⟩,by simp only[go_sem,C,E,NH],by simp only[go_sem,b,d,NH]⟩
   ·(simp only[go_sem,F])
    try rfl
   ·have F:=gs Us b d
    (simp only[go_sem,F])
    try rfl
   try clear b d C E
   rintro m us es ⟨⟨hml2,w⟩,⟨C,E⟩,b,d⟩;by_cases n:m<M.length
   ·obtain⟨y,L⟩:=gE n;have p1:=ip n;have p2:=aD n (by omega);obtain⟨N,J,hpar,hmy⟩:=hML y (My L);have hyl:=(Mt.1 J).1;have p3:((y:Nat):Int)< (c.Z9.length:Int):=by omega
    have A:=Al (c:=c) (act:=act) (i:=(k:Int)) (o:=o) L;have P:tC c act (k:Int) y=if N.kind=5 then lE c (fA c act (k:Int)) else mT c act (k:Int):=by unfold tC;rw[J]
    have T:=Kw (v:=tC c act (k:Int) y) hyl w;rw[<-A]at T;have hz2:=Ma h.toRight w;have hl2:=yy w;generalize rn c act (k:Int) o M m=R at*;by_cases O:N.kind=5
    ·have b5:(N.kind==5)=true:=by simp[O]
     rw[Mw O]at P;rw[P]at A;have f6:b8 prog env 299 [go R, .agg [I (y:Int), .seq 1 ((lE c (fA c act (k:Int))).map aa)]] (.own 146 2 ((lR R ((y:Int),lE c (fA c act (k:Int)))).map fj)):=FH env R ((y:Int),lE c (fA c act (k:Int))) w.1 hz2 ⟨by simp only;omega,by simp only;omega⟩ (by omega);generalize lE c (fA c act (k:Int))=V at*;generalize fA c act (k:Int)=U at*;refine dy ?_;have F:=o' Us Ut Uu L J p1 p2 p3 b5 b d;repeat refine st ?_
     refine lL (f3.lend (al (fun _=>rfl) _)) ?_;repeat refine y3 f4 f6 ?_
     refine⟨_,dg.frozen 76 10 ⟨2,(lR R ((y:Int),V)).map fj,146,true⟩ rfl (Ng 1) (by simp only[go_sem]) (by simp only[go_sem]),m+1,⟨⟨n,T⟩,by simp only[go_sem,C,E,NH],by simp only[go_sem,b,d,NH]⟩,?_,?_,by omega⟩
     ·have F:=gs A b d
      (simp only[go_sem,F])
      try rfl
     have F:=gs Us b d;exact qe
    have b5:(N.kind==5)=false:=by simpa using O
    rw[Mv O]at P;rw[P]at A
    have hkn:av c (k:Int) true≠[]:=by
     have:=(pZ h J hmy).2.2.1;rw[hpar]at this;exact this
    have hkf:=bU h.toRight (k:Int) true;obtain⟨p,a,hp,hlk,X⟩:=JZ (H hkn);rw[hlk]at A;have f6:b8 prog env 299 [go R, .agg [I (y:Int), .seq 1 [aB a]]] (.own 146 2 ((lR R ((y:Int),[(a:Int)])).map fj)):=FH env R ((y:Int),[(a:Int)]) w.1 hz2 ⟨by simp only;omega,by simp only;omega⟩ (by omega);generalize av c (k:Int) true=K at*;refine dy ?_;have F:=o' Us Ut Uu L J p1 p2 p3 b5 b d;repeat refine ff f5 ?_
    refine aH (D:=Nat) (fun q l=>[(0, .ref 9 [cy c] 0 0),(1, .row 1001 (l 1001)),(9, .loc 9 (l 9) 0 0),(10,go R),(12,I k),(14,I y),(15, .loc 15 (l 15) 0 0),(22, .row 1006 (l 1006)),(23,I gone.length),(24,I j),(37, .row 37 (l 37)),(38,I M.length),(39,I m),(61, .row 61 (l 61)),(62,I K.length),(63,I q)]) (fun q _=>[(9,⟨5,[aA c],26,false⟩),(15,⟨2,[[I y,pI a p q]],146,false⟩),(37,⟨1,M.map aB,3,true⟩),(61,⟨1,K.map aB,3,true⟩),(1001,⟨1,act.map aa,3,true⟩),(1006,⟨1,gone.map aa,3,true⟩)]) (fun q t f=>(q<=K.length/\f 15=false)/\(t 1001=l 1001/\t 1006=l 1006)/\f 1001=false/\f 1006=false) (fun q=>K.length-q) 0 ?_ ?_ ?_ ?_
    ·exact⟨⟨NJ _,by simp only[go_sem]⟩,by simp only[go_sem,C,E,NH],by simp only[go_sem,b,d,NH]⟩
    ·(simp only[go_sem,F])
     try rfl
    ·have F:=gs Us b d
     (simp only[go_sem,F])
     try rfl
    try clear b d C E
    rintro q xs fs ⟨⟨hq,e5⟩,⟨C,E⟩,b,d⟩;by_cases r:q<K.length
    ·obtain⟨u,hu⟩:=gE r;have r1:=ip r;have r2:=aD r (by omega);have g0:=bI env act (u:Int) (by omega);rw[X q u hu]at g0;by_cases hqp:q=p
     ·subst hqp;rw[Ny rfl]at g0;obtain rfl:u=a:=by rw[hp]at hu;cases hu;rfl
      have c1:pI u q q=b6:=by unfold pI;rw[Mw (ND _)]
      have c2:pI u q (q+1)= .seq 1 [aB u]:=by unfold pI;rw[Mv (by omega)]
      refine dy ?_;have F:=qs Us Uu hu r1 r2 c1 e5 b d;repeat refine st ?_
      refine lL (g0.lend rfl) ?_;repeat refine st ?_
      refine⟨_,dg.sees [(71,xs 71+1, .seq 1 [aB u])] (fun z Z=> ?_),q+1,⟨⟨r,?_⟩,?_,?_⟩,?_,?_,by omega⟩
      ·rw[NP.1 Z];refine⟨by simp only[go_sem],⟨1,[aB u],3,true⟩,by simp only[go_sem,aB],Ng 0,rfl,rfl⟩
      ·simp only[k6,go_sem,e5,QH,Qv]
      ·simp only[k6,go_sem,C,E,NH]
      ·simp only[k6,go_sem,b,d,QH,Qv,NH]
      ·have F:=ai b d;exact qe
      have F:=ii Us Uu c2 b d;exact qe
     rw[Nm hqp]at g0
     have c1:pI a p (q+1)=pI a p q:=by
      unfold pI;by_cases e:q<=p
      ·rw[Mw (by omega),Mw e]
      rw[Mv (by omega),Mv e]
     have F:=qr Us Uu hu r1 r2 e5 b d;repeat refine st ?_
     refine lL (g0.lend rfl) ?_;repeat refine st ?_
     refine⟨q+1,⟨⟨r,by simp only[go_sem,e5]⟩,by simp only[go_sem,C,E,NH],by simp only[go_sem,b,d,NH]⟩,?_,?_,by omega⟩
     ·exact qe
     have F:=ii Us Uu c1 b d;exact qe
    obtain rfl:q=K.length:=by omega
    have r1:=nl K.length
    have c1:pI a p K.length= .seq 1 [aB a]:=by
     unfold pI;rw[Mv (by have:=(Mt.1 hp).1;omega)]
    have F:=qr Us Uu r1 c1 p2 e5 b d;repeat refine ff f6 ?_
    refine⟨_,dg.frozen 76 10 ⟨2,(lR R ((y:Int),[(a:Int)])).map fj,146,true⟩ rfl (Ng 1) (by simp only[go_sem]) (by simp only[go_sem]),m+1,⟨⟨n,T⟩,by simp only[go_sem,C,E,NH],by simp only[go_sem,b,d,NH]⟩,?_,?_,by omega⟩
    ·have F:=gs A b d
     (simp only[go_sem,F])
     try rfl
    have F:=gs Us b d;exact qe
   obtain rfl:m=M.length:=by omega
   have p1:=nl M.length;rw[<-B]at w;have F:=i0 p1 q2 b d;repeat refine st ?_
   refine⟨j+1,⟨⟨G,w⟩,by simp only[go_sem,C,E,NH],by simp only[go_sem,b,d,NH]⟩,?_,?_,by omega⟩
   ·have F:=gs B b d;exact qe
   have F:=gs Us b d;exact qe
  have b1:(s0.kind==1)=false:=by simpa using W
  rw[b1]at Q;rw[Q,Mv Nb]at B;rw[<-B]at hO;have F:=o' Us Ut hx q1 q2 q3 Y b1 jM b d;repeat refine ff f2 ?_
  refine⟨j+1,⟨⟨G,hO⟩,by simp only[go_sem,C,E,NH],by simp only[go_sem,b,d,NH]⟩,?_,?_,by omega⟩
  ·have F:=gs B b d;exact qe
  have F:=gs Us b d;exact qe
 obtain rfl:j=gone.length:=by omega
 have q1:=nl gone.length;have F:=ii q1 b d C E;repeat refine st ?_
 exact rI
def wF(env:cf)(o p:Addr)(z:gb env o p)(c:aq)(h:ct c)(s:hP c)(act gone:List Int)(D:act.length<=4000)(q:gone.length<=1000000)(mem:List eg)(r:mem.length<=1000000)(C: ∀m∈mem,dd m.2.length 8)(y:tU c act=true)(A:bm c mem=true)(k: ∀x∈gone,x∈act):i9 prog env 238 [1001,1006] (fun _=>false) (fun g=>[aG c, .row 1001 (g 1001), .row 1006 (g 1006),go mem]) (fun _=>[(1001,⟨1,act.map aa,3,true⟩),(1006,⟨1,gone.map aa,3,true⟩)]) (fun _=>[(1001,⟨1,act.map aa,3,true⟩),(1006,⟨1,gone.map aa,3,true⟩)]) (fun _=> .tuple [go (nr c act gone mem),ik]):=by
 have f0:=cj env o p z c h s act (by omega);have f2:=qS env o p z c h s mem r C;have f4:=vg env c h s act gone mem D q y k A;unfold wC at f0;unfold KZ at f2;rw[y]at f0;rw[A,Mw rfl]at f2;simp only[Nn]at f0;have f0:=f0.lend rfl;unfold aG at f0 f2 f4 |-;refine qi func238 call238 ntmps238 results238 ?_;intro e f i;obtain⟨a,b⟩:=OF i;have F:=ai a b;repeat refine st ?_
 refine lL f0 ?_;repeat refine ff f2 ?_
 refine lq gone.length (by omega) (fun j e=>[(0, .ref 9 [cy c] 0 0),(1, .row 1001 (e 1001)),(2, .row 1006 (e 1006)),(3,go mem),(25, .row 1006 (e 1006)),(26,I gone.length),(27,I j)]) (fun _ _=>[(1001,⟨1,act.map aa,3,true⟩),(1006,⟨1,gone.map aa,3,true⟩)]) (fun j n d=>(n 1001=e 1001/\n 1006=e 1006)/\d 1001=false/\d 1006=false) ⟨by simp only[go_sem,NH],by simp only[go_sem,a,b,NH]⟩ ?_ ?_
 ·try clear a b
  rintro j G f l t E ⟨⟨u,v⟩,a,b⟩;obtain⟨x,B⟩:=gE l;have w:=bI env act x (by omega);rw[Mz.2 (k x (My B))]at w;have F:=ii B t E a b;repeat refine st ?_
  refine lL (w.lend rfl) ?_;repeat refine st ?_
  exact qn (j+1) ⟨l,by simp only[go_sem,u,v,NH],by simp only[go_sem,a,b,NH]⟩
 try clear a b
 rintro G f t ⟨⟨u,v⟩,a,b⟩;have F:=ii t a b u v;repeat refine st ?_
 refine iL [(1001,1001),(1006,1006)] f4 ?_;repeat refine st ?_
 exact rI
end
section
end
end Go.Proofs.YtfhkmjbjafeckaaGreatDoor
