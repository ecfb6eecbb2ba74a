/- What micro's steps do where nothing is done but that states change: parts for awake. -/
import Derived.Test.YtfcdkaolcdglmaaGreatDoorP24
import Derived.Lib.Overlaps
import Derived.Lib.AppendZerosOnto
set_option maxRecDepth 100000
set_option maxHeartbeats 16000000
set_option linter.unusedSimpArgs false
set_option linter.defProp false
namespace Go.Proofs.YtfcdkaolcdglmaaGreatDoor
open Go.Proofs.Tryz
open Go.RowKit
section
def kl{P:Program}(w:World){ops:Array Oper}{rest:List Oper}{o:Oper}{a:Act}{Q:Exit->Act->World->Prop}(b:o.guard=none)(d s:Operand)(t c:TypeId)
 (i:o.op= .call { callee:= .builtin .copy,args:= #[d,s],argTypes:= #[t,c] })(v u:Value)(g:a.eval d=v)(k:a.eval s=u){e:Value}{w':World}
 (j:(Builtin.copy_ #[t,c] o.type #[v,u]).run P w= .ok e w')(h:wpList P ops Q rest (a.put o.dst e) w'):wpList P ops Q (o::rest) a w:=
 wpList_plain b fun K f=>by
  unfold Oper.wp execOp;simp only[i,resolve,invoke,builtin,Oc,PF,OX,R5,PE,Pv,g,k,j];exact f _ _ h
def nh{P:Program}{ops:Array Oper}{o:Oper}{a:Act}{w:World}{K:Act->World->Prop}{Q:Exit->Act->World->Prop}{E:Prop}
 (i:o.guard=none)(d x:Operand)(c e:TypeId)(b:o.op=Op.call { callee:=Callee.builtin Builtin.copy,args:= #[d,x],argTypes:= #[c,e] })
 (v u:Value)(h:a.eval d=v)(k:a.eval x=u){f:Value}{w':World}(j:(Builtin.copy_ #[c,e] o.type #[v,u]).run P w= .ok f w')(g:K (a.put o.dst f) w'):
 if Region.wanted o (yielded ops a.tmps)=true then Oper.wp P o a w K Q else E:=by
 rw[OL (by simp[Region.wanted,i])];unfold Oper.wp;simp[execOp,b,resolve,invoke,builtin,h,k,j,Result.andThen];exact g
def uF{w:World}{base n sz:Nat}{e:TypeId}{v:Value}{xs:List Value}(h:w.ownsRow base e sz v n xs)(b:0<n):
 ∃g cap a,v= .slice (some ⟨g,0,none⟩) n cap/\base<=g/\w.heap[g]? =some (.cells a e (0,0))/\n<=cap/\cap<=maxLen/\a.size=cap*sz/\a.toList.take (n*sz)=xs:=by
 rcases h.2 with⟨_,h⟩|h
 ·omega
 exact h
def lK{w:World}{g:Nat}{a:Array Value}{e:TypeId}(b:w.heap[g]? =some (.cells a e (0,0)))(k:Nat):w.cell? ⟨g,k,none⟩=a[k]? :=by simp[World.cell?,b]
def sL{w:World}{g:Nat}{a:Array Value}{e:TypeId}(b:w.heap[g]? =some (.cells a e (0,0)))(k:Nat):w.frozen? ⟨g,k,none⟩=false:=by simp[World.frozen?,b]
def EJ:eg prog 36=some ⟨.slice 93 2 32 [.int .i64 0, .slice none 0 0],1,[.slice none 0 0]⟩:=by kernel_rfl
def Jh(w:World)(base n:Nat)(v u:Value)(xs ys:List Value)(hbw:base<=w.heap.size)(hx:w.ownsRow base 93 2 v n xs)(hy:w.ownsRow base 93 2 u 1 ys)(h1y: ∀y∈ys,y.oneCell'=true)(hn:n<=4096):
 Calls prog 256 #[v, .int .i64 (n:Int),u] w fun ex w'=> ∃v',ex= .returned v'/\w.grownBy w' v.ownBlock/\(∀g,v'.ownBlock=some g->v.ownBlock=some g\/w.heap.size<=g)/\w'.ownsRow base 93 2 v' (n+1) (xs++ys):=by
 obtain⟨hu,ie,ze,i1,i2,i3,i4,i5⟩:=bF EJ
 have hzc:ze.cells.size=2:=by
  have:=Oj List.length i5;simpa using this
 obtain⟨g2,c2,cur2,rfl,_,hg2,_⟩:=uF hy (by omega);obtain⟨v',w',hrun,ho,hgr⟩:=fG (P:=prog) w base 36 36 93 ie ze 2 32 hu i1 i2 i3 i4 hzc (by decide) v n xs hx (some ⟨g2,0,none⟩) 1 c2 ys hy.1 (fun _=>⟨_,rfl,fun j y hj=>hy.cells rfl j y hj⟩) h1y (by unfold maxLen;omega) (by omega) hbw
 have fin: ∃v'',Ending.returned v'= .returned v''/\w.grownBy w' v.ownBlock/\(∀g,v''.ownBlock=some g->v.ownBlock=some g\/w.heap.size<=g)/\w'.ownsRow base 93 2 v'' (n+1) (xs++ys):=by
  refine⟨v',rfl,?_,fun g hg=> ?_,ho⟩
  ·rcases hgr with⟨_,h⟩|⟨_,h⟩
   ·exact h
   exact⟨h.os,h.tape,h.output,h.size,fun k hk _=>h.block k hk (by simp)⟩
  rcases hgr with⟨e,_⟩|⟨e,_⟩
  ·rw[e]at hg;exact .inl hg
  rw[e]at hg;cases hg;exact .inr (OO _)
 try clear hgr ho i1 i2 i3 i4 i5 hzc
 rcases hx.2 with⟨rfl,rfl⟩|⟨g,cap,cur,rfl,_,hg,hnc,hcm,_,_⟩
 ·clear hx hy
  go_enter func256,ntmps256
  go_wp2_with (at_builtin;refine S8 _ rfl _ _ _ _ rfl _ _ rfl rfl _ _ hrun ?_)
  all_goals (go_ret;exact fin)
 clear hx hy;unfold maxLen at hcm
 go_enter func256,ntmps256
 go_wp2_with (at_builtin;refine S8 _ rfl _ _ _ _ rfl _ _ rfl rfl _ _ hrun ?_)
 all_goals (go_ret;exact fin)
def fp(a:Array Value)(i n:Nat):List Value:=(a.toList.drop (i*2)).take ((n-i)*2)
def cg(l:List Value)(o:Nat)(cs:List Value):List Value:=l.take o++cs++l.drop (o+cs.length)
def oh{a:Array Value}{i n cap:Nat}(c:a.size=cap*2)(b:i<=n)(d:n<=cap):(fp a i n).length=(n-i)*2:=by
 unfold fp;rw[OZ,QF,P2,c];omega
def sZ{a:Array Value}{i n j:Nat}{v:Value}(h:(fp a i n)[j]? =some v):a[i*2+j]? =some v:=by
 unfold fp at h;rw[Om]at h;split at h
 ·rw[PY]at h;simpa using h
 cases h
def eF{l:List Value}{o:Nat}{cs:List Value}(h:o+cs.length<=l.length):(cg l o cs).length=l.length:=by
 unfold cg;simp only[ON,OZ,QF];omega
def oA{w w':World}{g:Nat}{R:Array Value}(h:w.grownBy w' (some g)):w.grownBy (w'.setRow g R) (some g):=
 ⟨h.os,h.tape,h.output,by simp[World.setRow];exact h.size,fun k b a=>by rw[QS w' g k R (fun e=>a (by rw[e]))];exact h.block k b a⟩
def nL{w w':World}{r:Option Nat}(h:w.grownBy w' r):w.grownBy w'.drew r:=⟨h.os,h.tape,h.output,h.size,h.block⟩
def H9(w:World)(g cap i n g2 c2:Nat)(cur cur2:Array Value)(hg:w.heap[g]? =some (.cells cur 93 (0,0)))(hg2:w.heap[g2]? =some (.cells cur2 93 (0,0)))(hne:g2≠g)(hi:i<n)(hroom:n+1<=cap)(hcap:cap<=9223372036854775807)(hsz:cur.size=cap*2)(hsz2:cur2.size=c2*2)(hc2:1<=c2)
 (h1c: ∀u∈fp cur i n,u.oneCell'=true)(h1y: ∀u∈fp cur2 0 1,u.oneCell'=true)(hn:n<=4096):
 Calls prog 256 #[.slice (some ⟨g,0,none⟩) n cap, .int .i64 (i:Int), .slice (some ⟨g2,0,none⟩) 1 c2] w fun e w'=>
  e= .returned (.slice (some ⟨g,0,none⟩) (n+1) cap)/\w.grownBy w' (some g)/\w'.heap[g]? =some (.cells (cg (cg cur.toList ((i+1)*2) (fp cur i n)) (i*2) (fp cur2 0 1)).toArray 93 (0,0)):=by
 obtain⟨hu,ie,ze,i1,i2,i3,i4,i5⟩:=bF EJ;have hol:=oh hsz (Ss hi) (by omega:n<=cap);have hyl:=oh hsz2 (O6 1) hc2;have hl1:(cg cur.toList ((i+1)*2) (fp cur i n)).length=cap*2:=by rw[eF (by rw[hol,P2,hsz];omega),P2,hsz]
 have hov: ∀(W:World)(lb cb:Nat),W.heap=w.heap->(callFunc 268 #[.slice (some ⟨g2,0,none⟩) 1 c2, .slice (some ⟨g,(i+1)*2,none⟩) lb cb]).run prog W= .ok (.value (.bool false)) W:=fun W lb cb hW=>by
  have k1:W.heap[g]? =some (.cells cur 93 (0,0)):=by rw[hW];exact hg
  have k2:W.heap[g2]? =some (.cells cur2 93 (0,0)):=by rw[hW];exact hg2
  rw[run_callFunc_extern func268 (by kernel_rfl) (by kernel_rfl) (by kernel_rfl) (e:=Extern.SlicesOverlaps.overlaps #[36,36] #[4]) (by kernel_rfl),
   Lib.run_overlaps_apart W 36 4 93 hu 2 (fun w0=>by simp[sizeOf,typeInfo,i1,i3]) ⟨g2,0,none⟩ ⟨g,(i+1)*2,none⟩ 1 c2 lb cb hne 93 93 cur2.size cur.size (by simp[World.shape?,k2]) (by simp[World.shape?,k1]) (by omega) (sL k2 _) (sL k2 _)]
  rfl
 have hcp1: ∀(W:World),W.heap=w.heap-> ∀(ty:TypeId)(dc sc:Nat),(Builtin.copy_ #[36,36] ty #[.slice (some ⟨g,(i+1)*2,none⟩) (n-i) dc, .slice (some ⟨g,i*2,none⟩) (n+1-i) sc]).run prog W= .ok (goInt ((n-i:Nat):Int)) (W.setRow g (cg cur.toList ((i+1)*2) (fp cur i n)).toArray):=fun W hW ty dc sc=>by
  have k1:W.heap[g]? =some (.cells cur 93 (0,0)):=by rw[hW];exact hg
  exact ia W _ _ ty 93 ie i1 g ((i+1)*2) (n-i) dc ⟨g,i*2,none⟩ (n+1-i) sc cur 93 (fp cur i n) (n-i) hu k1 (by simp only[Tm];split<;>omega) (by rw[hol,i3])
   (fun j v hj=>by rw[Su,lK k1];exact sZ hj) (by rw[hol,hsz];omega) h1c
 obtain⟨R1,hR1⟩: ∃R1,R1=cg cur.toList ((i+1)*2) (fp cur i n):=⟨_,rfl⟩;rw[<-hR1]at hcp1 hl1 |-
 have hcp2: ∀(W:World),W.heap=(w.setRow g R1.toArray).heap-> ∀(ty:TypeId)(dc:Nat),(Builtin.copy_ #[36,36] ty #[.slice (some ⟨g,i*2,none⟩) (n+1-i) dc, .slice (some ⟨g2,0,none⟩) 1 c2]).run prog W= .ok (goInt 1) (W.setRow g (cg R1 (i*2) (fp cur2 0 1)).toArray):=fun W hW ty dc=>by
  have k1:W.heap[g]? =some (.cells R1.toArray 93 (0,0)):=by rw[hW];exact Re w g cur _ _ _ hg
  have k2:W.heap[g2]? =some (.cells cur2 93 (0,0)):=by rw[hW,QS w g g2 _ hne];exact hg2
  exact ia W _ _ ty 93 ie i1 g (i*2) (n+1-i) dc ⟨g2,0,none⟩ 1 c2 R1.toArray 93 (fp cur2 0 1) 1 hu k1 (by simp only[Tm];split<;>omega) (by rw[hyl,i3])
   (fun j v hj=>by rw[Su,lK k2];exact sZ hj) (by rw[hyl];simp only[QI,hl1];omega) h1y
 have fin: ∀(W:World),W=((w.drew.setRow g R1.toArray).setRow g (cg R1 (i*2) (fp cur2 0 1)).toArray)->w.grownBy W (some g)/\W.heap[g]? =some (.cells (cg R1 (i*2) (fp cur2 0 1)).toArray 93 (0,0)):=fun W hW=>by
  rw[hW];exact⟨oA (oA (nL (PL w _))),Re _ g _ _ _ _ (Re w.drew g cur _ _ _ hg)⟩
 obtain⟨R2,hR2⟩: ∃R2,R2=(cg R1 (i*2) (fp cur2 0 1)).toArray:=⟨_,rfl⟩;rw[<-hR2]at hcp2 fin |-;obtain⟨A1,hA1⟩: ∃A1,A1=R1.toArray:=⟨_,rfl⟩;rw[<-hA1]at hcp1 hcp2 fin;have hw1:IntKind.i64.wrap ((i:Int)+1)=(i:Int)+1:=by rw[Qx];omega
 have hw2:IntKind.i64.wrap ((n:Int)+1)=(n:Int)+1:=by rw[Qx];omega
 have hz2: ¬((i:Int)=(n:Int)):=by omega
 have hb1:(0:Int)<=(i:Int)+1:=by omega
 have hin:i<=n:=by omega
 have htn:((i:Int)+1).toNat=i+1:=by omega
 have hb2: ¬(cap=i+1):=by omega
 have hb4: ¬(cap=i):=by omega
 have hb5: ¬((cap:Int)< (n:Int)+1):=by omega
 have hb3:(i:Int)<=(n:Int)+1:=by omega
 try clear hol hyl hl1 hsz hsz2 h1c h1y hR1 hR2 hA1 i1 i2 i3 i4 i5
 go_enter func256,ntmps256
 go_wp2_with (simp only[hov _ _ _ rfl])
 go_region_law (refine nh rfl _ _ 36 36 rfl _ _ (by simp[Act.eval,Act.put]) (by simp[Act.eval,Act.put]) (hcp1 w.drew rfl 3 (cap-(i+1)) (cap-i)) ?_)
 go_wp2_with (refine kl _ rfl _ _ 36 36 rfl _ _ rfl rfl (hcp2 (w.drew.setRow g A1) rfl _ _) ?_)
 go_ret
 exact⟨rfl,fin _ rfl⟩
def Ha(w:World)(g cap i n g2 c2:Nat)(cur cur2:Array Value)(hg:w.heap[g]? =some (.cells cur 93 (0,0)))(hg2:w.heap[g2]? =some (.cells cur2 93 (0,0)))(hi:i<n)(hnc:n<=cap)(hroom:cap<n+1)(hsz:cur.size=cap*2)(hsz2:cur2.size=c2*2)(hc2:1<=c2)
 (h1c: ∀u∈fp cur i n,u.oneCell'=true)(h1y: ∀u∈fp cur2 0 1,u.oneCell'=true)(hn:n<=4096):
 Calls prog 256 #[.slice (some ⟨g,0,none⟩) n cap, .int .i64 (i:Int), .slice (some ⟨g2,0,none⟩) 1 c2] w fun e w'=> ∃(G:Nat) (Z:List Value),
  e= .returned (.slice (some ⟨w.heap.size,0,none⟩) (n+1) G)/\w.grownBy w' none/\n+1<=G/\G<=maxLen/\Z.length=(G-i)*2/\w'.heap[w.heap.size]? =some (.cells (cg (cg (cur.toList.take (i*2)++Z) (i*2) (fp cur2 0 1)) ((i+1)*2) (fp cur i n)).toArray 93 (0,0)):=by
 obtain⟨hu,ie,ze,i1,i2,i3,i4,i5⟩:=bF EJ
 have hzc:ze.cells.size=2:=by
  have:=Oj List.length i5;simpa using this
 have hol:=oh hsz (Ss hi) hnc;have hyl:=oh hsz2 (O6 1) hc2;have hgw:g<w.heap.size:=(Od.1 hg).1;have hgw2:g2<w.heap.size:=(Od.1 hg2).1;have hkk:(n:Int)+1-(i:Int)=((n+1-i:Nat):Int):=by omega
 have hik:i+(n+1-i)=n+1:=by omega
 have hold:(Builtin.firstCells ie.size i (.slice (some ⟨g,0,none⟩) i cap)).run prog w.drew= .ok (cur.toList.take (i*2)).toArray w.drew:=by
  rw[i3];refine run_firstCells_some w.drew 2 i ⟨g,0,none⟩ i cap (cur.toList.take (i*2)) (by rw[OZ,P2];omega) fun j v hj=> ?_;rw[Su];show w.cell? _=_;rw[lK hg];rw[Om]at hj;split at hj
  ·simpa using hj
  cases hj
 have hui:prog.underlying 3=some (.int .i64):=Tryz.underlying3
 have hrz: ∀ty,(Builtin.append_ #[36,3] ty #[.slice (some ⟨g,0,none⟩) i cap, .int .i64 ((n:Int)+1-(i:Int))]).run prog w= .ok (.slice (some ⟨w.heap.size,0,none⟩) (n+1) (grownCap w (n+1) cap 93)) (w.drew.alloc (.cells ((cur.toList.take (i*2)).toArray++Builtin.zeroCells ze.cells (n+1-i)++Builtin.zeroCells ze.cells (grownCap w (n+1) cap 93-(n+1))) 93)):=fun ty=>by
  have h:=Lib.run_append_grow_zeros w 36 3 ty 93 ie ze .i64 .i64 hu hui i1 i2 (some ⟨g,0,none⟩) i cap (cur.toList.take (i*2)) hold (n+1-i) (by omega) (by omega) (by omega) (by omega) (by rw[i4];omega) (by rw[i4,hik];exact T9 hroom (by omega));rw[hik]at h;rw[hkk];exact h
 obtain⟨G,hG⟩: ∃G,G=grownCap w (n+1) cap 93:=⟨_,rfl⟩;rw[<-hG]at hrz;have hGn:n+1<=G:=by rw[hG];exact T7 w _ _ _
 have hGm:G<=maxLen:=by rw[hG];exact Sw w _ _ _ (by unfold maxLen;omega)
 obtain⟨Z,hZ⟩: ∃Z:List Value,Z=(Builtin.zeroCells ze.cells (n+1-i)).toList++(Builtin.zeroCells ze.cells (G-(n+1))).toList:=⟨_,rfl⟩
 have hZl:Z.length=(G-i)*2:=by
  rw[hZ,ON,P2,P2,Sx,Sx,hzc];omega
 obtain⟨R0,hR0⟩: ∃R0:List Value,R0=cur.toList.take (i*2)++Z:=⟨_,rfl⟩
 have hr0:(cur.toList.take (i*2)).toArray++Builtin.zeroCells ze.cells (n+1-i)++Builtin.zeroCells ze.cells (G-(n+1))=R0.toArray:=by
  rw[hR0,hZ];apply Array.ext';simp
 have hrl:R0.length=G*2:=by
  rw[hR0,ON,hZl,OZ,P2,hsz];omega
 rw[hr0]at hrz;obtain⟨W1,hW1⟩: ∃W1,W1=w.drew.alloc (.cells R0.toArray 93):=⟨_,rfl⟩;rw[<-hW1]at hrz;have hn1:W1.heap[w.heap.size]? =some (.cells R0.toArray 93 (0,0)):=by rw[hW1];exact Sj w.drew _
 have hn2:W1.heap[g]? =some (.cells cur 93 (0,0)):=by rw[hW1,Pj _ _ _ (by exact hgw)];exact hg
 have hn3:W1.heap[g2]? =some (.cells cur2 93 (0,0)):=by rw[hW1,Pj _ _ _ (by exact hgw2)];exact hg2
 have hgr1:w.grownBy W1 none:=by rw[hW1];exact⟨rfl,rfl,rfl,by simp,fun k hk _=>by rw[Pj _ _ _ (by exact hk)];rfl⟩
 obtain⟨A2,hA2⟩: ∃A2,A2=cg R0 (i*2) (fp cur2 0 1):=⟨_,rfl⟩;have hl2:A2.length=G*2:=by rw[hA2,eF (by rw[hyl,hrl];omega),hrl]
 have hcpA: ∀(W:World),W.heap=W1.heap-> ∀(ty:TypeId)(dc:Nat),(Builtin.copy_ #[36,36] ty #[.slice (some ⟨w.heap.size,i*2,none⟩) (n+1-i) dc, .slice (some ⟨g2,0,none⟩) 1 c2]).run prog W= .ok (goInt 1) (W.setRow w.heap.size A2.toArray):=fun W hW ty dc=>by
  have k1:W.heap[w.heap.size]? =some (.cells R0.toArray 93 (0,0)):=by rw[hW];exact hn1
  have k2:W.heap[g2]? =some (.cells cur2 93 (0,0)):=by rw[hW];exact hn3
  rw[hA2]
  exact ia W _ _ ty 93 ie i1 w.heap.size (i*2) (n+1-i) dc ⟨g2,0,none⟩ 1 c2 R0.toArray 93 (fp cur2 0 1) 1 hu k1 (by simp only[Tm];split<;>omega) (by rw[hyl,i3])
   (fun j v hj=>by rw[Su,lK k2];exact sZ hj) (by rw[hyl];simp only[QI,hrl];omega) h1y
 obtain⟨A3,hA3⟩: ∃A3,A3=cg A2 ((i+1)*2) (fp cur i n):=⟨_,rfl⟩
 have hcpB: ∀(W:World),W.heap=(W1.setRow w.heap.size A2.toArray).heap-> ∀(ty:TypeId)(dc sc:Nat),(Builtin.copy_ #[36,36] ty #[.slice (some ⟨w.heap.size,(i+1)*2,none⟩) (n-i) dc, .slice (some ⟨g,i*2,none⟩) (n-i) sc]).run prog W= .ok (goInt ((n-i:Nat):Int)) (W.setRow w.heap.size A3.toArray):=fun W hW ty dc sc=>by
  have k1:W.heap[w.heap.size]? =some (.cells A2.toArray 93 (0,0)):=by rw[hW];exact Re W1 _ _ _ _ _ hn1
  have k2:W.heap[g]? =some (.cells cur 93 (0,0)):=by rw[hW,QS W1 w.heap.size g _ (TX hgw)];exact hn2
  rw[hA3]
  exact ia W _ _ ty 93 ie i1 w.heap.size ((i+1)*2) (n-i) dc ⟨g,i*2,none⟩ (n-i) sc A2.toArray 93 (fp cur i n) (n-i) hu k1 (by simp only[Tm];split<;>omega) (by rw[hol,i3])
   (fun j v hj=>by rw[Su,lK k2];exact sZ hj) (by rw[hol];simp only[QI,hl2];omega) h1c
 have fin: ∀(W:World),w.grownBy W none->W.heap[w.heap.size]? =some (.cells A3.toArray 93 (0,0))-> ∃(G':Nat) (Z':List Value),(Ending.returned (.slice (some ⟨w.heap.size,0,none⟩) (n+1) G):Ending)= .returned (.slice (some ⟨w.heap.size,0,none⟩) (n+1) G')/\w.grownBy W none/\n+1<=G'/\G'<=maxLen/\Z'.length=(G'-i)*2/\W.heap[w.heap.size]? =some (.cells (cg (cg (cur.toList.take (i*2)++Z') (i*2) (fp cur2 0 1)) ((i+1)*2) (fp cur i n)).toArray 93 (0,0)):=fun W h1 h2=>
  ⟨G,Z,rfl,h1,hGn,hGm,hZl,by rw[h2,hA3,hA2,hR0]⟩
 have fin2: ∀(W:World),w.grownBy W none->W.heap[w.heap.size]? =some (.cells A2.toArray 93 (0,0))->w.grownBy (W.setRow w.heap.size A3.toArray) none/\(W.setRow w.heap.size A3.toArray).heap[w.heap.size]? =some (.cells A3.toArray 93 (0,0)):=fun W h1 h2=>
  ⟨⟨h1.os,h1.tape,h1.output,by simp[World.setRow];exact h1.size,fun k hk hne=>by rw[QS W _ k _ (TX hk)];exact h1.block k hk hne⟩,Re W _ _ _ _ _ h2⟩
 have hgrA:w.grownBy (W1.setRow w.heap.size A2.toArray) none:=⟨hgr1.os,hgr1.tape,hgr1.output,by simp[World.setRow];exact hgr1.size,fun k hk hne=>by rw[QS W1 _ k _ (TX hk)];exact hgr1.block k hk hne⟩;have hnA:(W1.setRow w.heap.size A2.toArray).heap[w.heap.size]? =some (.cells A2.toArray 93 (0,0)):=Re W1 _ _ _ _ _ hn1;have hw1:IntKind.i64.wrap ((i:Int)+1)=(i:Int)+1:=by rw[Qx];omega
 have hw2:IntKind.i64.wrap ((n:Int)+1)=(n:Int)+1:=by rw[Qx];omega
 have hw3:IntKind.i64.wrap ((n:Int)+1-(i:Int))=(n:Int)+1-(i:Int):=by rw[Qx];omega
 have hz2: ¬((i:Int)=(n:Int)):=by omega
 have hz3:(cap:Int)< (n:Int)+1:=by omega
 have hb1:(0:Int)<=(i:Int)+1:=by omega
 have hin:i<=n:=by omega
 have htn:((i:Int)+1).toNat=i+1:=by omega
 have hGi: ¬(G=i):=by omega
 have hGim: ¬(G=i+1):=by omega
 have hci: ¬(cap=i):=by omega
 have hb3:(i:Int)<=(n:Int):=by omega
 obtain⟨B2,hB2⟩: ∃B2,B2=A2.toArray:=⟨_,rfl⟩;obtain⟨B3,hB3⟩: ∃B3,B3=A3.toArray:=⟨_,rfl⟩;obtain⟨N0,hN0⟩: ∃N0,N0=w.heap.size:=⟨_,rfl⟩;rw[<-hB2]at hcpA hcpB hgrA hnA fin2;rw[<-hB3]at hcpB fin fin2;rw[<-hN0]at hrz hcpA hcpB fin fin2 hgrA hnA |-;try clear hkk hik hold hG hrl hr0 hR0 hW1 hn1 hn2 hn3 hgr1 hA2 hA3 hl2 hB2 hB3 i1 i2 i3 i4 i5 hol hyl h1c h1y hsz hsz2 hZ hZl hzc hu hui hN0
 go_enter func256,ntmps256
 go_wp2_with (first
  |(at_builtin;refine S8 _ rfl _ _ _ _ rfl _ _ rfl rfl _ _ (hrz _) ?_)
  |(refine kl _ rfl _ _ 36 36 rfl _ _ rfl rfl (hcpA W1 rfl _ _) ?_))
 go_region_law (refine nh rfl _ _ 36 36 rfl _ _ (by simp[Act.eval,Act.put]) (by simp[Act.eval,Act.put]) (hcpB (W1.setRow N0 B2).drew rfl 3 (G-(i+1)) (cap-i)) ?_)
 go_wp2
 go_ret
 exact fin _ (fin2 _ (nL hgrA) hnA).1 (fin2 _ (nL hgrA) hnA).2
end
section
def J9(P Y Z X:List Value):cg (cg (P++Z) P.length Y) (P.length+Y.length) X=P++Y++X++(P++Y++Z.drop Y.length).drop (P.length+Y.length+X.length):=by
 have a:cg (P++Z) P.length Y=P++Y++Z.drop Y.length:=by
  unfold cg;rw[Qv,List.drop_append,Pp (by omega),Nat.add_sub_cancel_left,QE];rfl
 rw[a];unfold cg;rw[show (P++Y++Z.drop Y.length).take (P.length+Y.length)=P++Y from Qv (by rw[ON])]
def Ja(P Q S X Y:List Value)(h:Q.length=Y.length):cg (cg (P++Q++S) (P.length+Y.length) X) P.length Y=P++Y++X++(P++Q++S).drop (P.length+Y.length+X.length):=by
 have a:cg (P++Q++S) (P.length+Y.length) X=P++Q++X++(P++Q++S).drop (P.length+Y.length+X.length):=by
  unfold cg;rw[show (P++Q++S).take (P.length+Y.length)=P++Q from Qv (by rw[ON,h])]
 rw[a];generalize (P++Q++S).drop (P.length+Y.length+X.length)=T;unfold cg;rw[show (P++Q++X++T).take P.length=P by rw[O1,O1];exact Qv rfl,show (P++Q++X++T).drop (P.length+Y.length)=X++T by rw[O1];exact List.drop_left' (by rw[ON,h])];simp only[O1]
def MO(l:List Value)(a b:Nat):l=l.take a++(l.drop a).take b++l.drop (a+b):=by
 rw[O1, <-S4,Qn,Qn]
def Ny:V' prog 256 93 2:=by
 refine⟨Sv func256 (by kernel_rfl) rfl,fun w A i n v u l t E N V hd P D hi S=> ?_⟩;by_cases he:i=n
 ·subst he;have hxl:=N.1;rw[PI (by omega),Pp (by omega),P9];exact Jh w A i v u l t E N V D S
 obtain⟨g,m,a,rfl,R,hg,T,I,b,L⟩:=uF N (by omega);obtain⟨O,W,d,rfl,_,J,H,_,q,M⟩:=uF V (by omega);have U:O≠g:=fun e=>hd g rfl (by rw[e];rfl);have z:fp d 0 1=t:=by unfold fp;rw[<-M];rfl
 have y:fp a i n=l.drop (i*2):=by
  unfold fp;rw[<-L,List.drop_take]
  congr 1
  omega
 have X:l.take (i*2)=a.toList.take (i*2):=by
  rw[<-L,Sz,Qd (by omega)]
 have s:(l.take (i*2)).length=i*2:=by rw[OZ,N.1];omega
 have c:t.length=2:=V.1;have o:(l.drop (i*2)).length=(n-i)*2:=by rw[QF,N.1];omega
 have B: ∀x∈fp a i n,x.oneCell'=true:=fun x j=>by rw[y]at j;exact P x (Qf j)
 have C: ∀x∈fp d 0 1,x.oneCell'=true:=fun x j=>by rw[z]at j;exact D x j
 have f:(l.take (i*2)++t++l.drop (i*2)).length=(n+1)*2:=by
  rw[ON,ON,s,c,o];omega
 by_cases h:n+1<=m
 ·refine(H9 w g m i n O W a d hg J U (by omega) h (by unfold maxLen at I;omega) b q H B C S).mono ?_;rintro ex w' ⟨rfl,r,Q⟩;refine⟨_,rfl,r,fun k K=> .inl K,f, .inr ⟨g,m,_,rfl,R,Q,h,I,?_,?_⟩⟩
  ·simp only[QI];rw[eF,eF,P2,b]
   ·rw[y,o,P2,b];omega
   rw[eF,z,c,P2,b]
   ·omega
   rw[y,o,P2,b];omega
  rw[y,z];have Y:=MO a.toList (i*2) 2;rw[<-X]at Y;have hQ:((a.toList.drop (i*2)).take 2).length=t.length:=by rw[OZ,QF,P2,b,c];omega
  have:=Ja (l.take (i*2)) ((a.toList.drop (i*2)).take 2) (a.toList.drop (i*2+2)) (l.drop (i*2)) t hQ;rw[<-Y,s,c]at this;rw[show (i+1)*2=i*2+2 by omega];show (List.take _ (cg _ _ _))=_;rw[this];exact Qv f
 refine(Ha w g m i n O W a d hg J (by omega) T (by omega) b q H B C S).mono ?_;rintro ex w' ⟨G,Z,rfl,r,Q,h3,h4,h5⟩;refine⟨_,rfl,⟨r.os,r.tape,r.output,r.size,fun k K _=>r.block k K (by simp)⟩,fun k K=> .inr (by cases K;exact OO _),f, .inr ⟨w.heap.size,G,_,rfl,E,h5,Q,h3,?_,?_⟩⟩
 ·simp only[QI];have p:(a.toList.take (i*2)++Z).length=G*2:=by rw[ON,h4,OZ,P2,b];omega
  rw[eF,eF,p]
  ·rw[z,c,p];omega
  rw[eF,y,o,p]
  ·omega
  rw[z,c,p];omega
 rw[y,z, <-X];have:=J9 (l.take (i*2)) t Z (l.drop (i*2));rw[s,c]at this;rw[show (i+1)*2=i*2+2 by omega];show (List.take _ (cg _ _ _))=_;rw[this];exact Qv f
end
section
def Dq(env:b7)(es:List (List AV))(c:es.length<=4096):cy prog env 255 [.seq 2 es] (.own 93 2 es):=by
 cases es with
 | nil=>
   refine cy.empty fun A a=> ?_;cases A with
   | none=>
     refine qw func255 call255 ntmps255 results255 ?_;repeat refine sm ?_
     (refine aO ?_;refine⟨_,(by show (au _ _ _).run _=some _;simp only[go_sem];rfl),?_⟩)
     exact i8.own_nil _ _ (by decide)
   | some A=>
     refine qf func255 call255 ntmps255 results255 ?_;repeat refine sm ?_
     exact L0
 | cons d l=>
   have b:ek ((l.length+1)) 32:=aG (by simpa using c) (by omega);refine qf func255 call255 ntmps255 results255 ?_;have F:=b;exact fl
def CF(env:b7)(x:ed)(h:Int)(b:0<=x.1/\x.1<=1000000)(a:0<=h/\h<=1000000):cy prog env 254 [.agg (fi x),I h] (I (x.1-h)):=by
 have q:IntKind.i64.wrap (x.1-h)=x.1-h:=Qz _ (by omega);unfold fi;refine qf func254 call254 ntmps254 results254 ?_;have F:=q;exact fl
def xp(env:b7)(l:List ed)(x:Int)(P:UI l)(L: ∀m∈l,0<=m.1/\m.1<=1000000)(H:0<=x/\x<=1000000)(Q:l.length<=1000000):cy prog env 253 [i9 l,I x, .lit (.func (.func 254) #[] #[])] (.tuple [I (J' l x),B (Vn l x)]):=by
 have o:=yD x l;have O:=fun {j:Nat}{y:ed}(a:l[j]? =some y)=>Em (h:=x) P a;have c:Vn l x=match l[J' l x]? with|some y=>y.1==x|none=>false:=rfl
 generalize Vn l x=b at*;generalize J' l x=p at*;refine qf func253 call253 ntmps253 results253 ?_;repeat refine sm ?_
 refine Wp (D:=Nat×Nat) (fun d _=>[(0,i9 l),(1,I x),(2, .lit (.func (.func 254) #[] #[])),(8,I l.length),(9,I d.1),(10,I d.2)]) (fun _ _=>[]) (fun d _ _=>d.1<=p/\p<=d.2/\d.2<=l.length) (fun d=>d.2-d.1) (0,l.length) ⟨O6 _,o,OO _⟩ ?_;rintro⟨i,j⟩ R M ⟨z,A,C⟩;simp only at z A C;by_cases r:i<j
 ·have f:=mc r;have K:(i+j)/2<l.length:=by omega
  obtain⟨y,a⟩: ∃y,l[(i+j)/2]? =some y:=⟨l[(i+j)/2],OE K⟩;have g:=O a;have f1:=CF env y x (L y (OM a)) H;have e:IntKind.i64.wrap ((i:Int)+(j:Int))=((i+j:Nat):Int):=by rw[bB (by omega) (by omega)];omega
  have t:IntKind.u64.wrap ((i+j:Nat):Int)=((i+j:Nat):Int):=Tj _ (by omega)
  have u:IntKind.i64.wrap (((i+j:Nat):Int).fdiv (2^min 1 64))=(((i+j)/2:Nat):Int):=by
   rw[show ((i+j:Nat):Int).fdiv (2^min 1 64)=(((i+j)/2:Nat):Int) from(Te (i+j) 2).symm,bB (by omega) (by omega)]
  have v:(((i+j)/2:Nat):Int)< (l.length:Int):=by omega
  have w:=aD (k:=(i+j)/2) (n:=l.length) K (by omega);generalize N:(i+j)/2=s at*;unfold fi at f1;by_cases E:y.1<x
  ·have q:y.1-x<0:=by omega
   have:=g.2 E;have F:=y' WS f e t u v w a q;repeat refine st ?_
   refine oC (kR rfl (by simp only[go_sem,F];exact iR)) (f1) (by simp only[go_sem,F];exact iR) (by simp only[go_sem,F];exact⟨rfl,rfl⟩) ?_;repeat refine st ?_
   refine⟨(s+1,j),⟨?_,?_,?_⟩,?_,?_,?_⟩
   ·simp only;omega
   ·exact A
   ·exact C
   ·exact qe
   ·exact qe
   simp only;omega
  have q: ¬y.1-x<0:=by omega
  have: ¬s<p:=fun h=>E (g.1 h);have F:=y' WS f e t u v w a q;repeat refine st ?_
  refine oC (kR rfl (by simp only[go_sem,F];exact iR)) (f1) (by simp only[go_sem,F];exact iR) (by simp only[go_sem,F];exact⟨rfl,rfl⟩) ?_;repeat refine st ?_
  refine⟨(i,s),⟨?_,?_,?_⟩,?_,?_,?_⟩
  ·exact z
  ·simp only;omega
  ·simp only;omega
  ·exact qe
  ·exact qe
  simp only;omega
 obtain rfl:i=j:=by omega
 obtain rfl:i=p:=by omega
 have f:=nl i;by_cases J:i<l.length
 ·have e:=mc J;obtain⟨y,a⟩:=gE J;have f1:=CF env y x (L y (OM a)) H;rw[a]at c;have c:b=(y.1==x):=c;unfold fi at f1;by_cases G:y.1=x
  ·have q:(y.1-x==0)=true:=by simp;omega
   rw[c,show (y.1==x)=true by simpa using G];have F:=ld WS f e a q;repeat refine st ?_
   refine oC (kR rfl (by simp only[go_sem,F];exact iR)) (f1) (by simp only[go_sem,F];exact iR) (by simp only[go_sem,F];exact⟨rfl,rfl⟩) ?_;exact fl
  have q:(y.1-x==0)=false:=by simp;omega
  rw[c,show (y.1==x)=false by simpa using G];have F:=ld WS f e a q;repeat refine st ?_
  refine oC (kR rfl (by simp only[go_sem,F];exact iR)) (f1) (by simp only[go_sem,F];exact iR) (by simp only[go_sem,F];exact⟨rfl,rfl⟩) ?_;exact fl
 have e: ¬(i:Int)< (l.length:Int):=by omega
 rw[OT (by omega)]at c;have c:b=false:=c;rw[c];have F:=ai f e;exact fl
def MC(l:List ed)(p:Nat)(m:ed):nI p (fi m) (l.map fi)=(l.take p++m::l.drop p).map fi:=by
 unfold nI;rw[Oa,PE,List.map_take,List.map_drop]
def Ek(env:b7)(l:List ed)(m:ed)(f:UI l)(h: ∀m∈l,0<=m.1/\m.1<=1000000)(e:0<=m.1/\m.1<=1000000)(k:l.length<=4000):cy prog env 244 [i9 l, .agg (fi m)] (.own 93 2 ((lN l m).map fi)):=by
 have f0:=xp env l m.1 f h e (by omega);have f1:=Dq env (l.map fi) (by rw[O4];omega);cases a:Vn l m.1 with
 | true=>
   rw[a]at f0;have b:=NP a;rw[BF a];generalize J' l m.1=p at*;have j:=mc b;have c:(l.map fi).set p [I m.1, .seq 1 (m.2.map aa)]=(l.set p m).map fi:=by rw[Rk];rfl
   obtain⟨y,g⟩:=gE b;refine qf func244 call244 ntmps244 results244 ?_;have F:=mX WS j c g;exact po f0 f1
 | false=>
   rw[a]at f0;rw[BG a, <-MC];have d:=yD m.1 l;generalize J' l m.1=p at*;refine qf func244 call244 ntmps244 results244 ?_;have F:=fi.eq_1;repeat refine PJ f0 f1 ?_
   refine IR 24 27 rfl (row:=⟨2,l.map fi,93,true⟩) (row2:=⟨2,[fi m],93,true⟩) (i:=p) Ny (PD 1) rfl rfl rfl rfl rfl (by decide) (by rw[O4];exact d) (by rw[O4];omega) (by simp only[go_sem];exact iR) (by simp only[go_sem];exact iR) (by simp only[go_sem];exact iR) (by simp only[go_sem];exact iR) (by simp only[go_sem];exact iR) (by simp only[go_sem];exact iR) iR ?_;exact fl
end
section
def Wd(c:aq)(l:List ed):Prop:=UI l/\ ∀m∈l,fe c m.1=true
def Lm{c:aq}{l:List ed}{k:Nat}{v:List Int}(b:k<c.Z9.length)(h:Wd c l):Wd c (lN l ((k:Int),v)):=
 ⟨uD h.1,fun p d=>by
  rcases (oc h.1).1 d with rfl|⟨a,_⟩
  ·exact ak.2 b
  exact h.2 p a⟩
def yH{c:aq}{l:List ed}(h:Wd c l):l.length<=c.Z9.length:=by
 have i:(l.map fun m=>m.1.toNat).Nodup:=by
  refine Rq.2 (h.1.imp_of_mem fun {a b} d f e=> ?_);have:=(aJ.1 (h.2 a d)).1;have:=(aJ.1 (h.2 b f)).1;omega
 have:=i.length_le_of_subset (l₂:=List.range c.Z9.length) fun x j=>by
  obtain⟨m,g,rfl⟩:=OW.1 j;have:=aJ.1 (h.2 m g);exact Oh.2 (by omega)
 simpa using this
def Nj{c:aq}(a:Right c){l:List ed}(h:Wd c l): ∀m∈l,0<=m.1/\m.1<=1000000:=fun m b=>by
 have:=aJ.1 (h.2 m b);have:=a.Z6;omega
def Ks{c:aq}{mem:List ed}(h:bu c mem=true):Wd c mem:=by
 obtain⟨a,b⟩:=mD h;refine⟨a,fun m d=> ?_⟩;obtain⟨k,s,e,f,_⟩:=yK (b m d);rw[e];exact ak.2 (OG.1 f).1
def Jc{c:aq}{act:List Int}{i:Int}(h:cR act (aw c i true)=1): ∃(p a:Nat),(aw c i true)[p]? =some a/\mF c act i=[(a:Int)]/\ ∀(q y:Nat),(aw c i true)[q]? =some y->act.contains (y:Int)=decide (q=p):=by
 obtain⟨k,o,f,r,n⟩:=uP h;obtain⟨a,l,rfl⟩:=OW.1 o;obtain⟨p,g⟩:=QB.1 l;refine⟨p,a,g,r,fun q y b=> ?_⟩;by_cases e:q=p
 ·subst e;rw[g]at b;cases b;rw[Ou rfl];exact OQ.2 f
 rw[Oi e];refine Qj.2 fun m=>e ?_;have j:(y:Int)∈(hU c i).filter fun k=>act.contains k:=OY.2 ⟨OW.2 ⟨y,OM b,rfl⟩,m⟩;rw[n]at j;have d:(y:Int)=(a:Int):=O2.1 j;have d:y=a:=by omega
 subst d;exact(List.getElem?_inj (OG.1 b).1 (bQ c i true)).1 (b.trans g.symm)
def Ce{c:aq}{act gone:List Int}{o:List ed}{j:Nat}{x:Int}(h:gone[j]? =some x):CA c act gone o (j+1)=if bD c x=true then tg c act x (CA c act gone o j) (D' c x) (D' c x).length else CA c act gone o j:=by
 unfold CA;exact bz _ _ h
def AC{c:aq}{act:List Int}{i:Int}{o:List ed}{M:List Nat}{m h:Nat}(a:M[m]? =some h):tg c act i o M (m+1)=lN (tg c act i o M m) ((h:Int),sb c act i h):=by
 unfold tg;exact bz _ _ a
def oz(a:Nat)(p q:Nat):AV:=if q<=p then gb else .seq 1 [aB a]
end
section
/-! As the document says -/
end
section
def uy(env:b7)(c:aq)(h:cD c)(hs:h9 c)(act gone:List Int)(mem:List ed)(hla:act.length<=4000)(hlg:gone.length<=1000000)(hlb:F' c act=true)(hgo: ∀x∈gone,x∈act)(hm:bu c mem=true):g6 prog env 226 [1001,1006] (fun _=>false) (fun g=>[aH c, .row 1001 (g 1001), .row 1006 (g 1006),i9 mem]) (fun _=>[(1001,⟨1,act.map aa,3,true⟩),(1006,⟨1,gone.map aa,3,true⟩)]) (fun _=>[(1001,⟨1,act.map aa,3,true⟩),(1006,⟨1,gone.map aa,3,true⟩)]) (fun _=>i9 (u5 c act gone mem)):=by
 have f0:=ap env c hs;have hfew:=h.Z6;have hok:=Ks hm;have hml:=yH hok;have f1:=Dj env mem (by omega) (fun m hm'=>by have:=(yJ h hm m hm').2;omega);have S:=eW hlb;show g6 _ _ _ _ _ _ _ _ fun _=>i9 (CA c act gone mem gone.length);unfold aH at f0 |-;refine qi func226 call226 ntmps226 results226 ?_;intro l esc hesc;obtain⟨b,d⟩:=Us hesc;have F:=ai b d;repeat refine PJ f0 f1 ?_
 refine iX (dT.frozen 21 10 ⟨2,mem.map fi,93,true⟩ rfl (PD 1) (by simp only[go_sem]) (by simp only[go_sem])) ?_;refine aN (D:=Nat) (fun j l=>[(0, .ref 9 [aK c] 0 0),(1, .row 1001 (l 1001)),(9, .loc 9 (l 9) 0 0),(10,i9 (CA c act gone mem j)),(22, .row 1006 (l 1006)),(23,I gone.length),(24,I j)]) (fun _ _=>[(9,⟨5,[aA c],26,false⟩),(1001,⟨1,act.map aa,3,true⟩),(1006,⟨1,gone.map aa,3,true⟩)]) (fun j t f=>(j<=gone.length/\Wd c (CA c act gone mem j))/\(t 1001=l 1001/\t 1006=l 1006)/\f 1001=false/\f 1006=false) (fun j=>gone.length-j) 0 ?_ ?_ ?_ ?_
 ·exact⟨⟨O6 _,hok⟩,by simp only[go_sem,O8],by simp only[go_sem,b,d,O8]⟩
 ·(simp only[go_sem,F])
  try rfl
 ·have F:=aA.eq_1
  (simp only[go_sem,F])
  try rfl
 try clear b d
 rintro j ws esc ⟨⟨hj,hO⟩,⟨C,E⟩,b,d⟩;by_cases G:j<gone.length
 ·obtain⟨x,hx⟩:=gE G;have q1:=mc G;have q2:=aD G (by omega);have hxa:=hgo x (OM hx);obtain⟨s0,hs0,Z, -, -,H, -⟩:=S.of hxa;obtain⟨k,s,rfl,Y,hat⟩:=fB Z;obtain rfl:s0=s:=by rw[hs0]at hat;cases hat;rfl
  have hk:=(OG.1 Y).1;have q3:((k:Nat):Int)< (c.Z9.length:Int):=by omega
  have f2:=CZ env c h k;have Q:=bk hs0;have B:=Ce (c:=c) (act:=act) (o:=mem) hx;unfold aH at f2;generalize CA c act gone mem j=o at*;by_cases W:s0.kind=1
  ·have b1:(s0.kind==1)=true:=by simp[W]
   rw[b1]at Q;rw[Q,OL rfl]at B
   have hML: ∀y∈D' c (k:Int),∃N,c.Z9[y]? =some N/\N.parent=(k:Int)/\ab N=true:=fun y L=>by
    obtain⟨N,e1,_,e3,e4⟩:=gG.1 L;exact⟨N,e1,e3,e4⟩
   have hMl:(D' c (k:Int)).length<=1000000:=by
    unfold D';have:=Ol (Lt c (k:Int)) (List.range c.Z9.length);rw[SU]at this;omega
   have f3:=AZ env c h.toRight act hla (k:Int)
   have f4:=Hc env c h (fc c act (k:Int)) (O3 (Ol ..) hla) (fun y L=>by
    have L:=(OY.1 L).1;obtain⟨_,_,Z,_⟩:=S.of L
    exact Z)
   have f5:=bX env c h (k:Int);rw[OL (.inr Z)]at f5;have H:=H W;generalize D' c (k:Int)=M at*;unfold aH at f3 f4 f5;have F:=u4 WH WI hx q1 q2 q3 Y b1 jF b d;repeat refine g8 f2 ?_
   refine aN (D:=Nat) (fun m l=>[(0, .ref 9 [aK c] 0 0),(1, .row 1001 (l 1001)),(9, .loc 9 (l 9) 0 0),(10,i9 (tg c act k o M m)),(12,I k),(22, .row 1006 (l 1006)),(23,I gone.length),(24,I j),(37, .row 37 (l 37)),(38,I M.length),(39,I m)]) (fun _ _=>[(9,⟨5,[aA c],26,false⟩),(37,⟨1,M.map aB,3,true⟩),(1001,⟨1,act.map aa,3,true⟩),(1006,⟨1,gone.map aa,3,true⟩)]) (fun m t f=>(m<=M.length/\Wd c (tg c act k o M m))/\(t 1001=l 1001/\t 1006=l 1006)/\f 1001=false/\f 1006=false) (fun m=>M.length-m) 0 ?_ ?_ ?_ ?_
   ·exact⟨⟨O6 _,hO⟩,by simp only[go_sem,C,E,O8],by simp only[go_sem,b,d,O8]⟩
   ·(simp only[go_sem,F])
    try rfl
   ·have F:=jw WH b d
    (simp only[go_sem,F])
    try rfl
   try clear b d C E
   rintro m us es ⟨⟨hml2,w⟩,⟨C,E⟩,b,d⟩;by_cases n:m<M.length
   ·obtain⟨y,L⟩:=gE n;have p1:=mc n;have p2:=aD n (by omega);obtain⟨N,J,hpar,hmy⟩:=hML y (OM L);have hyl:=(OG.1 J).1;have p3:((y:Nat):Int)< (c.Z9.length:Int):=by omega
    have A:=AC (c:=c) (act:=act) (i:=(k:Int)) (o:=o) L;have P:sb c act (k:Int) y=if N.kind=5 then kE c (fc c act (k:Int)) else mF c act (k:Int):=by unfold sb;rw[J]
    have T:=Lm (v:=sb c act (k:Int) y) hyl w;rw[<-A]at T;have hz2:=Nj h.toRight w;have hl2:=yH w;generalize tg c act (k:Int) o M m=R at*;by_cases O:N.kind=5
    ·have b5:(N.kind==5)=true:=by simp[O]
     rw[OL O]at P;rw[P]at A;have f6:cy prog env 244 [i9 R, .agg [I (y:Int), .seq 1 ((kE c (fc c act (k:Int))).map aa)]] (.own 93 2 ((lN R ((y:Int),kE c (fc c act (k:Int)))).map fi)):=Ek env R ((y:Int),kE c (fc c act (k:Int))) w.1 hz2 ⟨by simp only;omega,by simp only;omega⟩ (by omega);generalize kE c (fc c act (k:Int))=V at*;generalize fc c act (k:Int)=U at*;refine fA ?_;have F:=u4 WH WI WJ L J p1 p2 p3 b5 b d;repeat refine st ?_
     refine lL (f3.lend (cA (fun _=>rfl) _)) ?_;repeat refine PJ f4 f6 ?_
     refine⟨_,dT.frozen 76 10 ⟨2,(lN R ((y:Int),V)).map fi,93,true⟩ rfl (PD 1) (by simp only[go_sem]) (by simp only[go_sem]),m+1,⟨⟨n,T⟩,by simp only[go_sem,C,E,O8],by simp only[go_sem,b,d,O8]⟩,?_,?_,by omega⟩
     ·have F:=jw A b d
      (simp only[go_sem,F])
      try rfl
     have F:=jw WH b d;exact qe
    have b5:(N.kind==5)=false:=by simpa using O
    rw[OK O]at P;rw[P]at A
    have hkn:aw c (k:Int) true≠[]:=by
     have:=(pO h J hmy).2.2.1;rw[hpar]at this;exact this
    have hkf:=d7 h.toRight (k:Int) true;obtain⟨p,a,hp,hlk,X⟩:=Jc (H hkn);rw[hlk]at A;have f6:cy prog env 244 [i9 R, .agg [I (y:Int), .seq 1 [aB a]]] (.own 93 2 ((lN R ((y:Int),[(a:Int)])).map fi)):=Ek env R ((y:Int),[(a:Int)]) w.1 hz2 ⟨by simp only;omega,by simp only;omega⟩ (by omega);generalize aw c (k:Int) true=K at*;refine fA ?_;have F:=u4 WH WI WJ L J p1 p2 p3 b5 b d;repeat refine g8 f5 ?_
    refine aN (D:=Nat) (fun q l=>[(0, .ref 9 [aK c] 0 0),(1, .row 1001 (l 1001)),(9, .loc 9 (l 9) 0 0),(10,i9 R),(12,I k),(14,I y),(15, .loc 15 (l 15) 0 0),(22, .row 1006 (l 1006)),(23,I gone.length),(24,I j),(37, .row 37 (l 37)),(38,I M.length),(39,I m),(61, .row 61 (l 61)),(62,I K.length),(63,I q)]) (fun q _=>[(9,⟨5,[aA c],26,false⟩),(15,⟨2,[[I y,oz a p q]],93,false⟩),(37,⟨1,M.map aB,3,true⟩),(61,⟨1,K.map aB,3,true⟩),(1001,⟨1,act.map aa,3,true⟩),(1006,⟨1,gone.map aa,3,true⟩)]) (fun q t f=>(q<=K.length/\f 15=false)/\(t 1001=l 1001/\t 1006=l 1006)/\f 1001=false/\f 1006=false) (fun q=>K.length-q) 0 ?_ ?_ ?_ ?_
    ·exact⟨⟨O6 _,by simp only[go_sem]⟩,by simp only[go_sem,C,E,O8],by simp only[go_sem,b,d,O8]⟩
    ·(simp only[go_sem,F])
     try rfl
    ·have F:=jw WH b d
     (simp only[go_sem,F])
     try rfl
    try clear b d C E
    rintro q xs fs ⟨⟨hq,e5⟩,⟨C,E⟩,b,d⟩;by_cases r:q<K.length
    ·obtain⟨u,hu⟩:=gE r;have r1:=mc r;have r2:=aD r (by omega);have g0:=bG env act (u:Int) (by omega);rw[X q u hu]at g0;by_cases hqp:q=p
     ·subst hqp;rw[Ou rfl]at g0;obtain rfl:u=a:=by rw[hp]at hu;cases hu;rfl
      have c1:oz u q q=gb:=by unfold oz;rw[OL (OO _)]
      have c2:oz u q (q+1)= .seq 1 [aB u]:=by unfold oz;rw[OK (by omega)]
      refine fA ?_;have F:=y' WH WJ hu r1 r2 c1 e5 b d;repeat refine st ?_
      refine lL (g0.lend rfl) ?_;repeat refine st ?_
      refine⟨_,dT.sees [(71,xs 71+1, .seq 1 [aB u])] (fun z Z=> ?_),q+1,⟨⟨r,?_⟩,?_,?_⟩,?_,?_,by omega⟩
      ·rw[O2.1 Z];refine⟨by simp only[go_sem],⟨1,[aB u],3,true⟩,by simp only[go_sem,aB],PD 0,rfl,rfl⟩
      ·simp only[l5,go_sem,e5,Sd,Tq]
      ·simp only[l5,go_sem,C,E,O8]
      ·simp only[l5,go_sem,b,d,Sd,Tq,O8]
      ·have F:=ai b d;exact qe
      have F:=ld WH WJ c2 b d;exact qe
     rw[Oi hqp]at g0
     have c1:oz a p (q+1)=oz a p q:=by
      unfold oz;by_cases e:q<=p
      ·rw[OL (by omega),OL e]
      rw[OK (by omega),OK e]
     have F:=L7 WH WJ hu r1 r2 e5 b d;repeat refine st ?_
     refine lL (g0.lend rfl) ?_;repeat refine st ?_
     refine⟨q+1,⟨⟨r,by simp only[go_sem,e5]⟩,by simp only[go_sem,C,E,O8],by simp only[go_sem,b,d,O8]⟩,?_,?_,by omega⟩
     ·exact qe
     have F:=ld WH WJ c1 b d;exact qe
    obtain rfl:q=K.length:=by omega
    have r1:=nl K.length
    have c1:oz a p K.length= .seq 1 [aB a]:=by
     unfold oz;rw[OK (by have:=(OG.1 hp).1;omega)]
    have F:=L7 WH WJ r1 c1 p2 e5 b d;repeat refine g8 f6 ?_
    refine⟨_,dT.frozen 76 10 ⟨2,(lN R ((y:Int),[(a:Int)])).map fi,93,true⟩ rfl (PD 1) (by simp only[go_sem]) (by simp only[go_sem]),m+1,⟨⟨n,T⟩,by simp only[go_sem,C,E,O8],by simp only[go_sem,b,d,O8]⟩,?_,?_,by omega⟩
    ·have F:=jw A b d
     (simp only[go_sem,F])
     try rfl
    have F:=jw WH b d;exact qe
   obtain rfl:m=M.length:=by omega
   have p1:=nl M.length;rw[<-B]at w;have F:=mX p1 q2 b d;repeat refine st ?_
   refine⟨j+1,⟨⟨G,w⟩,by simp only[go_sem,C,E,O8],by simp only[go_sem,b,d,O8]⟩,?_,?_,by omega⟩
   ·have F:=jw B b d;exact qe
   have F:=jw WH b d;exact qe
  have b1:(s0.kind==1)=false:=by simpa using W
  rw[b1]at Q;rw[Q,OK P3]at B;rw[<-B]at hO;have F:=u4 WH WI hx q1 q2 q3 Y b1 jF b d;repeat refine g8 f2 ?_
  refine⟨j+1,⟨⟨G,hO⟩,by simp only[go_sem,C,E,O8],by simp only[go_sem,b,d,O8]⟩,?_,?_,by omega⟩
  ·have F:=jw B b d;exact qe
  have F:=jw WH b d;exact qe
 obtain rfl:j=gone.length:=by omega
 have q1:=nl gone.length;have F:=ld q1 b d C E;repeat refine st ?_
 exact rI
def vO(env:b7)(o p:Addr)(z:fk env o p)(c:aq)(h:cD c)(s:h9 c)(act gone:List Int)(D:act.length<=4000)(q:gone.length<=1000000)(mem:List ed)(r:mem.length<=1000000)(C: ∀m∈mem,ek m.2.length 8)(y:F' c act=true)(A:bu c mem=true)(k: ∀x∈gone,x∈act):g6 prog env 205 [1001,1006] (fun _=>false) (fun g=>[aH c, .row 1001 (g 1001), .row 1006 (g 1006),i9 mem]) (fun _=>[(1001,⟨1,act.map aa,3,true⟩),(1006,⟨1,gone.map aa,3,true⟩)]) (fun _=>[(1001,⟨1,act.map aa,3,true⟩),(1006,⟨1,gone.map aa,3,true⟩)]) (fun _=> .tuple [i9 (u5 c act gone mem),gc]):=by
 have f0:=cY env o p z c h s act (by omega);have f2:=qF env o p z c h s mem r C;have f4:=uy env c h s act gone mem D q y k A;unfold vL at f0;unfold LJ at f2;rw[y]at f0;rw[A,OL rfl]at f2;simp only[PW]at f0;have f0:=f0.lend rfl;unfold aH at f0 f2 f4 |-;refine qi func205 call205 ntmps205 results205 ?_;intro e f i;obtain⟨a,b⟩:=Us i;have F:=ai a b;repeat refine st ?_
 refine lL f0 ?_;repeat refine g8 f2 ?_
 refine lq gone.length (by omega) (fun j e=>[(0, .ref 9 [aK c] 0 0),(1, .row 1001 (e 1001)),(2, .row 1006 (e 1006)),(3,i9 mem),(25, .row 1006 (e 1006)),(26,I gone.length),(27,I j)]) (fun _ _=>[(1001,⟨1,act.map aa,3,true⟩),(1006,⟨1,gone.map aa,3,true⟩)]) (fun j n d=>(n 1001=e 1001/\n 1006=e 1006)/\d 1001=false/\d 1006=false) ⟨by simp only[go_sem,O8],by simp only[go_sem,a,b,O8]⟩ ?_ ?_
 ·try clear a b
  rintro j G f l t E ⟨⟨u,v⟩,a,b⟩;obtain⟨x,B⟩:=gE l;have w:=bG env act x (by omega);rw[OQ.2 (k x (OM B))]at w;have F:=ld B t E a b;repeat refine st ?_
  refine lL (w.lend rfl) ?_;repeat refine st ?_
  exact qn (j+1) ⟨l,by simp only[go_sem,u,v,O8],by simp only[go_sem,a,b,O8]⟩
 try clear a b
 rintro G f t ⟨⟨u,v⟩,a,b⟩;have F:=ld t a b u v;repeat refine st ?_
 refine iL [(1001,1001),(1006,1006)] f4 ?_;repeat refine st ?_
 exact rI
end
section
end
section
def EG(env:b7)(d e:Addr)(p:fk env d e)(c:aq)(h:cD c)(b:h9 c)(act:List Int)(j:act.length<=1000000)(k:Nat)(t:Fr)(l:c.trans[k]? =some t)(o:F' c act=true)(f: ¬t.target<0):
 g6 prog env 202 [1001,35] (fun i=>i==35) (fun g=>[aH c, .row 1001 (g 1001),I k]) (fun _=>[(1001,⟨1,act.map aa,3,true⟩)]) (fun _=>[(1001,⟨1,act.map aa,3,true⟩),(35,⟨1,(iS c act t).map aa,3,true⟩)]) (fun g=> .tuple [.row 35 (g 35),gc]):=by
 have f0:=cY env d e p c h b act j;have f1:=o5 env c b k t l;have f2:=nQ env c h.toRight b t (h.src l).1;have f3:=(BW env c h.toRight act j (DA c t.src t.target)).lend (cA (fun _=>rfl) _);unfold vL at f0;rw[o]at f0;simp only[PW]at f0;have f0:=f0.lend rfl;unfold iS;rw[OK f];unfold cN at f1 f2;unfold aH at f0 f1 f2 f3 |-;generalize (Vq c act (DA c t.src t.target)).reverse=R at*;refine qi func202 call202 ntmps202 results202 ?_;intro q n a;have m:=a 1001 (by simp);have F:=ai f m;repeat refine st ?_
 refine lL f0 ?_;repeat refine PJ f1 f2 ?_
 refine lL f3 ?_;repeat refine st ?_
 exact rI
/-! A step in which nothing is done: the chart of awake -/
end
end Go.Proofs.YtfcdkaolcdglmaaGreatDoor
