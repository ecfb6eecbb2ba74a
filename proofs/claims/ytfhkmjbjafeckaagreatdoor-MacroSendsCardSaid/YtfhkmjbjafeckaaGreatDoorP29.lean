/- Remember; what the document remembers. -/
import Derived.Lib.Overlaps
import Derived.Lib.AppendZerosOnto
import Derived.Test.YtfhkmjbjafeckaaGreatDoorP25
set_option maxRecDepth 100000
set_option maxHeartbeats 16000000
set_option linter.unusedSimpArgs false
set_option linter.defProp false
namespace Go.Proofs.YtfhkmjbjafeckaaGreatDoor
open Go.Proofs.Tryz
open Go.RowKit
section
def iw{P:Program}(w:World)(n z A d:TypeId)(p:TypeInfo)(hi:P.info? d=some p)(g o c f:Nat)(a:Addr)(e m:Nat)(b:Array Value)(t:TypeId)(cs:List Value)(k:Nat)(y:P.underlying n=some (.slice d))
 (r:w.heap[g]? =some (.cells b t (0,0)))(s:Nat.min e c=k)(x:cs.length=k*p.size)(i: ∀j v,cs[j]? =some v->w.cell? (a.add j)=some v)(h:o+cs.length<=b.size)(q: ∀v∈cs,v.oneCell'=true):
 (Builtin.copy_ #[n,z] A #[.slice (some ⟨g,o,none⟩) c f, .slice (some a) e m]).run P w= .ok (goInt k) (w.setRow g (b.toList.take o++cs++b.toList.drop (o+cs.length)).toArray):=by
 have u:=run_loadCells_list (P:=P) w a cs i;have l:=Rn P g o t cs 0 b w r (by simpa using h) q;simp only[PY]at l;simp[Builtin.copy_,NL y,Builtin.lenOf,Builtin.firstCells,sizeOf,typeInfo,hi,s, <-x,u,l]
structure TV(P:Program)(f:FuncId)(e:TypeId)(sz:Nat):Prop where
 enter: ∀(args:Array Value)(w:World),(callFunc f args).run P w= .ok (.enter f args) w
 calls: ∀(w:World)(base i n:Nat)(v u:Value)(xs ys:List Value),base<=w.heap.size->w.ownsRow base e sz v n xs->w.ownsRow base e sz u 1 ys->(∀g,v.ownBlock=some g->u.ownBlock≠some g)->(∀x∈xs,x.oneCell'=true)->(∀y∈ys,y.oneCell'=true)->i<=n->n<=4096->
  Calls P f #[v, .int .i64 (i:Int),u] w fun ex w'=> ∃v',ex= .returned v'/\w.grownBy w' v.ownBlock/\(∀g,v'.ownBlock=some g->v.ownBlock=some g\/w.heap.size<=g)/\w'.ownsRow base e sz v' (n+1) (xs.take (i*sz)++ys++xs.drop (i*sz))
def nQ(i:Nat)(y:List AV)(es:List (List AV)):List (List AV):=es.take i++y::es.drop i
def H5(i:Nat)(y:List AV)(es:List (List AV)):(nQ i y es).length=es.length+1:=by
 unfold nQ;rw[My,NN,NJ,Oa];omega
def uq{i:Nat}{y:List AV}{es:List (List AV)}(hi:i<=es.length)(p:Nat):(nQ i y es)[p]? =if p<i then es[p]? else if p=i then some y else es[p-1]? :=by
 have c:(es.take i).length=i:=by rw[NJ];omega
 unfold nQ;by_cases a:p<i
 ·rw[Mw a,Nb (by omega),N8,Mw a]
 rw[Mt a,N3 (by omega),c];by_cases b:p=i
 ·subst b;rw[Mw rfl,QQ];rfl
 rw[Mt b,show p-i=(p-1-i)+1 by omega,Og,OL,show i+(p-1-i)=p-1 by omega]
def LE{i sz n:Nat}{xs b:List Value}(k:xs.length=n*sz)(l:b.length=sz)(hi:i<=n)(p j:Nat)(h:j<sz):
 (xs.take (i*sz)++b++xs.drop (i*sz))[p*sz+j]? =if p<i then xs[p*sz+j]? else if p=i then b[j]? else xs[(p-1)*sz+j]? :=by
 have f:i*sz<=n*sz:=Nk _ hi;have d:(xs.take (i*sz)).length=i*sz:=by rw[NJ];omega
 by_cases a:p<i
 ·have:(p+1)*sz<=i*sz:=Nk _ a;rw[SR]at this;rw[Mw a,Nl,Nb (by omega),N8,Mw (by omega)]
 rw[Mt a];by_cases c:p=i
 ·subst c;rw[Mw rfl,Nl,N3 (by omega),d,Nat.add_sub_cancel_left,Nb (by omega)]
 have e:(i+1)*sz<=p*sz:=Nk _ (by omega);rw[SR]at e;have g:p*sz=(p-1)*sz+sz:=by rw[<-SR];congr 1;omega
 rw[Mt c,N3 (by rw[My];omega),My,d,OL]
 congr 1
 omega
def IM{P:Program}{env:b8}{f:FuncId}{r r2 D N:Nat}{row row2:Row}{rows:Nat->Option Row}{vsv:Nat->Nat}{i:Nat}{y:List AV}(hC:TV P f row.e row.sz)(hr:rows r=some row)(hr2:rows r2=some row2)(hne:r2≠r)(hv:vsv r=D)(hv2:vsv r2=N)(W:row.sz≠0)(hp:row.pure=true)(hp2:row2.pure=true)
 (e2:row2.e=row.e)(z2:row2.sz=row.sz)(y2:row2.es=[y])(hi:i<=row.es.length)(hn:row.es.length<=4096):
 To P env f [.row r D, .lit (.int .i64 (i:Int)), .row r2 N] [r,r2] rows vsv ⟨.row r (D+1),[.renew r { row with es:=nQ i y row.es }]⟩:=by
 refine⟨hC.enter,fun x s a w m vs hx n V hl O=> ?_⟩;obtain⟨M,q2,q3⟩:=V r (by simp);obtain⟨p1,p2,p3⟩:=V r2 (by simp);rw[hr]at M;rw[hv]at q2;rw[hr2]at p1;rw[hv2]at p2
 match vs,hl with
 |[u,iv,u2],_=>
 have hu:u=m.ρ r:=(O 0 u _ rfl rfl).row_.2 q2 row M;have hu2:u2=m.ρ r2:=(O 2 u2 _ rfl rfl).row_.2 p2 row2 p1;have hiv:iv= .int .i64 (i:Int):=(O 1 iv _ rfl rfl).lit_;subst hu hu2 hiv;have k:=(n.rows r row M).cells W;have k2:=(n.rows r2 row2 p1).cells (by rw[z2];exact W);obtain⟨Y,c1,c2,c3⟩:=k.own;obtain⟨ys,d1,d2,d3⟩:=k2.own;rw[y2,e2,z2]at d1;have hyl:ys.length=row.sz:=by have:=d1.1;simpa using this
 refine(hC.calls w x.w.heap.size i row.es.length (m.ρ r) (m.ρ r2) Y ys n.Z3.size c1 d1 (fun g G=>n.inj r r2 row row2 M p1 (Ot hne) g G) c2 d2 hi hn).mono ?_;rintro ex X ⟨J,rfl,G,C,ho⟩
 have hb:Below x.w.heap.size w X:=⟨G.os,G.tape,G.output,G.size,fun q R=>G.block q (Oc R n.Z3.size) fun e=>by
  have:=(bi c1 e.symm).1
  omega⟩
 have T: ∀g,(m.ρ r).ownBlock=some g-> ∀o,¬m.S g o:=k.fresh q3
 have L: ∀g,J.ownBlock=some g-> ∀o,¬m.S g o:=fun g hgv o z=>by
  rcases C g hgv with e|e
  ·exact T g e o z
  have:=n.low g o z;omega
 have d: ∀b o,m.S b o->m.S b o/\k9 w X b o:=fun b o z=>⟨z, .block (G.block b (n.low b o z) fun e=>T b e.symm o z)⟩;have Q:(⟨m.S,mu m.ρ r J⟩:ld).ρ r=J:=aw ..
 have hS2:dT x (s.renew r { row with es:=nQ i y row.es } false) a X ⟨m.S,mu m.ρ r J⟩:=by
  refine n.renew r _ false J m.S hb d (fun b o z=> .inl z) (fun q v U R Z H=>⟨?_,fun e=> ?_,fun _ z=>z⟩) ?_ fun b hf=>⟨G.block b (n.fxlt hf) fun e=>n.Z5 r row M b e.symm hf,fun _ z=>z,fun e=> ?_⟩
  ·exact G.block Z ((n.rows q v R).blk H).2 fun e=>n.inj r q row v M R (Ot U) Z e.symm H
  ·rcases C Z e with e|e
   ·exact n.inj r q row v M R (Ot U) Z e H
   have:=((n.rows q v R).blk H).2;omega
  ·have S:=H5 i y row.es;refine .inl ⟨k.pos,fun p e A=> ?_,⟨Y.take (i*row.sz)++ys++Y.drop (i*row.sz),by rw[Q];show X.ownsRow _ _ _ _ (nQ i y row.es).length _;rw[S];exact ho,?_,?_⟩,fun A=> ?_,fun g B o _=> ?_,fun _ g B o=> ?_⟩
   ·rw[uq hi]at A;split at A
    ·exact k.len _ _ A
    split at A
    ·cases A;have:=k2.len 0 y (by rw[y2];rfl);rw[z2]at this;exact this
    exact k.len _ _ A
   ·intro u hu;rcases NY.1 hu with hu|hu
    ·rcases NY.1 hu with hu|hu
     ·exact c2 u (Ou hu)
     exact d2 u hu
    exact c2 u (P8 hu)
   ·intro p j c t
    have hj:j<row.sz:=by
     unfold bs at t;cases l:(nQ i y row.es)[p]? with
     |none=>rw[l]at t;cases t
     | some e=>
       rw[l]at t;have t:e[j]? =some c:=t;have I:=(Mr.1 t).1;rw[uq hi]at l;split at l
       ·rw[k.len _ _ l]at I;exact I
       split at l
       ·cases l;have:=k2.len 0 y (by rw[y2];rfl);rw[z2]at this;omega
       rw[k.len _ _ l]at I;exact I
    rw[LE c1.1 hyl hi p j hj];unfold bs at t;rw[uq hi]at t
    suffices h: ∃u,(if p<i then Y[p*row.sz+j]? else if p=i then ys[j]? else Y[(p-1)*row.sz+j]?)=some u/\RV m.S X u c by
     obtain⟨u,K,E⟩:=h;exact⟨u,K,by show (if row.pure=true then _ else _);rw[Mw hp];exact E⟩
    by_cases h1:p<i
    ·rw[Mw h1]at t |-;obtain⟨u,K,E⟩:=c3 p j c t;rw[Mw hp]at E;exact⟨u,K,E.mono d⟩
    rw[Mt h1]at t |-;by_cases h2:p=i
    ·rw[Mw h2]at t |-;obtain⟨u,K,E⟩:=d3 0 j c (by unfold bs;rw[y2];exact t);rw[Mw hp2]at E;refine⟨u,by rw[Pi,OM]at K;exact K,E.mono d⟩
    rw[Mt h2]at t |-;obtain⟨u,K,E⟩:=c3 (p-1) j c t;rw[Mw hp]at E;exact⟨u,K,E.mono d⟩
   ·have A:mu s.esc r false r=true:=A;rw[aw]at A;cases A
   ·rw[Q]at B;exact L g B o
   rw[Q]at B;exact L g B o
  rcases C b e with e|e
  ·exact n.Z5 r row M b e hf
  have:=n.fxlt hf;omega
 have h1:J.oneCell'=true:=by
  rcases ho.2 with⟨ee,_⟩|⟨g,cp,cur,ee,_⟩<;>rw[ee]<;>rfl
 refine⟨J,_,rfl,hS2, .row r (D+1) h1 ?_ fun _ row' _=> ?_⟩
 ·show D+1<=mu s.vs r (s.vs r+1) r;rw[aw,q2];exact NC _
 show J=mu m.ρ r J r;rw[aw]
section
variable {P:Program} {env:b8} {s:St}
theorem IK{o:Oper}{f:FuncId}{args:List AV}{a:List No}{n:St}{row row2:Row}{i:Nat}{y:List AV}{l:fy}{K:St->List fy->Prop}(r r2:Nat)(w:bM env s.f o=some (f,args))(u:TV P f row.e row.sz)(j:row.sz≠0)(A:row.pure=true)(e:row2.pure=true)(p:row2.e=row.e)(E:row2.sz=row.sz)(D:row2.es=[y])(d:r2≠r)(hi:i<=row.es.length)(z:row.es.length<=4096)
 (v:Is args [.row r (s.vs r), .lit (.int .i64 (i:Int)), .row r2 (s.vs r2)])(B:Is (s.rows r) (some row))(h:Is (s.rows r2) (some row2))(x:Is (s.esc r) false)(c:Is (s.esc r2) false)(t:Is ((⟨.row r (s.vs r+1),[.renew r { row with es:=nQ i y row.es }]⟩:Out).app o.dst s) n)(m:Is (⟨[r,r2],[r,r2],[r],[]⟩:fy) l)(k:jw P env a n fun C b=>K C (l::b)):jw P env (⟨o, .always⟩::a) s K:=by
 unfold Is at m;subst m
 exact qL w v (IM u B h d rfl rfl j A e p E D hi z) (fun q g=>by
  rcases NV.1 g with rfl|g
  ·exact x
  rw[NO.1 g];exact c) t k
end
end
section
def kh{P:Program}(w:World){ops:Array Oper}{b:List Oper}{o:Oper}{a:Act}{Q:Exit->Act->World->Prop}(c:o.guard=none)(d s:Operand)(t e:TypeId)
 (k:o.op= .call { callee:= .builtin .copy,args:= #[d,s],argTypes:= #[t,e] })(v u:Value)(j:a.eval d=v)(m:a.eval s=u){f:Value}{g:World}
 (l:(Builtin.copy_ #[t,e] o.type #[v,u]).run P w= .ok f g)(h:wpList P ops Q b (a.put o.dst f) g):wpList P ops Q (o::b) a w:=
 wpList_plain c fun K i=>by
  unfold Oper.wp execOp;simp only[k,resolve,invoke,builtin,NZ,Nu,NP,RI,Nh,O5,j,m,l];exact i _ _ h
def nk{P:Program}{ops:Array Oper}{o:Oper}{a:Act}{w:World}{K:Act->World->Prop}{Q:Exit->Act->World->Prop}{E:Prop}
 (j:o.guard=none)(d x:Operand)(c e:TypeId)(b:o.op=Op.call { callee:=Callee.builtin Builtin.copy,args:= #[d,x],argTypes:= #[c,e] })
 (v u:Value)(i:a.eval d=v)(l:a.eval x=u){f:Value}{g:World}(k:(Builtin.copy_ #[c,e] o.type #[v,u]).run P w= .ok f g)(h:K (a.put o.dst f) g):
 if Region.wanted o (yielded ops a.tmps)=true then Oper.wp P o a w K Q else E:=by
 rw[Mw (by simp[Region.wanted,j])];unfold Oper.wp;simp[execOp,b,resolve,invoke,builtin,i,l,k,Result.andThen];exact h
def uc{w:World}{base n sz:Nat}{e:TypeId}{v:Value}{xs:List Value}(h:w.ownsRow base e sz v n xs)(b:0<n):
 ∃g cap a,v= .slice (some ⟨g,0,none⟩) n cap/\base<=g/\w.heap[g]? =some (.cells a e (0,0))/\n<=cap/\cap<=maxLen/\a.size=cap*sz/\a.toList.take (n*sz)=xs:=by
 rcases h.2 with⟨_,h⟩|h
 ·omega
 exact h
def lI{w:World}{g:Nat}{a:Array Value}{e:TypeId}(b:w.heap[g]? =some (.cells a e (0,0)))(k:Nat):w.cell? ⟨g,k,none⟩=a[k]? :=by simp[World.cell?,b]
def sO{w:World}{g:Nat}{a:Array Value}{e:TypeId}(b:w.heap[g]? =some (.cells a e (0,0)))(k:Nat):w.frozen? ⟨g,k,none⟩=false:=by simp[World.frozen?,b]
def E4:ef prog 34=some ⟨.slice 146 2 32 [.int .i64 0, .slice none 0 0],1,[.slice none 0 0]⟩:=by kernel_rfl
def JV(w:World)(base n:Nat)(v u:Value)(xs ys:List Value)(hbw:base<=w.heap.size)(hx:w.ownsRow base 146 2 v n xs)(hy:w.ownsRow base 146 2 u 1 ys)(h1y: ∀y∈ys,y.oneCell'=true)(hn:n<=4096):
 Calls prog 311 #[v, .int .i64 (n:Int),u] w fun ex w'=> ∃v',ex= .returned v'/\w.grownBy w' v.ownBlock/\(∀g,v'.ownBlock=some g->v.ownBlock=some g\/w.heap.size<=g)/\w'.ownsRow base 146 2 v' (n+1) (xs++ys):=by
 obtain⟨hu,ie,ze,i1,i2,i3,i4,i5⟩:=bI E4
 have hzc:ze.cells.size=2:=by
  have:=N6 List.length i5;simpa using this
 obtain⟨g2,c2,cur2,rfl,_,hg2,_⟩:=uc hy (by omega);obtain⟨v',w',hrun,ho,hgr⟩:=fH (P:=prog) w base 34 34 146 ie ze 2 32 hu i1 i2 i3 i4 hzc (by decide) v n xs hx (some ⟨g2,0,none⟩) 1 c2 ys hy.1 (fun _=>⟨_,rfl,fun j y hj=>hy.cells rfl j y hj⟩) h1y (by unfold maxLen;omega) (by omega) hbw
 have fin: ∃v'',Ending.returned v'= .returned v''/\w.grownBy w' v.ownBlock/\(∀g,v''.ownBlock=some g->v.ownBlock=some g\/w.heap.size<=g)/\w'.ownsRow base 146 2 v'' (n+1) (xs++ys):=by
  refine⟨v',rfl,?_,fun g hg=> ?_,ho⟩
  ·rcases hgr with⟨_,h⟩|⟨_,h⟩
   ·exact h
   exact⟨h.os,h.tape,h.output,h.size,fun k hk _=>h.block k hk (by simp)⟩
  rcases hgr with⟨e,_⟩|⟨e,_⟩
  ·rw[e]at hg;exact .inl hg
  rw[e]at hg;cases hg;exact .inr (NC _)
 try clear hgr ho i1 i2 i3 i4 i5 hzc
 rcases hx.2 with⟨rfl,rfl⟩|⟨g,cap,cur,rfl,_,hg,hnc,hcm,_,_⟩
 ·clear hx hy
  go_enter func311,ntmps311
  go_wp2_with (at_builtin;refine RF _ rfl _ _ _ _ rfl _ _ rfl rfl _ _ hrun ?_)
  all_goals (go_ret;exact fin)
 clear hx hy;unfold maxLen at hcm
 go_enter func311,ntmps311
 go_wp2_with (at_builtin;refine RF _ rfl _ _ _ _ rfl _ _ rfl rfl _ _ hrun ?_)
 all_goals (go_ret;exact fin)
def gI(a:Array Value)(i n:Nat):List Value:=(a.toList.drop (i*2)).take ((n-i)*2)
def cq(l:List Value)(o:Nat)(cs:List Value):List Value:=l.take o++cs++l.drop (o+cs.length)
def og{a:Array Value}{i n cap:Nat}(c:a.size=cap*2)(b:i<=n)(d:n<=cap):(gI a i n).length=(n-i)*2:=by
 unfold gI;rw[NJ,Oa,OK,c];omega
def sf{a:Array Value}{i n j:Nat}{v:Value}(h:(gI a i n)[j]? =some v):a[i*2+j]? =some v:=by
 unfold gI at h;rw[N8]at h;split at h
 ·rw[OL]at h;simpa using h
 cases h
def eI{l:List Value}{o:Nat}{cs:List Value}(h:o+cs.length<=l.length):(cq l o cs).length=l.length:=by
 unfold cq;simp only[My,NJ,Oa];omega
def oA{w b:World}{g:Nat}{R:Array Value}(h:w.grownBy b (some g)):w.grownBy (b.setRow g R) (some g):=
 ⟨h.os,h.tape,h.output,by simp[World.setRow];exact h.size,fun k c a=>by rw[PI b g k R (fun e=>a (by rw[e]))];exact h.block k c a⟩
def nS{w a:World}{r:Option Nat}(h:w.grownBy a r):w.grownBy a.drew r:=⟨h.os,h.tape,h.output,h.size,h.block⟩
def H3(w:World)(g cap i n g2 c2:Nat)(cur cur2:Array Value)(hg:w.heap[g]? =some (.cells cur 146 (0,0)))(hg2:w.heap[g2]? =some (.cells cur2 146 (0,0)))(hne:g2≠g)(hi:i<n)(hroom:n+1<=cap)(hcap:cap<=9223372036854775807)(hsz:cur.size=cap*2)(hsz2:cur2.size=c2*2)(hc2:1<=c2)
 (h1c: ∀u∈gI cur i n,u.oneCell'=true)(h1y: ∀u∈gI cur2 0 1,u.oneCell'=true)(hn:n<=4096):
 Calls prog 311 #[.slice (some ⟨g,0,none⟩) n cap, .int .i64 (i:Int), .slice (some ⟨g2,0,none⟩) 1 c2] w fun e w'=>
  e= .returned (.slice (some ⟨g,0,none⟩) (n+1) cap)/\w.grownBy w' (some g)/\w'.heap[g]? =some (.cells (cq (cq cur.toList ((i+1)*2) (gI cur i n)) (i*2) (gI cur2 0 1)).toArray 146 (0,0)):=by
 obtain⟨hu,ie,ze,i1,i2,i3,i4,i5⟩:=bI E4;have hol:=og hsz (Rz hi) (by omega:n<=cap);have hyl:=og hsz2 (NG 1) hc2;have hl1:(cq cur.toList ((i+1)*2) (gI cur i n)).length=cap*2:=by rw[eI (by rw[hol,OK,hsz];omega),OK,hsz]
 have hov: ∀(W:World)(lb cb:Nat),W.heap=w.heap->(callFunc 323 #[.slice (some ⟨g2,0,none⟩) 1 c2, .slice (some ⟨g,(i+1)*2,none⟩) lb cb]).run prog W= .ok (.value (.bool false)) W:=fun W lb cb hW=>by
  have k1:W.heap[g]? =some (.cells cur 146 (0,0)):=by rw[hW];exact hg
  have k2:W.heap[g2]? =some (.cells cur2 146 (0,0)):=by rw[hW];exact hg2
  rw[OC func323 (by kernel_rfl) (by kernel_rfl) (by kernel_rfl) (e:=Extern.SlicesOverlaps.overlaps #[34,34] #[4]) (by kernel_rfl),
   Lib.run_overlaps_apart W 34 4 146 hu 2 (fun w0=>by simp[sizeOf,typeInfo,i1,i3]) ⟨g2,0,none⟩ ⟨g,(i+1)*2,none⟩ 1 c2 lb cb hne 146 146 cur2.size cur.size (by simp[World.shape?,k2]) (by simp[World.shape?,k1]) (by omega) (sO k2 _) (sO k2 _)]
  rfl
 have hcp1: ∀(W:World),W.heap=w.heap-> ∀(ty:TypeId)(dc sc:Nat),(Builtin.copy_ #[34,34] ty #[.slice (some ⟨g,(i+1)*2,none⟩) (n-i) dc, .slice (some ⟨g,i*2,none⟩) (n+1-i) sc]).run prog W= .ok (goInt ((n-i:Nat):Int)) (W.setRow g (cq cur.toList ((i+1)*2) (gI cur i n)).toArray):=fun W hW ty dc sc=>by
  have k1:W.heap[g]? =some (.cells cur 146 (0,0)):=by rw[hW];exact hg
  exact iw W _ _ ty 146 ie i1 g ((i+1)*2) (n-i) dc ⟨g,i*2,none⟩ (n+1-i) sc cur 146 (gI cur i n) (n-i) hu k1 (by simp only[SN];split<;>omega) (by rw[hol,i3])
   (fun j v hj=>by rw[Ra,lI k1];exact sf hj) (by rw[hol,hsz];omega) h1c
 obtain⟨R1,hR1⟩: ∃R1,R1=cq cur.toList ((i+1)*2) (gI cur i n):=⟨_,rfl⟩;rw[<-hR1]at hcp1 hl1 |-
 have hcp2: ∀(W:World),W.heap=(w.setRow g R1.toArray).heap-> ∀(ty:TypeId)(dc:Nat),(Builtin.copy_ #[34,34] ty #[.slice (some ⟨g,i*2,none⟩) (n+1-i) dc, .slice (some ⟨g2,0,none⟩) 1 c2]).run prog W= .ok (goInt 1) (W.setRow g (cq R1 (i*2) (gI cur2 0 1)).toArray):=fun W hW ty dc=>by
  have k1:W.heap[g]? =some (.cells R1.toArray 146 (0,0)):=by rw[hW];exact QO w g cur _ _ _ hg
  have k2:W.heap[g2]? =some (.cells cur2 146 (0,0)):=by rw[hW,PI w g g2 _ hne];exact hg2
  exact iw W _ _ ty 146 ie i1 g (i*2) (n+1-i) dc ⟨g2,0,none⟩ 1 c2 R1.toArray 146 (gI cur2 0 1) 1 hu k1 (by simp only[SN];split<;>omega) (by rw[hyl,i3])
   (fun j v hj=>by rw[Ra,lI k2];exact sf hj) (by rw[hyl];simp only[PD,hl1];omega) h1y
 have fin: ∀(W:World),W=((w.drew.setRow g R1.toArray).setRow g (cq R1 (i*2) (gI cur2 0 1)).toArray)->w.grownBy W (some g)/\W.heap[g]? =some (.cells (cq R1 (i*2) (gI cur2 0 1)).toArray 146 (0,0)):=fun W hW=>by
  rw[hW];exact⟨oA (oA (nS (World.grownBy.refl w _))),QO _ g _ _ _ _ (QO w.drew g cur _ _ _ hg)⟩
 obtain⟨R2,hR2⟩: ∃R2,R2=(cq R1 (i*2) (gI cur2 0 1)).toArray:=⟨_,rfl⟩;rw[<-hR2]at hcp2 fin |-;obtain⟨A1,hA1⟩: ∃A1,A1=R1.toArray:=⟨_,rfl⟩;rw[<-hA1]at hcp1 hcp2 fin;have hw1:IntKind.i64.wrap ((i:Int)+1)=(i:Int)+1:=by rw[Qb];omega
 have hw2:IntKind.i64.wrap ((n:Int)+1)=(n:Int)+1:=by rw[Qb];omega
 have hz2: ¬((i:Int)=(n:Int)):=by omega
 have hb1:(0:Int)<=(i:Int)+1:=by omega
 have hin:i<=n:=by omega
 have htn:((i:Int)+1).toNat=i+1:=by omega
 have hb2: ¬(cap=i+1):=by omega
 have hb4: ¬(cap=i):=by omega
 have hb5: ¬((cap:Int)< (n:Int)+1):=by omega
 have hb3:(i:Int)<=(n:Int)+1:=by omega
 try clear hol hyl hl1 hsz hsz2 h1c h1y hR1 hR2 hA1 i1 i2 i3 i4 i5
 go_enter func311,ntmps311
 go_wp2_with (simp only[hov _ _ _ rfl])
 go_region_law (refine nk rfl _ _ 34 34 rfl _ _ (by simp[Act.eval,Act.put]) (by simp[Act.eval,Act.put]) (hcp1 w.drew rfl 3 (cap-(i+1)) (cap-i)) ?_)
 go_wp2_with (refine kh _ rfl _ _ 34 34 rfl _ _ rfl rfl (hcp2 (w.drew.setRow g A1) rfl _ _) ?_)
 go_ret
 exact⟨rfl,fin _ rfl⟩
def H4(w:World)(g cap i n g2 c2:Nat)(cur cur2:Array Value)(hg:w.heap[g]? =some (.cells cur 146 (0,0)))(hg2:w.heap[g2]? =some (.cells cur2 146 (0,0)))(hi:i<n)(hnc:n<=cap)(hroom:cap<n+1)(hsz:cur.size=cap*2)(hsz2:cur2.size=c2*2)(hc2:1<=c2)
 (h1c: ∀u∈gI cur i n,u.oneCell'=true)(h1y: ∀u∈gI cur2 0 1,u.oneCell'=true)(hn:n<=4096):
 Calls prog 311 #[.slice (some ⟨g,0,none⟩) n cap, .int .i64 (i:Int), .slice (some ⟨g2,0,none⟩) 1 c2] w fun e w'=> ∃(G:Nat) (Z:List Value),
  e= .returned (.slice (some ⟨w.heap.size,0,none⟩) (n+1) G)/\w.grownBy w' none/\n+1<=G/\G<=maxLen/\Z.length=(G-i)*2/\w'.heap[w.heap.size]? =some (.cells (cq (cq (cur.toList.take (i*2)++Z) (i*2) (gI cur2 0 1)) ((i+1)*2) (gI cur i n)).toArray 146 (0,0)):=by
 obtain⟨hu,ie,ze,i1,i2,i3,i4,i5⟩:=bI E4
 have hzc:ze.cells.size=2:=by
  have:=N6 List.length i5;simpa using this
 have hol:=og hsz (Rz hi) hnc;have hyl:=og hsz2 (NG 1) hc2;have hgw:g<w.heap.size:=(N2.1 hg).1;have hgw2:g2<w.heap.size:=(N2.1 hg2).1;have hkk:(n:Int)+1-(i:Int)=((n+1-i:Nat):Int):=by omega
 have hik:i+(n+1-i)=n+1:=by omega
 have hold:(Builtin.firstCells ie.size i (.slice (some ⟨g,0,none⟩) i cap)).run prog w.drew= .ok (cur.toList.take (i*2)).toArray w.drew:=by
  rw[i3];refine run_firstCells_some w.drew 2 i ⟨g,0,none⟩ i cap (cur.toList.take (i*2)) (by rw[NJ,OK];omega) fun j v hj=> ?_;rw[Ra];show w.cell? _=_;rw[lI hg];rw[N8]at hj;split at hj
  ·simpa using hj
  cases hj
 have hui:prog.underlying 3=some (.int .i64):=Tryz.underlying3
 have hrz: ∀ty,(Builtin.append_ #[34,3] ty #[.slice (some ⟨g,0,none⟩) i cap, .int .i64 ((n:Int)+1-(i:Int))]).run prog w= .ok (.slice (some ⟨w.heap.size,0,none⟩) (n+1) (grownCap w (n+1) cap 146)) (w.drew.alloc (.cells ((cur.toList.take (i*2)).toArray++Builtin.zeroCells ze.cells (n+1-i)++Builtin.zeroCells ze.cells (grownCap w (n+1) cap 146-(n+1))) 146)):=fun ty=>by
  have h:=Lib.run_append_grow_zeros w 34 3 ty 146 ie ze .i64 .i64 hu hui i1 i2 (some ⟨g,0,none⟩) i cap (cur.toList.take (i*2)) hold (n+1-i) (by omega) (by omega) (by omega) (by omega) (by rw[i4];omega) (by rw[i4,hik];exact SF hroom (by omega));rw[hik]at h;rw[hkk];exact h
 obtain⟨G,hG⟩: ∃G,G=grownCap w (n+1) cap 146:=⟨_,rfl⟩;rw[<-hG]at hrz;have hGn:n+1<=G:=by rw[hG];exact SC w _ _ _
 have hGm:G<=maxLen:=by rw[hG];exact Re w _ _ _ (by unfold maxLen;omega)
 obtain⟨Z,hZ⟩: ∃Z:List Value,Z=(Builtin.zeroCells ze.cells (n+1-i)).toList++(Builtin.zeroCells ze.cells (G-(n+1))).toList:=⟨_,rfl⟩
 have hZl:Z.length=(G-i)*2:=by
  rw[hZ,My,OK,OK,Rf,Rf,hzc];omega
 obtain⟨R0,hR0⟩: ∃R0:List Value,R0=cur.toList.take (i*2)++Z:=⟨_,rfl⟩
 have hr0:(cur.toList.take (i*2)).toArray++Builtin.zeroCells ze.cells (n+1-i)++Builtin.zeroCells ze.cells (G-(n+1))=R0.toArray:=by
  rw[hR0,hZ];apply Array.ext';simp
 have hrl:R0.length=G*2:=by
  rw[hR0,My,hZl,NJ,OK,hsz];omega
 rw[hr0]at hrz;obtain⟨W1,hW1⟩: ∃W1,W1=w.drew.alloc (.cells R0.toArray 146):=⟨_,rfl⟩;rw[<-hW1]at hrz;have hn1:W1.heap[w.heap.size]? =some (.cells R0.toArray 146 (0,0)):=by rw[hW1];exact RZ w.drew _
 have hn2:W1.heap[g]? =some (.cells cur 146 (0,0)):=by rw[hW1,Oo _ _ _ (by exact hgw)];exact hg
 have hn3:W1.heap[g2]? =some (.cells cur2 146 (0,0)):=by rw[hW1,Oo _ _ _ (by exact hgw2)];exact hg2
 have hgr1:w.grownBy W1 none:=by rw[hW1];exact⟨rfl,rfl,rfl,by simp,fun k hk _=>by rw[Oo _ _ _ (by exact hk)];rfl⟩
 obtain⟨A2,hA2⟩: ∃A2,A2=cq R0 (i*2) (gI cur2 0 1):=⟨_,rfl⟩;have hl2:A2.length=G*2:=by rw[hA2,eI (by rw[hyl,hrl];omega),hrl]
 have hcpA: ∀(W:World),W.heap=W1.heap-> ∀(ty:TypeId)(dc:Nat),(Builtin.copy_ #[34,34] ty #[.slice (some ⟨w.heap.size,i*2,none⟩) (n+1-i) dc, .slice (some ⟨g2,0,none⟩) 1 c2]).run prog W= .ok (goInt 1) (W.setRow w.heap.size A2.toArray):=fun W hW ty dc=>by
  have k1:W.heap[w.heap.size]? =some (.cells R0.toArray 146 (0,0)):=by rw[hW];exact hn1
  have k2:W.heap[g2]? =some (.cells cur2 146 (0,0)):=by rw[hW];exact hn3
  rw[hA2]
  exact iw W _ _ ty 146 ie i1 w.heap.size (i*2) (n+1-i) dc ⟨g2,0,none⟩ 1 c2 R0.toArray 146 (gI cur2 0 1) 1 hu k1 (by simp only[SN];split<;>omega) (by rw[hyl,i3])
   (fun j v hj=>by rw[Ra,lI k2];exact sf hj) (by rw[hyl];simp only[PD,hrl];omega) h1y
 obtain⟨A3,hA3⟩: ∃A3,A3=cq A2 ((i+1)*2) (gI cur i n):=⟨_,rfl⟩
 have hcpB: ∀(W:World),W.heap=(W1.setRow w.heap.size A2.toArray).heap-> ∀(ty:TypeId)(dc sc:Nat),(Builtin.copy_ #[34,34] ty #[.slice (some ⟨w.heap.size,(i+1)*2,none⟩) (n-i) dc, .slice (some ⟨g,i*2,none⟩) (n-i) sc]).run prog W= .ok (goInt ((n-i:Nat):Int)) (W.setRow w.heap.size A3.toArray):=fun W hW ty dc sc=>by
  have k1:W.heap[w.heap.size]? =some (.cells A2.toArray 146 (0,0)):=by rw[hW];exact QO W1 _ _ _ _ _ hn1
  have k2:W.heap[g]? =some (.cells cur 146 (0,0)):=by rw[hW,PI W1 w.heap.size g _ (Qv hgw)];exact hn2
  rw[hA3]
  exact iw W _ _ ty 146 ie i1 w.heap.size ((i+1)*2) (n-i) dc ⟨g,i*2,none⟩ (n-i) sc A2.toArray 146 (gI cur i n) (n-i) hu k1 (by simp only[SN];split<;>omega) (by rw[hol,i3])
   (fun j v hj=>by rw[Ra,lI k2];exact sf hj) (by rw[hol];simp only[PD,hl2];omega) h1c
 have fin: ∀(W:World),w.grownBy W none->W.heap[w.heap.size]? =some (.cells A3.toArray 146 (0,0))-> ∃(G':Nat) (Z':List Value),(Ending.returned (.slice (some ⟨w.heap.size,0,none⟩) (n+1) G):Ending)= .returned (.slice (some ⟨w.heap.size,0,none⟩) (n+1) G')/\w.grownBy W none/\n+1<=G'/\G'<=maxLen/\Z'.length=(G'-i)*2/\W.heap[w.heap.size]? =some (.cells (cq (cq (cur.toList.take (i*2)++Z') (i*2) (gI cur2 0 1)) ((i+1)*2) (gI cur i n)).toArray 146 (0,0)):=fun W h1 h2=>
  ⟨G,Z,rfl,h1,hGn,hGm,hZl,by rw[h2,hA3,hA2,hR0]⟩
 have fin2: ∀(W:World),w.grownBy W none->W.heap[w.heap.size]? =some (.cells A2.toArray 146 (0,0))->w.grownBy (W.setRow w.heap.size A3.toArray) none/\(W.setRow w.heap.size A3.toArray).heap[w.heap.size]? =some (.cells A3.toArray 146 (0,0)):=fun W h1 h2=>
  ⟨⟨h1.os,h1.tape,h1.output,by simp[World.setRow];exact h1.size,fun k hk hne=>by rw[PI W _ k _ (Qv hk)];exact h1.block k hk hne⟩,QO W _ _ _ _ _ h2⟩
 have hgrA:w.grownBy (W1.setRow w.heap.size A2.toArray) none:=⟨hgr1.os,hgr1.tape,hgr1.output,by simp[World.setRow];exact hgr1.size,fun k hk hne=>by rw[PI W1 _ k _ (Qv hk)];exact hgr1.block k hk hne⟩;have hnA:(W1.setRow w.heap.size A2.toArray).heap[w.heap.size]? =some (.cells A2.toArray 146 (0,0)):=QO W1 _ _ _ _ _ hn1;have hw1:IntKind.i64.wrap ((i:Int)+1)=(i:Int)+1:=by rw[Qb];omega
 have hw2:IntKind.i64.wrap ((n:Int)+1)=(n:Int)+1:=by rw[Qb];omega
 have hw3:IntKind.i64.wrap ((n:Int)+1-(i:Int))=(n:Int)+1-(i:Int):=by rw[Qb];omega
 have hz2: ¬((i:Int)=(n:Int)):=by omega
 have hz3:(cap:Int)< (n:Int)+1:=by omega
 have hb1:(0:Int)<=(i:Int)+1:=by omega
 have hin:i<=n:=by omega
 have htn:((i:Int)+1).toNat=i+1:=by omega
 have hGi: ¬(G=i):=by omega
 have hGim: ¬(G=i+1):=by omega
 have hci: ¬(cap=i):=by omega
 have hb3:(i:Int)<=(n:Int):=by omega
 obtain⟨B2,hB2⟩: ∃B2,B2=A2.toArray:=⟨_,rfl⟩;obtain⟨B3,hB3⟩: ∃B3,B3=A3.toArray:=⟨_,rfl⟩;obtain⟨N0,hN0⟩: ∃N0,N0=w.heap.size:=⟨_,rfl⟩;rw[<-hB2]at hcpA hcpB hgrA hnA fin2;rw[<-hB3]at hcpB fin fin2;rw[<-hN0]at hrz hcpA hcpB fin fin2 hgrA hnA |-;try clear hkk hik hold hG hrl hr0 hR0 hW1 hn1 hn2 hn3 hgr1 hA2 hA3 hl2 hB2 hB3 i1 i2 i3 i4 i5 hol hyl h1c h1y hsz hsz2 hZ hZl hzc hu hui hN0
 go_enter func311,ntmps311
 go_wp2_with (first
  |(at_builtin;refine RF _ rfl _ _ _ _ rfl _ _ rfl rfl _ _ (hrz _) ?_)
  |(refine kh _ rfl _ _ 34 34 rfl _ _ rfl rfl (hcpA W1 rfl _ _) ?_))
 go_region_law (refine nk rfl _ _ 34 34 rfl _ _ (by simp[Act.eval,Act.put]) (by simp[Act.eval,Act.put]) (hcpB (W1.setRow N0 B2).drew rfl 3 (G-(i+1)) (cap-i)) ?_)
 go_wp2
 go_ret
 exact fin _ (fin2 _ (nS hgrA) hnA).1 (fin2 _ (nS hgrA) hnA).2
end
section
def JN(P Y Z X:List Value):cq (cq (P++Z) P.length Y) (P.length+Y.length) X=P++Y++X++(P++Y++Z.drop Y.length).drop (P.length+Y.length+X.length):=by
 have a:cq (P++Z) P.length Y=P++Y++Z.drop Y.length:=by
  unfold cq;rw[Pr,List.drop_append,OG (by omega),Nat.add_sub_cancel_left,PX];rfl
 rw[a];unfold cq;rw[show (P++Y++Z.drop Y.length).take (P.length+Y.length)=P++Y from Pr (by rw[My])]
def JO(P Q S X Y:List Value)(h:Q.length=Y.length):cq (cq (P++Q++S) (P.length+Y.length) X) P.length Y=P++Y++X++(P++Q++S).drop (P.length+Y.length+X.length):=by
 have a:cq (P++Q++S) (P.length+Y.length) X=P++Q++X++(P++Q++S).drop (P.length+Y.length+X.length):=by
  unfold cq;rw[show (P++Q++S).take (P.length+Y.length)=P++Q from Pr (by rw[My,h])]
 rw[a];generalize (P++Q++S).drop (P.length+Y.length+X.length)=T;unfold cq;rw[show (P++Q++X++T).take P.length=P by rw[Nl,Nl];exact Pr rfl,show (P++Q++X++T).drop (P.length+Y.length)=X++T by rw[Nl];exact List.drop_left' (by rw[My,h])];simp only[Nl]
def LK(l:List Value)(a b:Nat):l=l.take a++(l.drop a).take b++l.drop (a+b):=by
 rw[Nl, <-Qz,PU,PU]
def Mn:TV prog 311 146 2:=by
 refine⟨Rb func311 (by kernel_rfl) rfl,fun w A i n v u l t E N V hd P D hi S=> ?_⟩;by_cases he:i=n
 ·subst he;have hxl:=N.1;rw[Nq (by omega),OG (by omega),OP];exact JV w A i v u l t E N V D S
 obtain⟨g,m,a,rfl,R,hg,T,I,b,L⟩:=uc N (by omega);obtain⟨O,W,d,rfl,_,J,H,_,q,M⟩:=uc V (by omega);have U:O≠g:=fun e=>hd g rfl (by rw[e];rfl);have z:gI d 0 1=t:=by unfold gI;rw[<-M];rfl
 have y:gI a i n=l.drop (i*2):=by
  unfold gI;rw[<-L,List.drop_take]
  congr 1
  omega
 have X:l.take (i*2)=a.toList.take (i*2):=by
  rw[<-L,Ri,P4 (by omega)]
 have s:(l.take (i*2)).length=i*2:=by rw[NJ,N.1];omega
 have c:t.length=2:=V.1;have o:(l.drop (i*2)).length=(n-i)*2:=by rw[Oa,N.1];omega
 have B: ∀x∈gI a i n,x.oneCell'=true:=fun x j=>by rw[y]at j;exact P x (P8 j)
 have C: ∀x∈gI d 0 1,x.oneCell'=true:=fun x j=>by rw[z]at j;exact D x j
 have f:(l.take (i*2)++t++l.drop (i*2)).length=(n+1)*2:=by
  rw[My,My,s,c,o];omega
 by_cases h:n+1<=m
 ·refine(H3 w g m i n O W a d hg J U (by omega) h (by unfold maxLen at I;omega) b q H B C S).mono ?_;rintro ex w' ⟨rfl,r,Q⟩;refine⟨_,rfl,r,fun k K=> .inl K,f, .inr ⟨g,m,_,rfl,R,Q,h,I,?_,?_⟩⟩
  ·simp only[PD];rw[eI,eI,OK,b]
   ·rw[y,o,OK,b];omega
   rw[eI,z,c,OK,b]
   ·omega
   rw[y,o,OK,b];omega
  rw[y,z];have Y:=LK a.toList (i*2) 2;rw[<-X]at Y;have hQ:((a.toList.drop (i*2)).take 2).length=t.length:=by rw[NJ,Oa,OK,b,c];omega
  have:=JO (l.take (i*2)) ((a.toList.drop (i*2)).take 2) (a.toList.drop (i*2+2)) (l.drop (i*2)) t hQ;rw[<-Y,s,c]at this;rw[show (i+1)*2=i*2+2 by omega];show (List.take _ (cq _ _ _))=_;rw[this];exact Pr f
 refine(H4 w g m i n O W a d hg J (by omega) T (by omega) b q H B C S).mono ?_;rintro ex w' ⟨G,Z,rfl,r,Q,h3,h4,h5⟩;refine⟨_,rfl,⟨r.os,r.tape,r.output,r.size,fun k K _=>r.block k K (by simp)⟩,fun k K=> .inr (by cases K;exact NC _),f, .inr ⟨w.heap.size,G,_,rfl,E,h5,Q,h3,?_,?_⟩⟩
 ·simp only[PD];have p:(a.toList.take (i*2)++Z).length=G*2:=by rw[My,h4,NJ,OK,b];omega
  rw[eI,eI,p]
  ·rw[z,c,p];omega
  rw[eI,y,o,p]
  ·omega
  rw[z,c,p];omega
 rw[y,z, <-X];have:=JN (l.take (i*2)) t Z (l.drop (i*2));rw[s,c]at this;rw[show (i+1)*2=i*2+2 by omega];show (List.take _ (cq _ _ _))=_;rw[this];exact Pr f
end
section
def EL(env:b8)(es:List (List AV))(c:es.length<=4096):b7 prog env 310 [.seq 2 es] (.own 146 2 es):=by
 cases es with
 | nil=>
   refine b7.empty fun A a=> ?_;cases A with
   | none=>
     refine qw func310 call310 ntmps310 results310 ?_;repeat refine m9 ?_
     (refine aM ?_;refine⟨_,(by show (aj _ _ _).run _=some _;simp only[go_sem];rfl),?_⟩)
     exact gA.own_nil _ _ (by decide)
   | some A=>
     refine qf func310 call310 ntmps310 results310 ?_;repeat refine m9 ?_
     exact oj
 | cons d l=>
   have b:cU ((l.length+1)) 32:=aC (by simpa using c) (by omega);refine qf func310 call310 ntmps310 results310 ?_;have F:=b;exact ek
def CX(env:b8)(x:ds)(h:Int)(b:0<=x.1/\x.1<=1000000)(a:0<=h/\h<=1000000):b7 prog env 309 [.agg (fe x),I h] (I (x.1-h)):=by
 have q:IntKind.i64.wrap (x.1-h)=x.1-h:=Pu _ (by omega);unfold fe;refine qf func309 call309 ntmps309 results309 ?_;have F:=q;exact ek
def y9(env:b8)(l:List ds)(x:Int)(P:Sj l)(L: ∀m∈l,0<=m.1/\m.1<=1000000)(H:0<=x/\x<=1000000)(Q:l.length<=1000000):b7 prog env 308 [fk l,I x, .lit (.func (.func 309) #[] #[])] (.tuple [I (By l x),B (Tj l x)]):=by
 have o:=ym x l;have O:=fun {j:Nat}{y:ds}(a:l[j]? =some y)=>FF (h:=x) P a;have c:Tj l x=match l[By l x]? with|some y=>y.1==x|none=>false:=rfl
 generalize Tj l x=b at*;generalize By l x=p at*;refine qf func308 call308 ntmps308 results308 ?_;repeat refine m9 ?_
 refine T1 (D:=Nat×Nat) (fun d _=>[(0,fk l),(1,I x),(2, .lit (.func (.func 309) #[] #[])),(8,I l.length),(9,I d.1),(10,I d.2)]) (fun _ _=>[]) (fun d _ _=>d.1<=p/\p<=d.2/\d.2<=l.length) (fun d=>d.2-d.1) (0,l.length) ⟨NG _,o,NC _⟩ ?_;rintro⟨i,j⟩ R M ⟨z,A,C⟩;simp only at z A C;by_cases r:i<j
 ·have f:=it r;have K:(i+j)/2<l.length:=by omega
  obtain⟨y,a⟩: ∃y,l[(i+j)/2]? =some y:=⟨l[(i+j)/2],Mq K⟩;have g:=O a;have f1:=CX env y x (L y (Mv a)) H;have e:IntKind.i64.wrap ((i:Int)+(j:Int))=((i+j:Nat):Int):=by rw[aW (by omega) (by omega)];omega
  have t:IntKind.u64.wrap ((i+j:Nat):Int)=((i+j:Nat):Int):=IntWalk.u64_in _ (by omega)
  have u:IntKind.i64.wrap (((i+j:Nat):Int).fdiv (2^min 1 64))=(((i+j)/2:Nat):Int):=by
   rw[show ((i+j:Nat):Int).fdiv (2^min 1 64)=(((i+j)/2:Nat):Int) from(SI (i+j) 2).symm,aW (by omega) (by omega)]
  have v:(((i+j)/2:Nat):Int)< (l.length:Int):=by omega
  have w:=aD (k:=(i+j)/2) (n:=l.length) K (by omega);generalize N:(i+j)/2=s at*;unfold fe at f1;by_cases E:y.1<x
  ·have q:y.1-x<0:=by omega
   have:=g.2 E;have F:=qr UH f e t u v w a q;repeat refine st ?_
   refine oC (kO rfl (by simp only[go_sem,F];exact iR)) (f1) (by simp only[go_sem,F];exact iR) (by simp only[go_sem,F];exact⟨rfl,rfl⟩) ?_;repeat refine st ?_
   refine⟨(s+1,j),⟨?_,?_,?_⟩,?_,?_,?_⟩
   ·simp only;omega
   ·exact A
   ·exact C
   ·exact qe
   ·exact qe
   simp only;omega
  have q: ¬y.1-x<0:=by omega
  have: ¬s<p:=fun h=>E (g.1 h);have F:=qr UH f e t u v w a q;repeat refine st ?_
  refine oC (kO rfl (by simp only[go_sem,F];exact iR)) (f1) (by simp only[go_sem,F];exact iR) (by simp only[go_sem,F];exact⟨rfl,rfl⟩) ?_;repeat refine st ?_
  refine⟨(i,s),⟨?_,?_,?_⟩,?_,?_,?_⟩
  ·exact z
  ·simp only;omega
  ·simp only;omega
  ·exact qe
  ·exact qe
  simp only;omega
 obtain rfl:i=j:=by omega
 obtain rfl:i=p:=by omega
 have f:=nl i;by_cases J:i<l.length
 ·have e:=it J;obtain⟨y,a⟩:=gE J;have f1:=CX env y x (L y (Mv a)) H;rw[a]at c;have c:b=(y.1==x):=c;unfold fe at f1;by_cases G:y.1=x
  ·have q:(y.1-x==0)=true:=by simp;omega
   rw[c,show (y.1==x)=true by simpa using G];have F:=g9 UH f e a q;repeat refine st ?_
   refine oC (kO rfl (by simp only[go_sem,F];exact iR)) (f1) (by simp only[go_sem,F];exact iR) (by simp only[go_sem,F];exact⟨rfl,rfl⟩) ?_;exact ek
  have q:(y.1-x==0)=false:=by simp;omega
  rw[c,show (y.1==x)=false by simpa using G];have F:=g9 UH f e a q;repeat refine st ?_
  refine oC (kO rfl (by simp only[go_sem,F];exact iR)) (f1) (by simp only[go_sem,F];exact iR) (by simp only[go_sem,F];exact⟨rfl,rfl⟩) ?_;exact ek
 have e: ¬(i:Int)< (l.length:Int):=by omega
 rw[NI (by omega)]at c;have c:b=false:=c;rw[c];have F:=ai f e;exact ek
def LD(l:List ds)(p:Nat)(m:ds):nQ p (fe m) (l.map fe)=(l.take p++m::l.drop p).map fe:=by
 unfold nQ;rw[NA,Nh,List.map_take,List.map_drop]
def FC(env:b8)(l:List ds)(m:ds)(f:Sj l)(h: ∀m∈l,0<=m.1/\m.1<=1000000)(e:0<=m.1/\m.1<=1000000)(k:l.length<=4000):b7 prog env 299 [fk l, .agg (fe m)] (.own 146 2 ((lK l m).map fe)):=by
 have f0:=y9 env l m.1 f h e (by omega);have f1:=EL env (l.map fe) (by rw[NQ];omega);cases a:Tj l m.1 with
 | true=>
   rw[a]at f0;have b:=MB a;rw[B6 a];generalize By l m.1=p at*;have j:=it b;have c:(l.map fe).set p [I m.1, .seq 1 (m.2.map aa)]=(l.set p m).map fe:=by rw[QC];rfl
   obtain⟨y,g⟩:=gE b;refine qf func299 call299 ntmps299 results299 ?_;have F:=hU UH j c g;exact mw f0 f1
 | false=>
   rw[a]at f0;rw[B7 a, <-LD];have d:=ym m.1 l;generalize By l m.1=p at*;refine qf func299 call299 ntmps299 results299 ?_;have F:=fe.eq_1;repeat refine wc f0 f1 ?_
   refine IK 24 27 rfl (row:=⟨2,l.map fe,146,true⟩) (row2:=⟨2,[fe m],146,true⟩) (i:=p) Mn (Nf 1) rfl rfl rfl rfl rfl (by decide) (by rw[NQ];exact d) (by rw[NQ];omega) (by simp only[go_sem];exact iR) (by simp only[go_sem];exact iR) (by simp only[go_sem];exact iR) (by simp only[go_sem];exact iR) (by simp only[go_sem];exact iR) (by simp only[go_sem];exact iR) iR ?_;exact ek
end
section
def T4(c:aq)(l:List ds):Prop:=Sj l/\ ∀m∈l,fb c m.1=true
def Kr{c:aq}{l:List ds}{k:Nat}{v:List Int}(b:k<c.Z9.length)(h:T4 c l):T4 c (lK l ((k:Int),v)):=
 ⟨ua h.1,fun p d=>by
  rcases (oc h.1).1 d with rfl|⟨a,_⟩
  ·exact aV.2 b
  exact h.2 p a⟩
def yp{c:aq}{l:List ds}(h:T4 c l):l.length<=c.Z9.length:=by
 have i:(l.map fun m=>m.1.toNat).Nodup:=by
  refine Q2.2 (h.1.imp_of_mem fun {a b} d f e=> ?_);have:=(aI.1 (h.2 a d)).1;have:=(aI.1 (h.2 b f)).1;omega
 have:=i.length_le_of_subset (l₂:=List.range c.Z9.length) fun x j=>by
  obtain⟨m,g,rfl⟩:=NE.1 j;have:=aI.1 (h.2 m g);exact NX.2 (by omega)
 simpa using this
def M6{c:aq}(a:Right c){l:List ds}(h:T4 c l): ∀m∈l,0<=m.1/\m.1<=1000000:=fun m b=>by
 have:=aI.1 (h.2 m b);have:=a.Z6;omega
def KF{c:aq}{mem:List ds}(h:bc c mem=true):T4 c mem:=by
 obtain⟨a,b⟩:=pO h;refine⟨a,fun m d=> ?_⟩;obtain⟨k,s,e,f,_⟩:=FM (b m d);rw[e];exact aV.2 (Mr.1 f).1
def JR{c:aq}{act:List Int}{i:Int}(h:b6 act (av c i true)=1): ∃(p a:Nat),(av c i true)[p]? =some a/\mO c act i=[(a:Int)]/\ ∀(q y:Nat),(av c i true)[q]? =some y->act.contains (y:Int)=decide (q=p):=by
 obtain⟨k,o,f,r,n⟩:=ui h;obtain⟨a,l,rfl⟩:=NE.1 o;obtain⟨p,g⟩:=O6.1 l;refine⟨p,a,g,r,fun q y b=> ?_⟩;by_cases e:q=p
 ·subst e;rw[g]at b;cases b;rw[Ni rfl];exact Mx.2 f
 rw[N7 e];refine Pe.2 fun m=>e ?_;have j:(y:Int)∈(g6 c i).filter fun k=>act.contains k:=ND.2 ⟨NE.2 ⟨y,Mv b,rfl⟩,m⟩;rw[n]at j;have d:(y:Int)=(a:Int):=NO.1 j;have d:y=a:=by omega
 subst d;exact(List.getElem?_inj (Mr.1 b).1 (bW c i true)).1 (b.trans g.symm)
def DD{c:aq}{act gone:List Int}{o:List ds}{j:Nat}{x:Int}(h:gone[j]? =some x):u0 c act gone o (j+1)=if an c x=true then rn c act x (u0 c act gone o j) (y' c x) (y' c x).length else u0 c act gone o j:=by
 unfold u0;exact bZ _ _ h
def Ab{c:aq}{act:List Int}{i:Int}{o:List ds}{M:List Nat}{m h:Nat}(a:M[m]? =some h):rn c act i o M (m+1)=lK (rn c act i o M m) ((h:Int),sl c act i h):=by
 unfold rn;exact bZ _ _ a
def pB(a:Nat)(p q:Nat):AV:=if q<=p then cy else .seq 1 [aB a]
end
section
/-! As the document says -/
def wF(c:aq)(l:List Int)(j:Nat):List Nat:=(List.range j).filter fun i:Nat=>l.contains (i:Int)&&(b6 l (av c i true)==0)
def AZ(env:b8)(c:aq)(h:ch c)(l:List Int)(r:l.length<=1000000):b7 prog env 171 [.agg (aA c), .seq 1 (l.map aa)] (.own 3 1 ((Jz c l).map aB)):=by
 have s:=h.Z6;have p:=fun(i:Int)=>bh env c i true (by omega);unfold aA at p;show b7 _ _ _ _ (.own _ 1 ((wF c l c.Z9.length).map aB));refine qf func171 call171 ntmps171 results171 ?_;have F:=aA.eq_1;repeat refine st ?_
 have F:=aA.eq_1;refine lq c.Z9.length (by omega) (fun j t=>[(1, .seq 1 (l.map aa)),(2, .loc 2 (t 2) 0 0),(5, .row 7 (t 7)),(6,I j)]) (fun j _=>[(2,⟨5,[aA c],26,false⟩),(7,⟨1,(wF c l j).map aB,3,true⟩)]) (fun j _ d=>d 7=false) rfl ?_ ?_
 ·rintro j w d e f m b;have f0:=cK env l (j:Int) r;have a:wF c l (j+1)=if (l.contains (j:Int)&&(b6 l (av c j true)==0)) then wF c l j++[j] else wF c l j:=js (fun i:Nat=>l.contains (i:Int)&&(b6 l (av c i true)==0)) j
  have v:(wF c l j).length<=j:=gH (fun i:Nat=>l.contains (i:Int)&&(b6 l (av c i true)==0)) j;have u:cU ((wF c l j).length+1) 8:=aC (by omega) (by omega);cases q:l.contains (j:Int) with
  | false=>
    rw[q]at f0 a;rw[Ng,Mt Nc]at a;have F:=hU Uv f m b;repeat refine fc f0 ?_
    refine⟨j+1,⟨e,by simp only[go_sem,b]⟩,?_,?_,by omega⟩
    ·exact qe
    have F:=ai Uv a;exact qe
  | true=>
    rw[q]at f0 a;rw[Nj]at a;have n:=p (j:Int);have x:=bE h.toRight j true;have o:=gF env l (av c j true) r (by omega);generalize av c (j:Int) true=K at*;cases g:(b6 l K==0) with
    | true=>
      have k:(((b6 l K:Nat):Int)==0)=true:=by simpa using g
      rw[g,Mw rfl]at a;generalize b6 l K=N at*;have F:=i' Uv f m b k u;repeat refine Sx f0 n o ?_
      refine⟨j+1,⟨e,by simp only[go_sem,b]⟩,?_,?_,by omega⟩
      ·exact qe
      have F:=hU Uv Ux a @NA.{0,0};exact qe
    | false=>
      have k:(((b6 l K:Nat):Int)==0)=false:=by
       have:b6 l K≠0:=by simpa using g
       simp;omega
      rw[g,Mt Nc]at a;generalize b6 l K=N at*;have F:=g9 Uv f m b k;repeat refine Sx f0 n o ?_
      refine⟨j+1,⟨e,by simp only[go_sem,b]⟩,?_,?_,by omega⟩
      ·exact qe
      have F:=ai Uv a;exact qe
 rintro w d f b;have F:=gb Uv f b;exact ek
end
end Go.Proofs.YtfhkmjbjafeckaaGreatDoor
