/- Lists that are the same: plain. No program is named here. -/
import Derived.Test.YtfhkmjbjafeckaaGreatDoorP5
set_option maxRecDepth 100000
set_option maxHeartbeats 1000000
set_option linter.unusedSimpArgs false
set_option linter.defProp false
namespace Go.Proofs.YtfhkmjbjafeckaaGreatDoor
open Go.Proofs.Tryz
section
open Go.RowKit
def jO:(∀a b:Int,(a != b)= !(a==b))/\(∀a b:Nat,(a != b)= !(a==b))/\(∀a b:List UInt8,(a != b)= !(a==b))/\(∀a b:Bool,(a != b)= !(a==b)):=⟨fun _ _=>rfl,fun _ _=>rfl,fun _ _=>rfl,fun _ _=>rfl⟩
def m9{p q:Prop}(k:q)(h:q->p:=by
 intro k;first
 |refine oO rfl (by simp only[go_sem];exact⟨rfl,rfl⟩) ?_
 |refine gR ?_
 |refine gO ?_
 |refine oZ (ke ?_)
 |refine oZ ?_
 |refine oS ?_
 |refine gT ?_
 |refine gD mixed ?_
 |refine oB ?_
 |refine oK ?_
 |(refine oX ?_;simp only[bD,be, ↓reduceIte,Nat.reduceEqDiff,reduceCtorEq])
 |refine oY (by simp only[go_sem];exact iR) ?_
 |refine oN (by simp only[go_sem];exact iR) ?_
 exact k):p:=h k
def st{p q:Prop}(k:q)(h:q->p:=by
 intro k;first
 |refine oO rfl (by simp only[go_sem,F];exact⟨rfl,rfl⟩) ?_
 |refine gR ?_
 |refine gO ?_
 |refine oZ (ke ?_)
 |refine oZ ?_
 |refine oS ?_
 |refine gT ?_
 |refine gD mixed ?_
 |refine oB ?_
 |refine oK ?_
 |(refine oX ?_;simp only[bD,be, ↓reduceIte,Nat.reduceEqDiff,reduceCtorEq])
 |refine oY (by simp only[go_sem,F];exact iR) ?_
 |refine oN (by simp only[go_sem,F];exact iR) ?_
 exact k):p:=h k
def Uo{p q:Prop}(k:q)(h:q->p:=by
 intro k;first
 |refine oO rfl (by simp only[go_sem];exact⟨rfl,rfl⟩) ?_
 |refine gR ?_
 |refine gO ?_
 |refine oZ (ke ?_)
 |refine oZ ?_
 |refine oS ?_
 |refine gT ?_
 |refine gD mixed ?_
 |refine oB ?_
 |refine oK ?_
 |(refine oX ?_;simp only[bD,be, ↓reduceIte,Nat.reduceEqDiff,reduceCtorEq])
 exact k):p:=h k
def sg{p q:Prop}(k:q)(h:q->p:=by
 intro k;first
 |refine oO rfl (by simp only[go_sem,F];exact⟨rfl,rfl⟩) ?_
 |refine gR ?_
 |refine gO ?_
 |refine oZ (ke ?_)
 |refine oZ ?_
 |refine oS ?_
 |refine gT ?_
 |refine gD mixed ?_
 |refine oB ?_
 |refine oK ?_
 |(refine oX ?_;simp only[bD,be, ↓reduceIte,Nat.reduceEqDiff,reduceCtorEq])
 exact k):p:=h k
section
variable {P:Program} {env:b8} {nt:Nat} {Q:Exit->St->Prop} {s:St}
theorem Se{o:Oper}{f:FuncId}{args:List AV}{rest:List No}{s1:St}{ft:fy}{cs:List AV}{res:AV}{K:St->List fy->Prop}(hcon:b7 P env f cs res)(k:jw P env rest s1 fun s2 fts=>K s2 (ft::fts))(hc:bM env s.f o=some (f,args):=by exact rfl)
 (ha:N' (k0 args) s cs:=by simp only[go_sem];exact iR)(h:x5 (PA (eF false o.dst args res) s [] []) s o.dst s1 ft:=by simp only[go_sem];exact⟨rfl,rfl⟩):jw P env (⟨o, .always⟩::rest) s K:=oC hc hcon ha h k
theorem cC{o:Oper}{f:FuncId}{args:List AV}{rest:List No}{s1:St}{ft:fy}{cs:List AV}{res:AV}{K:St->List fy->Prop}(hcon:b7 P env f cs res)(k:jw P env rest s1 fun s2 fts=>K s2 (ft::fts))(hc:bM env s.f o=some (f,args):=by exact rfl)
 (ha:N' (k0 args) s cs:=by simp only[go_sem,F];exact iR)(h:x5 (PA (eF false o.dst args res) s [] []) s o.dst s1 ft:=by simp only[go_sem,F];exact⟨rfl,rfl⟩):jw P env (⟨o, .always⟩::rest) s K:=oC hc hcon ha h k
theorem lL{o:Oper}{f:FuncId}{args:List AV}{rest:List No}{s1:St}{ft:fy}{cs:List AV}{res:AV}{K:St->List fy->Prop}(hcon:Sd P env f cs res)(k:jw P env rest s1 fun s2 fts=>K s2 (ft::fts))(hc:bM env s.f o=some (f,args):=by exact rfl)
 (ha:N' (k0 args) s cs:=by simp only[go_sem,F];exact iR)(h:x5 (PA (eF true o.dst args res) s [] []) s o.dst s1 ft:=by simp only[go_sem,F];exact⟨rfl,rfl⟩):jw P env (⟨o, .always⟩::rest) s K:=oL hc hcon ha h k
theorem oj(h:Q .ret s:=by show (aj _ _ _).run _=some _;simp only[go_sem]):fp P env nt .ret Q s:=aM h
theorem aR(h:Q .ret s:=by show (aj _ _ _).run _=some _;simp only[go_sem,F]):fp P env nt .ret Q s:=aM h
theorem T1{D:Type}{c:Code}(A:D->(Nat->Nat)->List (Nat×AV))(R:D->(Nat->Nat)->List (Nat×Row))(inv:D->(Nat->Nat)->(Nat->Bool)->Prop)(μ:D->Nat)(d0:D)(h0:inv d0 s.vs s.esc)
 (round: ∀d vs esc,inv d vs esc->fp P env nt c (bD (fun s1=> ∃d',inv d' s1.vs s1.esc/\cV s1 (A d' s1.vs)/\bw s1 (R d' s1.vs)/\μ d'<μ d) Q) (head (A d vs) (R d vs) vs esc))
 (hF:cV s (A d0 s.vs):=by first|(simp only[go_sem];done)|(simp only[go_sem];rfl))(hR:bw s (R d0 s.vs):=by first|(simp only[go_sem];done)|(simp only[go_sem];rfl)):fp P env nt (.loop c) Q s:=aH A R inv μ d0 h0 hF hR round
theorem lp{D:Type}{c:Code}(A:D->(Nat->Nat)->List (Nat×AV))(R:D->(Nat->Nat)->List (Nat×Row))(inv:D->(Nat->Nat)->(Nat->Bool)->Prop)(μ:D->Nat)(d0:D)(h0:inv d0 s.vs s.esc)
 (round: ∀d vs esc,inv d vs esc->fp P env nt c (bD (fun s1=> ∃d',inv d' s1.vs s1.esc/\cV s1 (A d' s1.vs)/\bw s1 (R d' s1.vs)/\μ d'<μ d) Q) (head (A d vs) (R d vs) vs esc))
 (hF:cV s (A d0 s.vs):=by first|(simp only[go_sem,F];done)|(simp only[go_sem,F];rfl))(hR:bw s (R d0 s.vs):=by first|(simp only[go_sem,F];done)|(simp only[go_sem,F];rfl)):fp P env nt (.loop c) Q s:=aH A R inv μ d0 h0 hF hR round
theorem qn{D:Type}{p q r m:D->Prop}(d:D)(h:p d)(hq:q d:=by first|(simp only[go_sem,F];done)|(simp only[go_sem,F];rfl))(hr:r d:=by first|(simp only[go_sem,F];done)|(simp only[go_sem,F];rfl))(hm:m d:=by first|omega|(simp;omega)): ∃d,p d/\q d/\r d/\m d:=⟨d,h,hq,hr,hm⟩
theorem RK{c:Code}(N:Nat)(hN:N<=9223372036854775807)(A:Nat->(Nat->Nat)->List (Nat×AV))(R:Nat->(Nat->Nat)->List (Nat×Row))(inv:Nat->(Nat->Nat)->(Nat->Bool)->Prop)(h0:inv 0 s.vs s.esc)
 (step: ∀j vs esc,j<N->(j:Int)< (N:Int)->IntKind.i64.wrap ((j:Int)+1)=((j+1:Nat):Int)->inv j vs esc->fp P env nt c (bD (fun s1=> ∃d',(d'<=N/\inv d' s1.vs s1.esc)/\cV s1 (A d' s1.vs)/\bw s1 (R d' s1.vs)/\N-d'<N-j) Q) (head (A j vs) (R j vs) vs esc))
 (stop: ∀vs esc,¬(N:Int)< (N:Int)->inv N vs esc->fp P env nt c (bD (fun s1=> ∃d',(d'<=N/\inv d' s1.vs s1.esc)/\cV s1 (A d' s1.vs)/\bw s1 (R d' s1.vs)/\N-d'<N-N) Q) (head (A N vs) (R N vs) vs esc))
 (hF:cV s (A 0 s.vs):=by first|(simp only[go_sem];done)|(simp only[go_sem];rfl))(hR:bw s (R 0 s.vs):=by first|(simp only[go_sem];done)|(simp only[go_sem];rfl)):fp P env nt (.loop c) Q s:=
 aH A R (fun j vs esc=>j<=N/\inv j vs esc) (fun j=>N-j) 0 ⟨NG _,h0⟩ hF hR fun j vs esc hj=>by
  by_cases h:j<N
  ·exact step j vs esc h (it h) (aD h hN) hj.2
  obtain rfl:j=N:=by omega
  exact stop vs esc (by omega) hj.2
theorem lq{c:Code}(N:Nat)(hN:N<=9223372036854775807)(A:Nat->(Nat->Nat)->List (Nat×AV))(R:Nat->(Nat->Nat)->List (Nat×Row))(inv:Nat->(Nat->Nat)->(Nat->Bool)->Prop)(h0:inv 0 s.vs s.esc)
 (step: ∀j vs esc,j<N->(j:Int)< (N:Int)->IntKind.i64.wrap ((j:Int)+1)=((j+1:Nat):Int)->inv j vs esc->fp P env nt c (bD (fun s1=> ∃d',(d'<=N/\inv d' s1.vs s1.esc)/\cV s1 (A d' s1.vs)/\bw s1 (R d' s1.vs)/\N-d'<N-j) Q) (head (A j vs) (R j vs) vs esc))
 (stop: ∀vs esc,¬(N:Int)< (N:Int)->inv N vs esc->fp P env nt c (bD (fun s1=> ∃d',(d'<=N/\inv d' s1.vs s1.esc)/\cV s1 (A d' s1.vs)/\bw s1 (R d' s1.vs)/\N-d'<N-N) Q) (head (A N vs) (R N vs) vs esc))
 (hF:cV s (A 0 s.vs):=by first|(simp only[go_sem,F];done)|(simp only[go_sem,F];rfl))(hR:bw s (R 0 s.vs):=by first|(simp only[go_sem,F];done)|(simp only[go_sem,F];rfl)):fp P env nt (.loop c) Q s:=
 aH A R (fun j vs esc=>j<=N/\inv j vs esc) (fun j=>N-j) 0 ⟨NG _,h0⟩ hF hR fun j vs esc hj=>by
  by_cases h:j<N
  ·exact step j vs esc h (it h) (aD h hN) hj.2
  obtain rfl:j=N:=by omega
  exact stop vs esc (by omega) hj.2
theorem qf{f:FuncId}{fn:Func}{c:Code}{n:Nat}{rs:Array ResultVar}{cs:List AV}{res:AV}(hf:P.funcs[f]? =some fn)(hc: ∀(args:Array Value)(w:World),(callFunc f args).run P w= .ok (.enter f args) w)(hn:fn.ntmps=n)(hr:fn.results=rs)(h:fp P env n c (Mg P rs.toList res) (St.init cs))(hb:fn.body=some c:=by exact rfl)(hl:cs.length<=n:=by simp):b7 P env f cs res:=lB hf hb hc (by rw[hn];exact hl) (by rw[hn,hr];exact h)
theorem qw{f:FuncId}{fn:Func}{c:Code}{n:Nat}{rs:Array ResultVar}{cs:List AV}{res:AV}(hf:P.funcs[f]? =some fn)(hc: ∀(args:Array Value)(w:World),(callFunc f args).run P w= .ok (.enter f args) w)(hn:fn.ntmps=n)(hr:fn.results=rs)(h:fp P env n c (L9 P rs.toList res) (St.init cs))(hb:fn.body=some c:=by exact rfl)(hl:cs.length<=n:=by simp):b7 P env f cs res:=mb hf hb hc (by rw[hn];exact hl) (by rw[hn,hr];exact h)
theorem jJ{α1 p q:Prop}(c1:α1)(k:q)(h:α1->q->p:=by
 intro c1 k;first
 |(refine m9 ?_;exact k)
 |(refine Se c1 ?_;exact k)):p:=h c1 k
theorem vP{α1 α2 p q:Prop}(c1:α1)(c2:α2)(k:q)(h:α1->α2->q->p:=by
 intro c1 c2 k;first
 |(refine m9 ?_;exact k)
 |(refine Se c1 ?_;exact k)
 |(refine Se c2 ?_;exact k)):p:=h c1 c2 k
theorem Cd{α1 α2 α3 p q:Prop}(c1:α1)(c2:α2)(c3:α3)(k:q)(h:α1->α2->α3->q->p:=by
 intro c1 c2 c3 k;first
 |(refine m9 ?_;exact k)
 |(refine Se c1 ?_;exact k)
 |(refine Se c2 ?_;exact k)
 |(refine Se c3 ?_;exact k)):p:=h c1 c2 c3 k
theorem Mm{α1 α2 α3 α4 α5 α6 p q:Prop}(c1:α1)(c2:α2)(c3:α3)(c4:α4)(c5:α5)(c6:α6)(k:q)(h:α1->α2->α3->α4->α5->α6->q->p:=by
 intro c1 c2 c3 c4 c5 c6 k;first
 |(refine m9 ?_;exact k)
 |(refine Se c1 ?_;exact k)
 |(refine Se c2 ?_;exact k)
 |(refine Se c3 ?_;exact k)
 |(refine Se c4 ?_;exact k)
 |(refine Se c5 ?_;exact k)
 |(refine Se c6 ?_;exact k)):p:=h c1 c2 c3 c4 c5 c6 k
theorem Mf{α1 α2 α3 α4 α5 α6 α7 p q:Prop}(c1:α1)(c2:α2)(c3:α3)(c4:α4)(c5:α5)(c6:α6)(c7:α7)(k:q)(h:α1->α2->α3->α4->α5->α6->α7->q->p:=by
 intro c1 c2 c3 c4 c5 c6 c7 k;first
 |(refine m9 ?_;exact k)
 |(refine Se c1 ?_;exact k)
 |(refine Se c2 ?_;exact k)
 |(refine Se c3 ?_;exact k)
 |(refine Se c4 ?_;exact k)
 |(refine Se c5 ?_;exact k)
 |(refine Se c6 ?_;exact k)
 |(refine Se c7 ?_;exact k)):p:=h c1 c2 c3 c4 c5 c6 c7 k
theorem fc{α1 p q:Prop}(c1:α1)(k:q)(h:α1->q->p:=by
 intro c1 k;first
 |(refine st ?_;exact k)
 |(refine cC c1 ?_;exact k)):p:=h c1 k
theorem wc{α1 α2 p q:Prop}(c1:α1)(c2:α2)(k:q)(h:α1->α2->q->p:=by
 intro c1 c2 k;first
 |(refine st ?_;exact k)
 |(refine cC c1 ?_;exact k)
 |(refine cC c2 ?_;exact k)):p:=h c1 c2 k
theorem Sx{α1 α2 α3 p q:Prop}(c1:α1)(c2:α2)(c3:α3)(k:q)(h:α1->α2->α3->q->p:=by
 intro c1 c2 c3 k;first
 |(refine st ?_;exact k)
 |(refine cC c1 ?_;exact k)
 |(refine cC c2 ?_;exact k)
 |(refine cC c3 ?_;exact k)):p:=h c1 c2 c3 k
theorem Ut{α1 α2 α3 α4 p q:Prop}(c1:α1)(c2:α2)(c3:α3)(c4:α4)(k:q)(h:α1->α2->α3->α4->q->p:=by
 intro c1 c2 c3 c4 k;first
 |(refine st ?_;exact k)
 |(refine cC c1 ?_;exact k)
 |(refine cC c2 ?_;exact k)
 |(refine cC c3 ?_;exact k)
 |(refine cC c4 ?_;exact k)):p:=h c1 c2 c3 c4 k
theorem Uu{α1 α2 α3 α4 α5 α6 p q:Prop}(c1:α1)(c2:α2)(c3:α3)(c4:α4)(c5:α5)(c6:α6)(k:q)(h:α1->α2->α3->α4->α5->α6->q->p:=by
 intro c1 c2 c3 c4 c5 c6 k;first
 |(refine st ?_;exact k)
 |(refine cC c1 ?_;exact k)
 |(refine cC c2 ?_;exact k)
 |(refine cC c3 ?_;exact k)
 |(refine cC c4 ?_;exact k)
 |(refine cC c5 ?_;exact k)
 |(refine cC c6 ?_;exact k)):p:=h c1 c2 c3 c4 c5 c6 k
theorem sp{p q r:Prop}(k:q)(l:r)(h:q->r->p:=by
 intro k l;first
 |exact vL (by simp only[go_sem,F];rfl) k l
 |exact Fv (by simp only[go_sem,F];rfl) k l):p:=h k l
theorem ek{p:Prop}(h:p:=by
 repeat' first
 |refine st ?_
 |exact aR
 |(refine sp ?_ ?_<;>(intro hB;first|exact absurd hB (by decide)|((try simp only[Nx,O7,Oi,OT,NF,Nm]at hB);have F:=And.intro hB F)))):p:=h
theorem hH{α1 p:Prop}(c1:α1)(h:α1->p:=by
 intro c1;repeat' first
 |refine st ?_
 |refine cC c1 ?_
 |exact aR
 |(refine sp ?_ ?_<;>(intro hB;first|exact absurd hB (by decide)|((try simp only[Nx,O7,Oi,OT,NF,Nm]at hB);have F:=And.intro hB F)))):p:=h c1
theorem mw{α1 α2 p:Prop}(c1:α1)(c2:α2)(h:α1->α2->p:=by
 intro c1 c2;repeat' first
 |refine st ?_
 |refine cC c1 ?_
 |refine cC c2 ?_
 |exact aR
 |(refine sp ?_ ?_<;>(intro hB;first|exact absurd hB (by decide)|((try simp only[Nx,O7,Oi,OT,NF,Nm]at hB);have F:=And.intro hB F)))):p:=h c1 c2
theorem An{α1 α2 α3 p:Prop}(c1:α1)(c2:α2)(c3:α3)(h:α1->α2->α3->p:=by
 intro c1 c2 c3;repeat' first
 |refine st ?_
 |refine cC c1 ?_
 |refine cC c2 ?_
 |refine cC c3 ?_
 |exact aR
 |(refine sp ?_ ?_<;>(intro hB;first|exact absurd hB (by decide)|((try simp only[Nx,O7,Oi,OT,NF,Nm]at hB);have F:=And.intro hB F)))):p:=h c1 c2 c3
theorem TB{α1 α2 α3 α4 p:Prop}(c1:α1)(c2:α2)(c3:α3)(c4:α4)(h:α1->α2->α3->α4->p:=by
 intro c1 c2 c3 c4;repeat' first
 |refine st ?_
 |refine cC c1 ?_
 |refine cC c2 ?_
 |refine cC c3 ?_
 |refine cC c4 ?_
 |exact aR
 |(refine sp ?_ ?_<;>(intro hB;first|exact absurd hB (by decide)|((try simp only[Nx,O7,Oi,OT,NF,Nm]at hB);have F:=And.intro hB F)))):p:=h c1 c2 c3 c4
theorem Uh{α1 α2 α3 α4 α5 p:Prop}(c1:α1)(c2:α2)(c3:α3)(c4:α4)(c5:α5)(h:α1->α2->α3->α4->α5->p:=by
 intro c1 c2 c3 c4 c5;repeat' first
 |refine st ?_
 |refine cC c1 ?_
 |refine cC c2 ?_
 |refine cC c3 ?_
 |refine cC c4 ?_
 |refine cC c5 ?_
 |exact aR
 |(refine sp ?_ ?_<;>(intro hB;first|exact absurd hB (by decide)|((try simp only[Nx,O7,Oi,OT,NF,Nm]at hB);have F:=And.intro hB F)))):p:=h c1 c2 c3 c4 c5
theorem TC{α1 α2 α3 α4 α5 α6 p:Prop}(c1:α1)(c2:α2)(c3:α3)(c4:α4)(c5:α5)(c6:α6)(h:α1->α2->α3->α4->α5->α6->p:=by
 intro c1 c2 c3 c4 c5 c6;repeat' first
 |refine st ?_
 |refine cC c1 ?_
 |refine cC c2 ?_
 |refine cC c3 ?_
 |refine cC c4 ?_
 |refine cC c5 ?_
 |refine cC c6 ?_
 |exact aR
 |(refine sp ?_ ?_<;>(intro hB;first|exact absurd hB (by decide)|((try simp only[Nx,O7,Oi,OT,NF,Nm]at hB);have F:=And.intro hB F)))):p:=h c1 c2 c3 c4 c5 c6
theorem Uk{α1 α2 α3 α4 α5 α6 α7 p:Prop}(c1:α1)(c2:α2)(c3:α3)(c4:α4)(c5:α5)(c6:α6)(c7:α7)(h:α1->α2->α3->α4->α5->α6->α7->p:=by
 intro c1 c2 c3 c4 c5 c6 c7;repeat' first
 |refine st ?_
 |refine cC c1 ?_
 |refine cC c2 ?_
 |refine cC c3 ?_
 |refine cC c4 ?_
 |refine cC c5 ?_
 |refine cC c6 ?_
 |refine cC c7 ?_
 |exact aR
 |(refine sp ?_ ?_<;>(intro hB;first|exact absurd hB (by decide)|((try simp only[Nx,O7,Oi,OT,NF,Nm]at hB);have F:=And.intro hB F)))):p:=h c1 c2 c3 c4 c5 c6 c7
theorem Ur{α1 α2 α3 α4 α5 α6 α7 α8 α9 p:Prop}(c1:α1)(c2:α2)(c3:α3)(c4:α4)(c5:α5)(c6:α6)(c7:α7)(c8:α8)(c9:α9)(h:α1->α2->α3->α4->α5->α6->α7->α8->α9->p:=by
 intro c1 c2 c3 c4 c5 c6 c7 c8 c9;repeat' first
 |refine st ?_
 |refine cC c1 ?_
 |refine cC c2 ?_
 |refine cC c3 ?_
 |refine cC c4 ?_
 |refine cC c5 ?_
 |refine cC c6 ?_
 |refine cC c7 ?_
 |refine cC c8 ?_
 |refine cC c9 ?_
 |exact aR
 |(refine sp ?_ ?_<;>(intro hB;first|exact absurd hB (by decide)|((try simp only[Nx,O7,Oi,OT,NF,Nm]at hB);have F:=And.intro hB F)))):p:=h c1 c2 c3 c4 c5 c6 c7 c8 c9
theorem Mo{α1 α2 α3 α4 α5 α6 α7 α8 α9 α10 p:Prop}(c1:α1)(c2:α2)(c3:α3)(c4:α4)(c5:α5)(c6:α6)(c7:α7)(c8:α8)(c9:α9)(c10:α10)(h:α1->α2->α3->α4->α5->α6->α7->α8->α9->α10->p:=by
 intro c1 c2 c3 c4 c5 c6 c7 c8 c9 c10;repeat' first
 |refine st ?_
 |refine cC c1 ?_
 |refine cC c2 ?_
 |refine cC c3 ?_
 |refine cC c4 ?_
 |refine cC c5 ?_
 |refine cC c6 ?_
 |refine cC c7 ?_
 |refine cC c8 ?_
 |refine cC c9 ?_
 |refine cC c10 ?_
 |exact aR
 |(refine sp ?_ ?_<;>(intro hB;first|exact absurd hB (by decide)|((try simp only[Nx,O7,Oi,OT,NF,Nm]at hB);have F:=And.intro hB F)))):p:=h c1 c2 c3 c4 c5 c6 c7 c8 c9 c10
theorem Mj{α1 α2 α3 α4 α5 α6 α7 α8 α9 α10 α11 α12 α13 p:Prop}(c1:α1)(c2:α2)(c3:α3)(c4:α4)(c5:α5)(c6:α6)(c7:α7)(c8:α8)(c9:α9)(c10:α10)(c11:α11)(c12:α12)(c13:α13)(h:α1->α2->α3->α4->α5->α6->α7->α8->α9->α10->α11->α12->α13->p:=by
 intro c1 c2 c3 c4 c5 c6 c7 c8 c9 c10 c11 c12 c13;repeat' first
 |refine st ?_
 |refine cC c1 ?_
 |refine cC c2 ?_
 |refine cC c3 ?_
 |refine cC c4 ?_
 |refine cC c5 ?_
 |refine cC c6 ?_
 |refine cC c7 ?_
 |refine cC c8 ?_
 |refine cC c9 ?_
 |refine cC c10 ?_
 |refine cC c11 ?_
 |refine cC c12 ?_
 |refine cC c13 ?_
 |exact aR
 |(refine sp ?_ ?_<;>(intro hB;first|exact absurd hB (by decide)|((try simp only[Nx,O7,Oi,OT,NF,Nm]at hB);have F:=And.intro hB F)))):p:=h c1 c2 c3 c4 c5 c6 c7 c8 c9 c10 c11 c12 c13
theorem T7{p:Prop}(h:p:=by simp only[go_sem]):p:=h
theorem qe{p:Prop}(h:p:=by simp only[go_sem,F]):p:=h
end
end
section
open Go.RowKit
def dG(c:Int):Bool:=decide (c=95\/(97<=c/\c<=122)\/(65<=c/\c<=90))
def ma(c:Int):Bool:=decide (48<=c/\c<=57)
def cP(c:Int):Bool:=dG c||ma c||decide (c=46)
def nN(c:Int)(w:World):Calls prog 199 #[.int .u8 c] w fun e w'=>e= .returned (.bool (dG c))/\w=w':=by
 by_cases h1:c=95
 ·subst h1
  go_enter func199,ntmps199
  go_wp2
  go_ret
  exact⟨rfl,rfl⟩
 have e1:(c==95)=false:=by simp[h1]
 by_cases h2:97<=c<;>by_cases h3:c<=122<;>by_cases h4:65<=c<;>by_cases h5:c<=90
 all_goals first
  |(exfalso;omega)
  |(go_enter func199,ntmps199
    go_wp2
    go_ret
    exact⟨by simp[dG];omega,rfl⟩)
def Hw(c:Int)(w:World):Calls prog 242 #[.int .u8 c] w fun e w'=>e= .returned (.bool (ma c))/\w=w':=by
 by_cases h2:48<=c
 all_goals
  go_enter func242,ntmps242
  go_wp2
  go_ret
  exact⟨by simp[ma];try omega,rfl⟩
def xF(c:Int)(w:World):Calls prog 201 #[.int .u8 c] w fun e w'=>e= .returned (.bool (cP c))/\w=w':=by
 by_cases h1:dG c<;>by_cases h2:ma c
 all_goals
  go_enter func201,ntmps201
  go_wp2_with (first
   |(go_at_call 199;refine(nN _ _).mono ?_;rintro e w' ⟨rfl,rfl⟩)
   |(go_at_call 242;refine(Hw _ _).mono ?_;rintro e w' ⟨rfl,rfl⟩))
  go_ret
  exact⟨by simp[cP,h1,h2]<;>rfl,rfl⟩
def As(l:List UInt8):Nat:=(l.takeWhile fun c=>cP c.toNat).length
def qu(l:List UInt8)(k:Nat)(d:k<=l.length)(a: ∀j (h:j<l.length),j<k->cP l[j].toNat=true)(b: ∀h:k<l.length,¬cP l[k].toNat=true):As l=k:=by
 unfold As
 induction l generalizing k with
 |nil=>simp at d |-;omega
 | cons c l e=>
   rw[List.takeWhile_cons];cases k with
   | zero=>
     rw[Mt (show ¬cP c.toNat=true from b (by simp))];rfl
   | succ k=>
     rw[Mw (show cP c.toNat=true from a 0 (by simp) (by omega))];simp only[NN]at d |-;rw[e k (by omega) (fun j h f=>a (j+1) (by simpa using h) (by omega)) (fun h=>b (by simpa using h))]
def G5(l:List UInt8)(hl:l.length<=9223372036854775807)(w:World):
 Calls prog 200 #[.string ⟨l.toArray⟩, .int .i64 0, .func (.func 201) #[] #[]] w fun e w'=>e= .returned (.int .i64 (As l))/\w=w':=by
 go_enter func200,ntmps200
 go_wp2_with fail
 go_loop [1] (fun i=> ∃k:Nat,k<=l.length/\i= .int .i64 k/\ ∀j (h:j<l.length),j<k->cP l[j].toNat=true) (fun i=>l.length-(intOf i).toNat)
 case atStart=>exact⟨0,by omega,rfl,fun j _ h=>by omega⟩
 case round=>
  obtain⟨k,hk,rfl,hall⟩:=hrel;have HA:=N9 hall;try clear hall
  by_cases hlt:k<l.length
  ·by_cases hin:cP l[k].toNat=true
   ·have hin':cP (((ByteArray.mk l.toArray)[k]'(by simpa[ByteArray.size]using hlt)).toNat)=true:=hin;have HI:=N9 hin;try clear hin
    go_wp2_with (go_at_call 201;refine(xF _ _).mono ?_;rintro e w' ⟨rfl,rfl⟩)
    go_round
    case rel=>
     refine⟨k+1,by omega,by go_num,fun j h hj=> ?_⟩;rcases Pa j k with h' | h'
     ·exact HA.out j h h'
     obtain rfl:j=k:=by omega
     exact HI.out
    case measure=>simp[intOf];omega
   have hin':cP (((ByteArray.mk l.toArray)[k]'(by simpa[ByteArray.size]using hlt)).toNat)=false:=Pe.2 hin;have HI:=N9 hin;try clear hin
   go_wp2_with (go_at_call 201;refine(xF _ _).mono ?_;rintro e w' ⟨rfl,rfl⟩)
   go_ret
   refine⟨?_,rfl⟩;rw[qu l k hk HA.out (fun _=>HI.out)];rfl
  go_wp2_with fail
  go_ret
  refine⟨?_,rfl⟩;rw[qu l k hk HA.out (fun h=>absurd h hlt)];rfl
def bp(l:List UInt8):Bool:=decide (l.length<=32)&&(match l with|[]=>false|c::_=>dG c.toNat)&&l.all fun c=>cP c.toNat
def yW(l:List UInt8):(As l=l.length)↔(l.all fun c=>cP c.toNat)=true:=by
 unfold As
 induction l with
 |nil=>simp
 | cons c l a=>
   rw[List.takeWhile_cons];by_cases h:cP c.toNat=true
   ·rw[Mw h];simp only[NN,Qg,h,Nj];rw[<-a];omega
   rw[Mt h];simp[h]
def JE(l:List UInt8)(hl:l.length<=9223372036854775807)(w:World):
 Calls prog 141 #[.string ⟨l.toArray⟩] w fun e w'=>e= .returned (.bool (bp l))/\w=w':=by
 cases l with
 | nil=>
   go_enter func141,ntmps141
   go_wp2_with fail
   go_ret
   exact⟨rfl,rfl⟩
 | cons c r=>
   generalize hL:c::r=l at*;have hpos:0<l.length:=by rw[<-hL];simp
   have h0:l[0]=c:=by subst hL;rfl
   have hne:l.isEmpty=false:=by rw[<-hL];rfl
   have hN:bp l=(decide (l.length<=32)&&dG c.toNat&&decide ((As l:Int)=l.length)):=by
    subst hL;simp only[bp]
    congr 1
    rw[N4, <-yW];simp only[NF];omega
   have HN:=N9 hN;try clear hN hL
   by_cases h32:l.length<=32
   ·by_cases hc:dG c.toNat=true
    ·have hc':dG (((ByteArray.mk l.toArray)[0]'(by simpa[ByteArray.size]using hpos)).toNat)=true:=by rw[Jw l 0 hpos,h0];exact hc
     have HC:=N9 hc;try clear hc h0
     go_enter func141,ntmps141
     go_wp2_with (first
      |(go_at_call 199;refine(nN _ _).mono ?_;rintro e w' ⟨rfl,rfl⟩)
      |(go_at_call 200;refine(G5 l hl _).mono ?_;rintro e w' ⟨rfl,rfl⟩))
     go_ret
     rw[HN.out];refine⟨?_,rfl⟩;simp[h32,HC.out];rfl
    have hc':dG (((ByteArray.mk l.toArray)[0]'(by simpa[ByteArray.size]using hpos)).toNat)=false:=by rw[Jw l 0 hpos,h0];exact Pe.2 hc
    have HC:=N9 hc;try clear hc h0
    go_enter func141,ntmps141
    go_wp2_with (go_at_call 199;refine(nN _ _).mono ?_;rintro e w' ⟨rfl,rfl⟩)
    go_ret
    rw[HN.out];exact⟨by simp[HC.out],rfl⟩
   go_enter func141,ntmps141
   go_wp2_with fail
   go_ret
   rw[HN.out];exact⟨by simp[h32];try omega,rfl⟩
/-! The document's -/
def dY(env:b8)(c:UInt8):b7 prog env 93 [.lit (.int .u8 (c.toNat:Int))] (B (dG c.toNat)):=by
 refine qf func93 call93 ntmps93 results93 ?_;have i:=c.toNat_lt;generalize c.toNat=n at*;unfold dG;by_cases g:(n:Int)=95
 ·have e:decide ((n:Int)=95\/(97<=(n:Int)/\(n:Int)<=122)\/(65<=(n:Int)/\(n:Int)<=90))=true:=by simp;omega
  rw[e];have g:((n:Int)==95)=true:=by simp;omega
  have F:=g;repeat refine sg ?_
  exact aR
 have a:((n:Int)==95)=false:=by simp;omega
 by_cases b:(97:Int)<=(n:Int)
 ·by_cases h:(n:Int)<=122
  ·have e:decide ((n:Int)=95\/(97<=(n:Int)/\(n:Int)<=122)\/(65<=(n:Int)/\(n:Int)<=90))=true:=by simp;omega
   rw[e];have F:=gb a b h;repeat refine sg ?_
   exact aR
  have e:decide ((n:Int)=95\/(97<=(n:Int)/\(n:Int)<=122)\/(65<=(n:Int)/\(n:Int)<=90))=false:=by simp;omega
  have d:(65:Int)<=(n:Int):=by omega
  have f: ¬(n:Int)<=90:=by omega
  rw[e];have F:=g9 a b h d f;repeat refine sg ?_
  exact aR
 by_cases d:(65:Int)<=(n:Int)
 ·by_cases f:(n:Int)<=90
  ·have e:decide ((n:Int)=95\/(97<=(n:Int)/\(n:Int)<=122)\/(65<=(n:Int)/\(n:Int)<=90))=true:=by simp;omega
   rw[e];have F:=hU a b d f;repeat refine sg ?_
   exact aR
  have e:decide ((n:Int)=95\/(97<=(n:Int)/\(n:Int)<=122)\/(65<=(n:Int)/\(n:Int)<=90))=false:=by simp;omega
  rw[e];have F:=hU a b d f;repeat refine sg ?_
  exact aR
 have e:decide ((n:Int)=95\/(97<=(n:Int)/\(n:Int)<=122)\/(65<=(n:Int)/\(n:Int)<=90))=false:=by simp;omega
 rw[e];have F:=gb a b d;repeat refine sg ?_
 exact aR
def kp(env:b8)(c:UInt8):b7 prog env 94 [.lit (.int .u8 (c.toNat:Int))] (B (ma c.toNat)):=by
 refine qf func94 call94 ntmps94 results94 ?_;generalize c.toNat=n at*;unfold ma;by_cases a:(48:Int)<=(n:Int)
 ·by_cases b:(n:Int)<=57
  ·rw[Ni ⟨a,b⟩];have F:=ai a b;repeat refine sg ?_
   exact aR
  rw[N7 (by omega)];have F:=ai a b;repeat refine sg ?_
  exact aR
 rw[N7 (by omega)];have F:=a;repeat refine sg ?_
 exact aR
def wA{l:List UInt8}{p:UInt8->Bool}{i:Nat}(h:(l.take i).all p=true)(hi:i<l.length)(a:p l[i]=true):(l.take (i+1)).all p=true:=by
 rw[PK hi,QT,h];simp[a]
def MW{l:List UInt8}{p:UInt8->Bool}{i:Nat}(hi:i<l.length)(a:p l[i]=false):l.all p=false:=by
 rw[Pe];intro h;rw[Mz]at h;rw[h _ (Oq hi)]at a;cases a
def fO(env:b8)(l:List UInt8):b7 prog env 52 [Sg l] (B (bp l)):=by
 refine qf func52 call52 ntmps52 results52 ?_;by_cases m:l=[]
 ·subst m;repeat refine Uo ?_
  refine oY (by simp only[go_sem];exact iR) ?_;repeat refine Uo ?_
  (refine aM ?_;show (aj _ _ _).run _=some _;simp only[go_sem])
  rfl
 obtain⟨c,j⟩: ∃c,l[0]? =some c:=⟨l[0]'(O2.2 m),Mq _⟩
 have v:((l.length:Int)==0)=false:=by
  have:=O2.2 m;simp;exact m
 by_cases A:l.length<=32
 ·have o: ¬32< (l.length:Int):=by omega
  by_cases n:dG c.toNat=true
  ·have e:bp l=l.all fun c=>cP c.toNat:=by
    cases l with
    |nil=>exact(m rfl).elim
    | cons d r=>
      simp only[Nr,Ms]at j;subst j;unfold bp;simp only[n,Ni A,Nj]
   have F:=hU v o j n;repeat refine sg ?_
   refine cC (dY env c) ?_;repeat refine sg ?_
   refine oN (by simp only[go_sem,F];exact iR) ?_;repeat refine sg ?_
   refine lq l.length (by omega) (fun i _=>[(0,Sg l),(3,I i)]) (fun _ _=>[]) (fun i _ _=>((l.take i).all fun c=>cP c.toNat)=true) rfl ?_ ?_
   ·rintro i C u b k q y;have s:l[i]? =some l[i]:=Mq b;have a:=fun z=>wA (p:=fun c=>cP c.toNat) y b z;have h:=fun z=>MW (p:=fun c=>cP c.toNat) b z;try simp only at a
    try simp only at h
    generalize l[i]=x at*;by_cases f:dG x.toNat=true
    ·
     have F:=hU k q s f;repeat refine sg ?_
     refine oY (by simp only[go_sem,F];exact iR) ?_;repeat refine sg ?_
     refine cC (dY env x) ?_;repeat refine sg ?_
     refine oN (by simp only[go_sem,F];exact iR) ?_;repeat refine sg ?_
     exact qn (i+1) ⟨b,a (by simp[cP,f])⟩
    have f:dG x.toNat=false:=by simpa using f
    by_cases g:ma x.toNat=true
    ·
     have F:=g9 k q s f g;repeat refine sg ?_
     refine oY (by simp only[go_sem,F];exact iR) ?_;repeat refine sg ?_
     refine cC (dY env x) ?_;repeat refine sg ?_
     refine cC (kp env x) ?_;repeat refine sg ?_
     refine oN (by simp only[go_sem,F];exact iR) ?_;repeat refine sg ?_
     exact qn (i+1) ⟨b,a (by simp[cP,f,g])⟩
    have g:ma x.toNat=false:=by simpa using g
    by_cases t:(x.toNat:Int)=46
    ·have w:((x.toNat:Int) != 46)=false:=by rw[t];rfl
     have F:=i' k q s f g w;repeat refine sg ?_
     refine oY (by simp only[go_sem,F];exact iR) ?_;repeat refine sg ?_
     refine cC (dY env x) ?_;repeat refine sg ?_
     refine cC (kp env x) ?_;repeat refine sg ?_
     refine oN (by simp only[go_sem,F];exact iR) ?_;repeat refine sg ?_
     exact qn (i+1) ⟨b,a (by simp only[cP,f,g,Ni t,Bool.or_true])⟩
    have w:((x.toNat:Int) != 46)=true:=RG.2 t;have F:=i' k q s f g w;repeat refine sg ?_
    refine oY (by simp only[go_sem,F];exact iR) ?_;repeat refine sg ?_
    refine cC (dY env x) ?_;repeat refine sg ?_
    refine cC (kp env x) ?_;repeat refine sg ?_
    refine oY (by simp only[go_sem,F];exact iR) ?_;repeat refine sg ?_
    (refine aM ?_;show (aj _ _ _).run _=some _;simp only[go_sem,F])
    rw[e,h (by simp only[cP,f,g,N7 t,Bool.or_false])]
   rintro C u k y;have F:=k;repeat refine sg ?_
   refine oN (by simp only[go_sem,F];exact iR) ?_;repeat refine sg ?_
   (refine aM ?_;show (aj _ _ _).run _=some _;simp only[go_sem,F])
   rw[e, <-y,Nq (by omega)]
  have n:dG c.toNat=false:=by simpa using n
  have e:bp l=false:=by
   cases l with
   |nil=>exact(m rfl).elim
   | cons d r=>
     simp only[Nr,Ms]at j;subst j;unfold bp;simp only[n,OB,Ng]
  rw[e];have F:=hU v o j n;repeat refine sg ?_
  refine cC (dY env c) ?_;repeat refine sg ?_
  refine oY (by simp only[go_sem,F];exact iR) ?_;repeat refine sg ?_
  exact aR
 have o:32< (l.length:Int):=by omega
 have e:bp l=false:=by
  unfold bp;rw[N7 A];rfl
 rw[e];have F:=gb v o j;repeat refine sg ?_
 refine oY (by simp only[go_sem,F];exact iR) ?_;repeat refine sg ?_
 exact aR
structure l5 where
 kind:Int
 n:Int
 deriving DecidableEq,Inhabited
structure j' where
 kind:Int
 n:Int
 name:List UInt8
 code:List l5
 deriving DecidableEq,Inhabited
structure nr where
 name:List UInt8
 kind:Int
 parent:Int
 initial:Int
 ZW:List j'
 out:List j'
 deriving DecidableEq,Inhabited
structure tR where
 src:Int
 Z8:List UInt8
 guard:List l5
 Z0:List j'
 target:Int
 deriving DecidableEq,Inhabited
structure PJ where
 name:List UInt8
 start:Int
 deriving DecidableEq,Inhabited
structure aq where
 name:List UInt8
 initial:Int
 vars:List PJ
 Z9:List nr
 trans:List tR
 deriving DecidableEq,Inhabited
def bX(x:l5):List AV:=[I x.kind,I x.n]
def UD:=@bX.eq_1
abbrev sw(l:List l5):AV:= .seq 2 (l.map bX)
def bB(x:j'):List AV:=[I x.kind,I x.n,Sg x.name,sw x.code]
def UF:=@bB.eq_1
abbrev jt(l:List j'):AV:= .seq 4 (l.map bB)
def UK:=@jt.eq_1
def aK(x:nr):List AV:=[Sg x.name,I x.kind,I x.parent,I x.initial,jt x.ZW,jt x.out]
def Uw:=@aK.eq_1
abbrev qa(l:List nr):AV:= .seq 6 (l.map aK)
def ax(x:tR):List AV:=[I x.src,Sg x.Z8,sw x.guard,jt x.Z0,I x.target]
def Uy:=@ax.eq_1
abbrev sT(l:List tR):AV:= .seq 5 (l.map ax)
def iK(x:PJ):List AV:=[Sg x.name,I x.start]
def UU:=@iK.eq_1
abbrev pf(l:List PJ):AV:= .seq 2 (l.map iK)
def aA(x:aq):List AV:=[Sg x.name,I x.initial,pf x.vars,qa x.Z9,sT x.trans]
def Uv:=@aA.eq_1
/-! Lists that are no longer than memory is. -/
def r9(_:l5):Prop:=True
def iU(x:j'):Prop:=x.name.length<=maxLen/\(x.code.length<=maxLen/\ ∀y∈x.code,r9 y)
def vn(x:nr):Prop:=x.name.length<=maxLen/\(x.ZW.length<=maxLen/\ ∀y∈x.ZW,iU y)/\(x.out.length<=maxLen/\ ∀y∈x.out,iU y)
def vm(x:tR):Prop:=x.Z8.length<=maxLen/\(x.guard.length<=maxLen/\ ∀y∈x.guard,r9 y)/\(x.Z0.length<=maxLen/\ ∀y∈x.Z0,iU y)
def pS(x:PJ):Prop:=x.name.length<=maxLen
def jN(x:aq):Prop:=x.name.length<=maxLen/\(x.vars.length<=maxLen/\ ∀y∈x.vars,pS y)/\(x.Z9.length<=maxLen/\ ∀y∈x.Z9,vn y)/\(x.trans.length<=maxLen/\ ∀y∈x.trans,vm y)
/-! Expressions -/
def aF(k:Int):Int:=if 1<=k/\k<=4 then 0 else if k=5\/k=6 then 1 else if 7<=k/\k<=19 then 2 else -1
def jv(k:Int): -1<=aF k/\aF k<=2:=by
 unfold aF;repeat' split
 all_goals omega
def nG(o:l5)(vs ss:Int):Bool:=if o.kind=1 then decide (0<=o.n/\o.n<=2147483647) else if o.kind=2 then decide (0<=o.n/\o.n<vs) else if o.kind=4 then decide (0<=o.n/\o.n<ss) else decide (o.n=0)
def cG(vs ss n:Int)(o:l5):Bool:=decide (0<=aF o.kind)&&decide (aF o.kind<=n)&&nG o vs ss
def sm(vs ss:Int):List l5->Int->Option Int
 |[],n=>some n
 |o::l,n=>if cG vs ss n o then sm vs ss l (n-aF o.kind+1) else none
def iY(l:List l5)(vs ss:Int):Int:=if 32<l.length then 8 else if sm vs ss l 0=some 1 then 0 else 1
def br(l:List l5)(vs ss:Int):Bool:=iY l vs ss==0
def ou{vs ss:Int}{l:List l5}{k:Nat}{o:l5}{n:Int}(h:l[k]? =some o)(a:sm vs ss l 0=sm vs ss (l.drop k) n):(cG vs ss n o=true->sm vs ss l 0=sm vs ss (l.drop (k+1)) (n-aF o.kind+1))/\(cG vs ss n o=false->sm vs ss l 0=none):=by
 have b:k<l.length:=(Mr.1 h).1
 have c:l.drop k=o::l.drop (k+1):=by
  rw[Om b]
  congr 1
  rw[Mq b]at h;exact OV h
 rw[c]at a;simp only[sm]at a;exact⟨fun e=>by rw[a,Mw e],fun e=>by rw[a,Mt (by rw[e];simp)]⟩
def tQ{vs ss:Int}{l:List l5}{k:Nat}{n:Int}(h:l.length<=k)(a:sm vs ss l 0=sm vs ss (l.drop k) n):sm vs ss l 0=some n:=by
 rw[a,List.drop_eq_nil_of_le h];rfl
/-! Actions, states -/
def gM(b c:Int)(a:j'):Bool:=
 if a.kind=1 then decide (0<=a.n/\a.n<b)&&(a.name == [])&&br a.code b c
 else if a.kind=2\/a.kind=4 then(a.n==0)&&bp a.name&&br a.code b c
 else if a.kind=3 then(a.n==0)&&(a.name == [])&&br a.code b c
 else if a.kind=5 then(a.n==0)&&bp a.name&&(a.code == [])
 else false
def eS(b a:Int)(l:List j'):Bool:=decide (l.length<=32)&&l.all (gM b a)
def eR(s:nr):Bool:=(s.kind==1)||(s.kind==2)
def aU(s:nr):Bool:=(s.kind==4)||(s.kind==5)
def dM(c:aq)(i:Int)(a:Bool)(k:Nat):Bool:=match c.Z9[k]? with
 |some s=>(s.parent==i)&&(!a|| !aU s)
 |none=>false
def bj(c:aq)(i:Int)(a:Bool)(n:Nat):List Nat:=(List.range n).filter (dM c i a)
def av(c:aq)(i:Int)(a:Bool):List Nat:=bj c i a c.Z9.length
def qt(c:aq)(i:Int)(a:Bool)(k:Nat):bj c i a (k+1)=bj c i a k++if dM c i a k then [k] else []:=by
 unfold bj;rw[PN,N5]
 congr 1
 simp only[Oz,SA]
def dS(c:aq)(i:Int)(a:Bool)(k:Nat):(bj c i a k).length<=k:=by
 have:=NS (dM c i a) (List.range k);simpa[bj]using this
def pz{c:aq}{i:Int}{a:Bool}{k n:Nat}(h:k∈bj c i a n):k<n/\dM c i a k=true:=by
 simpa[bj,ND]using h
def e9(c:aq)(a:List UInt8):Nat->Int
 |0=> -1
 | k+1=>if e9 c a k= -1 then(match c.Z9[k]? with
   |some s=>if s.name=a then(k:Int) else -1
   |none=> -1) else e9 c a k
def wH(c:aq)(a:List UInt8):Int:=e9 c a c.Z9.length
def Aj(c:aq)(a:List UInt8){k:Nat}(h:e9 c a k≠ -1): ∀n,k<=n->e9 c a n=e9 c a k:=by
 intro n d
 induction n with
 | zero=>obtain rfl:k=0:=by omega
         rfl
 | succ n b=>
   by_cases e:k=n+1
   ·rw[e]
   have:=b (by omega);simp only[e9];rw[this,Mt h]
def xX(c:aq)(a:List UInt8){k:Nat}(e:k<c.Z9.length)(f:e9 c a k= -1)(s:nr)(g:c.Z9[k]? =some s)(d:s.name=a):wH c a=k:=by
 have b:e9 c a (k+1)=k:=by
  simp only[e9,Mw f,g,Mw d]
 unfold wH;rw[Aj c a (k:=k+1) (by rw[b];omega) _ e,b]
def rB(c:aq)(a:List UInt8){k:Nat}(d:e9 c a k= -1)(s:nr)(e:c.Z9[k]? =some s)(b:s.name≠a):e9 c a (k+1)= -1:=by
 simp only[e9,Mw d,e,Mt b]
def bF(p:Nat->Bool)(n:Nat):Option Nat:=(List.range n).find? fun k=> !p k
def bK{p:Nat->Bool}{n:Nat}(h: ∀j,j<n->p j=true):bF p n=none:=by
 unfold bF;rw[Pv];intro x a;simp[h x (by simpa using a)]
def dO{p:Nat->Bool}{n k:Nat}(f:k<n)(h: ∀j,j<k->p j=true)(c:p k=false):bF p n=some k:=by
 unfold bF
 have e:List.range n=List.range k++(k::(List.range (n-k-1)).map (k+1+ ·)):=by
  have:n=k+(n-k):=by omega
  rw[this,List.range_add]
  congr 1
  have d:k+(n-k)-k-1+1=n-k:=by omega
  have:n-k=(n-k-1)+1:=by omega
  rw[show k+(n-k)-k-1=n-k-1 by omega,this,List.range_succ_eq_map,Nh,P5];simp only[PY,P6,PZ,true_and];apply O9;intro a _;simp only[Function.comp];omega
 rw[e,List.find?_append];have b:(List.range k).find? (fun k=> !p k)=none:=bK h;rw[b];simp[c]
/-! What is right -/
def at_(c:aq)(i:Int):Option nr:=if 0<=i then c.Z9[i.toNat]? else none
def az(c:aq)(i:Int):Bool:=match at_ c i with
 |some q=>eR q
 |none=>false
def dF(c:aq)(i:Nat)(s:nr):Bool:=(s.parent == -1)||(decide (0<=s.parent)&&decide (s.parent<i)&&az c s.parent)
def UY:=@dF.eq_1
def cw(c:aq)(s:nr):Bool:=match at_ c s.parent with
 |some q=>q.kind==1
 |none=>false
def GS(l:List Nat)(n:Int):Bool:=l.any fun k=>(k:Int)==n
def dK(c:aq)(i:Nat)(s:nr):Bool:=
 if s.kind=1 then(if av c i true=[] then s.initial == -1 else GS (av c i true) s.initial)
 else if s.kind=2 then((av c i true).all fun k=>az c k)&&decide (0< (av c i true).length)&&(s.initial == -1)
 else if s.kind=3 then(av c i false == [])&&((s.parent == -1)||cw c s)&&(s.initial == -1)&&(s.out == [])
 else if s.kind=4\/s.kind=5 then(av c i false == [])&&cw c s&&GS (av c s.parent true) s.initial&&(s.ZW == [])&&(s.out == [])
 else false
def U4:=@dK.eq_1
def cN(c:aq)(i:Nat)(s:nr):Bool:=bp s.name&&(wH c s.name==(i:Int))&&dF c i s&&dK c i s&&eS c.vars.length c.Z9.length s.ZW&&eS c.vars.length c.Z9.length s.out
def U3:=@cN.eq_1
def lw(c:aq)(i:Nat):Bool:=match c.Z9[i]? with
 |some s=>cN c i s
 |none=>false
def newVar(c:aq)(a:List UInt8)(i:Nat):Bool:=(c.vars.take i).all fun x=> !(x.name==a)
def qR(c:aq)(i:Nat)(v:PJ):Bool:=newVar c v.name i&&bp v.name&& !(v.name == [100,97,116,97])&& !(v.name == [105,110])&&decide (-2147483647<=v.start)&&decide (v.start<=2147483647)
def jl(c:aq)(i:Nat):Bool:=match c.vars[i]? with
 |some v=>qR c i v
 |none=>false
def da(c:aq)(t:tR):Bool:=az c t.src&&((t.Z8 == [])||bp t.Z8)&&((t.guard == [])||br t.guard c.vars.length c.Z9.length)&&eS c.vars.length c.Z9.length t.Z0&&((t.target == -1)||(decide (0<=t.target)&&decide (t.target<c.Z9.length)))
def rW(c:aq)(i:Nat):Bool:=match c.trans[i]? with
 |some t=>da c t
 |none=>false
def mi(c:aq):Bool:=match at_ c c.initial with
 |some q=>(q.parent == -1)&&eR q
 |none=>false
def n5(c:aq):Int×Int:=
 if 32<c.Z9.length\/64<c.trans.length\/8<c.vars.length then(8, -1)
 else if c.Z9=[]\/bp c.name=false then(1, -1)
 else match bF (jl c) c.vars.length with
  |some i=>(1,2000+i)
  | none=>match bF (lw c) c.Z9.length with
    |some i=>(1,i)
    | none=>if mi c=false then(1, -1) else match bF (rW c) c.trans.length with
      |some i=>(1,1000+i)
      |none=>(0, -1)
def eC(env:b8)(l:List UInt8)(b:l.length<=9223372036854775807):b7 prog env 141 [Sg l] (B (bp l)):=
 pZ call141 fun w S d f a c=>by
  match d,a with
  | [v],_=>
    obtain rfl:=(c 0 v _ rfl rfl).lit_inv;refine(JE l b w).mono ?_;rintro e g ⟨rfl,rfl⟩;exact⟨rfl,O1 _ _⟩
def aL(n:Int):Bool:=decide (-2147483647<=n)&&decide (n<=2147483647)
def dH(env:b8)(n:Int):b7 prog env 72 [I n] (B (aL n)):=by
 unfold aL;refine qf func72 call72 ntmps72 results72 ?_;by_cases a: -2147483647<=n<;>by_cases b:n<=2147483647<;>
 ·have F:=ai a b;exact ek
def db(env:b8)(n:Int):b7 prog env 15 [I n] (B (aL n)):=by
 unfold aL;refine qf func15 call15 ntmps15 results15 ?_;by_cases a: -2147483647<=n<;>by_cases b:n<=2147483647<;>
 ·have F:=ai a b;exact ek
/-! Expressions' kinds -/
def kl{p:Int->Int->Prop}(g: ∀k:Int,1<=k->k<=4-> ¬k<1-> ¬19<k-> ¬4<k->p k 0)(i:p 5 1)(j:p 6 1)
 (l: ∀k:Int,1<=k-> ¬k<=4->(k==5)=false->(k==6)=false->7<=k->k<=19-> ¬k<1-> ¬19<k-> ¬k<=6->p k 2)
 (m: ∀k:Int,¬1<=k->(k==5)=false->(k==6)=false-> ¬7<=k->k<1->p k (-1))
 (n: ∀k:Int,1<=k-> ¬k<=4->(k==5)=false->(k==6)=false->7<=k-> ¬k<=19-> ¬k<1->19<k->p k (-1))(k:Int):p k (aF k):=by
 have f: ∀a b:Int,a≠b->(a==b)=false:=fun a b h=>by simpa using h
 by_cases a:1<=k
 ·by_cases b:k<=4
  ·rw[show aF k=0 by unfold aF;rw[Mw ⟨a,b⟩]];exact g k a b (by omega) (by omega) (by omega)
  by_cases c:k=5
  ·subst c;exact i
  by_cases d:k=6
  ·subst d;exact j
  by_cases e:k<=19
  ·rw[show aF k=2 by unfold aF;rw[Mt (by omega),Mt (by omega),Mw (by omega)]];exact l k a b (f _ _ c) (f _ _ d) (by omega) e (by omega) (by omega) (by omega)
  rw[show aF k= -1 by unfold aF;rw[Mt (by omega),Mt (by omega),Mt (by omega)]];exact n k a b (f _ _ c) (f _ _ d) (by omega) e (by omega) (by omega)
 rw[show aF k= -1 by unfold aF;rw[Mt (by omega),Mt (by omega),Mt (by omega)]];exact m k a (f _ _ (by omega)) (f _ _ (by omega)) (by omega) (by omega)
def fZ(env:b8)(k:Int):b7 prog env 279 [I k] (I (aF k)):=by
 refine kl (p:=fun k r=>b7 prog env 279 [I k] (I r)) ?_ ?_ ?_ ?_ ?_ ?_ k
 ·intro k a b c d e;refine qf func279 call279 ntmps279 results279 ?_;have F:=g9 a b c d e;exact ek
 ·refine qf func279 call279 ntmps279 results279 ?_;repeat refine m9 ?_
  exact oj
 ·refine qf func279 call279 ntmps279 results279 ?_;repeat refine m9 ?_
  exact oj
 ·intro k a b c d e f g h i;refine qf func279 call279 ntmps279 results279 ?_;have F:=qr a b c d e f g h i;exact ek
 ·intro k a b c d e;refine qf func279 call279 ntmps279 results279 ?_;have F:=g9 a b c d e;exact ek
 intro k a b c d e f g h;refine qf func279 call279 ntmps279 results279 ?_;have F:=n4 a b c d e f g h;exact ek
def dp(env:b8)(k:Int):b7 prog env 219 [I k] (I (aF k)):=by
 refine kl (p:=fun k r=>b7 prog env 219 [I k] (I r)) ?_ ?_ ?_ ?_ ?_ ?_ k
 ·intro k a b c d e;refine qf func219 call219 ntmps219 results219 ?_;have F:=g9 a b c d e;exact ek
 ·refine qf func219 call219 ntmps219 results219 ?_;repeat refine m9 ?_
  exact oj
 ·refine qf func219 call219 ntmps219 results219 ?_;repeat refine m9 ?_
  exact oj
 ·intro k a b c d e f g h i;refine qf func219 call219 ntmps219 results219 ?_;have F:=qr a b c d e f g h i;exact ek
 ·intro k a b c d e;refine qf func219 call219 ntmps219 results219 ?_;have F:=g9 a b c d e;exact ek
 intro k a b c d e f g h;refine qf func219 call219 ntmps219 results219 ?_;have F:=n4 a b c d e f g h;exact ek
def si{p:l5->Bool->Prop}(vs ss:Int)
 (e: ∀n:Int,p ⟨1,n⟩ (decide (0<=n)&&decide (n<=2147483647)))(f: ∀n:Int,p ⟨2,n⟩ (decide (0<=n)&&decide (n<vs)))(g: ∀n:Int,p ⟨4,n⟩ (decide (0<=n)&&decide (n<ss)))
 (h: ∀k n:Int,(k==1)=false->(k==2)=false->(k==4)=false->p ⟨k,n⟩ (decide (n=0)))(o:l5):p o (nG o vs ss):=by
 have d: ∀a b:Int,a≠b->(a==b)=false:=fun a b h=>by simpa using h
 obtain⟨k,n⟩:=o;unfold nG;simp only[SB];by_cases a:k=1
 ·subst a;simpa using e n
 by_cases b:k=2
 ·subst b;simpa using f n
 by_cases c:k=4
 ·subst c;simpa using g n
 rw[Mt a,Mt b,Mt c];exact h k n (d _ _ a) (d _ _ b) (d _ _ c)
def jB(env:b8)(o:l5)(vs ss:Int):b7 prog env 280 [.agg (bX o),I vs,I ss] (B (nG o vs ss)):=by
 refine si (p:=fun o r=>b7 prog env 280 [.agg (bX o),I vs,I ss] (B r)) vs ss (fun n=> ?_) (fun n=> ?_) (fun n=> ?_) (fun k n d e f=> ?_) o
 ·refine qf func280 call280 ntmps280 results280 ?_;by_cases a:0<=n<;>by_cases b:n<=2147483647<;>
  ·have c:(n<2147483648)=(n<=2147483647):=by rw[eq_iff_iff];omega
   have F:=hU UD a b c;exact ek
 ·refine qf func280 call280 ntmps280 results280 ?_;by_cases a:0<=n<;>by_cases b:n<vs<;>
  ·have F:=gb UD a b;exact ek
 ·refine qf func280 call280 ntmps280 results280 ?_;by_cases a:0<=n<;>by_cases b:n<ss<;>
  ·have F:=gb UD a b;exact ek
 refine qf func280 call280 ntmps280 results280 ?_;by_cases a:0<=n<;>by_cases b:n<1<;>
 ·have c:(n=0)=(0<=n/\n<1):=by rw[eq_iff_iff];omega
  have F:=mc UD a b c d e f;exact ek
def iy(env:b8)(o:l5)(vs ss:Int):b7 prog env 220 [.agg (bX o),I vs,I ss] (B (nG o vs ss)):=by
 refine si (p:=fun o r=>b7 prog env 220 [.agg (bX o),I vs,I ss] (B r)) vs ss (fun n=> ?_) (fun n=> ?_) (fun n=> ?_) (fun k n c d e=> ?_) o
 ·refine qf func220 call220 ntmps220 results220 ?_;by_cases a:0<=n<;>by_cases b:n<=2147483647<;>
  ·have F:=gb UD a b;exact ek
 ·refine qf func220 call220 ntmps220 results220 ?_;by_cases a:0<=n<;>by_cases b:n<vs<;>
  ·have F:=gb UD a b;exact ek
 ·refine qf func220 call220 ntmps220 results220 ?_;by_cases a:0<=n<;>by_cases b:n<ss<;>
  ·have F:=gb UD a b;exact ek
 refine qf func220 call220 ntmps220 results220 ?_;have f:decide (n=0)=(n==0):=by rw[N4];simp
 rw[f];have F:=hU UD c d e;exact ek
/-! States' kinds -/
def ju(env:b8)(s:nr):b7 prog env 148 [.agg (aK s)] (B (aU s)):=by
 unfold aU;refine qf func148 call148 ntmps148 results148 ?_;cases a:(s.kind==4)<;>cases b:(s.kind==5)<;>
 ·have F:=gb Uw a b;exact ek
def bu(env:b8)(s:nr):b7 prog env 101 [.agg (aK s)] (B (aU s)):=by
 unfold aU;refine qf func101 call101 ntmps101 results101 ?_;cases a:(s.kind==4)<;>cases b:(s.kind==5)<;>
 ·have F:=gb Uw a b;exact ek
def jC(env:b8)(s:nr):b7 prog env 146 [.agg (aK s)] (B (eR s)):=by
 unfold eR;refine qf func146 call146 ntmps146 results146 ?_;cases a:(s.kind==1)<;>cases b:(s.kind==2)<;>
 ·have F:=gb Uw a b;exact ek
def iz(env:b8)(s:nr):b7 prog env 55 [.agg (aK s)] (B (eR s)):=by
 unfold eR;refine qf func55 call55 ntmps55 results55 ?_;cases a:(s.kind==1)<;>cases b:(s.kind==2)<;>
 ·have F:=gb Uw a b;exact ek
end
section
def Sp{c:Type}{a b:List c}{i:Nat}{x y:c}(h:a.take i=b.take i)(k:a[i]? =some x)(l:b[i]? =some y)(e:x=y):a.take (i+1)=b.take (i+1):=by
 obtain⟨d,f⟩:=Mr.1 k;obtain⟨g,j⟩:=Mr.1 l;rw[PK d,PK g,h,f,j,e]
def wM{c:Type} [DecidableEq c]{a b:List c}{i:Nat}{x y:c}(d:a[i]? =some x)(f:b[i]? =some y)(e:x≠y):(a==b)=false:=by
 rw[Oy];intro h;rw[h,f]at d;exact e (OV d).symm
def BN{c:Type} [DecidableEq c]{a b:List c}{i:Nat}(h:a.take i=b.take i)(d:a.length<=i)(e:b.length<=i):(a==b)=true:=by
 rw[Nq d,Nq e]at h;simpa using h
def aS{a:Type}{l:List a}{i:Nat}(h:i<l.length): ∃x,l[i]? =some x/\x∈l:=⟨l[i],Mq h,Oq h⟩
end
end Go.Proofs.YtfhkmjbjafeckaaGreatDoor
