/- Lists that are the same: plain. No program is named here. -/
import Derived.Test.YtknkhdgfhbogdaaGreatDoorP5
set_option maxRecDepth 100000
set_option maxHeartbeats 1000000
set_option linter.unusedSimpArgs false
set_option linter.defProp false
namespace Go.Proofs.YtknkhdgfhbogdaaGreatDoor
open Go.Proofs.Tryz
section
open Go.RowKit
def jC:(∀a b:Int,(a != b)= !(a==b))/\(∀a b:Nat,(a != b)= !(a==b))/\(∀a b:List UInt8,(a != b)= !(a==b))/\(∀a b:Bool,(a != b)= !(a==b)):=⟨fun _ _=>rfl,fun _ _=>rfl,fun _ _=>rfl,fun _ _=>rfl⟩
def m8{p q:Prop}(k:q)(h:q->p:=by
 intro k;first
 |refine oO rfl (by simp only[go_sem];exact⟨rfl,rfl⟩) ?_
 |refine gR ?_
 |refine gO ?_
 |refine oZ (kP ?_)
 |refine oZ ?_
 |refine oS ?_
 |refine gT ?_
 |refine gD mixed ?_
 |refine oB ?_
 |refine oK ?_
 |(refine oX ?_;simp only[bB,ba, ↓reduceIte,Nat.reduceEqDiff,reduceCtorEq])
 |refine oY (by simp only[go_sem];exact iR) ?_
 |refine oN (by simp only[go_sem];exact iR) ?_
 exact k):p:=h k
def st{p q:Prop}(k:q)(h:q->p:=by
 intro k;first
 |refine oO rfl (by simp only[go_sem,F];exact⟨rfl,rfl⟩) ?_
 |refine gR ?_
 |refine gO ?_
 |refine oZ (kP ?_)
 |refine oZ ?_
 |refine oS ?_
 |refine gT ?_
 |refine gD mixed ?_
 |refine oB ?_
 |refine oK ?_
 |(refine oX ?_;simp only[bB,ba, ↓reduceIte,Nat.reduceEqDiff,reduceCtorEq])
 |refine oY (by simp only[go_sem,F];exact iR) ?_
 |refine oN (by simp only[go_sem,F];exact iR) ?_
 exact k):p:=h k
def SK{p q:Prop}(k:q)(h:q->p:=by
 intro k;first
 |refine oO rfl (by simp only[go_sem];exact⟨rfl,rfl⟩) ?_
 |refine gR ?_
 |refine gO ?_
 |refine oZ (kP ?_)
 |refine oZ ?_
 |refine oS ?_
 |refine gT ?_
 |refine gD mixed ?_
 |refine oB ?_
 |refine oK ?_
 |(refine oX ?_;simp only[bB,ba, ↓reduceIte,Nat.reduceEqDiff,reduceCtorEq])
 exact k):p:=h k
def sg{p q:Prop}(k:q)(h:q->p:=by
 intro k;first
 |refine oO rfl (by simp only[go_sem,F];exact⟨rfl,rfl⟩) ?_
 |refine gR ?_
 |refine gO ?_
 |refine oZ (kP ?_)
 |refine oZ ?_
 |refine oS ?_
 |refine gT ?_
 |refine gD mixed ?_
 |refine oB ?_
 |refine oK ?_
 |(refine oX ?_;simp only[bB,ba, ↓reduceIte,Nat.reduceEqDiff,reduceCtorEq])
 exact k):p:=h k
section
variable {P:Program} {env:b6} {nt:Nat} {Q:Exit->St->Prop} {s:St}
theorem Rj{o:Oper}{f:FuncId}{args:List AV}{rest:List IS}{s1:St}{ft:fl}{cs:List AV}{res:AV}{K:St->List fl->Prop}(hcon:b7 P env f cs res)(k:i9 P env rest s1 fun s2 fts=>K s2 (ft::fts))(hc:bK env s.f o=some (f,args):=by exact rfl)
 (ha:IT (kf args) s cs:=by simp only[go_sem];exact iR)(h:um (KK (dx false o.dst args res) s [] []) s o.dst s1 ft:=by simp only[go_sem];exact⟨rfl,rfl⟩):i9 P env (⟨o, .always⟩::rest) s K:=oC hc hcon ha h k
theorem cC{o:Oper}{f:FuncId}{args:List AV}{rest:List IS}{s1:St}{ft:fl}{cs:List AV}{res:AV}{K:St->List fl->Prop}(hcon:b7 P env f cs res)(k:i9 P env rest s1 fun s2 fts=>K s2 (ft::fts))(hc:bK env s.f o=some (f,args):=by exact rfl)
 (ha:IT (kf args) s cs:=by simp only[go_sem,F];exact iR)(h:um (KK (dx false o.dst args res) s [] []) s o.dst s1 ft:=by simp only[go_sem,F];exact⟨rfl,rfl⟩):i9 P env (⟨o, .always⟩::rest) s K:=oC hc hcon ha h k
theorem lL{o:Oper}{f:FuncId}{args:List AV}{rest:List IS}{s1:St}{ft:fl}{cs:List AV}{res:AV}{K:St->List fl->Prop}(hcon:P' P env f cs res)(k:i9 P env rest s1 fun s2 fts=>K s2 (ft::fts))(hc:bK env s.f o=some (f,args):=by exact rfl)
 (ha:IT (kf args) s cs:=by simp only[go_sem,F];exact iR)(h:um (KK (dx true o.dst args res) s [] []) s o.dst s1 ft:=by simp only[go_sem,F];exact⟨rfl,rfl⟩):i9 P env (⟨o, .always⟩::rest) s K:=oL hc hcon ha h k
theorem p'(h:Q .ret s:=by show (ag _ _ _).run _=some _;simp only[go_sem]):fk P env nt .ret Q s:=aM h
theorem aR(h:Q .ret s:=by show (ag _ _ _).run _=some _;simp only[go_sem,F]):fk P env nt .ret Q s:=aM h
theorem Si{D:Type}{c:Code}(A:D->(Nat->Nat)->List (Nat×AV))(R:D->(Nat->Nat)->List (Nat×Row))(inv:D->(Nat->Nat)->(Nat->Bool)->Prop)(μ:D->Nat)(d0:D)(h0:inv d0 s.vs s.esc)
 (round: ∀d vs esc,inv d vs esc->fk P env nt c (bB (fun s1=> ∃d',inv d' s1.vs s1.esc/\cP s1 (A d' s1.vs)/\bp s1 (R d' s1.vs)/\μ d'<μ d) Q) (head (A d vs) (R d vs) vs esc))
 (hF:cP s (A d0 s.vs):=by first|(simp only[go_sem];done)|(simp only[go_sem];rfl))(hR:bp s (R d0 s.vs):=by first|(simp only[go_sem];done)|(simp only[go_sem];rfl)):fk P env nt (.loop c) Q s:=aG A R inv μ d0 h0 hF hR round
theorem lp{D:Type}{c:Code}(A:D->(Nat->Nat)->List (Nat×AV))(R:D->(Nat->Nat)->List (Nat×Row))(inv:D->(Nat->Nat)->(Nat->Bool)->Prop)(μ:D->Nat)(d0:D)(h0:inv d0 s.vs s.esc)
 (round: ∀d vs esc,inv d vs esc->fk P env nt c (bB (fun s1=> ∃d',inv d' s1.vs s1.esc/\cP s1 (A d' s1.vs)/\bp s1 (R d' s1.vs)/\μ d'<μ d) Q) (head (A d vs) (R d vs) vs esc))
 (hF:cP s (A d0 s.vs):=by first|(simp only[go_sem,F];done)|(simp only[go_sem,F];rfl))(hR:bp s (R d0 s.vs):=by first|(simp only[go_sem,F];done)|(simp only[go_sem,F];rfl)):fk P env nt (.loop c) Q s:=aG A R inv μ d0 h0 hF hR round
theorem qn{D:Type}{p q r m:D->Prop}(d:D)(h:p d)(hq:q d:=by first|(simp only[go_sem,F];done)|(simp only[go_sem,F];rfl))(hr:r d:=by first|(simp only[go_sem,F];done)|(simp only[go_sem,F];rfl))(hm:m d:=by first|omega|(simp;omega)): ∃d,p d/\q d/\r d/\m d:=⟨d,h,hq,hr,hm⟩
theorem PA{c:Code}(N:Nat)(hN:N<=9223372036854775807)(A:Nat->(Nat->Nat)->List (Nat×AV))(R:Nat->(Nat->Nat)->List (Nat×Row))(inv:Nat->(Nat->Nat)->(Nat->Bool)->Prop)(h0:inv 0 s.vs s.esc)
 (step: ∀j vs esc,j<N->(j:Int)< (N:Int)->IntKind.i64.wrap ((j:Int)+1)=((j+1:Nat):Int)->inv j vs esc->fk P env nt c (bB (fun s1=> ∃d',(d'<=N/\inv d' s1.vs s1.esc)/\cP s1 (A d' s1.vs)/\bp s1 (R d' s1.vs)/\N-d'<N-j) Q) (head (A j vs) (R j vs) vs esc))
 (stop: ∀vs esc,¬(N:Int)< (N:Int)->inv N vs esc->fk P env nt c (bB (fun s1=> ∃d',(d'<=N/\inv d' s1.vs s1.esc)/\cP s1 (A d' s1.vs)/\bp s1 (R d' s1.vs)/\N-d'<N-N) Q) (head (A N vs) (R N vs) vs esc))
 (hF:cP s (A 0 s.vs):=by first|(simp only[go_sem];done)|(simp only[go_sem];rfl))(hR:bp s (R 0 s.vs):=by first|(simp only[go_sem];done)|(simp only[go_sem];rfl)):fk P env nt (.loop c) Q s:=
 aG A R (fun j vs esc=>j<=N/\inv j vs esc) (fun j=>N-j) 0 ⟨Lx _,h0⟩ hF hR fun j vs esc hj=>by
  by_cases h:j<N
  ·exact step j vs esc h (h9 h) (aD h hN) hj.2
  obtain rfl:j=N:=by omega
  exact stop vs esc (by omega) hj.2
theorem lq{c:Code}(N:Nat)(hN:N<=9223372036854775807)(A:Nat->(Nat->Nat)->List (Nat×AV))(R:Nat->(Nat->Nat)->List (Nat×Row))(inv:Nat->(Nat->Nat)->(Nat->Bool)->Prop)(h0:inv 0 s.vs s.esc)
 (step: ∀j vs esc,j<N->(j:Int)< (N:Int)->IntKind.i64.wrap ((j:Int)+1)=((j+1:Nat):Int)->inv j vs esc->fk P env nt c (bB (fun s1=> ∃d',(d'<=N/\inv d' s1.vs s1.esc)/\cP s1 (A d' s1.vs)/\bp s1 (R d' s1.vs)/\N-d'<N-j) Q) (head (A j vs) (R j vs) vs esc))
 (stop: ∀vs esc,¬(N:Int)< (N:Int)->inv N vs esc->fk P env nt c (bB (fun s1=> ∃d',(d'<=N/\inv d' s1.vs s1.esc)/\cP s1 (A d' s1.vs)/\bp s1 (R d' s1.vs)/\N-d'<N-N) Q) (head (A N vs) (R N vs) vs esc))
 (hF:cP s (A 0 s.vs):=by first|(simp only[go_sem,F];done)|(simp only[go_sem,F];rfl))(hR:bp s (R 0 s.vs):=by first|(simp only[go_sem,F];done)|(simp only[go_sem,F];rfl)):fk P env nt (.loop c) Q s:=
 aG A R (fun j vs esc=>j<=N/\inv j vs esc) (fun j=>N-j) 0 ⟨Lx _,h0⟩ hF hR fun j vs esc hj=>by
  by_cases h:j<N
  ·exact step j vs esc h (h9 h) (aD h hN) hj.2
  obtain rfl:j=N:=by omega
  exact stop vs esc (by omega) hj.2
theorem qf{f:FuncId}{fn:Func}{c:Code}{n:Nat}{rs:Array ResultVar}{cs:List AV}{res:AV}(hf:P.funcs[f]? =some fn)(hc: ∀(args:Array Value)(w:World),(callFunc f args).run P w= .ok (.enter f args) w)(hn:fn.ntmps=n)(hr:fn.results=rs)(h:fk P env n c (LZ P rs.toList res) (St.init cs))(hb:fn.body=some c:=by exact rfl)(hl:cs.length<=n:=by simp):b7 P env f cs res:=ke hf hb hc (by rw[hn];exact hl) (by rw[hn,hr];exact h)
theorem qw{f:FuncId}{fn:Func}{c:Code}{n:Nat}{rs:Array ResultVar}{cs:List AV}{res:AV}(hf:P.funcs[f]? =some fn)(hc: ∀(args:Array Value)(w:World),(callFunc f args).run P w= .ok (.enter f args) w)(hn:fn.ntmps=n)(hr:fn.results=rs)(h:fk P env n c (KS P rs.toList res) (St.init cs))(hb:fn.body=some c:=by exact rfl)(hl:cs.length<=n:=by simp):b7 P env f cs res:=mI hf hb hc (by rw[hn];exact hl) (by rw[hn,hr];exact h)
theorem jL{α1 p q:Prop}(c1:α1)(k:q)(h:α1->q->p:=by
 intro c1 k;first
 |(refine m8 ?_;exact k)
 |(refine Rj c1 ?_;exact k)):p:=h c1 k
theorem zy{α1 α2 p q:Prop}(c1:α1)(c2:α2)(k:q)(h:α1->α2->q->p:=by
 intro c1 c2 k;first
 |(refine m8 ?_;exact k)
 |(refine Rj c1 ?_;exact k)
 |(refine Rj c2 ?_;exact k)):p:=h c1 c2 k
theorem HF{α1 α2 α3 p q:Prop}(c1:α1)(c2:α2)(c3:α3)(k:q)(h:α1->α2->α3->q->p:=by
 intro c1 c2 c3 k;first
 |(refine m8 ?_;exact k)
 |(refine Rj c1 ?_;exact k)
 |(refine Rj c2 ?_;exact k)
 |(refine Rj c3 ?_;exact k)):p:=h c1 c2 c3 k
theorem LH{α1 α2 α3 α4 α5 α6 p q:Prop}(c1:α1)(c2:α2)(c3:α3)(c4:α4)(c5:α5)(c6:α6)(k:q)(h:α1->α2->α3->α4->α5->α6->q->p:=by
 intro c1 c2 c3 c4 c5 c6 k;first
 |(refine m8 ?_;exact k)
 |(refine Rj c1 ?_;exact k)
 |(refine Rj c2 ?_;exact k)
 |(refine Rj c3 ?_;exact k)
 |(refine Rj c4 ?_;exact k)
 |(refine Rj c5 ?_;exact k)
 |(refine Rj c6 ?_;exact k)):p:=h c1 c2 c3 c4 c5 c6 k
theorem ef{α1 p q:Prop}(c1:α1)(k:q)(h:α1->q->p:=by
 intro c1 k;first
 |(refine st ?_;exact k)
 |(refine cC c1 ?_;exact k)):p:=h c1 k
theorem vb{α1 α2 p q:Prop}(c1:α1)(c2:α2)(k:q)(h:α1->α2->q->p:=by
 intro c1 c2 k;first
 |(refine st ?_;exact k)
 |(refine cC c1 ?_;exact k)
 |(refine cC c2 ?_;exact k)):p:=h c1 c2 k
theorem Qs{α1 α2 α3 p q:Prop}(c1:α1)(c2:α2)(c3:α3)(k:q)(h:α1->α2->α3->q->p:=by
 intro c1 c2 c3 k;first
 |(refine st ?_;exact k)
 |(refine cC c1 ?_;exact k)
 |(refine cC c2 ?_;exact k)
 |(refine cC c3 ?_;exact k)):p:=h c1 c2 c3 k
theorem SP{α1 α2 α3 α4 p q:Prop}(c1:α1)(c2:α2)(c3:α3)(c4:α4)(k:q)(h:α1->α2->α3->α4->q->p:=by
 intro c1 c2 c3 c4 k;first
 |(refine st ?_;exact k)
 |(refine cC c1 ?_;exact k)
 |(refine cC c2 ?_;exact k)
 |(refine cC c3 ?_;exact k)
 |(refine cC c4 ?_;exact k)):p:=h c1 c2 c3 c4 k
theorem SQ{α1 α2 α3 α4 α5 α6 p q:Prop}(c1:α1)(c2:α2)(c3:α3)(c4:α4)(c5:α5)(c6:α6)(k:q)(h:α1->α2->α3->α4->α5->α6->q->p:=by
 intro c1 c2 c3 c4 c5 c6 k;first
 |(refine st ?_;exact k)
 |(refine cC c1 ?_;exact k)
 |(refine cC c2 ?_;exact k)
 |(refine cC c3 ?_;exact k)
 |(refine cC c4 ?_;exact k)
 |(refine cC c5 ?_;exact k)
 |(refine cC c6 ?_;exact k)):p:=h c1 c2 c3 c4 c5 c6 k
theorem sp{p q r:Prop}(k:q)(l:r)(h:q->r->p:=by
 intro k l;first
 |exact uV (by simp only[go_sem,F];rfl) k l
 |exact Eg (by simp only[go_sem,F];rfl) k l):p:=h k l
theorem dT{p:Prop}(h:p:=by
 repeat' first
 |refine st ?_
 |exact aR
 |(refine sp ?_ ?_<;>(intro hB;first|exact absurd hB (by decide)|((try simp only[Mo,Ng,N7,NI,Lt,Me]at hB);have F:=And.intro hB F)))):p:=h
theorem g9{α1 p:Prop}(c1:α1)(h:α1->p:=by
 intro c1;repeat' first
 |refine st ?_
 |refine cC c1 ?_
 |exact aR
 |(refine sp ?_ ?_<;>(intro hB;first|exact absurd hB (by decide)|((try simp only[Mo,Ng,N7,NI,Lt,Me]at hB);have F:=And.intro hB F)))):p:=h c1
theorem m5{α1 α2 p:Prop}(c1:α1)(c2:α2)(h:α1->α2->p:=by
 intro c1 c2;repeat' first
 |refine st ?_
 |refine cC c1 ?_
 |refine cC c2 ?_
 |exact aR
 |(refine sp ?_ ?_<;>(intro hB;first|exact absurd hB (by decide)|((try simp only[Mo,Ng,N7,NI,Lt,Me]at hB);have F:=And.intro hB F)))):p:=h c1 c2
theorem x5{α1 α2 α3 p:Prop}(c1:α1)(c2:α2)(c3:α3)(h:α1->α2->α3->p:=by
 intro c1 c2 c3;repeat' first
 |refine st ?_
 |refine cC c1 ?_
 |refine cC c2 ?_
 |refine cC c3 ?_
 |exact aR
 |(refine sp ?_ ?_<;>(intro hB;first|exact absurd hB (by decide)|((try simp only[Mo,Ng,N7,NI,Lt,Me]at hB);have F:=And.intro hB F)))):p:=h c1 c2 c3
theorem RG{α1 α2 α3 α4 p:Prop}(c1:α1)(c2:α2)(c3:α3)(c4:α4)(h:α1->α2->α3->α4->p:=by
 intro c1 c2 c3 c4;repeat' first
 |refine st ?_
 |refine cC c1 ?_
 |refine cC c2 ?_
 |refine cC c3 ?_
 |refine cC c4 ?_
 |exact aR
 |(refine sp ?_ ?_<;>(intro hB;first|exact absurd hB (by decide)|((try simp only[Mo,Ng,N7,NI,Lt,Me]at hB);have F:=And.intro hB F)))):p:=h c1 c2 c3 c4
theorem SA{α1 α2 α3 α4 α5 p:Prop}(c1:α1)(c2:α2)(c3:α3)(c4:α4)(c5:α5)(h:α1->α2->α3->α4->α5->p:=by
 intro c1 c2 c3 c4 c5;repeat' first
 |refine st ?_
 |refine cC c1 ?_
 |refine cC c2 ?_
 |refine cC c3 ?_
 |refine cC c4 ?_
 |refine cC c5 ?_
 |exact aR
 |(refine sp ?_ ?_<;>(intro hB;first|exact absurd hB (by decide)|((try simp only[Mo,Ng,N7,NI,Lt,Me]at hB);have F:=And.intro hB F)))):p:=h c1 c2 c3 c4 c5
theorem Sn{α1 α2 α3 α4 α5 α6 p:Prop}(c1:α1)(c2:α2)(c3:α3)(c4:α4)(c5:α5)(c6:α6)(h:α1->α2->α3->α4->α5->α6->p:=by
 intro c1 c2 c3 c4 c5 c6;repeat' first
 |refine st ?_
 |refine cC c1 ?_
 |refine cC c2 ?_
 |refine cC c3 ?_
 |refine cC c4 ?_
 |refine cC c5 ?_
 |refine cC c6 ?_
 |exact aR
 |(refine sp ?_ ?_<;>(intro hB;first|exact absurd hB (by decide)|((try simp only[Mo,Ng,N7,NI,Lt,Me]at hB);have F:=And.intro hB F)))):p:=h c1 c2 c3 c4 c5 c6
theorem SO{α1 α2 α3 α4 α5 α6 α7 α8 α9 p:Prop}(c1:α1)(c2:α2)(c3:α3)(c4:α4)(c5:α5)(c6:α6)(c7:α7)(c8:α8)(c9:α9)(h:α1->α2->α3->α4->α5->α6->α7->α8->α9->p:=by
 intro c1 c2 c3 c4 c5 c6 c7 c8 c9;repeat' first
 |refine st ?_
 |refine cC c1 ?_
 |refine cC c2 ?_
 |refine cC c3 ?_
 |refine cC c4 ?_
 |refine cC c5 ?_
 |refine cC c6 ?_
 |refine cC c7 ?_
 |refine cC c8 ?_
 |refine cC c9 ?_
 |exact aR
 |(refine sp ?_ ?_<;>(intro hB;first|exact absurd hB (by decide)|((try simp only[Mo,Ng,N7,NI,Lt,Me]at hB);have F:=And.intro hB F)))):p:=h c1 c2 c3 c4 c5 c6 c7 c8 c9
theorem Lb{α1 α2 α3 α4 α5 α6 α7 α8 α9 α10 p:Prop}(c1:α1)(c2:α2)(c3:α3)(c4:α4)(c5:α5)(c6:α6)(c7:α7)(c8:α8)(c9:α9)(c10:α10)(h:α1->α2->α3->α4->α5->α6->α7->α8->α9->α10->p:=by
 intro c1 c2 c3 c4 c5 c6 c7 c8 c9 c10;repeat' first
 |refine st ?_
 |refine cC c1 ?_
 |refine cC c2 ?_
 |refine cC c3 ?_
 |refine cC c4 ?_
 |refine cC c5 ?_
 |refine cC c6 ?_
 |refine cC c7 ?_
 |refine cC c8 ?_
 |refine cC c9 ?_
 |refine cC c10 ?_
 |exact aR
 |(refine sp ?_ ?_<;>(intro hB;first|exact absurd hB (by decide)|((try simp only[Mo,Ng,N7,NI,Lt,Me]at hB);have F:=And.intro hB F)))):p:=h c1 c2 c3 c4 c5 c6 c7 c8 c9 c10
theorem L4{α1 α2 α3 α4 α5 α6 α7 α8 α9 α10 α11 α12 α13 p:Prop}(c1:α1)(c2:α2)(c3:α3)(c4:α4)(c5:α5)(c6:α6)(c7:α7)(c8:α8)(c9:α9)(c10:α10)(c11:α11)(c12:α12)(c13:α13)(h:α1->α2->α3->α4->α5->α6->α7->α8->α9->α10->α11->α12->α13->p:=by
 intro c1 c2 c3 c4 c5 c6 c7 c8 c9 c10 c11 c12 c13;repeat' first
 |refine st ?_
 |refine cC c1 ?_
 |refine cC c2 ?_
 |refine cC c3 ?_
 |refine cC c4 ?_
 |refine cC c5 ?_
 |refine cC c6 ?_
 |refine cC c7 ?_
 |refine cC c8 ?_
 |refine cC c9 ?_
 |refine cC c10 ?_
 |refine cC c11 ?_
 |refine cC c12 ?_
 |refine cC c13 ?_
 |exact aR
 |(refine sp ?_ ?_<;>(intro hB;first|exact absurd hB (by decide)|((try simp only[Mo,Ng,N7,NI,Lt,Me]at hB);have F:=And.intro hB F)))):p:=h c1 c2 c3 c4 c5 c6 c7 c8 c9 c10 c11 c12 c13
theorem Sp{p:Prop}(h:p:=by simp only[go_sem]):p:=h
theorem qe{p:Prop}(h:p:=by simp only[go_sem,F]):p:=h
end
end
section
open Go.RowKit
def dC(c:Int):Bool:=decide (c=95\/(97<=c/\c<=122)\/(65<=c/\c<=90))
def mH(c:Int):Bool:=decide (48<=c/\c<=57)
def cL(c:Int):Bool:=dC c||mH c||decide (c=46)
def mf(c:Int)(w:World):Calls prog 153 #[.int .u8 c] w fun e w'=>e= .returned (.bool (dC c))/\w=w':=by
 by_cases h1:c=95
 ·subst h1
  go_enter func153,ntmps153
  go_wp2
  go_ret
  exact⟨rfl,rfl⟩
 have e1:(c==95)=false:=by simp[h1]
 by_cases h2:97<=c<;>by_cases h3:c<=122<;>by_cases h4:65<=c<;>by_cases h5:c<=90
 all_goals first
  |(exfalso;omega)
  |(go_enter func153,ntmps153
    go_wp2
    go_ret
    exact⟨by simp[dC];omega,rfl⟩)
def Gc(c:Int)(w:World):Calls prog 208 #[.int .u8 c] w fun e w'=>e= .returned (.bool (mH c))/\w=w':=by
 by_cases h2:48<=c
 all_goals
  go_enter func208,ntmps208
  go_wp2
  go_ret
  exact⟨by simp[mH];try omega,rfl⟩
def vx(c:Int)(w:World):Calls prog 155 #[.int .u8 c] w fun e w'=>e= .returned (.bool (cL c))/\w=w':=by
 by_cases h1:dC c<;>by_cases h2:mH c
 all_goals
  go_enter func155,ntmps155
  go_wp2_with (first
   |(go_at_call 153;refine(mf _ _).mono ?_;rintro e w' ⟨rfl,rfl⟩)
   |(go_at_call 208;refine(Gc _ _).mono ?_;rintro e w' ⟨rfl,rfl⟩))
  go_ret
  exact⟨by simp[cL,h1,h2]<;>rfl,rfl⟩
def wk(l:List UInt8):Nat:=(l.takeWhile fun c=>cL c.toNat).length
def qE(l:List UInt8)(k:Nat)(d:k<=l.length)(a: ∀j (h:j<l.length),j<k->cL l[j].toNat=true)(b: ∀h:k<l.length,¬cL l[k].toNat=true):wk l=k:=by
 unfold wk
 induction l generalizing k with
 |nil=>simp at d |-;omega
 | cons c l e=>
   rw[List.takeWhile_cons];cases k with
   | zero=>
     rw[Lf (show ¬cL c.toNat=true from b (by simp))];rfl
   | succ k=>
     rw[Lj (show cL c.toNat=true from a 0 (by simp) (by omega))];simp only[MB]at d |-;rw[e k (by omega) (fun j h f=>a (j+1) (by simpa using h) (by omega)) (fun h=>b (by simpa using h))]
def FN(l:List UInt8)(hl:l.length<=9223372036854775807)(w:World):
 Calls prog 154 #[.string ⟨l.toArray⟩, .int .i64 0, .func (.func 155) #[] #[]] w fun e w'=>e= .returned (.int .i64 (wk l))/\w=w':=by
 go_enter func154,ntmps154
 go_wp2_with fail
 go_loop [1] (fun i=> ∃k:Nat,k<=l.length/\i= .int .i64 k/\ ∀j (h:j<l.length),j<k->cL l[j].toNat=true) (fun i=>l.length-(intOf i).toNat)
 case atStart=>exact⟨0,by omega,rfl,fun j _ h=>by omega⟩
 case round=>
  obtain⟨k,hk,rfl,hall⟩:=hrel;have HA:=QU hall;try clear hall
  by_cases hlt:k<l.length
  ·by_cases hin:cL l[k].toNat=true
   ·have hin':cL (((ByteArray.mk l.toArray)[k]'(by simpa[ByteArray.size]using hlt)).toNat)=true:=hin;have HI:=QU hin;try clear hin
    go_wp2_with (go_at_call 155;refine(vx _ _).mono ?_;rintro e w' ⟨rfl,rfl⟩)
    go_round
    case rel=>
     refine⟨k+1,by omega,by go_num,fun j h hj=> ?_⟩;rcases OO j k with h' | h'
     ·exact HA.out j h h'
     obtain rfl:j=k:=by omega
     exact HI.out
    case measure=>simp[intOf];omega
   have hin':cL (((ByteArray.mk l.toArray)[k]'(by simpa[ByteArray.size]using hlt)).toNat)=false:=OL.2 hin;have HI:=QU hin;try clear hin
   go_wp2_with (go_at_call 155;refine(vx _ _).mono ?_;rintro e w' ⟨rfl,rfl⟩)
   go_ret
   refine⟨?_,rfl⟩;rw[qE l k hk HA.out (fun _=>HI.out)];rfl
  go_wp2_with fail
  go_ret
  refine⟨?_,rfl⟩;rw[qE l k hk HA.out (fun h=>absurd h hlt)];rfl
def bl(l:List UInt8):Bool:=decide (l.length<=32)&&(match l with|[]=>false|c::_=>dC c.toNat)&&l.all fun c=>cL c.toNat
def xU(l:List UInt8):(wk l=l.length)↔(l.all fun c=>cL c.toNat)=true:=by
 unfold wk
 induction l with
 |nil=>simp
 | cons c l a=>
   rw[List.takeWhile_cons];by_cases h:cL c.toNat=true
   ·rw[Lj h];simp only[MB,PR,h,M5];rw[<-a];omega
   rw[Lf h];simp[h]
def Hj(l:List UInt8)(hl:l.length<=9223372036854775807)(w:World):
 Calls prog 100 #[.string ⟨l.toArray⟩] w fun e w'=>e= .returned (.bool (bl l))/\w=w':=by
 cases l with
 | nil=>
   go_enter func100,ntmps100
   go_wp2_with fail
   go_ret
   exact⟨rfl,rfl⟩
 | cons c r=>
   generalize hL:c::r=l at*;have hpos:0<l.length:=by rw[<-hL];simp
   have h0:l[0]=c:=by subst hL;rfl
   have hne:l.isEmpty=false:=by rw[<-hL];rfl
   have hN:bl l=(decide (l.length<=32)&&dC c.toNat&&decide ((wk l:Int)=l.length)):=by
    subst hL;simp only[bl]
    congr 1
    rw[MP, <-xU];simp only[Lt];omega
   have HN:=QU hN;try clear hN hL
   by_cases h32:l.length<=32
   ·by_cases hc:dC c.toNat=true
    ·have hc':dC (((ByteArray.mk l.toArray)[0]'(by simpa[ByteArray.size]using hpos)).toNat)=true:=by rw[Im l 0 hpos,h0];exact hc
     have HC:=QU hc;try clear hc h0
     go_enter func100,ntmps100
     go_wp2_with (first
      |(go_at_call 153;refine(mf _ _).mono ?_;rintro e w' ⟨rfl,rfl⟩)
      |(go_at_call 154;refine(FN l hl _).mono ?_;rintro e w' ⟨rfl,rfl⟩))
     go_ret
     rw[HN.out];refine⟨?_,rfl⟩;simp[h32,HC.out];rfl
    have hc':dC (((ByteArray.mk l.toArray)[0]'(by simpa[ByteArray.size]using hpos)).toNat)=false:=by rw[Im l 0 hpos,h0];exact OL.2 hc
    have HC:=QU hc;try clear hc h0
    go_enter func100,ntmps100
    go_wp2_with (go_at_call 153;refine(mf _ _).mono ?_;rintro e w' ⟨rfl,rfl⟩)
    go_ret
    rw[HN.out];exact⟨by simp[HC.out],rfl⟩
   go_enter func100,ntmps100
   go_wp2_with fail
   go_ret
   rw[HN.out];exact⟨by simp[h32];try omega,rfl⟩
/-! The document's -/
def dS(env:b6)(c:UInt8):b7 prog env 70 [.lit (.int .u8 (c.toNat:Int))] (B (dC c.toNat)):=by
 refine qf func70 call70 ntmps70 results70 ?_;have i:=c.toNat_lt;generalize c.toNat=n at*;unfold dC;by_cases g:(n:Int)=95
 ·have e:decide ((n:Int)=95\/(97<=(n:Int)/\(n:Int)<=122)\/(65<=(n:Int)/\(n:Int)<=90))=true:=by simp;omega
  rw[e];have g:((n:Int)==95)=true:=by simp;omega
  have F:=g;repeat refine sg ?_
  exact aR
 have a:((n:Int)==95)=false:=by simp;omega
 by_cases b:(97:Int)<=(n:Int)
 ·by_cases h:(n:Int)<=122
  ·have e:decide ((n:Int)=95\/(97<=(n:Int)/\(n:Int)<=122)\/(65<=(n:Int)/\(n:Int)<=90))=true:=by simp;omega
   rw[e];have F:=fI a b h;repeat refine sg ?_
   exact aR
  have e:decide ((n:Int)=95\/(97<=(n:Int)/\(n:Int)<=122)\/(65<=(n:Int)/\(n:Int)<=90))=false:=by simp;omega
  have d:(65:Int)<=(n:Int):=by omega
  have f: ¬(n:Int)<=90:=by omega
  rw[e];have F:=g7 a b h d f;repeat refine sg ?_
  exact aR
 by_cases d:(65:Int)<=(n:Int)
 ·by_cases f:(n:Int)<=90
  ·have e:decide ((n:Int)=95\/(97<=(n:Int)/\(n:Int)<=122)\/(65<=(n:Int)/\(n:Int)<=90))=true:=by simp;omega
   rw[e];have F:=hH a b d f;repeat refine sg ?_
   exact aR
  have e:decide ((n:Int)=95\/(97<=(n:Int)/\(n:Int)<=122)\/(65<=(n:Int)/\(n:Int)<=90))=false:=by simp;omega
  rw[e];have F:=hH a b d f;repeat refine sg ?_
  exact aR
 have e:decide ((n:Int)=95\/(97<=(n:Int)/\(n:Int)<=122)\/(65<=(n:Int)/\(n:Int)<=90))=false:=by simp;omega
 rw[e];have F:=fI a b d;repeat refine sg ?_
 exact aR
def kW(env:b6)(c:UInt8):b7 prog env 71 [.lit (.int .u8 (c.toNat:Int))] (B (mH c.toNat)):=by
 refine qf func71 call71 ntmps71 results71 ?_;generalize c.toNat=n at*;unfold mH;by_cases a:(48:Int)<=(n:Int)
 ·by_cases b:(n:Int)<=57
  ·rw[M2 ⟨a,b⟩];have F:=ai a b;repeat refine sg ?_
   exact aR
  rw[MU (by omega)];have F:=ai a b;repeat refine sg ?_
  exact aR
 rw[MU (by omega)];have F:=a;repeat refine sg ?_
 exact aR
def vB{l:List UInt8}{p:UInt8->Bool}{i:Nat}(h:(l.take i).all p=true)(hi:i<l.length)(a:p l[i]=true):(l.take (i+1)).all p=true:=by
 rw[Nl hi,Oo,h];simp[a]
def LD{l:List UInt8}{p:UInt8->Bool}{i:Nat}(hi:i<l.length)(a:p l[i]=false):l.all p=false:=by
 rw[OL];intro h;rw[Lm]at h;rw[h _ (N4 hi)]at a;cases a
def eu(env:b6)(l:List UInt8):b7 prog env 38 [Sg l] (B (bl l)):=by
 refine qf func38 call38 ntmps38 results38 ?_;by_cases m:l=[]
 ·subst m;repeat refine SK ?_
  refine oY (by simp only[go_sem];exact iR) ?_;repeat refine SK ?_
  (refine aM ?_;show (ag _ _ _).run _=some _;simp only[go_sem])
  rfl
 obtain⟨c,j⟩: ∃c,l[0]? =some c:=⟨l[0]'(NG.2 m),Lc _⟩
 have v:((l.length:Int)==0)=false:=by
  have:=NG.2 m;simp;exact m
 by_cases A:l.length<=32
 ·have o: ¬32< (l.length:Int):=by omega
  by_cases n:dC c.toNat=true
  ·have e:bl l=l.all fun c=>cL c.toNat:=by
    cases l with
    |nil=>exact(m rfl).elim
    | cons d r=>
      simp only[M9,Le]at j;subst j;unfold bl;simp only[n,M2 A,M5]
   have F:=hH v o j n;repeat refine sg ?_
   refine cC (dS env c) ?_;repeat refine sg ?_
   refine oN (by simp only[go_sem,F];exact iR) ?_;repeat refine sg ?_
   refine lq l.length (by omega) (fun i _=>[(0,Sg l),(3,I i)]) (fun _ _=>[]) (fun i _ _=>((l.take i).all fun c=>cL c.toNat)=true) rfl ?_ ?_
   ·rintro i C u b k q y;have s:l[i]? =some l[i]:=Lc b;have a:=fun z=>vB (p:=fun c=>cL c.toNat) y b z;have h:=fun z=>LD (p:=fun c=>cL c.toNat) b z;try simp only at a
    try simp only at h
    generalize l[i]=x at*;by_cases f:dC x.toNat=true
    ·
     have F:=hH k q s f;repeat refine sg ?_
     refine oY (by simp only[go_sem,F];exact iR) ?_;repeat refine sg ?_
     refine cC (dS env x) ?_;repeat refine sg ?_
     refine oN (by simp only[go_sem,F];exact iR) ?_;repeat refine sg ?_
     exact qn (i+1) ⟨b,a (by simp[cL,f])⟩
    have f:dC x.toNat=false:=by simpa using f
    by_cases g:mH x.toNat=true
    ·
     have F:=g7 k q s f g;repeat refine sg ?_
     refine oY (by simp only[go_sem,F];exact iR) ?_;repeat refine sg ?_
     refine cC (dS env x) ?_;repeat refine sg ?_
     refine cC (kW env x) ?_;repeat refine sg ?_
     refine oN (by simp only[go_sem,F];exact iR) ?_;repeat refine sg ?_
     exact qn (i+1) ⟨b,a (by simp[cL,f,g])⟩
    have g:mH x.toNat=false:=by simpa using g
    by_cases t:(x.toNat:Int)=46
    ·have w:((x.toNat:Int) != 46)=false:=by rw[t];rfl
     have F:=ip k q s f g w;repeat refine sg ?_
     refine oY (by simp only[go_sem,F];exact iR) ?_;repeat refine sg ?_
     refine cC (dS env x) ?_;repeat refine sg ?_
     refine cC (kW env x) ?_;repeat refine sg ?_
     refine oN (by simp only[go_sem,F];exact iR) ?_;repeat refine sg ?_
     exact qn (i+1) ⟨b,a (by simp only[cL,f,g,M2 t,Bool.or_true])⟩
    have w:((x.toNat:Int) != 46)=true:=QA.2 t;have F:=ip k q s f g w;repeat refine sg ?_
    refine oY (by simp only[go_sem,F];exact iR) ?_;repeat refine sg ?_
    refine cC (dS env x) ?_;repeat refine sg ?_
    refine cC (kW env x) ?_;repeat refine sg ?_
    refine oY (by simp only[go_sem,F];exact iR) ?_;repeat refine sg ?_
    (refine aM ?_;show (ag _ _ _).run _=some _;simp only[go_sem,F])
    rw[e,h (by simp only[cL,f,g,MU t,Bool.or_false])]
   rintro C u k y;have F:=k;repeat refine sg ?_
   refine oN (by simp only[go_sem,F];exact iR) ?_;repeat refine sg ?_
   (refine aM ?_;show (ag _ _ _).run _=some _;simp only[go_sem,F])
   rw[e, <-y,M8 (by omega)]
  have n:dC c.toNat=false:=by simpa using n
  have e:bl l=false:=by
   cases l with
   |nil=>exact(m rfl).elim
   | cons d r=>
     simp only[M9,Le]at j;subst j;unfold bl;simp only[n,Mj,M0]
  rw[e];have F:=hH v o j n;repeat refine sg ?_
  refine cC (dS env c) ?_;repeat refine sg ?_
  refine oY (by simp only[go_sem,F];exact iR) ?_;repeat refine sg ?_
  exact aR
 have o:32< (l.length:Int):=by omega
 have e:bl l=false:=by
  unfold bl;rw[MU A];rfl
 rw[e];have F:=fI v o j;repeat refine sg ?_
 refine oY (by simp only[go_sem,F];exact iR) ?_;repeat refine sg ?_
 exact aR
structure lf where
 kind:Int
 n:Int
 deriving DecidableEq,Inhabited
structure jn where
 kind:Int
 n:Int
 name:List UInt8
 code:List lf
 deriving DecidableEq,Inhabited
structure na where
 name:List UInt8
 kind:Int
 parent:Int
 initial:Int
 ZW:List jn
 out:List jn
 deriving DecidableEq,Inhabited
structure sh where
 src:Int
 Z8:List UInt8
 guard:List lf
 Z1:List jn
 target:Int
 deriving DecidableEq,Inhabited
structure L7 where
 name:List UInt8
 start:Int
 deriving DecidableEq,Inhabited
structure aq where
 name:List UInt8
 initial:Int
 vars:List L7
 Z9:List na
 trans:List sh
 deriving DecidableEq,Inhabited
def bV(x:lf):List AV:=[I x.kind,I x.n]
def S1:=@bV.eq_1
abbrev qs(l:List lf):AV:= .seq 2 (l.map bV)
def az(x:jn):List AV:=[I x.kind,I x.n,Sg x.name,qs x.code]
def S4:=@az.eq_1
abbrev i0(l:List jn):AV:= .seq 4 (l.map az)
def S9:=@i0.eq_1
def aK(x:na):List AV:=[Sg x.name,I x.kind,I x.parent,I x.initial,i0 x.ZW,i0 x.out]
def SS:=@aK.eq_1
abbrev o'(l:List na):AV:= .seq 6 (l.map aK)
def an(x:sh):List AV:=[I x.src,Sg x.Z8,qs x.guard,i0 x.Z1,I x.target]
def SV:=@an.eq_1
abbrev rk(l:List sh):AV:= .seq 5 (l.map an)
def iB(x:L7):List AV:=[Sg x.name,I x.start]
def Tm:=@iB.eq_1
abbrev n7(l:List L7):AV:= .seq 2 (l.map iB)
def aA(x:aq):List AV:=[Sg x.name,I x.initial,n7 x.vars,o' x.Z9,rk x.trans]
def SR:=@aA.eq_1
/-! Lists that are no longer than memory is. -/
def qo(_:lf):Prop:=True
def iI(x:jn):Prop:=x.name.length<=maxLen/\(x.code.length<=maxLen/\ ∀y∈x.code,qo y)
def uq(x:na):Prop:=x.name.length<=maxLen/\(x.ZW.length<=maxLen/\ ∀y∈x.ZW,iI y)/\(x.out.length<=maxLen/\ ∀y∈x.out,iI y)
def uo(x:sh):Prop:=x.Z8.length<=maxLen/\(x.guard.length<=maxLen/\ ∀y∈x.guard,qo y)/\(x.Z1.length<=maxLen/\ ∀y∈x.Z1,iI y)
def om(x:L7):Prop:=x.name.length<=maxLen
def j6(x:aq):Prop:=x.name.length<=maxLen/\(x.vars.length<=maxLen/\ ∀y∈x.vars,om y)/\(x.Z9.length<=maxLen/\ ∀y∈x.Z9,uq y)/\(x.trans.length<=maxLen/\ ∀y∈x.trans,uo y)
/-! Expressions -/
def aF(k:Int):Int:=if 1<=k/\k<=4 then 0 else if k=5\/k=6 then 1 else if 7<=k/\k<=19 then 2 else -1
def ji(k:Int): -1<=aF k/\aF k<=2:=by
 unfold aF;repeat' split
 all_goals omega
def mZ(o:lf)(vs ss:Int):Bool:=if o.kind=1 then decide (0<=o.n/\o.n<=2147483647) else if o.kind=2 then decide (0<=o.n/\o.n<vs) else if o.kind=4 then decide (0<=o.n/\o.n<ss) else decide (o.n=0)
def cA(vs ss n:Int)(o:lf):Bool:=decide (0<=aF o.kind)&&decide (aF o.kind<=n)&&mZ o vs ss
def ql(vs ss:Int):List lf->Int->Option Int
 |[],n=>some n
 |o::l,n=>if cA vs ss n o then ql vs ss l (n-aF o.kind+1) else none
def iM(l:List lf)(vs ss:Int):Int:=if 32<l.length then 8 else if ql vs ss l 0=some 1 then 0 else 1
def bn(l:List lf)(vs ss:Int):Bool:=iM l vs ss==0
def oM{vs ss:Int}{l:List lf}{k:Nat}{o:lf}{n:Int}(h:l[k]? =some o)(a:ql vs ss l 0=ql vs ss (l.drop k) n):(cA vs ss n o=true->ql vs ss l 0=ql vs ss (l.drop (k+1)) (n-aF o.kind+1))/\(cA vs ss n o=false->ql vs ss l 0=none):=by
 have b:k<l.length:=(Ld.1 h).1
 have c:l.drop k=o::l.drop (k+1):=by
  rw[N1 b]
  congr 1
  rw[Lc b]at h;exact NQ h
 rw[c]at a;simp only[ql]at a;exact⟨fun e=>by rw[a,Lj e],fun e=>by rw[a,Lf (by rw[e];simp)]⟩
def sS{vs ss:Int}{l:List lf}{k:Nat}{n:Int}(h:l.length<=k)(a:ql vs ss l 0=ql vs ss (l.drop k) n):ql vs ss l 0=some n:=by
 rw[a,List.drop_eq_nil_of_le h];rfl
/-! Actions, states -/
def gC(b c:Int)(a:jn):Bool:=
 if a.kind=1 then decide (0<=a.n/\a.n<b)&&(a.name == [])&&bn a.code b c
 else if a.kind=2\/a.kind=4 then(a.n==0)&&bl a.name&&bn a.code b c
 else if a.kind=3 then(a.n==0)&&(a.name == [])&&bn a.code b c
 else if a.kind=5 then(a.n==0)&&bl a.name&&(a.code == [])
 else false
def eL(b a:Int)(l:List jn):Bool:=decide (l.length<=32)&&l.all (gC b a)
def eK(s:na):Bool:=(s.kind==1)||(s.kind==2)
def aU(s:na):Bool:=(s.kind==4)||(s.kind==5)
def dI(c:aq)(i:Int)(a:Bool)(k:Nat):Bool:=match c.Z9[k]? with
 |some s=>(s.parent==i)&&(!a|| !aU s)
 |none=>false
def bg(c:aq)(i:Int)(a:Bool)(n:Nat):List Nat:=(List.range n).filter (dI c i a)
def av(c:aq)(i:Int)(a:Bool):List Nat:=bg c i a c.Z9.length
def qD(c:aq)(i:Int)(a:Bool)(k:Nat):bg c i a (k+1)=bg c i a k++if dI c i a k then [k] else []:=by
 unfold bg;rw[Nn,MR]
 congr 1
 simp only[Na,QW]
def dO(c:aq)(i:Int)(a:Bool)(k:Nat):(bg c i a k).length<=k:=by
 have:=MF (dI c i a) (List.range k);simpa[bg]using this
def pJ{c:aq}{i:Int}{a:Bool}{k n:Nat}(h:k∈bg c i a n):k<n/\dI c i a k=true:=by
 simpa[bg,Lq]using h
def eT(c:aq)(a:List UInt8):Nat->Int
 |0=> -1
 | k+1=>if eT c a k= -1 then(match c.Z9[k]? with
   |some s=>if s.name=a then(k:Int) else -1
   |none=> -1) else eT c a k
def vI(c:aq)(a:List UInt8):Int:=eT c a c.Z9.length
def zc(c:aq)(a:List UInt8){k:Nat}(h:eT c a k≠ -1): ∀n,k<=n->eT c a n=eT c a k:=by
 intro n d
 induction n with
 | zero=>obtain rfl:k=0:=by omega
         rfl
 | succ n b=>
   by_cases e:k=n+1
   ·rw[e]
   have:=b (by omega);simp only[eT];rw[this,Lf h]
def wP(c:aq)(a:List UInt8){k:Nat}(e:k<c.Z9.length)(f:eT c a k= -1)(s:na)(g:c.Z9[k]? =some s)(d:s.name=a):vI c a=k:=by
 have b:eT c a (k+1)=k:=by
  simp only[eT,Lj f,g,Lj d]
 unfold vI;rw[zc c a (k:=k+1) (by rw[b];omega) _ e,b]
def qK(c:aq)(a:List UInt8){k:Nat}(d:eT c a k= -1)(s:na)(e:c.Z9[k]? =some s)(b:s.name≠a):eT c a (k+1)= -1:=by
 simp only[eT,Lj d,e,Lf b]
def bD(p:Nat->Bool)(n:Nat):Option Nat:=(List.range n).find? fun k=> !p k
def bI{p:Nat->Bool}{n:Nat}(h: ∀j,j<n->p j=true):bD p n=none:=by
 unfold bD;rw[O1];intro x a;simp[h x (by simpa using a)]
def dK{p:Nat->Bool}{n k:Nat}(f:k<n)(h: ∀j,j<k->p j=true)(c:p k=false):bD p n=some k:=by
 unfold bD
 have e:List.range n=List.range k++(k::(List.range (n-k-1)).map (k+1+ ·)):=by
  have:n=k+(n-k):=by omega
  rw[this,List.range_add]
  congr 1
  have d:k+(n-k)-k-1+1=n-k:=by omega
  have:n-k=(n-k-1)+1:=by omega
  rw[show k+(n-k)-k-1=n-k-1 by omega,this,List.range_succ_eq_map,M1,OE];simp only[OA,OG,OB,true_and];apply NO;intro a _;simp only[Function.comp];omega
 rw[e,List.find?_append];have b:(List.range k).find? (fun k=> !p k)=none:=bI h;rw[b];simp[c]
/-! What is right -/
def at_(c:aq)(i:Int):Option na:=if 0<=i then c.Z9[i.toNat]? else none
def ax(c:aq)(i:Int):Bool:=match at_ c i with
 |some q=>eK q
 |none=>false
def dB(c:aq)(i:Nat)(s:na):Bool:=(s.parent == -1)||(decide (0<=s.parent)&&decide (s.parent<i)&&ax c s.parent)
def Tq:=@dB.eq_1
def cq(c:aq)(s:na):Bool:=match at_ c s.parent with
 |some q=>q.kind==1
 |none=>false
def DH(l:List Nat)(n:Int):Bool:=l.any fun k=>(k:Int)==n
def dG(c:aq)(i:Nat)(s:na):Bool:=
 if s.kind=1 then(if av c i true=[] then s.initial == -1 else DH (av c i true) s.initial)
 else if s.kind=2 then((av c i true).all fun k=>ax c k)&&decide (0< (av c i true).length)&&(s.initial == -1)
 else if s.kind=3 then(av c i false == [])&&((s.parent == -1)||cq c s)&&(s.initial == -1)&&(s.out == [])
 else if s.kind=4\/s.kind=5 then(av c i false == [])&&cq c s&&DH (av c s.parent true) s.initial&&(s.ZW == [])&&(s.out == [])
 else false
def Tx:=@dG.eq_1
def cJ(c:aq)(i:Nat)(s:na):Bool:=bl s.name&&(vI c s.name==(i:Int))&&dB c i s&&dG c i s&&eL c.vars.length c.Z9.length s.ZW&&eL c.vars.length c.Z9.length s.out
def Tw:=@cJ.eq_1
def lY(c:aq)(i:Nat):Bool:=match c.Z9[i]? with
 |some s=>cJ c i s
 |none=>false
def newVar(c:aq)(a:List UInt8)(i:Nat):Bool:=(c.vars.take i).all fun x=> !(x.name==a)
def pd(c:aq)(i:Nat)(v:L7):Bool:=newVar c v.name i&&bl v.name&& !(v.name == [100,97,116,97])&& !(v.name == [105,110])&&decide (-2147483647<=v.start)&&decide (v.start<=2147483647)
def ja(c:aq)(i:Nat):Bool:=match c.vars[i]? with
 |some v=>pd c i v
 |none=>false
def d5(c:aq)(t:sh):Bool:=ax c t.src&&((t.Z8 == [])||bl t.Z8)&&((t.guard == [])||bn t.guard c.vars.length c.Z9.length)&&eL c.vars.length c.Z9.length t.Z1&&((t.target == -1)||(decide (0<=t.target)&&decide (t.target<c.Z9.length)))
def qb(c:aq)(i:Nat):Bool:=match c.trans[i]? with
 |some t=>d5 c t
 |none=>false
def mO(c:aq):Bool:=match at_ c c.initial with
 |some q=>(q.parent == -1)&&eK q
 |none=>false
def nv(c:aq):Int×Int:=
 if 32<c.Z9.length\/64<c.trans.length\/8<c.vars.length then(8, -1)
 else if c.Z9=[]\/bl c.name=false then(1, -1)
 else match bD (ja c) c.vars.length with
  |some i=>(1,2000+i)
  | none=>match bD (lY c) c.Z9.length with
    |some i=>(1,i)
    | none=>if mO c=false then(1, -1) else match bD (qb c) c.trans.length with
      |some i=>(1,1000+i)
      |none=>(0, -1)
def du(env:b6)(l:List UInt8)(b:l.length<=9223372036854775807):b7 prog env 100 [Sg l] (B (bl l)):=
 KB call100 fun w S d f a c=>by
  match d,a with
  | [v],_=>
    obtain rfl:=(c 0 v _ rfl rfl).lit_inv;refine(Hj l b w).mono ?_;rintro e g ⟨rfl,rfl⟩;exact⟨rfl,N9 _ _⟩
def aL(n:Int):Bool:=decide (-2147483647<=n)&&decide (n<=2147483647)
def dD(env:b6)(n:Int):b7 prog env 46 [I n] (B (aL n)):=by
 unfold aL;refine qf func46 call46 ntmps46 results46 ?_;by_cases a: -2147483647<=n<;>by_cases b:n<=2147483647<;>
 ·have F:=ai a b;exact dT
def d6(env:b6)(n:Int):b7 prog env 15 [I n] (B (aL n)):=by
 unfold aL;refine qf func15 call15 ntmps15 results15 ?_;by_cases a: -2147483647<=n<;>by_cases b:n<=2147483647<;>
 ·have F:=ai a b;exact dT
/-! Expressions' kinds -/
def kT{p:Int->Int->Prop}(g: ∀k:Int,1<=k->k<=4-> ¬k<1-> ¬19<k-> ¬4<k->p k 0)(i:p 5 1)(j:p 6 1)
 (l: ∀k:Int,1<=k-> ¬k<=4->(k==5)=false->(k==6)=false->7<=k->k<=19-> ¬k<1-> ¬19<k-> ¬k<=6->p k 2)
 (m: ∀k:Int,¬1<=k->(k==5)=false->(k==6)=false-> ¬7<=k->k<1->p k (-1))
 (n: ∀k:Int,1<=k-> ¬k<=4->(k==5)=false->(k==6)=false->7<=k-> ¬k<=19-> ¬k<1->19<k->p k (-1))(k:Int):p k (aF k):=by
 have f: ∀a b:Int,a≠b->(a==b)=false:=fun a b h=>by simpa using h
 by_cases a:1<=k
 ·by_cases b:k<=4
  ·rw[show aF k=0 by unfold aF;rw[Lj ⟨a,b⟩]];exact g k a b (by omega) (by omega) (by omega)
  by_cases c:k=5
  ·subst c;exact i
  by_cases d:k=6
  ·subst d;exact j
  by_cases e:k<=19
  ·rw[show aF k=2 by unfold aF;rw[Lf (by omega),Lf (by omega),Lj (by omega)]];exact l k a b (f _ _ c) (f _ _ d) (by omega) e (by omega) (by omega) (by omega)
  rw[show aF k= -1 by unfold aF;rw[Lf (by omega),Lf (by omega),Lf (by omega)]];exact n k a b (f _ _ c) (f _ _ d) (by omega) e (by omega) (by omega)
 rw[show aF k= -1 by unfold aF;rw[Lf (by omega),Lf (by omega),Lf (by omega)]];exact m k a (f _ _ (by omega)) (f _ _ (by omega)) (by omega) (by omega)
def fN(env:b6)(k:Int):b7 prog env 243 [I k] (I (aF k)):=by
 refine kT (p:=fun k r=>b7 prog env 243 [I k] (I r)) ?_ ?_ ?_ ?_ ?_ ?_ k
 ·intro k a b c d e;refine qf func243 call243 ntmps243 results243 ?_;have F:=g7 a b c d e;exact dT
 ·refine qf func243 call243 ntmps243 results243 ?_;repeat refine m8 ?_
  exact p'
 ·refine qf func243 call243 ntmps243 results243 ?_;repeat refine m8 ?_
  exact p'
 ·intro k a b c d e f g h i;refine qf func243 call243 ntmps243 results243 ?_;have F:=pf a b c d e f g h i;exact dT
 ·intro k a b c d e;refine qf func243 call243 ntmps243 results243 ?_;have F:=g7 a b c d e;exact dT
 intro k a b c d e f g h;refine qf func243 call243 ntmps243 results243 ?_;have F:=ns a b c d e f g h;exact dT
def de(env:b6)(k:Int):b7 prog env 206 [I k] (I (aF k)):=by
 refine kT (p:=fun k r=>b7 prog env 206 [I k] (I r)) ?_ ?_ ?_ ?_ ?_ ?_ k
 ·intro k a b c d e;refine qf func206 call206 ntmps206 results206 ?_;have F:=g7 a b c d e;exact dT
 ·refine qf func206 call206 ntmps206 results206 ?_;repeat refine m8 ?_
  exact p'
 ·refine qf func206 call206 ntmps206 results206 ?_;repeat refine m8 ?_
  exact p'
 ·intro k a b c d e f g h i;refine qf func206 call206 ntmps206 results206 ?_;have F:=pf a b c d e f g h i;exact dT
 ·intro k a b c d e;refine qf func206 call206 ntmps206 results206 ?_;have F:=g7 a b c d e;exact dT
 intro k a b c d e f g h;refine qf func206 call206 ntmps206 results206 ?_;have F:=ns a b c d e f g h;exact dT
def rp{p:lf->Bool->Prop}(vs ss:Int)
 (e: ∀n:Int,p ⟨1,n⟩ (decide (0<=n)&&decide (n<=2147483647)))(f: ∀n:Int,p ⟨2,n⟩ (decide (0<=n)&&decide (n<vs)))(g: ∀n:Int,p ⟨4,n⟩ (decide (0<=n)&&decide (n<ss)))
 (h: ∀k n:Int,(k==1)=false->(k==2)=false->(k==4)=false->p ⟨k,n⟩ (decide (n=0)))(o:lf):p o (mZ o vs ss):=by
 have d: ∀a b:Int,a≠b->(a==b)=false:=fun a b h=>by simpa using h
 obtain⟨k,n⟩:=o;unfold mZ;simp only[QX];by_cases a:k=1
 ·subst a;simpa using e n
 by_cases b:k=2
 ·subst b;simpa using f n
 by_cases c:k=4
 ·subst c;simpa using g n
 rw[Lf a,Lf b,Lf c];exact h k n (d _ _ a) (d _ _ b) (d _ _ c)
def il(env:b6)(o:lf)(vs ss:Int):b7 prog env 244 [.agg (bV o),I vs,I ss] (B (mZ o vs ss)):=by
 refine rp (p:=fun o r=>b7 prog env 244 [.agg (bV o),I vs,I ss] (B r)) vs ss (fun n=> ?_) (fun n=> ?_) (fun n=> ?_) (fun k n d e f=> ?_) o
 ·refine qf func244 call244 ntmps244 results244 ?_;by_cases a:0<=n<;>by_cases b:n<=2147483647<;>
  ·have c:(n<2147483648)=(n<=2147483647):=by rw[eq_iff_iff];omega
   have F:=hH S1 a b c;exact dT
 ·refine qf func244 call244 ntmps244 results244 ?_;by_cases a:0<=n<;>by_cases b:n<vs<;>
  ·have F:=fI S1 a b;exact dT
 ·refine qf func244 call244 ntmps244 results244 ?_;by_cases a:0<=n<;>by_cases b:n<ss<;>
  ·have F:=fI S1 a b;exact dT
 refine qf func244 call244 ntmps244 results244 ?_;by_cases a:0<=n<;>by_cases b:n<1<;>
 ·have c:(n=0)=(0<=n/\n<1):=by rw[eq_iff_iff];omega
  have F:=lP S1 a b c d e f;exact dT
def ic(env:b6)(o:lf)(vs ss:Int):b7 prog env 207 [.agg (bV o),I vs,I ss] (B (mZ o vs ss)):=by
 refine rp (p:=fun o r=>b7 prog env 207 [.agg (bV o),I vs,I ss] (B r)) vs ss (fun n=> ?_) (fun n=> ?_) (fun n=> ?_) (fun k n c d e=> ?_) o
 ·refine qf func207 call207 ntmps207 results207 ?_;by_cases a:0<=n<;>by_cases b:n<=2147483647<;>
  ·have F:=fI S1 a b;exact dT
 ·refine qf func207 call207 ntmps207 results207 ?_;by_cases a:0<=n<;>by_cases b:n<vs<;>
  ·have F:=fI S1 a b;exact dT
 ·refine qf func207 call207 ntmps207 results207 ?_;by_cases a:0<=n<;>by_cases b:n<ss<;>
  ·have F:=fI S1 a b;exact dT
 refine qf func207 call207 ntmps207 results207 ?_;have f:decide (n=0)=(n==0):=by rw[MP];simp
 rw[f];have F:=hH S1 c d e;exact dT
/-! States' kinds -/
def jh(env:b6)(s:na):b7 prog env 107 [.agg (aK s)] (B (aU s)):=by
 unfold aU;refine qf func107 call107 ntmps107 results107 ?_;cases a:(s.kind==4)<;>cases b:(s.kind==5)<;>
 ·have F:=fI SS a b;exact dT
def bo(env:b6)(s:na):b7 prog env 98 [.agg (aK s)] (B (aU s)):=by
 unfold aU;refine qf func98 call98 ntmps98 results98 ?_;cases a:(s.kind==4)<;>cases b:(s.kind==5)<;>
 ·have F:=fI SS a b;exact dT
def im(env:b6)(s:na):b7 prog env 105 [.agg (aK s)] (B (eK s)):=by
 unfold eK;refine qf func105 call105 ntmps105 results105 ?_;cases a:(s.kind==1)<;>cases b:(s.kind==2)<;>
 ·have F:=fI SS a b;exact dT
def ig(env:b6)(s:na):b7 prog env 54 [.agg (aK s)] (B (eK s)):=by
 unfold eK;refine qf func54 call54 ntmps54 results54 ?_;cases a:(s.kind==1)<;>cases b:(s.kind==2)<;>
 ·have F:=fI SS a b;exact dT
end
section
def Ql{c:Type}{a b:List c}{i:Nat}{x y:c}(h:a.take i=b.take i)(k:a[i]? =some x)(l:b[i]? =some y)(e:x=y):a.take (i+1)=b.take (i+1):=by
 obtain⟨d,f⟩:=Ld.1 k;obtain⟨g,j⟩:=Ld.1 l;rw[Nl d,Nl g,h,f,j,e]
def vN{c:Type} [DecidableEq c]{a b:List c}{i:Nat}{x y:c}(d:a[i]? =some x)(f:b[i]? =some y)(e:x≠y):(a==b)=false:=by
 rw[Nt];intro h;rw[h,f]at d;exact e (NQ d).symm
def AJ{c:Type} [DecidableEq c]{a b:List c}{i:Nat}(h:a.take i=b.take i)(d:a.length<=i)(e:b.length<=i):(a==b)=true:=by
 rw[M8 d,M8 e]at h;simpa using h
def aS{a:Type}{l:List a}{i:Nat}(h:i<l.length): ∃x,l[i]? =some x/\x∈l:=⟨l[i],Lc h,N4 h⟩
end
end Go.Proofs.YtknkhdgfhbogdaaGreatDoor
