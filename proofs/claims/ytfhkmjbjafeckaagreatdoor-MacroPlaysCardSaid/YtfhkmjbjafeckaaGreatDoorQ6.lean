/- Lists that are the same: plain. No program is named here. -/
import Derived.Test.YtfhkmjbjafeckaaGreatDoorQ5
set_option maxRecDepth 100000
set_option maxHeartbeats 1000000
set_option linter.unusedSimpArgs false
set_option linter.defProp false
namespace Go.Proofs.YtfhkmjbjafeckaaGreatDoor
open Go.Proofs.Tryz
section
open Go.RowKit
def jM:(∀a b:Int,(a != b)= !(a==b))/\(∀a b:Nat,(a != b)= !(a==b))/\(∀a b:List UInt8,(a != b)= !(a==b))/\(∀a b:Bool,(a != b)= !(a==b)):=⟨fun _ _=>rfl,fun _ _=>rfl,fun _ _=>rfl,fun _ _=>rfl⟩
def nw{p q:Prop}(k:q)(h:q->p:=by
 intro k;first
 |refine oO rfl (by simp only[go_sem];exact⟨rfl,rfl⟩) ?_
 |refine gR ?_
 |refine gO ?_
 |refine oZ (kj ?_)
 |refine oZ ?_
 |refine oS ?_
 |refine gT ?_
 |refine gD mixed ?_
 |refine oB ?_
 |refine oK ?_
 |(refine oX ?_;simp only[bD,ba, ↓reduceIte,Nat.reduceEqDiff,reduceCtorEq])
 |refine oY (by simp only[go_sem];exact iR) ?_
 |refine oN (by simp only[go_sem];exact iR) ?_
 exact k):p:=h k
def st{p q:Prop}(k:q)(h:q->p:=by
 intro k;first
 |refine oO rfl (by simp only[go_sem,F];exact⟨rfl,rfl⟩) ?_
 |refine gR ?_
 |refine gO ?_
 |refine oZ (kj ?_)
 |refine oZ ?_
 |refine oS ?_
 |refine gT ?_
 |refine gD mixed ?_
 |refine oB ?_
 |refine oK ?_
 |(refine oX ?_;simp only[bD,ba, ↓reduceIte,Nat.reduceEqDiff,reduceCtorEq])
 |refine oY (by simp only[go_sem,F];exact iR) ?_
 |refine oN (by simp only[go_sem,F];exact iR) ?_
 exact k):p:=h k
def Uk{p q:Prop}(k:q)(h:q->p:=by
 intro k;first
 |refine oO rfl (by simp only[go_sem];exact⟨rfl,rfl⟩) ?_
 |refine gR ?_
 |refine gO ?_
 |refine oZ (kj ?_)
 |refine oZ ?_
 |refine oS ?_
 |refine gT ?_
 |refine gD mixed ?_
 |refine oB ?_
 |refine oK ?_
 |(refine oX ?_;simp only[bD,ba, ↓reduceIte,Nat.reduceEqDiff,reduceCtorEq])
 exact k):p:=h k
def sg{p q:Prop}(k:q)(h:q->p:=by
 intro k;first
 |refine oO rfl (by simp only[go_sem,F];exact⟨rfl,rfl⟩) ?_
 |refine gR ?_
 |refine gO ?_
 |refine oZ (kj ?_)
 |refine oZ ?_
 |refine oS ?_
 |refine gT ?_
 |refine gD mixed ?_
 |refine oB ?_
 |refine oK ?_
 |(refine oX ?_;simp only[bD,ba, ↓reduceIte,Nat.reduceEqDiff,reduceCtorEq])
 exact k):p:=h k
section
variable {P:Program} {env:cf} {nt:Nat} {Q:Exit->St->Prop} {s:St}
theorem S3{o:Oper}{f:FuncId}{args:List AV}{rest:List C'}{s1:St}{ft:fU}{cs:List AV}{res:AV}{K:St->List fU->Prop}(hcon:b8 P env f cs res)(k:jt P env rest s1 fun s2 fts=>K s2 (ft::fts))(hc:bJ env s.f o=some (f,args):=by exact rfl)
 (ha:J' (lf args) s cs:=by simp only[go_sem];exact iR)(h:xT (MT (eE false o.dst args res) s [] []) s o.dst s1 ft:=by simp only[go_sem];exact⟨rfl,rfl⟩):jt P env (⟨o, .always⟩::rest) s K:=oC hc hcon ha h k
theorem cC{o:Oper}{f:FuncId}{args:List AV}{rest:List C'}{s1:St}{ft:fU}{cs:List AV}{res:AV}{K:St->List fU->Prop}(hcon:b8 P env f cs res)(k:jt P env rest s1 fun s2 fts=>K s2 (ft::fts))(hc:bJ env s.f o=some (f,args):=by exact rfl)
 (ha:J' (lf args) s cs:=by simp only[go_sem,F];exact iR)(h:xT (MT (eE false o.dst args res) s [] []) s o.dst s1 ft:=by simp only[go_sem,F];exact⟨rfl,rfl⟩):jt P env (⟨o, .always⟩::rest) s K:=oC hc hcon ha h k
theorem lL{o:Oper}{f:FuncId}{args:List AV}{rest:List C'}{s1:St}{ft:fU}{cs:List AV}{res:AV}{K:St->List fU->Prop}(hcon:RM P env f cs res)(k:jt P env rest s1 fun s2 fts=>K s2 (ft::fts))(hc:bJ env s.f o=some (f,args):=by exact rfl)
 (ha:J' (lf args) s cs:=by simp only[go_sem,F];exact iR)(h:xT (MT (eE true o.dst args res) s [] []) s o.dst s1 ft:=by simp only[go_sem,F];exact⟨rfl,rfl⟩):jt P env (⟨o, .always⟩::rest) s K:=oL hc hcon ha h k
theorem px(h:Q .ret s:=by show (ag _ _ _).run _=some _;simp only[go_sem]):fq P env nt .ret Q s:=aM h
theorem aR(h:Q .ret s:=by show (ag _ _ _).run _=some _;simp only[go_sem,F]):fq P env nt .ret Q s:=aM h
theorem TW{D:Type}{c:Code}(A:D->(Nat->Nat)->List (Nat×AV))(R:D->(Nat->Nat)->List (Nat×Row))(inv:D->(Nat->Nat)->(Nat->Bool)->Prop)(μ:D->Nat)(d0:D)(h0:inv d0 s.vs s.esc)
 (round: ∀d vs esc,inv d vs esc->fq P env nt c (bD (fun s1=> ∃d',inv d' s1.vs s1.esc/\cP s1 (A d' s1.vs)/\br s1 (R d' s1.vs)/\μ d'<μ d) Q) (head (A d vs) (R d vs) vs esc))
 (hF:cP s (A d0 s.vs):=by first|(simp only[go_sem];done)|(simp only[go_sem];rfl))(hR:br s (R d0 s.vs):=by first|(simp only[go_sem];done)|(simp only[go_sem];rfl)):fq P env nt (.loop c) Q s:=aH A R inv μ d0 h0 hF hR round
theorem lp{D:Type}{c:Code}(A:D->(Nat->Nat)->List (Nat×AV))(R:D->(Nat->Nat)->List (Nat×Row))(inv:D->(Nat->Nat)->(Nat->Bool)->Prop)(μ:D->Nat)(d0:D)(h0:inv d0 s.vs s.esc)
 (round: ∀d vs esc,inv d vs esc->fq P env nt c (bD (fun s1=> ∃d',inv d' s1.vs s1.esc/\cP s1 (A d' s1.vs)/\br s1 (R d' s1.vs)/\μ d'<μ d) Q) (head (A d vs) (R d vs) vs esc))
 (hF:cP s (A d0 s.vs):=by first|(simp only[go_sem,F];done)|(simp only[go_sem,F];rfl))(hR:br s (R d0 s.vs):=by first|(simp only[go_sem,F];done)|(simp only[go_sem,F];rfl)):fq P env nt (.loop c) Q s:=aH A R inv μ d0 h0 hF hR round
theorem qn{D:Type}{p q r m:D->Prop}(d:D)(h:p d)(hq:q d:=by first|(simp only[go_sem,F];done)|(simp only[go_sem,F];rfl))(hr:r d:=by first|(simp only[go_sem,F];done)|(simp only[go_sem,F];rfl))(hm:m d:=by first|omega|(simp;omega)): ∃d,p d/\q d/\r d/\m d:=⟨d,h,hq,hr,hm⟩
theorem Q'{c:Code}(N:Nat)(hN:N<=9223372036854775807)(A:Nat->(Nat->Nat)->List (Nat×AV))(R:Nat->(Nat->Nat)->List (Nat×Row))(inv:Nat->(Nat->Nat)->(Nat->Bool)->Prop)(h0:inv 0 s.vs s.esc)
 (step: ∀j vs esc,j<N->(j:Int)< (N:Int)->IntKind.i64.wrap ((j:Int)+1)=((j+1:Nat):Int)->inv j vs esc->fq P env nt c (bD (fun s1=> ∃d',(d'<=N/\inv d' s1.vs s1.esc)/\cP s1 (A d' s1.vs)/\br s1 (R d' s1.vs)/\N-d'<N-j) Q) (head (A j vs) (R j vs) vs esc))
 (stop: ∀vs esc,¬(N:Int)< (N:Int)->inv N vs esc->fq P env nt c (bD (fun s1=> ∃d',(d'<=N/\inv d' s1.vs s1.esc)/\cP s1 (A d' s1.vs)/\br s1 (R d' s1.vs)/\N-d'<N-N) Q) (head (A N vs) (R N vs) vs esc))
 (hF:cP s (A 0 s.vs):=by first|(simp only[go_sem];done)|(simp only[go_sem];rfl))(hR:br s (R 0 s.vs):=by first|(simp only[go_sem];done)|(simp only[go_sem];rfl)):fq P env nt (.loop c) Q s:=
 aH A R (fun j vs esc=>j<=N/\inv j vs esc) (fun j=>N-j) 0 ⟨NJ _,h0⟩ hF hR fun j vs esc hj=>by
  by_cases h:j<N
  ·exact step j vs esc h (ip h) (aD h hN) hj.2
  obtain rfl:j=N:=by omega
  exact stop vs esc (by omega) hj.2
theorem lq{c:Code}(N:Nat)(hN:N<=9223372036854775807)(A:Nat->(Nat->Nat)->List (Nat×AV))(R:Nat->(Nat->Nat)->List (Nat×Row))(inv:Nat->(Nat->Nat)->(Nat->Bool)->Prop)(h0:inv 0 s.vs s.esc)
 (step: ∀j vs esc,j<N->(j:Int)< (N:Int)->IntKind.i64.wrap ((j:Int)+1)=((j+1:Nat):Int)->inv j vs esc->fq P env nt c (bD (fun s1=> ∃d',(d'<=N/\inv d' s1.vs s1.esc)/\cP s1 (A d' s1.vs)/\br s1 (R d' s1.vs)/\N-d'<N-j) Q) (head (A j vs) (R j vs) vs esc))
 (stop: ∀vs esc,¬(N:Int)< (N:Int)->inv N vs esc->fq P env nt c (bD (fun s1=> ∃d',(d'<=N/\inv d' s1.vs s1.esc)/\cP s1 (A d' s1.vs)/\br s1 (R d' s1.vs)/\N-d'<N-N) Q) (head (A N vs) (R N vs) vs esc))
 (hF:cP s (A 0 s.vs):=by first|(simp only[go_sem,F];done)|(simp only[go_sem,F];rfl))(hR:br s (R 0 s.vs):=by first|(simp only[go_sem,F];done)|(simp only[go_sem,F];rfl)):fq P env nt (.loop c) Q s:=
 aH A R (fun j vs esc=>j<=N/\inv j vs esc) (fun j=>N-j) 0 ⟨NJ _,h0⟩ hF hR fun j vs esc hj=>by
  by_cases h:j<N
  ·exact step j vs esc h (ip h) (aD h hN) hj.2
  obtain rfl:j=N:=by omega
  exact stop vs esc (by omega) hj.2
theorem qf{f:FuncId}{fn:Func}{c:Code}{n:Nat}{rs:Array ResultVar}{cs:List AV}{res:AV}(hf:P.funcs[f]? =some fn)(hc: ∀(args:Array Value)(w:World),(callFunc f args).run P w= .ok (.enter f args) w)(hn:fn.ntmps=n)(hr:fn.results=rs)(h:fq P env n c (Mi P rs.toList res) (St.init cs))(hb:fn.body=some c:=by exact rfl)(hl:cs.length<=n:=by simp):b8 P env f cs res:=lH hf hb hc (by rw[hn];exact hl) (by rw[hn,hr];exact h)
theorem qw{f:FuncId}{fn:Func}{c:Code}{n:Nat}{rs:Array ResultVar}{cs:List AV}{res:AV}(hf:P.funcs[f]? =some fn)(hc: ∀(args:Array Value)(w:World),(callFunc f args).run P w= .ok (.enter f args) w)(hn:fn.ntmps=n)(hr:fn.results=rs)(h:fq P env n c (Lk P rs.toList res) (St.init cs))(hb:fn.body=some c:=by exact rfl)(hl:cs.length<=n:=by simp):b8 P env f cs res:=ml hf hb hc (by rw[hn];exact hl) (by rw[hn,hr];exact h)
theorem jG{α1 p q:Prop}(c1:α1)(k:q)(h:α1->q->p:=by
 intro c1 k;first
 |(refine nw ?_;exact k)
 |(refine S3 c1 ?_;exact k)):p:=h c1 k
theorem sL{α1 α2 p q:Prop}(c1:α1)(c2:α2)(k:q)(h:α1->α2->q->p:=by
 intro c1 c2 k;first
 |(refine nw ?_;exact k)
 |(refine S3 c1 ?_;exact k)
 |(refine S3 c2 ?_;exact k)):p:=h c1 c2 k
theorem Ci{α1 α2 α3 p q:Prop}(c1:α1)(c2:α2)(c3:α3)(k:q)(h:α1->α2->α3->q->p:=by
 intro c1 c2 c3 k;first
 |(refine nw ?_;exact k)
 |(refine S3 c1 ?_;exact k)
 |(refine S3 c2 ?_;exact k)
 |(refine S3 c3 ?_;exact k)):p:=h c1 c2 c3 k
theorem Mm{α1 α2 α3 α4 α5 α6 p q:Prop}(c1:α1)(c2:α2)(c3:α3)(c4:α4)(c5:α5)(c6:α6)(k:q)(h:α1->α2->α3->α4->α5->α6->q->p:=by
 intro c1 c2 c3 c4 c5 c6 k;first
 |(refine nw ?_;exact k)
 |(refine S3 c1 ?_;exact k)
 |(refine S3 c2 ?_;exact k)
 |(refine S3 c3 ?_;exact k)
 |(refine S3 c4 ?_;exact k)
 |(refine S3 c5 ?_;exact k)
 |(refine S3 c6 ?_;exact k)):p:=h c1 c2 c3 c4 c5 c6 k
theorem ff{α1 p q:Prop}(c1:α1)(k:q)(h:α1->q->p:=by
 intro c1 k;first
 |(refine st ?_;exact k)
 |(refine cC c1 ?_;exact k)):p:=h c1 k
theorem y3{α1 α2 p q:Prop}(c1:α1)(c2:α2)(k:q)(h:α1->α2->q->p:=by
 intro c1 c2 k;first
 |(refine st ?_;exact k)
 |(refine cC c1 ?_;exact k)
 |(refine cC c2 ?_;exact k)):p:=h c1 c2 k
theorem Sw{α1 α2 α3 p q:Prop}(c1:α1)(c2:α2)(c3:α3)(k:q)(h:α1->α2->α3->q->p:=by
 intro c1 c2 c3 k;first
 |(refine st ?_;exact k)
 |(refine cC c1 ?_;exact k)
 |(refine cC c2 ?_;exact k)
 |(refine cC c3 ?_;exact k)):p:=h c1 c2 c3 k
theorem Uq{α1 α2 α3 α4 p q:Prop}(c1:α1)(c2:α2)(c3:α3)(c4:α4)(k:q)(h:α1->α2->α3->α4->q->p:=by
 intro c1 c2 c3 c4 k;first
 |(refine st ?_;exact k)
 |(refine cC c1 ?_;exact k)
 |(refine cC c2 ?_;exact k)
 |(refine cC c3 ?_;exact k)
 |(refine cC c4 ?_;exact k)):p:=h c1 c2 c3 c4 k
theorem Ur{α1 α2 α3 α4 α5 α6 p q:Prop}(c1:α1)(c2:α2)(c3:α3)(c4:α4)(c5:α5)(c6:α6)(k:q)(h:α1->α2->α3->α4->α5->α6->q->p:=by
 intro c1 c2 c3 c4 c5 c6 k;first
 |(refine st ?_;exact k)
 |(refine cC c1 ?_;exact k)
 |(refine cC c2 ?_;exact k)
 |(refine cC c3 ?_;exact k)
 |(refine cC c4 ?_;exact k)
 |(refine cC c5 ?_;exact k)
 |(refine cC c6 ?_;exact k)):p:=h c1 c2 c3 c4 c5 c6 k
theorem sp{p q r:Prop}(k:q)(l:r)(h:q->r->p:=by
 intro k l;first
 |exact vU (by simp only[go_sem,F];rfl) k l
 |exact Fy (by simp only[go_sem,F];rfl) k l):p:=h k l
theorem fc{p:Prop}(h:p:=by
 repeat' first
 |refine st ?_
 |exact aR
 |(refine sp ?_ ?_<;>(intro hB;first|exact absurd hB (by decide)|((try simp only[OA,O4,Oh,OW,NI,Nw]at hB);have F:=And.intro hB F)))):p:=h
theorem kb{α1 p:Prop}(c1:α1)(h:α1->p:=by
 intro c1;repeat' first
 |refine st ?_
 |refine cC c1 ?_
 |exact aR
 |(refine sp ?_ ?_<;>(intro hB;first|exact absurd hB (by decide)|((try simp only[OA,O4,Oh,OW,NI,Nw]at hB);have F:=And.intro hB F)))):p:=h c1
theorem ns{α1 α2 p:Prop}(c1:α1)(c2:α2)(h:α1->α2->p:=by
 intro c1 c2;repeat' first
 |refine st ?_
 |refine cC c1 ?_
 |refine cC c2 ?_
 |exact aR
 |(refine sp ?_ ?_<;>(intro hB;first|exact absurd hB (by decide)|((try simp only[OA,O4,Oh,OW,NI,Nw]at hB);have F:=And.intro hB F)))):p:=h c1 c2
theorem D0{α1 α2 α3 p:Prop}(c1:α1)(c2:α2)(c3:α3)(h:α1->α2->α3->p:=by
 intro c1 c2 c3;repeat' first
 |refine st ?_
 |refine cC c1 ?_
 |refine cC c2 ?_
 |refine cC c3 ?_
 |exact aR
 |(refine sp ?_ ?_<;>(intro hB;first|exact absurd hB (by decide)|((try simp only[OA,O4,Oh,OW,NI,Nw]at hB);have F:=And.intro hB F)))):p:=h c1 c2 c3
theorem TV{α1 α2 α3 α4 p:Prop}(c1:α1)(c2:α2)(c3:α3)(c4:α4)(h:α1->α2->α3->α4->p:=by
 intro c1 c2 c3 c4;repeat' first
 |refine st ?_
 |refine cC c1 ?_
 |refine cC c2 ?_
 |refine cC c3 ?_
 |refine cC c4 ?_
 |exact aR
 |(refine sp ?_ ?_<;>(intro hB;first|exact absurd hB (by decide)|((try simp only[OA,O4,Oh,OW,NI,Nw]at hB);have F:=And.intro hB F)))):p:=h c1 c2 c3 c4
theorem Uc{α1 α2 α3 α4 α5 p:Prop}(c1:α1)(c2:α2)(c3:α3)(c4:α4)(c5:α5)(h:α1->α2->α3->α4->α5->p:=by
 intro c1 c2 c3 c4 c5;repeat' first
 |refine st ?_
 |refine cC c1 ?_
 |refine cC c2 ?_
 |refine cC c3 ?_
 |refine cC c4 ?_
 |refine cC c5 ?_
 |exact aR
 |(refine sp ?_ ?_<;>(intro hB;first|exact absurd hB (by decide)|((try simp only[OA,O4,Oh,OW,NI,Nw]at hB);have F:=And.intro hB F)))):p:=h c1 c2 c3 c4 c5
theorem TL{α1 α2 α3 α4 α5 α6 p:Prop}(c1:α1)(c2:α2)(c3:α3)(c4:α4)(c5:α5)(c6:α6)(h:α1->α2->α3->α4->α5->α6->p:=by
 intro c1 c2 c3 c4 c5 c6;repeat' first
 |refine st ?_
 |refine cC c1 ?_
 |refine cC c2 ?_
 |refine cC c3 ?_
 |refine cC c4 ?_
 |refine cC c5 ?_
 |refine cC c6 ?_
 |exact aR
 |(refine sp ?_ ?_<;>(intro hB;first|exact absurd hB (by decide)|((try simp only[OA,O4,Oh,OW,NI,Nw]at hB);have F:=And.intro hB F)))):p:=h c1 c2 c3 c4 c5 c6
theorem Un{α1 α2 α3 α4 α5 α6 α7 p:Prop}(c1:α1)(c2:α2)(c3:α3)(c4:α4)(c5:α5)(c6:α6)(c7:α7)(h:α1->α2->α3->α4->α5->α6->α7->p:=by
 intro c1 c2 c3 c4 c5 c6 c7;repeat' first
 |refine st ?_
 |refine cC c1 ?_
 |refine cC c2 ?_
 |refine cC c3 ?_
 |refine cC c4 ?_
 |refine cC c5 ?_
 |refine cC c6 ?_
 |refine cC c7 ?_
 |exact aR
 |(refine sp ?_ ?_<;>(intro hB;first|exact absurd hB (by decide)|((try simp only[OA,O4,Oh,OW,NI,Nw]at hB);have F:=And.intro hB F)))):p:=h c1 c2 c3 c4 c5 c6 c7
theorem Ug{α1 α2 α3 α4 α5 α6 α7 α8 p:Prop}(c1:α1)(c2:α2)(c3:α3)(c4:α4)(c5:α5)(c6:α6)(c7:α7)(c8:α8)(h:α1->α2->α3->α4->α5->α6->α7->α8->p:=by
 intro c1 c2 c3 c4 c5 c6 c7 c8;repeat' first
 |refine st ?_
 |refine cC c1 ?_
 |refine cC c2 ?_
 |refine cC c3 ?_
 |refine cC c4 ?_
 |refine cC c5 ?_
 |refine cC c6 ?_
 |refine cC c7 ?_
 |refine cC c8 ?_
 |exact aR
 |(refine sp ?_ ?_<;>(intro hB;first|exact absurd hB (by decide)|((try simp only[OA,O4,Oh,OW,NI,Nw]at hB);have F:=And.intro hB F)))):p:=h c1 c2 c3 c4 c5 c6 c7 c8
theorem Uo{α1 α2 α3 α4 α5 α6 α7 α8 α9 p:Prop}(c1:α1)(c2:α2)(c3:α3)(c4:α4)(c5:α5)(c6:α6)(c7:α7)(c8:α8)(c9:α9)(h:α1->α2->α3->α4->α5->α6->α7->α8->α9->p:=by
 intro c1 c2 c3 c4 c5 c6 c7 c8 c9;repeat' first
 |refine st ?_
 |refine cC c1 ?_
 |refine cC c2 ?_
 |refine cC c3 ?_
 |refine cC c4 ?_
 |refine cC c5 ?_
 |refine cC c6 ?_
 |refine cC c7 ?_
 |refine cC c8 ?_
 |refine cC c9 ?_
 |exact aR
 |(refine sp ?_ ?_<;>(intro hB;first|exact absurd hB (by decide)|((try simp only[OA,O4,Oh,OW,NI,Nw]at hB);have F:=And.intro hB F)))):p:=h c1 c2 c3 c4 c5 c6 c7 c8 c9
theorem Mq{α1 α2 α3 α4 α5 α6 α7 α8 α9 α10 p:Prop}(c1:α1)(c2:α2)(c3:α3)(c4:α4)(c5:α5)(c6:α6)(c7:α7)(c8:α8)(c9:α9)(c10:α10)(h:α1->α2->α3->α4->α5->α6->α7->α8->α9->α10->p:=by
 intro c1 c2 c3 c4 c5 c6 c7 c8 c9 c10;repeat' first
 |refine st ?_
 |refine cC c1 ?_
 |refine cC c2 ?_
 |refine cC c3 ?_
 |refine cC c4 ?_
 |refine cC c5 ?_
 |refine cC c6 ?_
 |refine cC c7 ?_
 |refine cC c8 ?_
 |refine cC c9 ?_
 |refine cC c10 ?_
 |exact aR
 |(refine sp ?_ ?_<;>(intro hB;first|exact absurd hB (by decide)|((try simp only[OA,O4,Oh,OW,NI,Nw]at hB);have F:=And.intro hB F)))):p:=h c1 c2 c3 c4 c5 c6 c7 c8 c9 c10
theorem Mk{α1 α2 α3 α4 α5 α6 α7 α8 α9 α10 α11 α12 α13 p:Prop}(c1:α1)(c2:α2)(c3:α3)(c4:α4)(c5:α5)(c6:α6)(c7:α7)(c8:α8)(c9:α9)(c10:α10)(c11:α11)(c12:α12)(c13:α13)(h:α1->α2->α3->α4->α5->α6->α7->α8->α9->α10->α11->α12->α13->p:=by
 intro c1 c2 c3 c4 c5 c6 c7 c8 c9 c10 c11 c12 c13;repeat' first
 |refine st ?_
 |refine cC c1 ?_
 |refine cC c2 ?_
 |refine cC c3 ?_
 |refine cC c4 ?_
 |refine cC c5 ?_
 |refine cC c6 ?_
 |refine cC c7 ?_
 |refine cC c8 ?_
 |refine cC c9 ?_
 |refine cC c10 ?_
 |refine cC c11 ?_
 |refine cC c12 ?_
 |refine cC c13 ?_
 |exact aR
 |(refine sp ?_ ?_<;>(intro hB;first|exact absurd hB (by decide)|((try simp only[OA,O4,Oh,OW,NI,Nw]at hB);have F:=And.intro hB F)))):p:=h c1 c2 c3 c4 c5 c6 c7 c8 c9 c10 c11 c12 c13
theorem TZ{p:Prop}(h:p:=by simp only[go_sem]):p:=h
theorem qe{p:Prop}(h:p:=by simp only[go_sem,F]):p:=h
end
end
section
open Go.RowKit
def dF(c:Int):Bool:=decide (c=95\/(97<=c/\c<=122)\/(65<=c/\c<=90))
def mj(c:Int):Bool:=decide (48<=c/\c<=57)
def cN(c:Int):Bool:=dF c||mj c||decide (c=46)
def nU(c:Int)(w:World):Calls prog 199 #[.int .u8 c] w fun e w'=>e= .returned (.bool (dF c))/\w=w':=by
 by_cases h1:c=95
 ·subst h1
  go_enter func199,ntmps199
  go_wp2
  go_ret
  exact⟨rfl,rfl⟩
 have e1:(c==95)=false:=by simp[h1]
 by_cases h2:97<=c<;>by_cases h3:c<=122<;>by_cases h4:65<=c<;>by_cases h5:c<=90
 all_goals first
  |(exfalso;omega)
  |(go_enter func199,ntmps199
    go_wp2
    go_ret
    exact⟨by simp[dF];omega,rfl⟩)
def Hy(c:Int)(w:World):Calls prog 242 #[.int .u8 c] w fun e w'=>e= .returned (.bool (mj c))/\w=w':=by
 by_cases h2:48<=c
 all_goals
  go_enter func242,ntmps242
  go_wp2
  go_ret
  exact⟨by simp[mj];try omega,rfl⟩
def xL(c:Int)(w:World):Calls prog 201 #[.int .u8 c] w fun e w'=>e= .returned (.bool (cN c))/\w=w':=by
 by_cases h1:dF c<;>by_cases h2:mj c
 all_goals
  go_enter func201,ntmps201
  go_wp2_with (first
   |(go_at_call 199;refine(nU _ _).mono ?_;rintro e w' ⟨rfl,rfl⟩)
   |(go_at_call 242;refine(Hy _ _).mono ?_;rintro e w' ⟨rfl,rfl⟩))
  go_ret
  exact⟨by simp[cN,h1,h2]<;>rfl,rfl⟩
def y5(l:List UInt8):Nat:=(l.takeWhile fun c=>cN c.toNat).length
def qu(l:List UInt8)(k:Nat)(d:k<=l.length)(a: ∀j (h:j<l.length),j<k->cN l[j].toNat=true)(b: ∀h:k<l.length,¬cN l[k].toNat=true):y5 l=k:=by
 unfold y5
 induction l generalizing k with
 |nil=>simp at d |-;omega
 | cons c l e=>
   rw[List.takeWhile_cons];cases k with
   | zero=>
     rw[Mv (show ¬cN c.toNat=true from b (by simp))];rfl
   | succ k=>
     rw[Mw (show cN c.toNat=true from a 0 (by simp) (by omega))];simp only[NQ]at d |-;rw[e k (by omega) (fun j h f=>a (j+1) (by simpa using h) (by omega)) (fun h=>b (by simpa using h))]
def G8(l:List UInt8)(hl:l.length<=9223372036854775807)(w:World):
 Calls prog 200 #[.string ⟨l.toArray⟩, .int .i64 0, .func (.func 201) #[] #[]] w fun e w'=>e= .returned (.int .i64 (y5 l))/\w=w':=by
 go_enter func200,ntmps200
 go_wp2_with fail
 go_loop [1] (fun i=> ∃k:Nat,k<=l.length/\i= .int .i64 k/\ ∀j (h:j<l.length),j<k->cN l[j].toNat=true) (fun i=>l.length-(intOf i).toNat)
 case atStart=>exact⟨0,by omega,rfl,fun j _ h=>by omega⟩
 case round=>
  obtain⟨k,hk,rfl,hall⟩:=hrel;have HA:=Nc hall;try clear hall
  by_cases hlt:k<l.length
  ·by_cases hin:cN l[k].toNat=true
   ·have hin':cN (((ByteArray.mk l.toArray)[k]'(by simpa[ByteArray.size]using hlt)).toNat)=true:=hin;have HI:=Nc hin;try clear hin
    go_wp2_with (go_at_call 201;refine(xL _ _).mono ?_;rintro e w' ⟨rfl,rfl⟩)
    go_round
    case rel=>
     refine⟨k+1,by omega,by go_num,fun j h hj=> ?_⟩;rcases P8 j k with h' | h'
     ·exact HA.out j h h'
     obtain rfl:j=k:=by omega
     exact HI.out
    case measure=>simp[intOf];omega
   have hin':cN (((ByteArray.mk l.toArray)[k]'(by simpa[ByteArray.size]using hlt)).toNat)=false:=Pb.2 hin;have HI:=Nc hin;try clear hin
   go_wp2_with (go_at_call 201;refine(xL _ _).mono ?_;rintro e w' ⟨rfl,rfl⟩)
   go_ret
   refine⟨?_,rfl⟩;rw[qu l k hk HA.out (fun _=>HI.out)];rfl
  go_wp2_with fail
  go_ret
  refine⟨?_,rfl⟩;rw[qu l k hk HA.out (fun h=>absurd h hlt)];rfl
def bp(l:List UInt8):Bool:=decide (l.length<=32)&&(match l with|[]=>false|c::_=>dF c.toNat)&&l.all fun c=>cN c.toNat
def yb(l:List UInt8):(y5 l=l.length)↔(l.all fun c=>cN c.toNat)=true:=by
 unfold y5
 induction l with
 |nil=>simp
 | cons c l a=>
   rw[List.takeWhile_cons];by_cases h:cN c.toNat=true
   ·rw[Mw h];simp only[NQ,Qf,h,Np];rw[<-a];omega
   rw[Mv h];simp[h]
def JK(l:List UInt8)(hl:l.length<=9223372036854775807)(w:World):
 Calls prog 141 #[.string ⟨l.toArray⟩] w fun e w'=>e= .returned (.bool (bp l))/\w=w':=by
 cases l with
 | nil=>
   go_enter func141,ntmps141
   go_wp2_with fail
   go_ret
   exact⟨rfl,rfl⟩
 | cons c r=>
   generalize hL:c::r=l at*;have hpos:0<l.length:=by rw[<-hL];simp
   have h0:l[0]=c:=by subst hL;rfl
   have hne:l.isEmpty=false:=by rw[<-hL];rfl
   have hN:bp l=(decide (l.length<=32)&&dF c.toNat&&decide ((y5 l:Int)=l.length)):=by
    subst hL;simp only[bp]
    congr 1
    rw[N8, <-yb];simp only[NI];omega
   have HN:=Nc hN;try clear hN hL
   by_cases h32:l.length<=32
   ·by_cases hc:dF c.toNat=true
    ·have hc':dF (((ByteArray.mk l.toArray)[0]'(by simpa[ByteArray.size]using hpos)).toNat)=true:=by rw[KE l 0 hpos,h0];exact hc
     have HC:=Nc hc;try clear hc h0
     go_enter func141,ntmps141
     go_wp2_with (first
      |(go_at_call 199;refine(nU _ _).mono ?_;rintro e w' ⟨rfl,rfl⟩)
      |(go_at_call 200;refine(G8 l hl _).mono ?_;rintro e w' ⟨rfl,rfl⟩))
     go_ret
     rw[HN.out];refine⟨?_,rfl⟩;simp[h32,HC.out];rfl
    have hc':dF (((ByteArray.mk l.toArray)[0]'(by simpa[ByteArray.size]using hpos)).toNat)=false:=by rw[KE l 0 hpos,h0];exact Pb.2 hc
    have HC:=Nc hc;try clear hc h0
    go_enter func141,ntmps141
    go_wp2_with (go_at_call 199;refine(nU _ _).mono ?_;rintro e w' ⟨rfl,rfl⟩)
    go_ret
    rw[HN.out];exact⟨by simp[HC.out],rfl⟩
   go_enter func141,ntmps141
   go_wp2_with fail
   go_ret
   rw[HN.out];exact⟨by simp[h32];try omega,rfl⟩
/-! The document's -/
def dX(env:cf)(c:UInt8):b8 prog env 93 [.lit (.int .u8 (c.toNat:Int))] (B (dF c.toNat)):=by
 refine qf func93 call93 ntmps93 results93 ?_;have i:=c.toNat_lt;generalize c.toNat=n at*;unfold dF;by_cases g:(n:Int)=95
 ·have e:decide ((n:Int)=95\/(97<=(n:Int)/\(n:Int)<=122)\/(65<=(n:Int)/\(n:Int)<=90))=true:=by simp;omega
  rw[e];have g:((n:Int)==95)=true:=by simp;omega
  have F:=g;repeat refine sg ?_
  exact aR
 have a:((n:Int)==95)=false:=by simp;omega
 by_cases b:(97:Int)<=(n:Int)
 ·by_cases h:(n:Int)<=122
  ·have e:decide ((n:Int)=95\/(97<=(n:Int)/\(n:Int)<=122)\/(65<=(n:Int)/\(n:Int)<=90))=true:=by simp;omega
   rw[e];have F:=gs a b h;repeat refine sg ?_
   exact aR
  have e:decide ((n:Int)=95\/(97<=(n:Int)/\(n:Int)<=122)\/(65<=(n:Int)/\(n:Int)<=90))=false:=by simp;omega
  have d:(65:Int)<=(n:Int):=by omega
  have f: ¬(n:Int)<=90:=by omega
  rw[e];have F:=ii a b h d f;repeat refine sg ?_
  exact aR
 by_cases d:(65:Int)<=(n:Int)
 ·by_cases f:(n:Int)<=90
  ·have e:decide ((n:Int)=95\/(97<=(n:Int)/\(n:Int)<=122)\/(65<=(n:Int)/\(n:Int)<=90))=true:=by simp;omega
   rw[e];have F:=i0 a b d f;repeat refine sg ?_
   exact aR
  have e:decide ((n:Int)=95\/(97<=(n:Int)/\(n:Int)<=122)\/(65<=(n:Int)/\(n:Int)<=90))=false:=by simp;omega
  rw[e];have F:=i0 a b d f;repeat refine sg ?_
  exact aR
 have e:decide ((n:Int)=95\/(97<=(n:Int)/\(n:Int)<=122)\/(65<=(n:Int)/\(n:Int)<=90))=false:=by simp;omega
 rw[e];have F:=gs a b d;repeat refine sg ?_
 exact aR
def kw(env:cf)(c:UInt8):b8 prog env 94 [.lit (.int .u8 (c.toNat:Int))] (B (mj c.toNat)):=by
 refine qf func94 call94 ntmps94 results94 ?_;generalize c.toNat=n at*;unfold mj;by_cases a:(48:Int)<=(n:Int)
 ·by_cases b:(n:Int)<=57
  ·rw[Ny ⟨a,b⟩];have F:=ai a b;repeat refine sg ?_
   exact aR
  rw[Nm (by omega)];have F:=ai a b;repeat refine sg ?_
  exact aR
 rw[Nm (by omega)];have F:=a;repeat refine sg ?_
 exact aR
def wD{l:List UInt8}{p:UInt8->Bool}{i:Nat}(h:(l.take i).all p=true)(hi:i<l.length)(a:p l[i]=true):(l.take (i+1)).all p=true:=by
 rw[PK hi,QT,h];simp[a]
def M1{l:List UInt8}{p:UInt8->Bool}{i:Nat}(hi:i<l.length)(a:p l[i]=false):l.all p=false:=by
 rw[Pb];intro h;rw[NB]at h;rw[h _ (Oo hi)]at a;cases a
def iJ(env:cf)(l:List UInt8):b8 prog env 52 [Sg l] (B (bp l)):=by
 refine qf func52 call52 ntmps52 results52 ?_;by_cases m:l=[]
 ·subst m;repeat refine Uk ?_
  refine oY (by simp only[go_sem];exact iR) ?_;repeat refine Uk ?_
  (refine aM ?_;show (ag _ _ _).run _=some _;simp only[go_sem])
  rfl
 obtain⟨c,j⟩: ∃c,l[0]? =some c:=⟨l[0]'(Oi.2 m),Ms _⟩
 have v:((l.length:Int)==0)=false:=by
  have:=Oi.2 m;simp;exact m
 by_cases A:l.length<=32
 ·have o: ¬32< (l.length:Int):=by omega
  by_cases n:dF c.toNat=true
  ·have e:bp l=l.all fun c=>cN c.toNat:=by
    cases l with
    |nil=>exact(m rfl).elim
    | cons d r=>
      simp only[Nr,Mu]at j;subst j;unfold bp;simp only[n,Ny A,Np]
   have F:=i0 v o j n;repeat refine sg ?_
   refine cC (dX env c) ?_;repeat refine sg ?_
   refine oN (by simp only[go_sem,F];exact iR) ?_;repeat refine sg ?_
   refine lq l.length (by omega) (fun i _=>[(0,Sg l),(3,I i)]) (fun _ _=>[]) (fun i _ _=>((l.take i).all fun c=>cN c.toNat)=true) rfl ?_ ?_
   ·rintro i C u b k q y;have s:l[i]? =some l[i]:=Ms b;have a:=fun z=>wD (p:=fun c=>cN c.toNat) y b z;have h:=fun z=>M1 (p:=fun c=>cN c.toNat) b z;try simp only at a
    try simp only at h
    generalize l[i]=x at*;by_cases f:dF x.toNat=true
    ·
     have F:=i0 k q s f;repeat refine sg ?_
     refine oY (by simp only[go_sem,F];exact iR) ?_;repeat refine sg ?_
     refine cC (dX env x) ?_;repeat refine sg ?_
     refine oN (by simp only[go_sem,F];exact iR) ?_;repeat refine sg ?_
     exact qn (i+1) ⟨b,a (by simp[cN,f])⟩
    have f:dF x.toNat=false:=by simpa using f
    by_cases g:mj x.toNat=true
    ·
     have F:=ii k q s f g;repeat refine sg ?_
     refine oY (by simp only[go_sem,F];exact iR) ?_;repeat refine sg ?_
     refine cC (dX env x) ?_;repeat refine sg ?_
     refine cC (kw env x) ?_;repeat refine sg ?_
     refine oN (by simp only[go_sem,F];exact iR) ?_;repeat refine sg ?_
     exact qn (i+1) ⟨b,a (by simp[cN,f,g])⟩
    have g:mj x.toNat=false:=by simpa using g
    by_cases t:(x.toNat:Int)=46
    ·have w:((x.toNat:Int) != 46)=false:=by rw[t];rfl
     have F:=kv k q s f g w;repeat refine sg ?_
     refine oY (by simp only[go_sem,F];exact iR) ?_;repeat refine sg ?_
     refine cC (dX env x) ?_;repeat refine sg ?_
     refine cC (kw env x) ?_;repeat refine sg ?_
     refine oN (by simp only[go_sem,F];exact iR) ?_;repeat refine sg ?_
     exact qn (i+1) ⟨b,a (by simp only[cN,f,g,Ny t,Bool.or_true])⟩
    have w:((x.toNat:Int) != 46)=true:=Rf.2 t;have F:=kv k q s f g w;repeat refine sg ?_
    refine oY (by simp only[go_sem,F];exact iR) ?_;repeat refine sg ?_
    refine cC (dX env x) ?_;repeat refine sg ?_
    refine cC (kw env x) ?_;repeat refine sg ?_
    refine oY (by simp only[go_sem,F];exact iR) ?_;repeat refine sg ?_
    (refine aM ?_;show (ag _ _ _).run _=some _;simp only[go_sem,F])
    rw[e,h (by simp only[cN,f,g,Nm t,Bool.or_false])]
   rintro C u k y;have F:=k;repeat refine sg ?_
   refine oN (by simp only[go_sem,F];exact iR) ?_;repeat refine sg ?_
   (refine aM ?_;show (ag _ _ _).run _=some _;simp only[go_sem,F])
   rw[e, <-y,Nu (by omega)]
  have n:dF c.toNat=false:=by simpa using n
  have e:bp l=false:=by
   cases l with
   |nil=>exact(m rfl).elim
   | cons d r=>
     simp only[Nr,Mu]at j;subst j;unfold bp;simp only[n,Oc,Nt]
  rw[e];have F:=i0 v o j n;repeat refine sg ?_
  refine cC (dX env c) ?_;repeat refine sg ?_
  refine oY (by simp only[go_sem,F];exact iR) ?_;repeat refine sg ?_
  exact aR
 have o:32< (l.length:Int):=by omega
 have e:bp l=false:=by
  unfold bp;rw[Nm A];rfl
 rw[e];have F:=gs v o j;repeat refine sg ?_
 refine oY (by simp only[go_sem,F];exact iR) ?_;repeat refine sg ?_
 exact aR
structure mu where
 kind:Int
 n:Int
 deriving DecidableEq,Inhabited
structure la where
 kind:Int
 n:Int
 name:List UInt8
 code:List mu
 deriving DecidableEq,Inhabited
structure n4 where
 name:List UInt8
 kind:Int
 parent:Int
 initial:Int
 ZW:List la
 out:List la
 deriving DecidableEq,Inhabited
structure tS where
 src:Int
 Z7:List UInt8
 guard:List mu
 Z1:List la
 target:Int
 deriving DecidableEq,Inhabited
structure No where
 name:List UInt8
 start:Int
 deriving DecidableEq,Inhabited
structure aq where
 name:List UInt8
 initial:Int
 vars:List No
 Z9:List n4
 trans:List tS
 deriving DecidableEq,Inhabited
def bW(x:mu):List AV:=[I x.kind,I x.n]
def UA:=@bW.eq_1
abbrev sv(l:List mu):AV:= .seq 2 (l.map bW)
def bB(x:la):List AV:=[I x.kind,I x.n,Sg x.name,sv x.code]
def UC:=@bB.eq_1
abbrev j'(l:List la):AV:= .seq 4 (l.map bB)
def UG:=@j'.eq_1
def aL(x:n4):List AV:=[Sg x.name,I x.kind,I x.parent,I x.initial,j' x.ZW,j' x.out]
def Ut:=@aL.eq_1
abbrev rv(l:List n4):AV:= .seq 6 (l.map aL)
def ax(x:tS):List AV:=[I x.src,Sg x.Z7,sv x.guard,j' x.Z1,I x.target]
def Uv:=@ax.eq_1
abbrev tg(l:List tS):AV:= .seq 5 (l.map ax)
def ga(x:No):List AV:=[Sg x.name,I x.start]
def UO:=@ga.eq_1
abbrev qa(l:List No):AV:= .seq 2 (l.map ga)
def aA(x:aq):List AV:=[Sg x.name,I x.initial,qa x.vars,rv x.Z9,tg x.trans]
def Us:=@aA.eq_1
/-! Lists that are no longer than memory is. -/
def rh(_:mu):Prop:=True
def iU(x:la):Prop:=x.name.length<=maxLen/\(x.code.length<=maxLen/\ ∀y∈x.code,rh y)
def vr(x:n4):Prop:=x.name.length<=maxLen/\(x.ZW.length<=maxLen/\ ∀y∈x.ZW,iU y)/\(x.out.length<=maxLen/\ ∀y∈x.out,iU y)
def vp(x:tS):Prop:=x.Z7.length<=maxLen/\(x.guard.length<=maxLen/\ ∀y∈x.guard,rh y)/\(x.Z1.length<=maxLen/\ ∀y∈x.Z1,iU y)
def pa(x:No):Prop:=x.name.length<=maxLen
def jL(x:aq):Prop:=x.name.length<=maxLen/\(x.vars.length<=maxLen/\ ∀y∈x.vars,pa y)/\(x.Z9.length<=maxLen/\ ∀y∈x.Z9,vr y)/\(x.trans.length<=maxLen/\ ∀y∈x.trans,vp y)
/-! Expressions -/
def aF(k:Int):Int:=if 1<=k/\k<=4 then 0 else if k=5\/k=6 then 1 else if 7<=k/\k<=19 then 2 else -1
def jy(k:Int): -1<=aF k/\aF k<=2:=by
 unfold aF;repeat' split
 all_goals omega
def nP(o:mu)(vs ss:Int):Bool:=if o.kind=1 then decide (0<=o.n/\o.n<=2147483647) else if o.kind=2 then decide (0<=o.n/\o.n<vs) else if o.kind=4 then decide (0<=o.n/\o.n<ss) else decide (o.n=0)
def cE(vs ss n:Int)(o:mu):Bool:=decide (0<=aF o.kind)&&decide (aF o.kind<=n)&&nP o vs ss
def sh(vs ss:Int):List mu->Int->Option Int
 |[],n=>some n
 |o::l,n=>if cE vs ss n o then sh vs ss l (n-aF o.kind+1) else none
def iY(l:List mu)(vs ss:Int):Int:=if 32<l.length then 8 else if sh vs ss l 0=some 1 then 0 else 1
def bo(l:List mu)(vs ss:Int):Bool:=iY l vs ss==0
def pB{vs ss:Int}{l:List mu}{k:Nat}{o:mu}{n:Int}(h:l[k]? =some o)(a:sh vs ss l 0=sh vs ss (l.drop k) n):(cE vs ss n o=true->sh vs ss l 0=sh vs ss (l.drop (k+1)) (n-aF o.kind+1))/\(cE vs ss n o=false->sh vs ss l 0=none):=by
 have b:k<l.length:=(Mt.1 h).1
 have c:l.drop k=o::l.drop (k+1):=by
  rw[Ol b]
  congr 1
  rw[Ms b]at h;exact OV h
 rw[c]at a;simp only[sh]at a;exact⟨fun e=>by rw[a,Mw e],fun e=>by rw[a,Mv (by rw[e];simp)]⟩
def t8{vs ss:Int}{l:List mu}{k:Nat}{n:Int}(h:l.length<=k)(a:sh vs ss l 0=sh vs ss (l.drop k) n):sh vs ss l 0=some n:=by
 rw[a,List.drop_eq_nil_of_le h];rfl
/-! Actions, states -/
def gM(b c:Int)(a:la):Bool:=
 if a.kind=1 then decide (0<=a.n/\a.n<b)&&(a.name == [])&&bo a.code b c
 else if a.kind=2\/a.kind=4 then(a.n==0)&&bp a.name&&bo a.code b c
 else if a.kind=3 then(a.n==0)&&(a.name == [])&&bo a.code b c
 else if a.kind=5 then(a.n==0)&&bp a.name&&(a.code == [])
 else false
def eR(b a:Int)(l:List la):Bool:=decide (l.length<=32)&&l.all (gM b a)
def eQ(s:n4):Bool:=(s.kind==1)||(s.kind==2)
def aU(s:n4):Bool:=(s.kind==4)||(s.kind==5)
def dM(c:aq)(i:Int)(a:Bool)(k:Nat):Bool:=match c.Z9[k]? with
 |some s=>(s.parent==i)&&(!a|| !aU s)
 |none=>false
def bg(c:aq)(i:Int)(a:Bool)(n:Nat):List Nat:=(List.range n).filter (dM c i a)
def av(c:aq)(i:Int)(a:Bool):List Nat:=bg c i a c.Z9.length
def qt(c:aq)(i:Int)(a:Bool)(k:Nat):bg c i a (k+1)=bg c i a k++if dM c i a k then [k] else []:=by
 unfold bg;rw[PO,N6]
 congr 1
 simp only[PC,SA]
def dR(c:aq)(i:Int)(a:Bool)(k:Nat):(bg c i a k).length<=k:=by
 have:=NV (dM c i a) (List.range k);simpa[bg]using this
def qD{c:aq}{i:Int}{a:Bool}{k n:Nat}(h:k∈bg c i a n):k<n/\dM c i a k=true:=by
 simpa[bg,NF]using h
def eY(c:aq)(a:List UInt8):Nat->Int
 |0=> -1
 | k+1=>if eY c a k= -1 then(match c.Z9[k]? with
   |some s=>if s.name=a then(k:Int) else -1
   |none=> -1) else eY c a k
def wL(c:aq)(a:List UInt8):Int:=eY c a c.Z9.length
def Aw(c:aq)(a:List UInt8){k:Nat}(h:eY c a k≠ -1): ∀n,k<=n->eY c a n=eY c a k:=by
 intro n d
 induction n with
 | zero=>obtain rfl:k=0:=by omega
         rfl
 | succ n b=>
   by_cases e:k=n+1
   ·rw[e]
   have:=b (by omega);simp only[eY];rw[this,Mv h]
def xb(c:aq)(a:List UInt8){k:Nat}(e:k<c.Z9.length)(f:eY c a k= -1)(s:n4)(g:c.Z9[k]? =some s)(d:s.name=a):wL c a=k:=by
 have b:eY c a (k+1)=k:=by
  simp only[eY,Mw f,g,Mw d]
 unfold wL;rw[Aw c a (k:=k+1) (by rw[b];omega) _ e,b]
def rB(c:aq)(a:List UInt8){k:Nat}(d:eY c a k= -1)(s:n4)(e:c.Z9[k]? =some s)(b:s.name≠a):eY c a (k+1)= -1:=by
 simp only[eY,Mw d,e,Mv b]
def bE(p:Nat->Bool)(n:Nat):Option Nat:=(List.range n).find? fun k=> !p k
def bT{p:Nat->Bool}{n:Nat}(h: ∀j,j<n->p j=true):bE p n=none:=by
 unfold bE;rw[Pt];intro x a;simp[h x (by simpa using a)]
def dN{p:Nat->Bool}{n k:Nat}(f:k<n)(h: ∀j,j<k->p j=true)(c:p k=false):bE p n=some k:=by
 unfold bE
 have e:List.range n=List.range k++(k::(List.range (n-k-1)).map (k+1+ ·)):=by
  have:n=k+(n-k):=by omega
  rw[this,List.range_add]
  congr 1
  have d:k+(n-k)-k-1+1=n-k:=by omega
  have:n-k=(n-k-1)+1:=by omega
  rw[show k+(n-k)-k-1=n-k-1 by omega,this,List.range_succ_eq_map,Nh,P4];simp only[PP,Pu,PZ,true_and];apply O6;intro a _;simp only[Function.comp];omega
 rw[e,List.find?_append];have b:(List.range k).find? (fun k=> !p k)=none:=bT h;rw[b];simp[c]
/-! What is right -/
def at_(c:aq)(i:Int):Option n4:=if 0<=i then c.Z9[i.toNat]? else none
def az(c:aq)(i:Int):Bool:=match at_ c i with
 |some q=>eQ q
 |none=>false
def dE(c:aq)(i:Nat)(s:n4):Bool:=(s.parent == -1)||(decide (0<=s.parent)&&decide (s.parent<i)&&az c s.parent)
def UU:=@dE.eq_1
def cw(c:aq)(s:n4):Bool:=match at_ c s.parent with
 |some q=>q.kind==1
 |none=>false
def D'(l:List Nat)(n:Int):Bool:=l.any fun k=>(k:Int)==n
def dK(c:aq)(i:Nat)(s:n4):Bool:=
 if s.kind=1 then(if av c i true=[] then s.initial == -1 else D' (av c i true) s.initial)
 else if s.kind=2 then((av c i true).all fun k=>az c k)&&decide (0< (av c i true).length)&&(s.initial == -1)
 else if s.kind=3 then(av c i false == [])&&((s.parent == -1)||cw c s)&&(s.initial == -1)&&(s.out == [])
 else if s.kind=4\/s.kind=5 then(av c i false == [])&&cw c s&&D' (av c s.parent true) s.initial&&(s.ZW == [])&&(s.out == [])
 else false
def U1:=@dK.eq_1
def cL(c:aq)(i:Nat)(s:n4):Bool:=bp s.name&&(wL c s.name==(i:Int))&&dE c i s&&dK c i s&&eR c.vars.length c.Z9.length s.ZW&&eR c.vars.length c.Z9.length s.out
def U0:=@cL.eq_1
def lz(c:aq)(i:Nat):Bool:=match c.Z9[i]? with
 |some s=>cL c i s
 |none=>false
def newVar(c:aq)(a:List UInt8)(i:Nat):Bool:=(c.vars.take i).all fun x=> !(x.name==a)
def qU(c:aq)(i:Nat)(v:No):Bool:=newVar c v.name i&&bp v.name&& !(v.name == [100,97,116,97])&& !(v.name == [105,110])&&decide (-2147483647<=v.start)&&decide (v.start<=2147483647)
def jl(c:aq)(i:Nat):Bool:=match c.vars[i]? with
 |some v=>qU c i v
 |none=>false
def d9(c:aq)(t:tS):Bool:=az c t.src&&((t.Z7 == [])||bp t.Z7)&&((t.guard == [])||bo t.guard c.vars.length c.Z9.length)&&eR c.vars.length c.Z9.length t.Z1&&((t.target == -1)||(decide (0<=t.target)&&decide (t.target<c.Z9.length)))
def r6(c:aq)(i:Nat):Bool:=match c.trans[i]? with
 |some t=>d9 c t
 |none=>false
def nD(c:aq):Bool:=match at_ c c.initial with
 |some q=>(q.parent == -1)&&eQ q
 |none=>false
def n9(c:aq):Int×Int:=
 if 32<c.Z9.length\/64<c.trans.length\/8<c.vars.length then(8, -1)
 else if c.Z9=[]\/bp c.name=false then(1, -1)
 else match bE (jl c) c.vars.length with
  |some i=>(1,2000+i)
  | none=>match bE (lz c) c.Z9.length with
    |some i=>(1,i)
    | none=>if nD c=false then(1, -1) else match bE (r6 c) c.trans.length with
      |some i=>(1,1000+i)
      |none=>(0, -1)
def eB(env:cf)(l:List UInt8)(b:l.length<=9223372036854775807):b8 prog env 141 [Sg l] (B (bp l)):=
 mn call141 fun w S d f a c=>by
  match d,a with
  | [v],_=>
    obtain rfl:=(c 0 v _ rfl rfl).lit_inv;refine(JK l b w).mono ?_;rintro e g ⟨rfl,rfl⟩;exact⟨rfl,OY _ _⟩
def aJ(n:Int):Bool:=decide (-2147483647<=n)&&decide (n<=2147483647)
def dG(env:cf)(n:Int):b8 prog env 72 [I n] (B (aJ n)):=by
 unfold aJ;refine qf func72 call72 ntmps72 results72 ?_;by_cases a: -2147483647<=n<;>by_cases b:n<=2147483647<;>
 ·have F:=ai a b;exact fc
def gF(env:cf)(n:Int):b8 prog env 15 [I n] (B (aJ n)):=by
 unfold aJ;refine qf func15 call15 ntmps15 results15 ?_;by_cases a: -2147483647<=n<;>by_cases b:n<=2147483647<;>
 ·have F:=ai a b;exact fc
/-! Expressions' kinds -/
def kq{p:Int->Int->Prop}(g: ∀k:Int,1<=k->k<=4-> ¬k<1-> ¬19<k-> ¬4<k->p k 0)(i:p 5 1)(j:p 6 1)
 (l: ∀k:Int,1<=k-> ¬k<=4->(k==5)=false->(k==6)=false->7<=k->k<=19-> ¬k<1-> ¬19<k-> ¬k<=6->p k 2)
 (m: ∀k:Int,¬1<=k->(k==5)=false->(k==6)=false-> ¬7<=k->k<1->p k (-1))
 (n: ∀k:Int,1<=k-> ¬k<=4->(k==5)=false->(k==6)=false->7<=k-> ¬k<=19-> ¬k<1->19<k->p k (-1))(k:Int):p k (aF k):=by
 have f: ∀a b:Int,a≠b->(a==b)=false:=fun a b h=>by simpa using h
 by_cases a:1<=k
 ·by_cases b:k<=4
  ·rw[show aF k=0 by unfold aF;rw[Mw ⟨a,b⟩]];exact g k a b (by omega) (by omega) (by omega)
  by_cases c:k=5
  ·subst c;exact i
  by_cases d:k=6
  ·subst d;exact j
  by_cases e:k<=19
  ·rw[show aF k=2 by unfold aF;rw[Mv (by omega),Mv (by omega),Mw (by omega)]];exact l k a b (f _ _ c) (f _ _ d) (by omega) e (by omega) (by omega) (by omega)
  rw[show aF k= -1 by unfold aF;rw[Mv (by omega),Mv (by omega),Mv (by omega)]];exact n k a b (f _ _ c) (f _ _ d) (by omega) e (by omega) (by omega)
 rw[show aF k= -1 by unfold aF;rw[Mv (by omega),Mv (by omega),Mv (by omega)]];exact m k a (f _ _ (by omega)) (f _ _ (by omega)) (by omega) (by omega)
def fZ(env:cf)(k:Int):b8 prog env 279 [I k] (I (aF k)):=by
 refine kq (p:=fun k r=>b8 prog env 279 [I k] (I r)) ?_ ?_ ?_ ?_ ?_ ?_ k
 ·intro k a b c d e;refine qf func279 call279 ntmps279 results279 ?_;have F:=ii a b c d e;exact fc
 ·refine qf func279 call279 ntmps279 results279 ?_;repeat refine nw ?_
  exact px
 ·refine qf func279 call279 ntmps279 results279 ?_;repeat refine nw ?_
  exact px
 ·intro k a b c d e f g h i;refine qf func279 call279 ntmps279 results279 ?_;have F:=qs a b c d e f g h i;exact fc
 ·intro k a b c d e;refine qf func279 call279 ntmps279 results279 ?_;have F:=ii a b c d e;exact fc
 intro k a b c d e f g h;refine qf func279 call279 ntmps279 results279 ?_;have F:=qr a b c d e f g h;exact fc
def dn(env:cf)(k:Int):b8 prog env 219 [I k] (I (aF k)):=by
 refine kq (p:=fun k r=>b8 prog env 219 [I k] (I r)) ?_ ?_ ?_ ?_ ?_ ?_ k
 ·intro k a b c d e;refine qf func219 call219 ntmps219 results219 ?_;have F:=ii a b c d e;exact fc
 ·refine qf func219 call219 ntmps219 results219 ?_;repeat refine nw ?_
  exact px
 ·refine qf func219 call219 ntmps219 results219 ?_;repeat refine nw ?_
  exact px
 ·intro k a b c d e f g h i;refine qf func219 call219 ntmps219 results219 ?_;have F:=qs a b c d e f g h i;exact fc
 ·intro k a b c d e;refine qf func219 call219 ntmps219 results219 ?_;have F:=ii a b c d e;exact fc
 intro k a b c d e f g h;refine qf func219 call219 ntmps219 results219 ?_;have F:=qr a b c d e f g h;exact fc
def tA{p:mu->Bool->Prop}(vs ss:Int)
 (e: ∀n:Int,p ⟨1,n⟩ (decide (0<=n)&&decide (n<=2147483647)))(f: ∀n:Int,p ⟨2,n⟩ (decide (0<=n)&&decide (n<vs)))(g: ∀n:Int,p ⟨4,n⟩ (decide (0<=n)&&decide (n<ss)))
 (h: ∀k n:Int,(k==1)=false->(k==2)=false->(k==4)=false->p ⟨k,n⟩ (decide (n=0)))(o:mu):p o (nP o vs ss):=by
 have d: ∀a b:Int,a≠b->(a==b)=false:=fun a b h=>by simpa using h
 obtain⟨k,n⟩:=o;unfold nP;simp only[SB];by_cases a:k=1
 ·subst a;simpa using e n
 by_cases b:k=2
 ·subst b;simpa using f n
 by_cases c:k=4
 ·subst c;simpa using g n
 rw[Mv a,Mv b,Mv c];exact h k n (d _ _ a) (d _ _ b) (d _ _ c)
def iy(env:cf)(o:mu)(vs ss:Int):b8 prog env 280 [.agg (bW o),I vs,I ss] (B (nP o vs ss)):=by
 refine tA (p:=fun o r=>b8 prog env 280 [.agg (bW o),I vs,I ss] (B r)) vs ss (fun n=> ?_) (fun n=> ?_) (fun n=> ?_) (fun k n d e f=> ?_) o
 ·refine qf func280 call280 ntmps280 results280 ?_;by_cases a:0<=n<;>by_cases b:n<=2147483647<;>
  ·have c:(n<2147483648)=(n<=2147483647):=by rw[eq_iff_iff];omega
   have F:=i0 UA a b c;exact fc
 ·refine qf func280 call280 ntmps280 results280 ?_;by_cases a:0<=n<;>by_cases b:n<vs<;>
  ·have F:=gs UA a b;exact fc
 ·refine qf func280 call280 ntmps280 results280 ?_;by_cases a:0<=n<;>by_cases b:n<ss<;>
  ·have F:=gs UA a b;exact fc
 refine qf func280 call280 ntmps280 results280 ?_;by_cases a:0<=n<;>by_cases b:n<1<;>
 ·have c:(n=0)=(0<=n/\n<1):=by rw[eq_iff_iff];omega
  have F:=m7 UA a b c d e f;exact fc
def iu(env:cf)(o:mu)(vs ss:Int):b8 prog env 220 [.agg (bW o),I vs,I ss] (B (nP o vs ss)):=by
 refine tA (p:=fun o r=>b8 prog env 220 [.agg (bW o),I vs,I ss] (B r)) vs ss (fun n=> ?_) (fun n=> ?_) (fun n=> ?_) (fun k n c d e=> ?_) o
 ·refine qf func220 call220 ntmps220 results220 ?_;by_cases a:0<=n<;>by_cases b:n<=2147483647<;>
  ·have F:=gs UA a b;exact fc
 ·refine qf func220 call220 ntmps220 results220 ?_;by_cases a:0<=n<;>by_cases b:n<vs<;>
  ·have F:=gs UA a b;exact fc
 ·refine qf func220 call220 ntmps220 results220 ?_;by_cases a:0<=n<;>by_cases b:n<ss<;>
  ·have F:=gs UA a b;exact fc
 refine qf func220 call220 ntmps220 results220 ?_;have f:decide (n=0)=(n==0):=by rw[N8];simp
 rw[f];have F:=i0 UA c d e;exact fc
/-! States' kinds -/
def jx(env:cf)(s:n4):b8 prog env 148 [.agg (aL s)] (B (aU s)):=by
 unfold aU;refine qf func148 call148 ntmps148 results148 ?_;cases a:(s.kind==4)<;>cases b:(s.kind==5)<;>
 ·have F:=gs Ut a b;exact fc
def ce(env:cf)(s:n4):b8 prog env 101 [.agg (aL s)] (B (aU s)):=by
 unfold aU;refine qf func101 call101 ntmps101 results101 ?_;cases a:(s.kind==4)<;>cases b:(s.kind==5)<;>
 ·have F:=gs Ut a b;exact fc
def iz(env:cf)(s:n4):b8 prog env 146 [.agg (aL s)] (B (eQ s)):=by
 unfold eQ;refine qf func146 call146 ntmps146 results146 ?_;cases a:(s.kind==1)<;>cases b:(s.kind==2)<;>
 ·have F:=gs Ut a b;exact fc
def iw(env:cf)(s:n4):b8 prog env 55 [.agg (aL s)] (B (eQ s)):=by
 unfold eQ;refine qf func55 call55 ntmps55 results55 ?_;cases a:(s.kind==1)<;>cases b:(s.kind==2)<;>
 ·have F:=gs Ut a b;exact fc
end
section
def Sf{c:Type}{a b:List c}{i:Nat}{x y:c}(h:a.take i=b.take i)(k:a[i]? =some x)(l:b[i]? =some y)(e:x=y):a.take (i+1)=b.take (i+1):=by
 obtain⟨d,f⟩:=Mt.1 k;obtain⟨g,j⟩:=Mt.1 l;rw[PK d,PK g,h,f,j,e]
def wQ{c:Type} [DecidableEq c]{a b:List c}{i:Nat}{x y:c}(d:a[i]? =some x)(f:b[i]? =some y)(e:x≠y):(a==b)=false:=by
 rw[Oz];intro h;rw[h,f]at d;exact e (OV d).symm
def BZ{c:Type} [DecidableEq c]{a b:List c}{i:Nat}(h:a.take i=b.take i)(d:a.length<=i)(e:b.length<=i):(a==b)=true:=by
 rw[Nu d,Nu e]at h;simpa using h
def aS{a:Type}{l:List a}{i:Nat}(h:i<l.length): ∃x,l[i]? =some x/\x∈l:=⟨l[i],Ms h,Oo h⟩
end
end Go.Proofs.YtfhkmjbjafeckaaGreatDoor
