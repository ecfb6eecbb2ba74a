/- Lists that are the same: plain. No program is named here. -/
import Derived.Test.YtfcdkaolcdglmaaGreatDoorP5
set_option maxRecDepth 100000
set_option maxHeartbeats 1000000
set_option linter.unusedSimpArgs false
set_option linter.defProp false
namespace Go.Proofs.YtfcdkaolcdglmaaGreatDoor
open Go.Proofs.Tryz
section
open Go.RowKit
def jF:(∀a b:Int,(a != b)= !(a==b))/\(∀a b:Nat,(a != b)= !(a==b))/\(∀a b:List UInt8,(a != b)= !(a==b))/\(∀a b:Bool,(a != b)= !(a==b)):=⟨fun _ _=>rfl,fun _ _=>rfl,fun _ _=>rfl,fun _ _=>rfl⟩
def sm{p q:Prop}(k:q)(h:q->p:=by
 intro k;first
 |refine oO rfl (by simp only[go_sem];exact⟨rfl,rfl⟩) ?_
 |refine gR ?_
 |refine gO ?_
 |refine oZ (ki ?_)
 |refine oZ ?_
 |refine oS ?_
 |refine gT ?_
 |refine gD mixed ?_
 |refine oB ?_
 |refine oK ?_
 |(refine oX ?_;simp only[bR,bf, ↓reduceIte,Nat.reduceEqDiff,reduceCtorEq])
 |refine oY (by simp only[go_sem];exact iR) ?_
 |refine oN (by simp only[go_sem];exact iR) ?_
 exact k):p:=h k
def st{p q:Prop}(k:q)(h:q->p:=by
 intro k;first
 |refine oO rfl (by simp only[go_sem,F];exact⟨rfl,rfl⟩) ?_
 |refine gR ?_
 |refine gO ?_
 |refine oZ (ki ?_)
 |refine oZ ?_
 |refine oS ?_
 |refine gT ?_
 |refine gD mixed ?_
 |refine oB ?_
 |refine oK ?_
 |(refine oX ?_;simp only[bR,bf, ↓reduceIte,Nat.reduceEqDiff,reduceCtorEq])
 |refine oY (by simp only[go_sem,F];exact iR) ?_
 |refine oN (by simp only[go_sem,F];exact iR) ?_
 exact k):p:=h k
def Wy{p q:Prop}(k:q)(h:q->p:=by
 intro k;first
 |refine oO rfl (by simp only[go_sem];exact⟨rfl,rfl⟩) ?_
 |refine gR ?_
 |refine gO ?_
 |refine oZ (ki ?_)
 |refine oZ ?_
 |refine oS ?_
 |refine gT ?_
 |refine gD mixed ?_
 |refine oB ?_
 |refine oK ?_
 |(refine oX ?_;simp only[bR,bf, ↓reduceIte,Nat.reduceEqDiff,reduceCtorEq])
 exact k):p:=h k
def sg{p q:Prop}(k:q)(h:q->p:=by
 intro k;first
 |refine oO rfl (by simp only[go_sem,F];exact⟨rfl,rfl⟩) ?_
 |refine gR ?_
 |refine gO ?_
 |refine oZ (ki ?_)
 |refine oZ ?_
 |refine oS ?_
 |refine gT ?_
 |refine gD mixed ?_
 |refine oB ?_
 |refine oK ?_
 |(refine oX ?_;simp only[bR,bf, ↓reduceIte,Nat.reduceEqDiff,reduceCtorEq])
 exact k):p:=h k
section
variable {P:Program} {env:b7} {nt:Nat} {Q:Exit->St->Prop} {s:St}
theorem VZ{o:Oper}{f:FuncId}{args:List AV}{rest:List Ty}{s1:St}{ft:ff}{cs:List AV}{res:AV}{K:St->List ff->Prop}(hcon:cy P env f cs res)(k:jn P env rest s1 fun s2 fts=>K s2 (ft::fts))(hc:bH env s.f o=some (f,args):=by exact rfl)
 (ha:Tz (kk args) s cs:=by simp only[go_sem];exact iR)(h:DS (Ue (eB false o.dst args res) s [] []) s o.dst s1 ft:=by simp only[go_sem];exact⟨rfl,rfl⟩):jn P env (⟨o, .always⟩::rest) s K:=oC hc hcon ha h k
theorem cC{o:Oper}{f:FuncId}{args:List AV}{rest:List Ty}{s1:St}{ft:ff}{cs:List AV}{res:AV}{K:St->List ff->Prop}(hcon:cy P env f cs res)(k:jn P env rest s1 fun s2 fts=>K s2 (ft::fts))(hc:bH env s.f o=some (f,args):=by exact rfl)
 (ha:Tz (kk args) s cs:=by simp only[go_sem,F];exact iR)(h:DS (Ue (eB false o.dst args res) s [] []) s o.dst s1 ft:=by simp only[go_sem,F];exact⟨rfl,rfl⟩):jn P env (⟨o, .always⟩::rest) s K:=oC hc hcon ha h k
theorem lL{o:Oper}{f:FuncId}{args:List AV}{rest:List Ty}{s1:St}{ft:ff}{cs:List AV}{res:AV}{K:St->List ff->Prop}(hcon:UM P env f cs res)(k:jn P env rest s1 fun s2 fts=>K s2 (ft::fts))(hc:bH env s.f o=some (f,args):=by exact rfl)
 (ha:Tz (kk args) s cs:=by simp only[go_sem,F];exact iR)(h:DS (Ue (eB true o.dst args res) s [] []) s o.dst s1 ft:=by simp only[go_sem,F];exact⟨rfl,rfl⟩):jn P env (⟨o, .always⟩::rest) s K:=oL hc hcon ha h k
theorem L0(h:Q .ret s:=by show (au _ _ _).run _=some _;simp only[go_sem]):gu P env nt .ret Q s:=aO h
theorem aR(h:Q .ret s:=by show (au _ _ _).run _=some _;simp only[go_sem,F]):gu P env nt .ret Q s:=aO h
theorem Wp{D:Type}{c:Code}(A:D->(Nat->Nat)->List (Nat×AV))(R:D->(Nat->Nat)->List (Nat×Row))(inv:D->(Nat->Nat)->(Nat->Bool)->Prop)(μ:D->Nat)(d0:D)(h0:inv d0 s.vs s.esc)
 (round: ∀d vs esc,inv d vs esc->gu P env nt c (bR (fun s1=> ∃d',inv d' s1.vs s1.esc/\dK s1 (A d' s1.vs)/\cn s1 (R d' s1.vs)/\μ d'<μ d) Q) (head (A d vs) (R d vs) vs esc))
 (hF:dK s (A d0 s.vs):=by first|(simp only[go_sem];done)|(simp only[go_sem];rfl))(hR:cn s (R d0 s.vs):=by first|(simp only[go_sem];done)|(simp only[go_sem];rfl)):gu P env nt (.loop c) Q s:=aN A R inv μ d0 h0 hF hR round
theorem lp{D:Type}{c:Code}(A:D->(Nat->Nat)->List (Nat×AV))(R:D->(Nat->Nat)->List (Nat×Row))(inv:D->(Nat->Nat)->(Nat->Bool)->Prop)(μ:D->Nat)(d0:D)(h0:inv d0 s.vs s.esc)
 (round: ∀d vs esc,inv d vs esc->gu P env nt c (bR (fun s1=> ∃d',inv d' s1.vs s1.esc/\dK s1 (A d' s1.vs)/\cn s1 (R d' s1.vs)/\μ d'<μ d) Q) (head (A d vs) (R d vs) vs esc))
 (hF:dK s (A d0 s.vs):=by first|(simp only[go_sem,F];done)|(simp only[go_sem,F];rfl))(hR:cn s (R d0 s.vs):=by first|(simp only[go_sem,F];done)|(simp only[go_sem,F];rfl)):gu P env nt (.loop c) Q s:=aN A R inv μ d0 h0 hF hR round
theorem qn{D:Type}{p q r m:D->Prop}(d:D)(h:p d)(hq:q d:=by first|(simp only[go_sem,F];done)|(simp only[go_sem,F];rfl))(hr:r d:=by first|(simp only[go_sem,F];done)|(simp only[go_sem,F];rfl))(hm:m d:=by first|omega|(simp;omega)): ∃d,p d/\q d/\r d/\m d:=⟨d,h,hq,hr,hm⟩
theorem UC{c:Code}(N:Nat)(hN:N<=9223372036854775807)(A:Nat->(Nat->Nat)->List (Nat×AV))(R:Nat->(Nat->Nat)->List (Nat×Row))(inv:Nat->(Nat->Nat)->(Nat->Bool)->Prop)(h0:inv 0 s.vs s.esc)
 (step: ∀j vs esc,j<N->(j:Int)< (N:Int)->IntKind.i64.wrap ((j:Int)+1)=((j+1:Nat):Int)->inv j vs esc->gu P env nt c (bR (fun s1=> ∃d',(d'<=N/\inv d' s1.vs s1.esc)/\dK s1 (A d' s1.vs)/\cn s1 (R d' s1.vs)/\N-d'<N-j) Q) (head (A j vs) (R j vs) vs esc))
 (stop: ∀vs esc,¬(N:Int)< (N:Int)->inv N vs esc->gu P env nt c (bR (fun s1=> ∃d',(d'<=N/\inv d' s1.vs s1.esc)/\dK s1 (A d' s1.vs)/\cn s1 (R d' s1.vs)/\N-d'<N-N) Q) (head (A N vs) (R N vs) vs esc))
 (hF:dK s (A 0 s.vs):=by first|(simp only[go_sem];done)|(simp only[go_sem];rfl))(hR:cn s (R 0 s.vs):=by first|(simp only[go_sem];done)|(simp only[go_sem];rfl)):gu P env nt (.loop c) Q s:=
 aN A R (fun j vs esc=>j<=N/\inv j vs esc) (fun j=>N-j) 0 ⟨O6 _,h0⟩ hF hR fun j vs esc hj=>by
  by_cases h:j<N
  ·exact step j vs esc h (mc h) (aD h hN) hj.2
  obtain rfl:j=N:=by omega
  exact stop vs esc (by omega) hj.2
theorem lq{c:Code}(N:Nat)(hN:N<=9223372036854775807)(A:Nat->(Nat->Nat)->List (Nat×AV))(R:Nat->(Nat->Nat)->List (Nat×Row))(inv:Nat->(Nat->Nat)->(Nat->Bool)->Prop)(h0:inv 0 s.vs s.esc)
 (step: ∀j vs esc,j<N->(j:Int)< (N:Int)->IntKind.i64.wrap ((j:Int)+1)=((j+1:Nat):Int)->inv j vs esc->gu P env nt c (bR (fun s1=> ∃d',(d'<=N/\inv d' s1.vs s1.esc)/\dK s1 (A d' s1.vs)/\cn s1 (R d' s1.vs)/\N-d'<N-j) Q) (head (A j vs) (R j vs) vs esc))
 (stop: ∀vs esc,¬(N:Int)< (N:Int)->inv N vs esc->gu P env nt c (bR (fun s1=> ∃d',(d'<=N/\inv d' s1.vs s1.esc)/\dK s1 (A d' s1.vs)/\cn s1 (R d' s1.vs)/\N-d'<N-N) Q) (head (A N vs) (R N vs) vs esc))
 (hF:dK s (A 0 s.vs):=by first|(simp only[go_sem,F];done)|(simp only[go_sem,F];rfl))(hR:cn s (R 0 s.vs):=by first|(simp only[go_sem,F];done)|(simp only[go_sem,F];rfl)):gu P env nt (.loop c) Q s:=
 aN A R (fun j vs esc=>j<=N/\inv j vs esc) (fun j=>N-j) 0 ⟨O6 _,h0⟩ hF hR fun j vs esc hj=>by
  by_cases h:j<N
  ·exact step j vs esc h (mc h) (aD h hN) hj.2
  obtain rfl:j=N:=by omega
  exact stop vs esc (by omega) hj.2
theorem qf{f:FuncId}{fn:Func}{c:Code}{n:Nat}{rs:Array ResultVar}{cs:List AV}{res:AV}(hf:P.funcs[f]? =some fn)(hc: ∀(args:Array Value)(w:World),(callFunc f args).run P w= .ok (.enter f args) w)(hn:fn.ntmps=n)(hr:fn.results=rs)(h:gu P env n c (Nr P rs.toList res) (St.init cs))(hb:fn.body=some c:=by exact rfl)(hl:cs.length<=n:=by simp):cy P env f cs res:=ir hf hb hc (by rw[hn];exact hl) (by rw[hn,hr];exact h)
theorem qw{f:FuncId}{fn:Func}{c:Code}{n:Nat}{rs:Array ResultVar}{cs:List AV}{res:AV}(hf:P.funcs[f]? =some fn)(hc: ∀(args:Array Value)(w:World),(callFunc f args).run P w= .ok (.enter f args) w)(hn:fn.ntmps=n)(hr:fn.results=rs)(h:gu P env n c (Me P rs.toList res) (St.init cs))(hb:fn.body=some c:=by exact rfl)(hl:cs.length<=n:=by simp):cy P env f cs res:=mS hf hb hc (by rw[hn];exact hl) (by rw[hn,hr];exact h)
theorem nf{α1 p q:Prop}(c1:α1)(k:q)(h:α1->q->p:=by
 intro c1 k;first
 |(refine sm ?_;exact k)
 |(refine VZ c1 ?_;exact k)):p:=h c1 k
theorem E8{α1 α2 p q:Prop}(c1:α1)(c2:α2)(k:q)(h:α1->α2->q->p:=by
 intro c1 c2 k;first
 |(refine sm ?_;exact k)
 |(refine VZ c1 ?_;exact k)
 |(refine VZ c2 ?_;exact k)):p:=h c1 c2 k
theorem Md{α1 α2 α3 p q:Prop}(c1:α1)(c2:α2)(c3:α3)(k:q)(h:α1->α2->α3->q->p:=by
 intro c1 c2 c3 k;first
 |(refine sm ?_;exact k)
 |(refine VZ c1 ?_;exact k)
 |(refine VZ c2 ?_;exact k)
 |(refine VZ c3 ?_;exact k)):p:=h c1 c2 c3 k
theorem g8{α1 p q:Prop}(c1:α1)(k:q)(h:α1->q->p:=by
 intro c1 k;first
 |(refine st ?_;exact k)
 |(refine cC c1 ?_;exact k)):p:=h c1 k
theorem PJ{α1 α2 p q:Prop}(c1:α1)(c2:α2)(k:q)(h:α1->α2->q->p:=by
 intro c1 c2 k;first
 |(refine st ?_;exact k)
 |(refine cC c1 ?_;exact k)
 |(refine cC c2 ?_;exact k)):p:=h c1 c2 k
theorem V6{α1 α2 α3 p q:Prop}(c1:α1)(c2:α2)(c3:α3)(k:q)(h:α1->α2->α3->q->p:=by
 intro c1 c2 c3 k;first
 |(refine st ?_;exact k)
 |(refine cC c1 ?_;exact k)
 |(refine cC c2 ?_;exact k)
 |(refine cC c3 ?_;exact k)):p:=h c1 c2 c3 k
theorem WF{α1 α2 α3 α4 p q:Prop}(c1:α1)(c2:α2)(c3:α3)(c4:α4)(k:q)(h:α1->α2->α3->α4->q->p:=by
 intro c1 c2 c3 c4 k;first
 |(refine st ?_;exact k)
 |(refine cC c1 ?_;exact k)
 |(refine cC c2 ?_;exact k)
 |(refine cC c3 ?_;exact k)
 |(refine cC c4 ?_;exact k)):p:=h c1 c2 c3 c4 k
theorem WG{α1 α2 α3 α4 α5 α6 p q:Prop}(c1:α1)(c2:α2)(c3:α3)(c4:α4)(c5:α5)(c6:α6)(k:q)(h:α1->α2->α3->α4->α5->α6->q->p:=by
 intro c1 c2 c3 c4 c5 c6 k;first
 |(refine st ?_;exact k)
 |(refine cC c1 ?_;exact k)
 |(refine cC c2 ?_;exact k)
 |(refine cC c3 ?_;exact k)
 |(refine cC c4 ?_;exact k)
 |(refine cC c5 ?_;exact k)
 |(refine cC c6 ?_;exact k)):p:=h c1 c2 c3 c4 c5 c6 k
theorem sp{p q r:Prop}(k:q)(l:r)(h:q->r->p:=by
 intro k l;first
 |exact uh (by simp only[go_sem,F];rfl) k l
 |exact Fe (by simp only[go_sem,F];rfl) k l):p:=h k l
theorem fl{p:Prop}(h:p:=by
 repeat' first
 |refine st ?_
 |exact aR
 |(refine sp ?_ ?_<;>(intro hB;first|exact absurd hB (by decide)|((try simp only[PT,Pm,QA,Pb,OR,Ov]at hB);have F:=And.intro hB F)))):p:=h
theorem nb{α1 p:Prop}(c1:α1)(h:α1->p:=by
 intro c1;repeat' first
 |refine st ?_
 |refine cC c1 ?_
 |exact aR
 |(refine sp ?_ ?_<;>(intro hB;first|exact absurd hB (by decide)|((try simp only[PT,Pm,QA,Pb,OR,Ov]at hB);have F:=And.intro hB F)))):p:=h c1
theorem po{α1 α2 p:Prop}(c1:α1)(c2:α2)(h:α1->α2->p:=by
 intro c1 c2;repeat' first
 |refine st ?_
 |refine cC c1 ?_
 |refine cC c2 ?_
 |exact aR
 |(refine sp ?_ ?_<;>(intro hB;first|exact absurd hB (by decide)|((try simp only[PT,Pm,QA,Pb,OR,Ov]at hB);have F:=And.intro hB F)))):p:=h c1 c2
theorem UR{α1 α2 α3 p:Prop}(c1:α1)(c2:α2)(c3:α3)(h:α1->α2->α3->p:=by
 intro c1 c2 c3;repeat' first
 |refine st ?_
 |refine cC c1 ?_
 |refine cC c2 ?_
 |refine cC c3 ?_
 |exact aR
 |(refine sp ?_ ?_<;>(intro hB;first|exact absurd hB (by decide)|((try simp only[PT,Pm,QA,Pb,OR,Ov]at hB);have F:=And.intro hB F)))):p:=h c1 c2 c3
theorem Wi{α1 α2 α3 α4 p:Prop}(c1:α1)(c2:α2)(c3:α3)(c4:α4)(h:α1->α2->α3->α4->p:=by
 intro c1 c2 c3 c4;repeat' first
 |refine st ?_
 |refine cC c1 ?_
 |refine cC c2 ?_
 |refine cC c3 ?_
 |refine cC c4 ?_
 |exact aR
 |(refine sp ?_ ?_<;>(intro hB;first|exact absurd hB (by decide)|((try simp only[PT,Pm,QA,Pb,OR,Ov]at hB);have F:=And.intro hB F)))):p:=h c1 c2 c3 c4
theorem Wt{α1 α2 α3 α4 α5 p:Prop}(c1:α1)(c2:α2)(c3:α3)(c4:α4)(c5:α5)(h:α1->α2->α3->α4->α5->p:=by
 intro c1 c2 c3 c4 c5;repeat' first
 |refine st ?_
 |refine cC c1 ?_
 |refine cC c2 ?_
 |refine cC c3 ?_
 |refine cC c4 ?_
 |refine cC c5 ?_
 |exact aR
 |(refine sp ?_ ?_<;>(intro hB;first|exact absurd hB (by decide)|((try simp only[PT,Pm,QA,Pb,OR,Ov]at hB);have F:=And.intro hB F)))):p:=h c1 c2 c3 c4 c5
theorem Wj{α1 α2 α3 α4 α5 α6 p:Prop}(c1:α1)(c2:α2)(c3:α3)(c4:α4)(c5:α5)(c6:α6)(h:α1->α2->α3->α4->α5->α6->p:=by
 intro c1 c2 c3 c4 c5 c6;repeat' first
 |refine st ?_
 |refine cC c1 ?_
 |refine cC c2 ?_
 |refine cC c3 ?_
 |refine cC c4 ?_
 |refine cC c5 ?_
 |refine cC c6 ?_
 |exact aR
 |(refine sp ?_ ?_<;>(intro hB;first|exact absurd hB (by decide)|((try simp only[PT,Pm,QA,Pb,OR,Ov]at hB);have F:=And.intro hB F)))):p:=h c1 c2 c3 c4 c5 c6
theorem WC{α1 α2 α3 α4 α5 α6 α7 p:Prop}(c1:α1)(c2:α2)(c3:α3)(c4:α4)(c5:α5)(c6:α6)(c7:α7)(h:α1->α2->α3->α4->α5->α6->α7->p:=by
 intro c1 c2 c3 c4 c5 c6 c7;repeat' first
 |refine st ?_
 |refine cC c1 ?_
 |refine cC c2 ?_
 |refine cC c3 ?_
 |refine cC c4 ?_
 |refine cC c5 ?_
 |refine cC c6 ?_
 |refine cC c7 ?_
 |exact aR
 |(refine sp ?_ ?_<;>(intro hB;first|exact absurd hB (by decide)|((try simp only[PT,Pm,QA,Pb,OR,Ov]at hB);have F:=And.intro hB F)))):p:=h c1 c2 c3 c4 c5 c6 c7
theorem WD{α1 α2 α3 α4 α5 α6 α7 α8 p:Prop}(c1:α1)(c2:α2)(c3:α3)(c4:α4)(c5:α5)(c6:α6)(c7:α7)(c8:α8)(h:α1->α2->α3->α4->α5->α6->α7->α8->p:=by
 intro c1 c2 c3 c4 c5 c6 c7 c8;repeat' first
 |refine st ?_
 |refine cC c1 ?_
 |refine cC c2 ?_
 |refine cC c3 ?_
 |refine cC c4 ?_
 |refine cC c5 ?_
 |refine cC c6 ?_
 |refine cC c7 ?_
 |refine cC c8 ?_
 |exact aR
 |(refine sp ?_ ?_<;>(intro hB;first|exact absurd hB (by decide)|((try simp only[PT,Pm,QA,Pb,OR,Ov]at hB);have F:=And.intro hB F)))):p:=h c1 c2 c3 c4 c5 c6 c7 c8
theorem WE{α1 α2 α3 α4 α5 α6 α7 α8 α9 p:Prop}(c1:α1)(c2:α2)(c3:α3)(c4:α4)(c5:α5)(c6:α6)(c7:α7)(c8:α8)(c9:α9)(h:α1->α2->α3->α4->α5->α6->α7->α8->α9->p:=by
 intro c1 c2 c3 c4 c5 c6 c7 c8 c9;repeat' first
 |refine st ?_
 |refine cC c1 ?_
 |refine cC c2 ?_
 |refine cC c3 ?_
 |refine cC c4 ?_
 |refine cC c5 ?_
 |refine cC c6 ?_
 |refine cC c7 ?_
 |refine cC c8 ?_
 |refine cC c9 ?_
 |exact aR
 |(refine sp ?_ ?_<;>(intro hB;first|exact absurd hB (by decide)|((try simp only[PT,Pm,QA,Pb,OR,Ov]at hB);have F:=And.intro hB F)))):p:=h c1 c2 c3 c4 c5 c6 c7 c8 c9
theorem Nz{α1 α2 α3 α4 α5 α6 α7 α8 α9 α10 p:Prop}(c1:α1)(c2:α2)(c3:α3)(c4:α4)(c5:α5)(c6:α6)(c7:α7)(c8:α8)(c9:α9)(c10:α10)(h:α1->α2->α3->α4->α5->α6->α7->α8->α9->α10->p:=by
 intro c1 c2 c3 c4 c5 c6 c7 c8 c9 c10;repeat' first
 |refine st ?_
 |refine cC c1 ?_
 |refine cC c2 ?_
 |refine cC c3 ?_
 |refine cC c4 ?_
 |refine cC c5 ?_
 |refine cC c6 ?_
 |refine cC c7 ?_
 |refine cC c8 ?_
 |refine cC c9 ?_
 |refine cC c10 ?_
 |exact aR
 |(refine sp ?_ ?_<;>(intro hB;first|exact absurd hB (by decide)|((try simp only[PT,Pm,QA,Pb,OR,Ov]at hB);have F:=And.intro hB F)))):p:=h c1 c2 c3 c4 c5 c6 c7 c8 c9 c10
theorem Nt{α1 α2 α3 α4 α5 α6 α7 α8 α9 α10 α11 α12 α13 p:Prop}(c1:α1)(c2:α2)(c3:α3)(c4:α4)(c5:α5)(c6:α6)(c7:α7)(c8:α8)(c9:α9)(c10:α10)(c11:α11)(c12:α12)(c13:α13)(h:α1->α2->α3->α4->α5->α6->α7->α8->α9->α10->α11->α12->α13->p:=by
 intro c1 c2 c3 c4 c5 c6 c7 c8 c9 c10 c11 c12 c13;repeat' first
 |refine st ?_
 |refine cC c1 ?_
 |refine cC c2 ?_
 |refine cC c3 ?_
 |refine cC c4 ?_
 |refine cC c5 ?_
 |refine cC c6 ?_
 |refine cC c7 ?_
 |refine cC c8 ?_
 |refine cC c9 ?_
 |refine cC c10 ?_
 |refine cC c11 ?_
 |refine cC c12 ?_
 |refine cC c13 ?_
 |exact aR
 |(refine sp ?_ ?_<;>(intro hB;first|exact absurd hB (by decide)|((try simp only[PT,Pm,QA,Pb,OR,Ov]at hB);have F:=And.intro hB F)))):p:=h c1 c2 c3 c4 c5 c6 c7 c8 c9 c10 c11 c12 c13
theorem Wg{p:Prop}(h:p:=by simp only[go_sem]):p:=h
theorem qe{p:Prop}(h:p:=by simp only[go_sem,F]):p:=h
end
end
section
open Go.RowKit
def dB(c:Int):Bool:=decide (c=95\/(97<=c/\c<=122)\/(65<=c/\c<=90))
def mR(c:Int):Bool:=decide (48<=c/\c<=57)
def cJ(c:Int):Bool:=dB c||mR c||decide (c=46)
def nG(c:Int)(w:World):Calls prog 130 #[.int .u8 c] w fun e w'=>e= .returned (.bool (dB c))/\w=w':=by
 by_cases h1:c=95
 ·subst h1
  go_enter func130,ntmps130
  go_wp2
  go_ret
  exact⟨rfl,rfl⟩
 have e1:(c==95)=false:=by simp[h1]
 by_cases h2:97<=c<;>by_cases h3:c<=122<;>by_cases h4:65<=c<;>by_cases h5:c<=90
 all_goals first
  |(exfalso;omega)
  |(go_enter func130,ntmps130
    go_wp2
    go_ret
    exact⟨by simp[dB];omega,rfl⟩)
def IC(c:Int)(w:World):Calls prog 164 #[.int .u8 c] w fun e w'=>e= .returned (.bool (mR c))/\w=w':=by
 by_cases h2:48<=c
 all_goals
  go_enter func164,ntmps164
  go_wp2
  go_ret
  exact⟨by simp[mR];try omega,rfl⟩
def wQ(c:Int)(w:World):Calls prog 132 #[.int .u8 c] w fun e w'=>e= .returned (.bool (cJ c))/\w=w':=by
 by_cases h1:dB c<;>by_cases h2:mR c
 all_goals
  go_enter func132,ntmps132
  go_wp2_with (first
   |(go_at_call 130;refine(nG _ _).mono ?_;rintro e w' ⟨rfl,rfl⟩)
   |(go_at_call 164;refine(IC _ _).mono ?_;rintro e w' ⟨rfl,rfl⟩))
  go_ret
  exact⟨by simp[cJ,h1,h2]<;>rfl,rfl⟩
def FL(l:List UInt8):Nat:=(l.takeWhile fun c=>cJ c.toNat).length
def qc(l:List UInt8)(k:Nat)(d:k<=l.length)(a: ∀j (h:j<l.length),j<k->cJ l[j].toNat=true)(b: ∀h:k<l.length,¬cJ l[k].toNat=true):FL l=k:=by
 unfold FL
 induction l generalizing k with
 |nil=>simp at d |-;omega
 | cons c l e=>
   rw[List.takeWhile_cons];cases k with
   | zero=>
     rw[OK (show ¬cJ c.toNat=true from b (by simp))];rfl
   | succ k=>
     rw[OL (show cJ c.toNat=true from a 0 (by simp) (by omega))];simp only[OU]at d |-;rw[e k (by omega) (fun j h f=>a (j+1) (by simpa using h) (by omega)) (fun h=>b (by simpa using h))]
def GQ(l:List UInt8)(hl:l.length<=9223372036854775807)(w:World):
 Calls prog 131 #[.string ⟨l.toArray⟩, .int .i64 0, .func (.func 132) #[] #[]] w fun e w'=>e= .returned (.int .i64 (FL l))/\w=w':=by
 go_enter func131,ntmps131
 go_wp2_with fail
 go_loop [1] (fun i=> ∃k:Nat,k<=l.length/\i= .int .i64 k/\ ∀j (h:j<l.length),j<k->cJ l[j].toNat=true) (fun i=>l.length-(intOf i).toNat)
 case atStart=>exact⟨0,by omega,rfl,fun j _ h=>by omega⟩
 case round=>
  obtain⟨k,hk,rfl,hall⟩:=hrel;have HA:=OI hall;try clear hall
  by_cases hlt:k<l.length
  ·by_cases hin:cJ l[k].toNat=true
   ·have hin':cJ (((ByteArray.mk l.toArray)[k]'(by simpa[ByteArray.size]using hlt)).toNat)=true:=hin;have HI:=OI hin;try clear hin
    go_wp2_with (go_at_call 132;refine(wQ _ _).mono ?_;rintro e w' ⟨rfl,rfl⟩)
    go_round
    case rel=>
     refine⟨k+1,by omega,by go_num,fun j h hj=> ?_⟩;rcases QN j k with h' | h'
     ·exact HA.out j h h'
     obtain rfl:j=k:=by omega
     exact HI.out
    case measure=>simp[intOf];omega
   have hin':cJ (((ByteArray.mk l.toArray)[k]'(by simpa[ByteArray.size]using hlt)).toNat)=false:=Qj.2 hin;have HI:=OI hin;try clear hin
   go_wp2_with (go_at_call 132;refine(wQ _ _).mono ?_;rintro e w' ⟨rfl,rfl⟩)
   go_ret
   refine⟨?_,rfl⟩;rw[qc l k hk HA.out (fun _=>HI.out)];rfl
  go_wp2_with fail
  go_ret
  refine⟨?_,rfl⟩;rw[qc l k hk HA.out (fun h=>absurd h hlt)];rfl
def bT(l:List UInt8):Bool:=decide (l.length<=32)&&(match l with|[]=>false|c::_=>dB c.toNat)&&l.all fun c=>cJ c.toNat
def xh(l:List UInt8):(FL l=l.length)↔(l.all fun c=>cJ c.toNat)=true:=by
 unfold FL
 induction l with
 |nil=>simp
 | cons c l a=>
   rw[List.takeWhile_cons];by_cases h:cJ c.toNat=true
   ·rw[OL h];simp only[OU,Sc,h,PQ];rw[<-a];omega
   rw[OK h];simp[h]
def uG(l:List UInt8)(hl:l.length<=9223372036854775807)(w:World):
 Calls prog 94 #[.string ⟨l.toArray⟩] w fun e w'=>e= .returned (.bool (bT l))/\w=w':=by
 cases l with
 | nil=>
   go_enter func94,ntmps94
   go_wp2_with fail
   go_ret
   exact⟨rfl,rfl⟩
 | cons c r=>
   generalize hL:c::r=l at*;have hpos:0<l.length:=by rw[<-hL];simp
   have h0:l[0]=c:=by subst hL;rfl
   have hne:l.isEmpty=false:=by rw[<-hL];rfl
   have hN:bT l=(decide (l.length<=32)&&dB c.toNat&&decide ((FL l:Int)=l.length)):=by
    subst hL;simp only[bT]
    congr 1
    rw[PC, <-xh];simp only[OR];omega
   have HN:=OI hN;try clear hN hL
   by_cases h32:l.length<=32
   ·by_cases hc:dB c.toNat=true
    ·have hc':dB (((ByteArray.mk l.toArray)[0]'(by simpa[ByteArray.size]using hpos)).toNat)=true:=by rw[Kj l 0 hpos,h0];exact hc
     have HC:=OI hc;try clear hc h0
     go_enter func94,ntmps94
     go_wp2_with (first
      |(go_at_call 130;refine(nG _ _).mono ?_;rintro e w' ⟨rfl,rfl⟩)
      |(go_at_call 131;refine(GQ l hl _).mono ?_;rintro e w' ⟨rfl,rfl⟩))
     go_ret
     rw[HN.out];refine⟨?_,rfl⟩;simp[h32,HC.out];rfl
    have hc':dB (((ByteArray.mk l.toArray)[0]'(by simpa[ByteArray.size]using hpos)).toNat)=false:=by rw[Kj l 0 hpos,h0];exact Qj.2 hc
    have HC:=OI hc;try clear hc h0
    go_enter func94,ntmps94
    go_wp2_with (go_at_call 130;refine(nG _ _).mono ?_;rintro e w' ⟨rfl,rfl⟩)
    go_ret
    rw[HN.out];exact⟨by simp[HC.out],rfl⟩
   go_enter func94,ntmps94
   go_wp2_with fail
   go_ret
   rw[HN.out];exact⟨by simp[h32];try omega,rfl⟩
/-! The document's -/
def dV(env:b7)(c:UInt8):cy prog env 79 [.lit (.int .u8 (c.toNat:Int))] (B (dB c.toNat)):=by
 refine qf func79 call79 ntmps79 results79 ?_;have i:=c.toNat_lt;generalize c.toNat=n at*;unfold dB;by_cases g:(n:Int)=95
 ·have e:decide ((n:Int)=95\/(97<=(n:Int)/\(n:Int)<=122)\/(65<=(n:Int)/\(n:Int)<=90))=true:=by simp;omega
  rw[e];have g:((n:Int)==95)=true:=by simp;omega
  have F:=g;repeat refine sg ?_
  exact aR
 have a:((n:Int)==95)=false:=by simp;omega
 by_cases b:(97:Int)<=(n:Int)
 ·by_cases h:(n:Int)<=122
  ·have e:decide ((n:Int)=95\/(97<=(n:Int)/\(n:Int)<=122)\/(65<=(n:Int)/\(n:Int)<=90))=true:=by simp;omega
   rw[e];have F:=jw a b h;repeat refine sg ?_
   exact aR
  have e:decide ((n:Int)=95\/(97<=(n:Int)/\(n:Int)<=122)\/(65<=(n:Int)/\(n:Int)<=90))=false:=by simp;omega
  have d:(65:Int)<=(n:Int):=by omega
  have f: ¬(n:Int)<=90:=by omega
  rw[e];have F:=ld a b h d f;repeat refine sg ?_
  exact aR
 by_cases d:(65:Int)<=(n:Int)
 ·by_cases f:(n:Int)<=90
  ·have e:decide ((n:Int)=95\/(97<=(n:Int)/\(n:Int)<=122)\/(65<=(n:Int)/\(n:Int)<=90))=true:=by simp;omega
   rw[e];have F:=mX a b d f;repeat refine sg ?_
   exact aR
  have e:decide ((n:Int)=95\/(97<=(n:Int)/\(n:Int)<=122)\/(65<=(n:Int)/\(n:Int)<=90))=false:=by simp;omega
  rw[e];have F:=mX a b d f;repeat refine sg ?_
  exact aR
 have e:decide ((n:Int)=95\/(97<=(n:Int)/\(n:Int)<=122)\/(65<=(n:Int)/\(n:Int)<=90))=false:=by simp;omega
 rw[e];have F:=jw a b d;repeat refine sg ?_
 exact aR
def kx(env:b7)(c:UInt8):cy prog env 80 [.lit (.int .u8 (c.toNat:Int))] (B (mR c.toNat)):=by
 refine qf func80 call80 ntmps80 results80 ?_;generalize c.toNat=n at*;unfold mR;by_cases a:(48:Int)<=(n:Int)
 ·by_cases b:(n:Int)<=57
  ·rw[Ou ⟨a,b⟩];have F:=ai a b;repeat refine sg ?_
   exact aR
  rw[Oi (by omega)];have F:=ai a b;repeat refine sg ?_
  exact aR
 rw[Oi (by omega)];have F:=a;repeat refine sg ?_
 exact aR
def vN{l:List UInt8}{p:UInt8->Bool}{i:Nat}(h:(l.take i).all p=true)(hi:i<l.length)(a:p l[i]=true):(l.take (i+1)).all p=true:=by
 rw[PG hi,SI,h];simp[a]
def N4{l:List UInt8}{p:UInt8->Bool}{i:Nat}(hi:i<l.length)(a:p l[i]=false):l.all p=false:=by
 rw[Qj];intro h;rw[OP]at h;rw[h _ (PV hi)]at a;cases a
def iA(env:b7)(l:List UInt8):cy prog env 35 [Sg l] (B (bT l)):=by
 refine qf func35 call35 ntmps35 results35 ?_;by_cases m:l=[]
 ·subst m;repeat refine Wy ?_
  refine oY (by simp only[go_sem];exact iR) ?_;repeat refine Wy ?_
  (refine aO ?_;show (au _ _ _).run _=some _;simp only[go_sem])
  rfl
 obtain⟨c,j⟩: ∃c,l[0]? =some c:=⟨l[0]'(QD.2 m),OE _⟩
 have v:((l.length:Int)==0)=false:=by
  have:=QD.2 m;simp;exact m
 by_cases A:l.length<=32
 ·have o: ¬32< (l.length:Int):=by omega
  by_cases n:dB c.toNat=true
  ·have e:bT l=l.all fun c=>cJ c.toNat:=by
    cases l with
    |nil=>exact(m rfl).elim
    | cons d r=>
      simp only[PK,OH]at j;subst j;unfold bT;simp only[n,Ou A,PQ]
   have F:=mX v o j n;repeat refine sg ?_
   refine cC (dV env c) ?_;repeat refine sg ?_
   refine oN (by simp only[go_sem,F];exact iR) ?_;repeat refine sg ?_
   refine lq l.length (by omega) (fun i _=>[(0,Sg l),(3,I i)]) (fun _ _=>[]) (fun i _ _=>((l.take i).all fun c=>cJ c.toNat)=true) rfl ?_ ?_
   ·rintro i C u b k q y;have s:l[i]? =some l[i]:=OE b;have a:=fun z=>vN (p:=fun c=>cJ c.toNat) y b z;have h:=fun z=>N4 (p:=fun c=>cJ c.toNat) b z;try simp only at a
    try simp only at h
    generalize l[i]=x at*;by_cases f:dB x.toNat=true
    ·
     have F:=mX k q s f;repeat refine sg ?_
     refine oY (by simp only[go_sem,F];exact iR) ?_;repeat refine sg ?_
     refine cC (dV env x) ?_;repeat refine sg ?_
     refine oN (by simp only[go_sem,F];exact iR) ?_;repeat refine sg ?_
     exact qn (i+1) ⟨b,a (by simp[cJ,f])⟩
    have f:dB x.toNat=false:=by simpa using f
    by_cases g:mR x.toNat=true
    ·
     have F:=ld k q s f g;repeat refine sg ?_
     refine oY (by simp only[go_sem,F];exact iR) ?_;repeat refine sg ?_
     refine cC (dV env x) ?_;repeat refine sg ?_
     refine cC (kx env x) ?_;repeat refine sg ?_
     refine oN (by simp only[go_sem,F];exact iR) ?_;repeat refine sg ?_
     exact qn (i+1) ⟨b,a (by simp[cJ,f,g])⟩
    have g:mR x.toNat=false:=by simpa using g
    by_cases t:(x.toNat:Int)=46
    ·have w:((x.toNat:Int) != 46)=false:=by rw[t];rfl
     have F:=pf k q s f g w;repeat refine sg ?_
     refine oY (by simp only[go_sem,F];exact iR) ?_;repeat refine sg ?_
     refine cC (dV env x) ?_;repeat refine sg ?_
     refine cC (kx env x) ?_;repeat refine sg ?_
     refine oN (by simp only[go_sem,F];exact iR) ?_;repeat refine sg ?_
     exact qn (i+1) ⟨b,a (by simp only[cJ,f,g,Ou t,Bool.or_true])⟩
    have w:((x.toNat:Int) != 46)=true:=RX.2 t;have F:=pf k q s f g w;repeat refine sg ?_
    refine oY (by simp only[go_sem,F];exact iR) ?_;repeat refine sg ?_
    refine cC (dV env x) ?_;repeat refine sg ?_
    refine cC (kx env x) ?_;repeat refine sg ?_
    refine oY (by simp only[go_sem,F];exact iR) ?_;repeat refine sg ?_
    (refine aO ?_;show (au _ _ _).run _=some _;simp only[go_sem,F])
    rw[e,h (by simp only[cJ,f,g,Oi t,Bool.or_false])]
   rintro C u k y;have F:=k;repeat refine sg ?_
   refine oN (by simp only[go_sem,F];exact iR) ?_;repeat refine sg ?_
   (refine aO ?_;show (au _ _ _).run _=some _;simp only[go_sem,F])
   rw[e, <-y,PI (by omega)]
  have n:dB c.toNat=false:=by simpa using n
  have e:bT l=false:=by
   cases l with
   |nil=>exact(m rfl).elim
   | cons d r=>
     simp only[PK,OH]at j;subst j;unfold bT;simp only[n,P0,PU]
  rw[e];have F:=mX v o j n;repeat refine sg ?_
  refine cC (dV env c) ?_;repeat refine sg ?_
  refine oY (by simp only[go_sem,F];exact iR) ?_;repeat refine sg ?_
  exact aR
 have o:32< (l.length:Int):=by omega
 have e:bT l=false:=by
  unfold bT;rw[Oi A];rfl
 rw[e];have F:=jw v o j;repeat refine sg ?_
 refine oY (by simp only[go_sem,F];exact iR) ?_;repeat refine sg ?_
 exact aR
structure mw where
 kind:Int
 n:Int
 deriving DecidableEq,Inhabited
structure n9 where
 kind:Int
 n:Int
 name:List UInt8
 code:List mw
 deriving DecidableEq,Inhabited
structure pc where
 name:List UInt8
 kind:Int
 parent:Int
 initial:Int
 ZW:List n9
 out:List n9
 deriving DecidableEq,Inhabited
structure Fr where
 src:Int
 Z7:List UInt8
 guard:List mw
 ZZ:List n9
 target:Int
 deriving DecidableEq,Inhabited
structure Uk where
 name:List UInt8
 start:Int
 deriving DecidableEq,Inhabited
structure aq where
 name:List UInt8
 initial:Int
 vars:List Uk
 Z9:List pc
 trans:List Fr
 deriving DecidableEq,Inhabited
def cE(x:mw):List AV:=[I x.kind,I x.n]
def WO:=@cE.eq_1
abbrev DP(l:List mw):AV:= .seq 2 (l.map cE)
def bg(x:n9):List AV:=[I x.kind,I x.n,Sg x.name,DP x.code]
def WU:=@bg.eq_1
abbrev oj(l:List n9):AV:= .seq 4 (l.map bg)
def Xg:=@oj.eq_1
def aP(x:pc):List AV:=[Sg x.name,I x.kind,I x.parent,I x.initial,oj x.ZW,oj x.out]
def WI:=@aP.eq_1
abbrev u6(l:List pc):AV:= .seq 6 (l.map aP)
def cN(x:Fr):List AV:=[I x.src,Sg x.Z7,DP x.guard,oj x.ZZ,I x.target]
def WP:=@cN.eq_1
abbrev CD(l:List Fr):AV:= .seq 5 (l.map cN)
def iC(x:Uk):List AV:=[Sg x.name,I x.start]
def Xc:=@iC.eq_1
abbrev ur(l:List Uk):AV:= .seq 2 (l.map iC)
def aA(x:aq):List AV:=[Sg x.name,I x.initial,ur x.vars,u6 x.Z9,CD x.trans]
def WH:=@aA.eq_1
/-! Lists that are no longer than memory is. -/
def vD(_:mw):Prop:=True
def jM(x:n9):Prop:=x.name.length<=maxLen/\(x.code.length<=maxLen/\ ∀y∈x.code,vD y)
def zJ(x:pc):Prop:=x.name.length<=maxLen/\(x.ZW.length<=maxLen/\ ∀y∈x.ZW,jM y)/\(x.out.length<=maxLen/\ ∀y∈x.out,jM y)
def zI(x:Fr):Prop:=x.Z7.length<=maxLen/\(x.guard.length<=maxLen/\ ∀y∈x.guard,vD y)/\(x.ZZ.length<=maxLen/\ ∀y∈x.ZZ,jM y)
def pP(x:Uk):Prop:=x.name.length<=maxLen
def oV(x:aq):Prop:=x.name.length<=maxLen/\(x.vars.length<=maxLen/\ ∀y∈x.vars,pP y)/\(x.Z9.length<=maxLen/\ ∀y∈x.Z9,zJ y)/\(x.trans.length<=maxLen/\ ∀y∈x.trans,zI y)
/-! Expressions -/
def aC(k:Int):Int:=if 1<=k/\k<=4 then 0 else if k=5\/k=6 then 1 else if 7<=k/\k<=19 then 2 else -1
def nj(k:Int): -1<=aC k/\aC k<=2:=by
 unfold aC;repeat' split
 all_goals omega
def nk(o:mw)(vs ss:Int):Bool:=if o.kind=1 then decide (0<=o.n/\o.n<=2147483647) else if o.kind=2 then decide (0<=o.n/\o.n<vs) else if o.kind=4 then decide (0<=o.n/\o.n<ss) else decide (o.n=0)
def bp(vs ss n:Int)(o:mw):Bool:=decide (0<=aC o.kind)&&decide (aC o.kind<=n)&&nk o vs ss
def um(vs ss:Int):List mw->Int->Option Int
 |[],n=>some n
 |o::l,n=>if bp vs ss n o then um vs ss l (n-aC o.kind+1) else none
def iu(l:List mw)(vs ss:Int):Int:=if 32<l.length then 8 else if um vs ss l 0=some 1 then 0 else 1
def cP(l:List mw)(vs ss:Int):Bool:=iu l vs ss==0
def ot{vs ss:Int}{l:List mw}{k:Nat}{o:mw}{n:Int}(h:l[k]? =some o)(a:um vs ss l 0=um vs ss (l.drop k) n):(bp vs ss n o=true->um vs ss l 0=um vs ss (l.drop (k+1)) (n-aC o.kind+1))/\(bp vs ss n o=false->um vs ss l 0=none):=by
 have b:k<l.length:=(OG.1 h).1
 have c:l.drop k=o::l.drop (k+1):=by
  rw[QM b]
  congr 1
  rw[OE b]at h;exact Pq h
 rw[c]at a;simp only[um]at a;exact⟨fun e=>by rw[a,OL e],fun e=>by rw[a,OK (by rw[e];simp)]⟩
def tE{vs ss:Int}{l:List mw}{k:Nat}{n:Int}(h:l.length<=k)(a:um vs ss l 0=um vs ss (l.drop k) n):um vs ss l 0=some n:=by
 rw[a,SX h];rfl
/-! Actions, states -/
def iM(b c:Int)(a:n9):Bool:=
 if a.kind=1 then decide (0<=a.n/\a.n<b)&&(a.name == [])&&cP a.code b c
 else if a.kind=2\/a.kind=4 then(a.n==0)&&bT a.name&&cP a.code b c
 else if a.kind=3 then(a.n==0)&&(a.name == [])&&cP a.code b c
 else if a.kind=5 then(a.n==0)&&bT a.name&&(a.code == [])
 else false
def eR(b a:Int)(l:List n9):Bool:=decide (l.length<=32)&&l.all (iM b a)
def eO(s:pc):Bool:=(s.kind==1)||(s.kind==2)
def ab(s:pc):Bool:=(s.kind==4)||(s.kind==5)
def dJ(c:aq)(i:Int)(a:Bool)(k:Nat):Bool:=match c.Z9[k]? with
 |some s=>(s.parent==i)&&(!a|| !ab s)
 |none=>false
def b9(c:aq)(i:Int)(a:Bool)(n:Nat):List Nat:=(List.range n).filter (dJ c i a)
def aw(c:aq)(i:Int)(a:Bool):List Nat:=b9 c i a c.Z9.length
def qb(c:aq)(i:Int)(a:Bool)(k:Nat):b9 c i a (k+1)=b9 c i a k++if dJ c i a k then [k] else []:=by
 unfold b9;rw[Qe,PH]
 congr 1
 simp only[QH,TZ]
def dR(c:aq)(i:Int)(a:Bool)(k:Nat):(b9 c i a k).length<=k:=by
 have:=Ol (dJ c i a) (List.range k);simpa[b9]using this
def pm{c:aq}{i:Int}{a:Bool}{k n:Nat}(h:k∈b9 c i a n):k<n/\dJ c i a k=true:=by
 simpa[b9,OY]using h
def eX(c:aq)(a:List UInt8):Nat->Int
 |0=> -1
 | k+1=>if eX c a k= -1 then(match c.Z9[k]? with
   |some s=>if s.name=a then(k:Int) else -1
   |none=> -1) else eX c a k
def vT(c:aq)(a:List UInt8):Int:=eX c a c.Z9.length
def AL(c:aq)(a:List UInt8){k:Nat}(h:eX c a k≠ -1): ∀n,k<=n->eX c a n=eX c a k:=by
 intro n d
 induction n with
 | zero=>obtain rfl:k=0:=by omega
         rfl
 | succ n b=>
   by_cases e:k=n+1
   ·rw[e]
   have:=b (by omega);simp only[eX];rw[this,OK h]
def wi(c:aq)(a:List UInt8){k:Nat}(e:k<c.Z9.length)(f:eX c a k= -1)(s:pc)(g:c.Z9[k]? =some s)(d:s.name=a):vT c a=k:=by
 have b:eX c a (k+1)=k:=by
  simp only[eX,OL f,g,OL d]
 unfold vT;rw[AL c a (k:=k+1) (by rw[b];omega) _ e,b]
def qm(c:aq)(a:List UInt8){k:Nat}(d:eX c a k= -1)(s:pc)(e:c.Z9[k]? =some s)(b:s.name≠a):eX c a (k+1)= -1:=by
 simp only[eX,OL d,e,OK b]
def bC(p:Nat->Bool)(n:Nat):Option Nat:=(List.range n).find? fun k=> !p k
def bN{p:Nat->Bool}{n:Nat}(h: ∀j,j<n->p j=true):bC p n=none:=by
 unfold bC;rw[SN];intro x a;simp[h x (by simpa using a)]
def dM{p:Nat->Bool}{n k:Nat}(f:k<n)(h: ∀j,j<k->p j=true)(c:p k=false):bC p n=some k:=by
 unfold bC
 have e:List.range n=List.range k++(k::(List.range (n-k-1)).map (k+1+ ·)):=by
  have:n=k+(n-k):=by omega
  rw[this,List.range_add]
  congr 1
  have d:k+(n-k)-k-1+1=n-k:=by omega
  have:n-k=(n-k-1)+1:=by omega
  rw[show k+(n-k)-k-1=n-k-1 by omega,this,List.range_succ_eq_map,PE,Q1];simp only[QT,QX,Qc,true_and];apply Po;intro a _;simp only[Function.comp];omega
 rw[e,List.find?_append];have b:(List.range k).find? (fun k=> !p k)=none:=bN h;rw[b];simp[c]
/-! What is right -/
def at_(c:aq)(i:Int):Option pc:=if 0<=i then c.Z9[i.toNat]? else none
def ar(c:aq)(i:Int):Bool:=match at_ c i with
 |some q=>eO q
 |none=>false
def dA(c:aq)(i:Nat)(s:pc):Bool:=(s.parent == -1)||(decide (0<=s.parent)&&decide (s.parent<i)&&ar c s.parent)
def Xh:=@dA.eq_1
def cu(c:aq)(s:pc):Bool:=match at_ c s.parent with
 |some q=>q.kind==1
 |none=>false
def Uw(l:List Nat)(n:Int):Bool:=l.any fun k=>(k:Int)==n
def dX(c:aq)(i:Nat)(s:pc):Bool:=
 if s.kind=1 then(if aw c i true=[] then s.initial == -1 else Uw (aw c i true) s.initial)
 else if s.kind=2 then((aw c i true).all fun k=>ar c k)&&decide (0< (aw c i true).length)&&(s.initial == -1)
 else if s.kind=3 then(aw c i false == [])&&((s.parent == -1)||cu c s)&&(s.initial == -1)&&(s.out == [])
 else if s.kind=4\/s.kind=5 then(aw c i false == [])&&cu c s&&Uw (aw c s.parent true) s.initial&&(s.ZW == [])&&(s.out == [])
 else false
def Xp:=@dX.eq_1
def cG(c:aq)(i:Nat)(s:pc):Bool:=bT s.name&&(vT c s.name==(i:Int))&&dA c i s&&dX c i s&&eR c.vars.length c.Z9.length s.ZW&&eR c.vars.length c.Z9.length s.out
def Xo:=@cG.eq_1
def lm(c:aq)(i:Nat):Bool:=match c.Z9[i]? with
 |some s=>cG c i s
 |none=>false
def newVar(c:aq)(a:List UInt8)(i:Nat):Bool:=(c.vars.take i).all fun x=> !(x.name==a)
def qI(c:aq)(i:Nat)(v:Uk):Bool:=newVar c v.name i&&bT v.name&& !(v.name == [100,97,116,97])&& !(v.name == [105,110])&&decide (-2147483647<=v.start)&&decide (v.start<=2147483647)
def jq(c:aq)(i:Nat):Bool:=match c.vars[i]? with
 |some v=>qI c i v
 |none=>false
def d9(c:aq)(t:Fr):Bool:=ar c t.src&&((t.Z7 == [])||bT t.Z7)&&((t.guard == [])||cP t.guard c.vars.length c.Z9.length)&&eR c.vars.length c.Z9.length t.ZZ&&((t.target == -1)||(decide (0<=t.target)&&decide (t.target<c.Z9.length)))
def rJ(c:aq)(i:Nat):Bool:=match c.trans[i]? with
 |some t=>d9 c t
 |none=>false
def mb(c:aq):Bool:=match at_ c c.initial with
 |some q=>(q.parent == -1)&&eO q
 |none=>false
def qs(c:aq):Int×Int:=
 if 32<c.Z9.length\/64<c.trans.length\/8<c.vars.length then(8, -1)
 else if c.Z9=[]\/bT c.name=false then(1, -1)
 else match bC (jq c) c.vars.length with
  |some i=>(1,2000+i)
  | none=>match bC (lm c) c.Z9.length with
    |some i=>(1,i)
    | none=>if mb c=false then(1, -1) else match bC (rJ c) c.trans.length with
      |some i=>(1,1000+i)
      |none=>(0, -1)
def dL(env:b7)(l:List UInt8)(b:l.length<=9223372036854775807):cy prog env 94 [Sg l] (B (bT l)):=
 F7 call94 fun w S d f a c=>by
  match d,a with
  | [v],_=>
    obtain rfl:=(c 0 v _ rfl rfl).lit_inv;refine(uG l b w).mono ?_;rintro e g ⟨rfl,rfl⟩;exact⟨rfl,Oy _ _⟩
def aL(n:Int):Bool:=decide (-2147483647<=n)&&decide (n<=2147483647)
def dD(env:b7)(n:Int):cy prog env 78 [I n] (B (aL n)):=by
 unfold aL;refine qf func78 call78 ntmps78 results78 ?_;by_cases a: -2147483647<=n<;>by_cases b:n<=2147483647<;>
 ·have F:=ai a b;exact fl
def G8(env:b7)(n:Int):cy prog env 81 [I n] (B (aL n)):=by
 unfold aL;refine qf func81 call81 ntmps81 results81 ?_;by_cases a: -2147483647<=n<;>by_cases b:n<=2147483647<;>
 ·have F:=ai a b;exact fl
/-! Expressions' kinds -/
def ko{p:Int->Int->Prop}(g: ∀k:Int,1<=k->k<=4-> ¬k<1-> ¬19<k-> ¬4<k->p k 0)(i:p 5 1)(j:p 6 1)
 (l: ∀k:Int,1<=k-> ¬k<=4->(k==5)=false->(k==6)=false->7<=k->k<=19-> ¬k<1-> ¬19<k-> ¬k<=6->p k 2)
 (m: ∀k:Int,¬1<=k->(k==5)=false->(k==6)=false-> ¬7<=k->k<1->p k (-1))
 (n: ∀k:Int,1<=k-> ¬k<=4->(k==5)=false->(k==6)=false->7<=k-> ¬k<=19-> ¬k<1->19<k->p k (-1))(k:Int):p k (aC k):=by
 have f: ∀a b:Int,a≠b->(a==b)=false:=fun a b h=>by simpa using h
 by_cases a:1<=k
 ·by_cases b:k<=4
  ·rw[show aC k=0 by unfold aC;rw[OL ⟨a,b⟩]];exact g k a b (by omega) (by omega) (by omega)
  by_cases c:k=5
  ·subst c;exact i
  by_cases d:k=6
  ·subst d;exact j
  by_cases e:k<=19
  ·rw[show aC k=2 by unfold aC;rw[OK (by omega),OK (by omega),OL (by omega)]];exact l k a b (f _ _ c) (f _ _ d) (by omega) e (by omega) (by omega) (by omega)
  rw[show aC k= -1 by unfold aC;rw[OK (by omega),OK (by omega),OK (by omega)]];exact n k a b (f _ _ c) (f _ _ d) (by omega) e (by omega) (by omega)
 rw[show aC k= -1 by unfold aC;rw[OK (by omega),OK (by omega),OK (by omega)]];exact m k a (f _ _ (by omega)) (f _ _ (by omega)) (by omega) (by omega)
def fU(env:b7)(k:Int):cy prog env 191 [I k] (I (aC k)):=by
 refine ko (p:=fun k r=>cy prog env 191 [I k] (I r)) ?_ ?_ ?_ ?_ ?_ ?_ k
 ·intro k a b c d e;refine qf func191 call191 ntmps191 results191 ?_;have F:=ld a b c d e;exact fl
 ·refine qf func191 call191 ntmps191 results191 ?_;repeat refine sm ?_
  exact L0
 ·refine qf func191 call191 ntmps191 results191 ?_;repeat refine sm ?_
  exact L0
 ·intro k a b c d e f g h i;refine qf func191 call191 ntmps191 results191 ?_;have F:=y' a b c d e f g h i;exact fl
 ·intro k a b c d e;refine qf func191 call191 ntmps191 results191 ?_;have F:=ld a b c d e;exact fl
 intro k a b c d e f g h;refine qf func191 call191 ntmps191 results191 ?_;have F:=L7 a b c d e f g h;exact fl
def fQ(env:b7)(k:Int):cy prog env 162 [I k] (I (aC k)):=by
 refine ko (p:=fun k r=>cy prog env 162 [I k] (I r)) ?_ ?_ ?_ ?_ ?_ ?_ k
 ·intro k a b c d e;refine qf func162 call162 ntmps162 results162 ?_;have F:=ld a b c d e;exact fl
 ·refine qf func162 call162 ntmps162 results162 ?_;repeat refine sm ?_
  exact L0
 ·refine qf func162 call162 ntmps162 results162 ?_;repeat refine sm ?_
  exact L0
 ·intro k a b c d e f g h i;refine qf func162 call162 ntmps162 results162 ?_;have F:=y' a b c d e f g h i;exact fl
 ·intro k a b c d e;refine qf func162 call162 ntmps162 results162 ?_;have F:=ld a b c d e;exact fl
 intro k a b c d e f g h;refine qf func162 call162 ntmps162 results162 ?_;have F:=L7 a b c d e f g h;exact fl
def s5{p:mw->Bool->Prop}(vs ss:Int)
 (e: ∀n:Int,p ⟨1,n⟩ (decide (0<=n)&&decide (n<=2147483647)))(f: ∀n:Int,p ⟨2,n⟩ (decide (0<=n)&&decide (n<vs)))(g: ∀n:Int,p ⟨4,n⟩ (decide (0<=n)&&decide (n<ss)))
 (h: ∀k n:Int,(k==1)=false->(k==2)=false->(k==4)=false->p ⟨k,n⟩ (decide (n=0)))(o:mw):p o (nk o vs ss):=by
 have d: ∀a b:Int,a≠b->(a==b)=false:=fun a b h=>by simpa using h
 obtain⟨k,n⟩:=o;unfold nk;simp only[Sm];by_cases a:k=1
 ·subst a;simpa using e n
 by_cases b:k=2
 ·subst b;simpa using f n
 by_cases c:k=4
 ·subst c;simpa using g n
 rw[OK a,OK b,OK c];exact h k n (d _ _ a) (d _ _ b) (d _ _ c)
def ij(env:b7)(o:mw)(vs ss:Int):cy prog env 192 [.agg (cE o),I vs,I ss] (B (nk o vs ss)):=by
 refine s5 (p:=fun o r=>cy prog env 192 [.agg (cE o),I vs,I ss] (B r)) vs ss (fun n=> ?_) (fun n=> ?_) (fun n=> ?_) (fun k n d e f=> ?_) o
 ·refine qf func192 call192 ntmps192 results192 ?_;by_cases a:0<=n<;>by_cases b:n<=2147483647<;>
  ·have c:(n<2147483648)=(n<=2147483647):=by rw[eq_iff_iff];omega
   have F:=mX WO a b c;exact fl
 ·refine qf func192 call192 ntmps192 results192 ?_;by_cases a:0<=n<;>by_cases b:n<vs<;>
  ·have F:=jw WO a b;exact fl
 ·refine qf func192 call192 ntmps192 results192 ?_;by_cases a:0<=n<;>by_cases b:n<ss<;>
  ·have F:=jw WO a b;exact fl
 refine qf func192 call192 ntmps192 results192 ?_;by_cases a:0<=n<;>by_cases b:n<1<;>
 ·have c:(n=0)=(0<=n/\n<1):=by rw[eq_iff_iff];omega
  have F:=vb WO a b c d e f;exact fl
def ic(env:b7)(o:mw)(vs ss:Int):cy prog env 163 [.agg (cE o),I vs,I ss] (B (nk o vs ss)):=by
 refine s5 (p:=fun o r=>cy prog env 163 [.agg (cE o),I vs,I ss] (B r)) vs ss (fun n=> ?_) (fun n=> ?_) (fun n=> ?_) (fun k n c d e=> ?_) o
 ·refine qf func163 call163 ntmps163 results163 ?_;by_cases a:0<=n<;>by_cases b:n<=2147483647<;>
  ·have F:=jw WO a b;exact fl
 ·refine qf func163 call163 ntmps163 results163 ?_;by_cases a:0<=n<;>by_cases b:n<vs<;>
  ·have F:=jw WO a b;exact fl
 ·refine qf func163 call163 ntmps163 results163 ?_;by_cases a:0<=n<;>by_cases b:n<ss<;>
  ·have F:=jw WO a b;exact fl
 refine qf func163 call163 ntmps163 results163 ?_;have f:decide (n=0)=(n==0):=by rw[PC];simp
 rw[f];have F:=mX WO c d e;exact fl
/-! States' kinds -/
def jy(env:b7)(s:pc):cy prog env 101 [.agg (aP s)] (B (ab s)):=by
 unfold ab;refine qf func101 call101 ntmps101 results101 ?_;cases a:(s.kind==4)<;>cases b:(s.kind==5)<;>
 ·have F:=jw WI a b;exact fl
def fo(env:b7)(s:pc):cy prog env 88 [.agg (aP s)] (B (ab s)):=by
 unfold ab;refine qf func88 call88 ntmps88 results88 ?_;cases a:(s.kind==4)<;>cases b:(s.kind==5)<;>
 ·have F:=jw WI a b;exact fl
def il(env:b7)(s:pc):cy prog env 99 [.agg (aP s)] (B (eO s)):=by
 unfold eO;refine qf func99 call99 ntmps99 results99 ?_;cases a:(s.kind==1)<;>cases b:(s.kind==2)<;>
 ·have F:=jw WI a b;exact fl
def ig(env:b7)(s:pc):cy prog env 38 [.agg (aP s)] (B (eO s)):=by
 unfold eO;refine qf func38 call38 ntmps38 results38 ?_;cases a:(s.kind==1)<;>cases b:(s.kind==2)<;>
 ·have F:=jw WI a b;exact fl
end
section
def UK{c:Type}{a b:List c}{i:Nat}{x y:c}(h:a.take i=b.take i)(k:a[i]? =some x)(l:b[i]? =some y)(e:x=y):a.take (i+1)=b.take (i+1):=by
 obtain⟨d,f⟩:=OG.1 k;obtain⟨g,j⟩:=OG.1 l;rw[PG d,PG g,h,f,j,e]
def vd{c:Type} [DecidableEq c]{a b:List c}{i:Nat}{x y:c}(d:a[i]? =some x)(f:b[i]? =some y)(e:x≠y):(a==b)=false:=by
 rw[R4];intro h;rw[h,f]at d;exact e (Pq d).symm
def Ax{c:Type} [DecidableEq c]{a b:List c}{i:Nat}(h:a.take i=b.take i)(d:a.length<=i)(e:b.length<=i):(a==b)=true:=by
 rw[PI d,PI e]at h;simpa using h
def aT{a:Type}{l:List a}{i:Nat}(h:i<l.length): ∃x,l[i]? =some x/\x∈l:=⟨l[i],OE h,PV h⟩
end
end Go.Proofs.YtfcdkaolcdglmaaGreatDoor
