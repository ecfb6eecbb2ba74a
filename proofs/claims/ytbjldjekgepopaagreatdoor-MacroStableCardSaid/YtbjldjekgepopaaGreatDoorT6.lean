/- Lists that are the same: plain. No program is named here. -/
import Derived.Test.YtbjldjekgepopaaGreatDoorT5
set_option maxRecDepth 100000
set_option maxHeartbeats 1000000
set_option linter.unusedSimpArgs false
namespace Go.Proofs.YtbjldjekgepopaaGreatDoor
open Go.Proofs.Tryz
section
open Go.RowKit
theorem i7:(∀a b:Int,(a != b)= !(a==b))/\(∀a b:Nat,(a != b)= !(a==b))/\(∀a b:List UInt8,(a != b)= !(a==b))/\(∀a b:Bool,(a != b)= !(a==b)):=⟨fun _ _=>rfl,fun _ _=>rfl,fun _ _=>rfl,fun _ _=>rfl⟩
theorem st0 {p q:Prop} (k:q) (h:q->p:=by
 intro k;first
 |refine oO rfl (by simp only[go_sem];exact⟨rfl,rfl⟩) ?_
 |refine gR ?_
 |refine gO ?_
 |refine oZ (jm ?_)
 |refine oZ ?_
 |refine oS ?_
 |refine gT ?_
 |refine gD mixed ?_
 |refine oB ?_
 |refine oK ?_
 |(refine oX ?_;simp only[bJ,ba, ↓reduceIte,Nat.reduceEqDiff,reduceCtorEq])
 |refine oY (by simp only[go_sem];exact iR) ?_
 |refine oN (by simp only[go_sem];exact iR) ?_
 exact k):p:=h k
theorem st {p q:Prop} (k:q) (h:q->p:=by
 intro k;first
 |refine oO rfl (by simp only[go_sem,F];exact⟨rfl,rfl⟩) ?_
 |refine gR ?_
 |refine gO ?_
 |refine oZ (jm ?_)
 |refine oZ ?_
 |refine oS ?_
 |refine gT ?_
 |refine gD mixed ?_
 |refine oB ?_
 |refine oK ?_
 |(refine oX ?_;simp only[bJ,ba, ↓reduceIte,Nat.reduceEqDiff,reduceCtorEq])
 |refine oY (by simp only[go_sem,F];exact iR) ?_
 |refine oN (by simp only[go_sem,F];exact iR) ?_
 exact k):p:=h k
theorem sg0 {p q:Prop} (k:q) (h:q->p:=by
 intro k;first
 |refine oO rfl (by simp only[go_sem];exact⟨rfl,rfl⟩) ?_
 |refine gR ?_
 |refine gO ?_
 |refine oZ (jm ?_)
 |refine oZ ?_
 |refine oS ?_
 |refine gT ?_
 |refine gD mixed ?_
 |refine oB ?_
 |refine oK ?_
 |(refine oX ?_;simp only[bJ,ba, ↓reduceIte,Nat.reduceEqDiff,reduceCtorEq])
 exact k):p:=h k
theorem sg {p q:Prop} (k:q) (h:q->p:=by
 intro k;first
 |refine oO rfl (by simp only[go_sem,F];exact⟨rfl,rfl⟩) ?_
 |refine gR ?_
 |refine gO ?_
 |refine oZ (jm ?_)
 |refine oZ ?_
 |refine oS ?_
 |refine gT ?_
 |refine gD mixed ?_
 |refine oB ?_
 |refine oK ?_
 |(refine oX ?_;simp only[bJ,ba, ↓reduceIte,Nat.reduceEqDiff,reduceCtorEq])
 exact k):p:=h k
section
variable {P:Program} {env:Env} {nt:Nat} {Q:Exit->St->Prop} {s:St}
theorem cC0 {o:Oper} {f:FuncId} {args:List AV} {rest:List Stp} {s1:St} {ft:Foot} {cs:List AV} {res:AV} {K:St->List Foot->Prop} (hcon:Con P env f cs res) (k:aops P env rest s1 fun s2 fts=>K s2 (ft::fts)) (hc:bB env s.f o=some (f,args):=by exact rfl)
 (ha:Takes (fzArgs args) s cs:=by simp only[go_sem];exact iR) (h:Comes' (runL (db false o.dst args res) s [] []) s o.dst s1 ft:=by simp only[go_sem];exact⟨rfl,rfl⟩):aops P env (⟨o, .always⟩::rest) s K:=oC hc hcon ha h k
theorem cC {o:Oper} {f:FuncId} {args:List AV} {rest:List Stp} {s1:St} {ft:Foot} {cs:List AV} {res:AV} {K:St->List Foot->Prop} (hcon:Con P env f cs res) (k:aops P env rest s1 fun s2 fts=>K s2 (ft::fts)) (hc:bB env s.f o=some (f,args):=by exact rfl)
 (ha:Takes (fzArgs args) s cs:=by simp only[go_sem,F];exact iR) (h:Comes' (runL (db false o.dst args res) s [] []) s o.dst s1 ft:=by simp only[go_sem,F];exact⟨rfl,rfl⟩):aops P env (⟨o, .always⟩::rest) s K:=oC hc hcon ha h k
theorem lL {o:Oper} {f:FuncId} {args:List AV} {rest:List Stp} {s1:St} {ft:Foot} {cs:List AV} {res:AV} {K:St->List Foot->Prop} (hcon:ConF P env f cs res) (k:aops P env rest s1 fun s2 fts=>K s2 (ft::fts)) (hc:bB env s.f o=some (f,args):=by exact rfl)
 (ha:Takes (fzArgs args) s cs:=by simp only[go_sem,F];exact iR) (h:Comes' (runL (db true o.dst args res) s [] []) s o.dst s1 ft:=by simp only[go_sem,F];exact⟨rfl,rfl⟩):aops P env (⟨o, .always⟩::rest) s K:=oL hc hcon ha h k
theorem aR0 (h:Q .ret s:=by show (an _ _ _).run _=some _;simp only[go_sem]):awp P env nt .ret Q s:=aN h
theorem aR (h:Q .ret s:=by show (an _ _ _).run _=some _;simp only[go_sem,F]):awp P env nt .ret Q s:=aN h
theorem lp0 {D:Type} {c:Code} (A:D->(Nat->Nat)->List (Nat×AV)) (R:D->(Nat->Nat)->List (Nat×Row)) (inv:D->(Nat->Nat)->(Nat->Bool)->Prop) (μ:D->Nat) (d0:D) (h0:inv d0 s.vs s.esc)
 (round: ∀d vs esc,inv d vs esc->awp P env nt c (bJ (fun s1=> ∃d',inv d' s1.vs s1.esc/\cr s1 (A d' s1.vs)/\cP s1 (R d' s1.vs)/\μ d'<μ d) Q) (head (A d vs) (R d vs) vs esc))
 (hF:cr s (A d0 s.vs):=by first|(simp only[go_sem];done)|(simp only[go_sem];rfl)) (hR:cP s (R d0 s.vs):=by first|(simp only[go_sem];done)|(simp only[go_sem];rfl)):awp P env nt (.loop c) Q s:=aK A R inv μ d0 h0 hF hR round
theorem lp {D:Type} {c:Code} (A:D->(Nat->Nat)->List (Nat×AV)) (R:D->(Nat->Nat)->List (Nat×Row)) (inv:D->(Nat->Nat)->(Nat->Bool)->Prop) (μ:D->Nat) (d0:D) (h0:inv d0 s.vs s.esc)
 (round: ∀d vs esc,inv d vs esc->awp P env nt c (bJ (fun s1=> ∃d',inv d' s1.vs s1.esc/\cr s1 (A d' s1.vs)/\cP s1 (R d' s1.vs)/\μ d'<μ d) Q) (head (A d vs) (R d vs) vs esc))
 (hF:cr s (A d0 s.vs):=by first|(simp only[go_sem,F];done)|(simp only[go_sem,F];rfl)) (hR:cP s (R d0 s.vs):=by first|(simp only[go_sem,F];done)|(simp only[go_sem,F];rfl)):awp P env nt (.loop c) Q s:=aK A R inv μ d0 h0 hF hR round
theorem qn {D:Type} {p q r m:D->Prop} (d:D) (h:p d) (hq:q d:=by first|(simp only[go_sem,F];done)|(simp only[go_sem,F];rfl)) (hr:r d:=by first|(simp only[go_sem,F];done)|(simp only[go_sem,F];rfl)) (hm:m d:=by first|omega|(simp;omega)): ∃d,p d/\q d/\r d/\m d:=⟨d,h,hq,hr,hm⟩
theorem lq0 {c:Code} (N:Nat) (hN:N<=9223372036854775807) (A:Nat->(Nat->Nat)->List (Nat×AV)) (R:Nat->(Nat->Nat)->List (Nat×Row)) (inv:Nat->(Nat->Nat)->(Nat->Bool)->Prop) (h0:inv 0 s.vs s.esc)
 (step: ∀j vs esc,j<N->(j:Int)< (N:Int)->IntKind.i64.wrap ((j:Int)+1)=((j+1:Nat):Int)->inv j vs esc->awp P env nt c (bJ (fun s1=> ∃d',(d'<=N/\inv d' s1.vs s1.esc)/\cr s1 (A d' s1.vs)/\cP s1 (R d' s1.vs)/\N-d'<N-j) Q) (head (A j vs) (R j vs) vs esc))
 (stop: ∀vs esc,¬(N:Int)< (N:Int)->inv N vs esc->awp P env nt c (bJ (fun s1=> ∃d',(d'<=N/\inv d' s1.vs s1.esc)/\cr s1 (A d' s1.vs)/\cP s1 (R d' s1.vs)/\N-d'<N-N) Q) (head (A N vs) (R N vs) vs esc))
 (hF:cr s (A 0 s.vs):=by first|(simp only[go_sem];done)|(simp only[go_sem];rfl)) (hR:cP s (R 0 s.vs):=by first|(simp only[go_sem];done)|(simp only[go_sem];rfl)):awp P env nt (.loop c) Q s:=
 aK A R (fun j vs esc=>j<=N/\inv j vs esc) (fun j=>N-j) 0 ⟨Ke _,h0⟩ hF hR fun j vs esc hj=>by
  by_cases h:j<N
  ·exact step j vs esc h (nlt h) (aD h hN) hj.2
  ·obtain rfl:j=N:=by omega
   exact stop vs esc (by omega) hj.2
theorem lq {c:Code} (N:Nat) (hN:N<=9223372036854775807) (A:Nat->(Nat->Nat)->List (Nat×AV)) (R:Nat->(Nat->Nat)->List (Nat×Row)) (inv:Nat->(Nat->Nat)->(Nat->Bool)->Prop) (h0:inv 0 s.vs s.esc)
 (step: ∀j vs esc,j<N->(j:Int)< (N:Int)->IntKind.i64.wrap ((j:Int)+1)=((j+1:Nat):Int)->inv j vs esc->awp P env nt c (bJ (fun s1=> ∃d',(d'<=N/\inv d' s1.vs s1.esc)/\cr s1 (A d' s1.vs)/\cP s1 (R d' s1.vs)/\N-d'<N-j) Q) (head (A j vs) (R j vs) vs esc))
 (stop: ∀vs esc,¬(N:Int)< (N:Int)->inv N vs esc->awp P env nt c (bJ (fun s1=> ∃d',(d'<=N/\inv d' s1.vs s1.esc)/\cr s1 (A d' s1.vs)/\cP s1 (R d' s1.vs)/\N-d'<N-N) Q) (head (A N vs) (R N vs) vs esc))
 (hF:cr s (A 0 s.vs):=by first|(simp only[go_sem,F];done)|(simp only[go_sem,F];rfl)) (hR:cP s (R 0 s.vs):=by first|(simp only[go_sem,F];done)|(simp only[go_sem,F];rfl)):awp P env nt (.loop c) Q s:=
 aK A R (fun j vs esc=>j<=N/\inv j vs esc) (fun j=>N-j) 0 ⟨Ke _,h0⟩ hF hR fun j vs esc hj=>by
  by_cases h:j<N
  ·exact step j vs esc h (nlt h) (aD h hN) hj.2
  ·obtain rfl:j=N:=by omega
   exact stop vs esc (by omega) hj.2
theorem qf {f:FuncId} {fn:Func} {c:Code} {n:Nat} {rs:Array ResultVar} {cs:List AV} {res:AV} (hf:P.funcs[f]? =some fn) (hc: ∀(args:Array Value) (w:World),(callFunc f args).run P w= .ok (.enter f args) w) (hn:fn.ntmps=n) (hr:fn.results=rs) (h:awp P env n c (KN P rs.toList res) (St.init cs)) (hb:fn.body=some c:=by exact rfl) (hl:cs.length<=n:=by simp):Con P env f cs res:=kD hf hb hc (by rw[hn];exact hl) (by rw[hn,hr];exact h)
theorem qw {f:FuncId} {fn:Func} {c:Code} {n:Nat} {rs:Array ResultVar} {cs:List AV} {res:AV} (hf:P.funcs[f]? =some fn) (hc: ∀(args:Array Value) (w:World),(callFunc f args).run P w= .ok (.enter f args) w) (hn:fn.ntmps=n) (hr:fn.results=rs) (h:awp P env n c (JF P rs.toList res) (St.init cs)) (hb:fn.body=some c:=by exact rfl) (hl:cs.length<=n:=by simp):Con P env f cs res:=lU hf hb hc (by rw[hn];exact hl) (by rw[hn,hr];exact h)
theorem lZ {α1 p q:Prop} (c1:α1) (k:q) (h:α1->q->p:=by
 intro c1 k;first
 |(refine st0 ?_;exact k)
 |(refine cC0 c1 ?_;exact k)):p:=h c1 k
theorem yt {α1 α2 p q:Prop} (c1:α1) (c2:α2) (k:q) (h:α1->α2->q->p:=by
 intro c1 c2 k;first
 |(refine st0 ?_;exact k)
 |(refine cC0 c1 ?_;exact k)
 |(refine cC0 c2 ?_;exact k)):p:=h c1 c2 k
theorem Aa {α1 α2 α3 p q:Prop} (c1:α1) (c2:α2) (c3:α3) (k:q) (h:α1->α2->α3->q->p:=by
 intro c1 c2 c3 k;first
 |(refine st0 ?_;exact k)
 |(refine cC0 c1 ?_;exact k)
 |(refine cC0 c2 ?_;exact k)
 |(refine cC0 c3 ?_;exact k)):p:=h c1 c2 c3 k
theorem Ju {α1 α2 α3 α4 p q:Prop} (c1:α1) (c2:α2) (c3:α3) (c4:α4) (k:q) (h:α1->α2->α3->α4->q->p:=by
 intro c1 c2 c3 c4 k;first
 |(refine st0 ?_;exact k)
 |(refine cC0 c1 ?_;exact k)
 |(refine cC0 c2 ?_;exact k)
 |(refine cC0 c3 ?_;exact k)
 |(refine cC0 c4 ?_;exact k)):p:=h c1 c2 c3 c4 k
theorem JE {α1 α2 α3 α4 α5 α6 p q:Prop} (c1:α1) (c2:α2) (c3:α3) (c4:α4) (c5:α5) (c6:α6) (k:q) (h:α1->α2->α3->α4->α5->α6->q->p:=by
 intro c1 c2 c3 c4 c5 c6 k;first
 |(refine st0 ?_;exact k)
 |(refine cC0 c1 ?_;exact k)
 |(refine cC0 c2 ?_;exact k)
 |(refine cC0 c3 ?_;exact k)
 |(refine cC0 c4 ?_;exact k)
 |(refine cC0 c5 ?_;exact k)
 |(refine cC0 c6 ?_;exact k)):p:=h c1 c2 c3 c4 c5 c6 k
theorem tz1 {α1 p q:Prop} (c1:α1) (k:q) (h:α1->q->p:=by
 intro c1 k;first
 |(refine st ?_;exact k)
 |(refine cC c1 ?_;exact k)):p:=h c1 k
theorem tz2 {α1 α2 p q:Prop} (c1:α1) (c2:α2) (k:q) (h:α1->α2->q->p:=by
 intro c1 c2 k;first
 |(refine st ?_;exact k)
 |(refine cC c1 ?_;exact k)
 |(refine cC c2 ?_;exact k)):p:=h c1 c2 k
theorem tz3 {α1 α2 α3 p q:Prop} (c1:α1) (c2:α2) (c3:α3) (k:q) (h:α1->α2->α3->q->p:=by
 intro c1 c2 c3 k;first
 |(refine st ?_;exact k)
 |(refine cC c1 ?_;exact k)
 |(refine cC c2 ?_;exact k)
 |(refine cC c3 ?_;exact k)):p:=h c1 c2 c3 k
theorem tz4 {α1 α2 α3 α4 p q:Prop} (c1:α1) (c2:α2) (c3:α3) (c4:α4) (k:q) (h:α1->α2->α3->α4->q->p:=by
 intro c1 c2 c3 c4 k;first
 |(refine st ?_;exact k)
 |(refine cC c1 ?_;exact k)
 |(refine cC c2 ?_;exact k)
 |(refine cC c3 ?_;exact k)
 |(refine cC c4 ?_;exact k)):p:=h c1 c2 c3 c4 k
theorem tz5 {α1 α2 α3 α4 α5 p q:Prop} (c1:α1) (c2:α2) (c3:α3) (c4:α4) (c5:α5) (k:q) (h:α1->α2->α3->α4->α5->q->p:=by
 intro c1 c2 c3 c4 c5 k;first
 |(refine st ?_;exact k)
 |(refine cC c1 ?_;exact k)
 |(refine cC c2 ?_;exact k)
 |(refine cC c3 ?_;exact k)
 |(refine cC c4 ?_;exact k)
 |(refine cC c5 ?_;exact k)):p:=h c1 c2 c3 c4 c5 k
theorem tz6 {α1 α2 α3 α4 α5 α6 p q:Prop} (c1:α1) (c2:α2) (c3:α3) (c4:α4) (c5:α5) (c6:α6) (k:q) (h:α1->α2->α3->α4->α5->α6->q->p:=by
 intro c1 c2 c3 c4 c5 c6 k;first
 |(refine st ?_;exact k)
 |(refine cC c1 ?_;exact k)
 |(refine cC c2 ?_;exact k)
 |(refine cC c3 ?_;exact k)
 |(refine cC c4 ?_;exact k)
 |(refine cC c5 ?_;exact k)
 |(refine cC c6 ?_;exact k)):p:=h c1 c2 c3 c4 c5 c6 k
theorem tz8 {α1 α2 α3 α4 α5 α6 α7 α8 p q:Prop} (c1:α1) (c2:α2) (c3:α3) (c4:α4) (c5:α5) (c6:α6) (c7:α7) (c8:α8) (k:q) (h:α1->α2->α3->α4->α5->α6->α7->α8->q->p:=by
 intro c1 c2 c3 c4 c5 c6 c7 c8 k;first
 |(refine st ?_;exact k)
 |(refine cC c1 ?_;exact k)
 |(refine cC c2 ?_;exact k)
 |(refine cC c3 ?_;exact k)
 |(refine cC c4 ?_;exact k)
 |(refine cC c5 ?_;exact k)
 |(refine cC c6 ?_;exact k)
 |(refine cC c7 ?_;exact k)
 |(refine cC c8 ?_;exact k)):p:=h c1 c2 c3 c4 c5 c6 c7 c8 k
theorem sp {p q r:Prop} (k:q) (l:r) (h:q->r->p:=by
 intro k l;first
 |exact tL (by simp only[go_sem,F];rfl) k l
 |exact Do (by simp only[go_sem,F];rfl) k l):p:=h k l
theorem gz0 {p:Prop} (h:p:=by
 repeat' first
 |refine st ?_
 |exact aR
 |(refine sp ?_ ?_<;>(intro hB;first|exact absurd hB (by decide)|((try simp only[L3,MN,MR,Li,K6,LN]at hB);have F:=And.intro hB F)))):p:=h
theorem gz1 {α1 p:Prop} (c1:α1) (h:α1->p:=by
 intro c1;repeat' first
 |refine st ?_
 |refine cC c1 ?_
 |exact aR
 |(refine sp ?_ ?_<;>(intro hB;first|exact absurd hB (by decide)|((try simp only[L3,MN,MR,Li,K6,LN]at hB);have F:=And.intro hB F)))):p:=h c1
theorem gz2 {α1 α2 p:Prop} (c1:α1) (c2:α2) (h:α1->α2->p:=by
 intro c1 c2;repeat' first
 |refine st ?_
 |refine cC c1 ?_
 |refine cC c2 ?_
 |exact aR
 |(refine sp ?_ ?_<;>(intro hB;first|exact absurd hB (by decide)|((try simp only[L3,MN,MR,Li,K6,LN]at hB);have F:=And.intro hB F)))):p:=h c1 c2
theorem gz3 {α1 α2 α3 p:Prop} (c1:α1) (c2:α2) (c3:α3) (h:α1->α2->α3->p:=by
 intro c1 c2 c3;repeat' first
 |refine st ?_
 |refine cC c1 ?_
 |refine cC c2 ?_
 |refine cC c3 ?_
 |exact aR
 |(refine sp ?_ ?_<;>(intro hB;first|exact absurd hB (by decide)|((try simp only[L3,MN,MR,Li,K6,LN]at hB);have F:=And.intro hB F)))):p:=h c1 c2 c3
theorem gz4 {α1 α2 α3 α4 p:Prop} (c1:α1) (c2:α2) (c3:α3) (c4:α4) (h:α1->α2->α3->α4->p:=by
 intro c1 c2 c3 c4;repeat' first
 |refine st ?_
 |refine cC c1 ?_
 |refine cC c2 ?_
 |refine cC c3 ?_
 |refine cC c4 ?_
 |exact aR
 |(refine sp ?_ ?_<;>(intro hB;first|exact absurd hB (by decide)|((try simp only[L3,MN,MR,Li,K6,LN]at hB);have F:=And.intro hB F)))):p:=h c1 c2 c3 c4
theorem gz5 {α1 α2 α3 α4 α5 p:Prop} (c1:α1) (c2:α2) (c3:α3) (c4:α4) (c5:α5) (h:α1->α2->α3->α4->α5->p:=by
 intro c1 c2 c3 c4 c5;repeat' first
 |refine st ?_
 |refine cC c1 ?_
 |refine cC c2 ?_
 |refine cC c3 ?_
 |refine cC c4 ?_
 |refine cC c5 ?_
 |exact aR
 |(refine sp ?_ ?_<;>(intro hB;first|exact absurd hB (by decide)|((try simp only[L3,MN,MR,Li,K6,LN]at hB);have F:=And.intro hB F)))):p:=h c1 c2 c3 c4 c5
theorem gz6 {α1 α2 α3 α4 α5 α6 p:Prop} (c1:α1) (c2:α2) (c3:α3) (c4:α4) (c5:α5) (c6:α6) (h:α1->α2->α3->α4->α5->α6->p:=by
 intro c1 c2 c3 c4 c5 c6;repeat' first
 |refine st ?_
 |refine cC c1 ?_
 |refine cC c2 ?_
 |refine cC c3 ?_
 |refine cC c4 ?_
 |refine cC c5 ?_
 |refine cC c6 ?_
 |exact aR
 |(refine sp ?_ ?_<;>(intro hB;first|exact absurd hB (by decide)|((try simp only[L3,MN,MR,Li,K6,LN]at hB);have F:=And.intro hB F)))):p:=h c1 c2 c3 c4 c5 c6
theorem gz9 {α1 α2 α3 α4 α5 α6 α7 α8 α9 p:Prop} (c1:α1) (c2:α2) (c3:α3) (c4:α4) (c5:α5) (c6:α6) (c7:α7) (c8:α8) (c9:α9) (h:α1->α2->α3->α4->α5->α6->α7->α8->α9->p:=by
 intro c1 c2 c3 c4 c5 c6 c7 c8 c9;repeat' first
 |refine st ?_
 |refine cC c1 ?_
 |refine cC c2 ?_
 |refine cC c3 ?_
 |refine cC c4 ?_
 |refine cC c5 ?_
 |refine cC c6 ?_
 |refine cC c7 ?_
 |refine cC c8 ?_
 |refine cC c9 ?_
 |exact aR
 |(refine sp ?_ ?_<;>(intro hB;first|exact absurd hB (by decide)|((try simp only[L3,MN,MR,Li,K6,LN]at hB);have F:=And.intro hB F)))):p:=h c1 c2 c3 c4 c5 c6 c7 c8 c9
theorem KU {α1 α2 α3 α4 α5 α6 α7 α8 α9 α10 p:Prop} (c1:α1) (c2:α2) (c3:α3) (c4:α4) (c5:α5) (c6:α6) (c7:α7) (c8:α8) (c9:α9) (c10:α10) (h:α1->α2->α3->α4->α5->α6->α7->α8->α9->α10->p:=by
 intro c1 c2 c3 c4 c5 c6 c7 c8 c9 c10;repeat' first
 |refine st ?_
 |refine cC c1 ?_
 |refine cC c2 ?_
 |refine cC c3 ?_
 |refine cC c4 ?_
 |refine cC c5 ?_
 |refine cC c6 ?_
 |refine cC c7 ?_
 |refine cC c8 ?_
 |refine cC c9 ?_
 |refine cC c10 ?_
 |exact aR
 |(refine sp ?_ ?_<;>(intro hB;first|exact absurd hB (by decide)|((try simp only[L3,MN,MR,Li,K6,LN]at hB);have F:=And.intro hB F)))):p:=h c1 c2 c3 c4 c5 c6 c7 c8 c9 c10
theorem KQ {α1 α2 α3 α4 α5 α6 α7 α8 α9 α10 α11 α12 α13 p:Prop} (c1:α1) (c2:α2) (c3:α3) (c4:α4) (c5:α5) (c6:α6) (c7:α7) (c8:α8) (c9:α9) (c10:α10) (c11:α11) (c12:α12) (c13:α13) (h:α1->α2->α3->α4->α5->α6->α7->α8->α9->α10->α11->α12->α13->p:=by
 intro c1 c2 c3 c4 c5 c6 c7 c8 c9 c10 c11 c12 c13;repeat' first
 |refine st ?_
 |refine cC c1 ?_
 |refine cC c2 ?_
 |refine cC c3 ?_
 |refine cC c4 ?_
 |refine cC c5 ?_
 |refine cC c6 ?_
 |refine cC c7 ?_
 |refine cC c8 ?_
 |refine cC c9 ?_
 |refine cC c10 ?_
 |refine cC c11 ?_
 |refine cC c12 ?_
 |refine cC c13 ?_
 |exact aR
 |(refine sp ?_ ?_<;>(intro hB;first|exact absurd hB (by decide)|((try simp only[L3,MN,MR,Li,K6,LN]at hB);have F:=And.intro hB F)))):p:=h c1 c2 c3 c4 c5 c6 c7 c8 c9 c10 c11 c12 c13
theorem qe0 {p:Prop} (h:p:=by simp only[go_sem]):p:=h
theorem qe {p:Prop} (h:p:=by simp only[go_sem,F]):p:=h
end
end
section
open Go.RowKit
def cd (c:Int):Bool:=decide (c=95\/(97<=c/\c<=122)\/(65<=c/\c<=90))
def lT (c:Int):Bool:=decide (48<=c/\c<=57)
def bu (c:Int):Bool:=cd c||lT c||decide (c=46)
theorem lw (c:Int) (w:World):Calls prog 219 #[.int .u8 c] w fun e w'=>e= .returned (.bool (cd c))/\w=w':=by
 by_cases h1:c=95
 ·subst h1
  go_enter func219,ntmps219
  go_wp2
  go_ret
  exact⟨rfl,rfl⟩
 have e1:(c==95)=false:=by simp[h1]
 by_cases h2:97<=c<;>by_cases h3:c<=122<;>by_cases h4:65<=c<;>by_cases h5:c<=90
 all_goals first
  |(exfalso;omega)
  |(go_enter func219,ntmps219
    go_wp2
    go_ret
    exact⟨by simp[cd];omega,rfl⟩)
theorem F2 (c:Int) (w:World):Calls prog 276 #[.int .u8 c] w fun e w'=>e= .returned (.bool (lT c))/\w=w':=by
 by_cases h2:48<=c
 all_goals
  go_enter func276,ntmps276
  go_wp2
  go_ret
  exact⟨by simp[lT];try omega,rfl⟩
theorem uw (c:Int) (w:World):Calls prog 221 #[.int .u8 c] w fun e w'=>e= .returned (.bool (bu c))/\w=w':=by
 by_cases h1:cd c<;>by_cases h2:lT c
 all_goals
  go_enter func221,ntmps221
  go_wp2_with (first
   |(go_at_call 219;refine(lw _ _).mono ?_;rintro e w' ⟨rfl,rfl⟩)
   |(go_at_call 276;refine(F2 _ _).mono ?_;rintro e w' ⟨rfl,rfl⟩))
  go_ret
  exact⟨by simp[bu,h1,h2]<;>rfl,rfl⟩
def innerLen (l:List UInt8):Nat:=(l.takeWhile fun c=>bu c.toNat).length
theorem pP (l:List UInt8) (k:Nat) (hk:k<=l.length) (h1: ∀j (h:j<l.length),j<k->bu l[j].toNat=true) (h2: ∀h:k<l.length,¬bu l[k].toNat=true):innerLen l=k:=by
 unfold innerLen
 induction l generalizing k with
 |nil=>simp at hk |-;omega
 | cons c l ih=>
   rw[List.takeWhile_cons];cases k with
   | zero=>
     rw[KZ (show ¬bu c.toNat=true from h2 (by simp))];rfl
   | succ k=>
     rw[K0 (show bu c.toNat=true from h1 0 (by simp) (by omega))];simp only[Kj]at hk |-;rw[ih k (by omega) (fun j h hj=>h1 (j+1) (by simpa using h) (by omega)) (fun h=>h2 (by simpa using h))]
theorem EX (l:List UInt8) (hl:l.length<=9223372036854775807) (w:World):
 Calls prog 220 #[.string ⟨l.toArray⟩, .int .i64 0, .func (.func 221) #[] #[]] w fun e w'=>e= .returned (.int .i64 (innerLen l))/\w=w':=by
 go_enter func220,ntmps220
 go_wp2_with fail
 go_loop [1] (fun i=> ∃k:Nat,k<=l.length/\i= .int .i64 k/\ ∀j (h:j<l.length),j<k->bu l[j].toNat=true) (fun i=>l.length-(intOf i).toNat)
 case atStart=>exact⟨0,by omega,rfl,fun j _ h=>by omega⟩
 case round=>
  obtain⟨k,hk,rfl,hall⟩:=hrel;have HA:=OI hall;try clear hall
  by_cases hlt:k<l.length
  ·by_cases hin:bu l[k].toNat=true
   ·have hin':bu (((ByteArray.mk l.toArray)[k]'(by simpa[ByteArray.size]using hlt)).toNat)=true:=hin;have HI:=OI hin;try clear hin
    go_wp2_with (go_at_call 221;refine(uw _ _).mono ?_;rintro e w' ⟨rfl,rfl⟩)
    go_round
    case rel=>
     refine⟨k+1,by omega,by go_num,fun j h hj=> ?_⟩;rcases Mt j k with h' | h'
     ·exact HA.out j h h'
     ·obtain rfl:j=k:=by omega
      exact HI.out
    case measure=>simp[intOf];omega
   ·have hin':bu (((ByteArray.mk l.toArray)[k]'(by simpa[ByteArray.size]using hlt)).toNat)=false:=Ml.2 hin;have HI:=OI hin;try clear hin
    go_wp2_with (go_at_call 221;refine(uw _ _).mono ?_;rintro e w' ⟨rfl,rfl⟩)
    go_ret
    refine⟨?_,rfl⟩;rw[pP l k hk HA.out (fun _=>HI.out)];rfl
  ·go_wp2_with fail
   go_ret
   refine⟨?_,rfl⟩;rw[pP l k hk HA.out (fun h=>absurd h hlt)];rfl
def bX (l:List UInt8):Bool:=decide (l.length<=32)&&(match l with|[]=>false|c::_=>cd c.toNat)&&l.all fun c=>bu c.toNat
theorem wI (l:List UInt8):(innerLen l=l.length)↔(l.all fun c=>bu c.toNat)=true:=by
 unfold innerLen
 induction l with
 |nil=>simp
 | cons c l ih=>
   rw[List.takeWhile_cons];by_cases h:bu c.toNat=true
   ·rw[K0 h];simp only[Kj,OS,h,LK];rw[<-ih];omega
   ·rw[KZ h];simp[h]
theorem G5 (l:List UInt8) (hl:l.length<=9223372036854775807) (w:World):
 Calls prog 150 #[.string ⟨l.toArray⟩] w fun e w'=>e= .returned (.bool (bX l))/\w=w':=by
 cases l with
 | nil=>
   go_enter func150,ntmps150
   go_wp2_with fail
   go_ret
   exact⟨rfl,rfl⟩
 | cons c r=>
   generalize hL:c::r=l at*;have hpos:0<l.length:=by rw[<-hL];simp
   have h0:l[0]=c:=by subst hL;rfl
   have hne:l.isEmpty=false:=by rw[<-hL];rfl
   have hN:bX l=(decide (l.length<=32)&&cd c.toNat&&decide ((innerLen l:Int)=l.length)):=by
    subst hL;simp only[bX]
    congr 1
    rw[LD, <-wI];simp only[K6];omega
   have HN:=OI hN;try clear hN hL
   by_cases h32:l.length<=32
   ·by_cases hc:cd c.toNat=true
    ·have hc':cd (((ByteArray.mk l.toArray)[0]'(by simpa[ByteArray.size]using hpos)).toNat)=true:=by rw[H7 l 0 hpos,h0];exact hc
     have HC:=OI hc;try clear hc h0
     go_enter func150,ntmps150
     go_wp2_with (first
      |(go_at_call 219;refine(lw _ _).mono ?_;rintro e w' ⟨rfl,rfl⟩)
      |(go_at_call 220;refine(EX l hl _).mono ?_;rintro e w' ⟨rfl,rfl⟩))
     go_ret
     rw[HN.out];refine⟨?_,rfl⟩;simp[h32,HC.out];rfl
    ·have hc':cd (((ByteArray.mk l.toArray)[0]'(by simpa[ByteArray.size]using hpos)).toNat)=false:=by rw[H7 l 0 hpos,h0];exact Ml.2 hc
     have HC:=OI hc;try clear hc h0
     go_enter func150,ntmps150
     go_wp2_with (go_at_call 219;refine(lw _ _).mono ?_;rintro e w' ⟨rfl,rfl⟩)
     go_ret
     rw[HN.out];exact⟨by simp[HC.out],rfl⟩
   ·go_enter func150,ntmps150
    go_wp2_with fail
    go_ret
    rw[HN.out];exact⟨by simp[h32];try omega,rfl⟩
/-! The document's -/
end
section
open Go.RowKit
theorem dE (env:Env) (c:UInt8):Con prog env 100 [.lit (.int .u8 (c.toNat:Int))] (B (cd c.toNat)):=by
 refine qf func100 call100 ntmps100 results100 ?_;have hc:=c.toNat_lt;generalize c.toNat=n at*;unfold cd;by_cases h1:(n:Int)=95
 ·have e:decide ((n:Int)=95\/(97<=(n:Int)/\(n:Int)<=122)\/(65<=(n:Int)/\(n:Int)<=90))=true:=by simp;omega
  rw[e];have h1:((n:Int)==95)=true:=by simp;omega
  have F:=h1;repeat refine sg ?_
  exact aR
 ·have h1':((n:Int)==95)=false:=by simp;omega
  by_cases h2:(97:Int)<=(n:Int)
  ·by_cases h3:(n:Int)<=122
   ·have e:decide ((n:Int)=95\/(97<=(n:Int)/\(n:Int)<=122)\/(65<=(n:Int)/\(n:Int)<=90))=true:=by simp;omega
    rw[e];have F:=ai3 h1' h2 h3;repeat refine sg ?_
    exact aR
   ·have e:decide ((n:Int)=95\/(97<=(n:Int)/\(n:Int)<=122)\/(65<=(n:Int)/\(n:Int)<=90))=false:=by simp;omega
    have h4:(65:Int)<=(n:Int):=by omega
    have h5: ¬(n:Int)<=90:=by omega
    rw[e];have F:=ai5 h1' h2 h3 h4 h5;repeat refine sg ?_
    exact aR
  ·by_cases h4:(65:Int)<=(n:Int)
   ·by_cases h5:(n:Int)<=90
    ·have e:decide ((n:Int)=95\/(97<=(n:Int)/\(n:Int)<=122)\/(65<=(n:Int)/\(n:Int)<=90))=true:=by simp;omega
     rw[e];have F:=ai4 h1' h2 h4 h5;repeat refine sg ?_
     exact aR
    ·have e:decide ((n:Int)=95\/(97<=(n:Int)/\(n:Int)<=122)\/(65<=(n:Int)/\(n:Int)<=90))=false:=by simp;omega
     rw[e];have F:=ai4 h1' h2 h4 h5;repeat refine sg ?_
     exact aR
   ·have e:decide ((n:Int)=95\/(97<=(n:Int)/\(n:Int)<=122)\/(65<=(n:Int)/\(n:Int)<=90))=false:=by simp;omega
    rw[e];have F:=ai3 h1' h2 h4;repeat refine sg ?_
    exact aR
theorem jv (env:Env) (c:UInt8):Con prog env 101 [.lit (.int .u8 (c.toNat:Int))] (B (lT c.toNat)):=by
 refine qf func101 call101 ntmps101 results101 ?_;generalize c.toNat=n at*;unfold lT;by_cases h2:(48:Int)<=(n:Int)
 ·by_cases h3:(n:Int)<=57
  ·rw[LC ⟨h2,h3⟩];have F:=ai h2 h3;repeat refine sg ?_
   exact aR
  ·rw[Ky (by omega)];have F:=ai h2 h3;repeat refine sg ?_
   exact aR
 ·rw[Ky (by omega)];have F:=h2;repeat refine sg ?_
  exact aR
theorem uF {l:List UInt8} {p:UInt8->Bool} {i:Nat} (h:(l.take i).all p=true) (hi:i<l.length) (hp:p l[i]=true):(l.take (i+1)).all p=true:=by
 rw[MY hi,Nt,h];simp[hp]
theorem Jr {l:List UInt8} {p:UInt8->Bool} {i:Nat} (hi:i<l.length) (hp:p l[i]=false):l.all p=false:=by
 rw[Ml];intro h;rw[K2]at h;rw[h _ (MI hi)]at hp;cases hp
theorem eU (env:Env) (l:List UInt8):Con prog env 53 [Sg l] (B (bX l)):=by
 refine qf func53 call53 ntmps53 results53 ?_;by_cases h0:l=[]
 ·subst h0;repeat refine sg0 ?_
  refine oY (by simp only[go_sem];exact iR) ?_;repeat refine sg0 ?_
  (refine aN ?_;show (an _ _ _).run _=some _;simp only[go_sem])
  rfl
 obtain⟨c,hc⟩: ∃c,l[0]? =some c:=⟨l[0]'(MG.2 h0),KV _⟩
 have g0:((l.length:Int)==0)=false:=by
  have:=MG.2 h0;simp;exact h0
 by_cases h1:l.length<=32
 ·have g1: ¬32< (l.length:Int):=by omega
  by_cases h2:cd c.toNat=true
  ·have hnm:bX l=l.all fun c=>bu c.toNat:=by
    cases l with
    |nil=>exact(h0 rfl).elim
    | cons d r=>
      simp only[LM,KX]at hc;subst hc;unfold bX;simp only[h2,LC h1,LK]
   have F:=ai4 g0 g1 hc h2;repeat refine sg ?_
   refine cC (dE env c) ?_;repeat refine sg ?_
   refine oN (by simp only[go_sem,F];exact iR) ?_;repeat refine sg ?_
   refine lq l.length (by omega) (fun i _=>[(0,Sg l),(3,I i)]) (fun _ _=>[]) (fun i _ _=>((l.take i).all fun c=>bu c.toNat)=true) rfl ?_ ?_
   ·rintro i vs esc hlt g2 g3 ha;have g4:l[i]? =some l[i]:=KV hlt;have hnxt:=fun hp=>uF (p:=fun c=>bu c.toNat) ha hlt hp;have hnot:=fun hp=>Jr (p:=fun c=>bu c.toNat) hlt hp;try simp only at hnxt
    try simp only at hnot
    generalize l[i]=x at*;by_cases h5:cd x.toNat=true
    ·
     have F:=ai4 g2 g3 g4 h5;repeat refine sg ?_
     refine oY (by simp only[go_sem,F];exact iR) ?_;repeat refine sg ?_
     refine cC (dE env x) ?_;repeat refine sg ?_
     refine oN (by simp only[go_sem,F];exact iR) ?_;repeat refine sg ?_
     exact qn (i+1) ⟨hlt,hnxt (by simp[bu,h5])⟩
    have h5:cd x.toNat=false:=by simpa using h5
    by_cases h6:lT x.toNat=true
    ·
     have F:=ai5 g2 g3 g4 h5 h6;repeat refine sg ?_
     refine oY (by simp only[go_sem,F];exact iR) ?_;repeat refine sg ?_
     refine cC (dE env x) ?_;repeat refine sg ?_
     refine cC (jv env x) ?_;repeat refine sg ?_
     refine oN (by simp only[go_sem,F];exact iR) ?_;repeat refine sg ?_
     exact qn (i+1) ⟨hlt,hnxt (by simp[bu,h5,h6])⟩
    have h6:lT x.toNat=false:=by simpa using h6
    by_cases h7:(x.toNat:Int)=46
    ·have h8:((x.toNat:Int) != 46)=false:=by rw[h7];rfl
     have F:=ai6 g2 g3 g4 h5 h6 h8;repeat refine sg ?_
     refine oY (by simp only[go_sem,F];exact iR) ?_;repeat refine sg ?_
     refine cC (dE env x) ?_;repeat refine sg ?_
     refine cC (jv env x) ?_;repeat refine sg ?_
     refine oN (by simp only[go_sem,F];exact iR) ?_;repeat refine sg ?_
     exact qn (i+1) ⟨hlt,hnxt (by simp only[bu,h5,h6,LC h7,Bool.or_true])⟩
    ·have h8:((x.toNat:Int) != 46)=true:=PO.2 h7;have F:=ai6 g2 g3 g4 h5 h6 h8;repeat refine sg ?_
     refine oY (by simp only[go_sem,F];exact iR) ?_;repeat refine sg ?_
     refine cC (dE env x) ?_;repeat refine sg ?_
     refine cC (jv env x) ?_;repeat refine sg ?_
     refine oY (by simp only[go_sem,F];exact iR) ?_;repeat refine sg ?_
     (refine aN ?_;show (an _ _ _).run _=some _;simp only[go_sem,F])
     rw[hnm,hnot (by simp only[bu,h5,h6,Ky h7,Bool.or_false])]
   ·rintro vs esc g2 ha;have F:=g2;repeat refine sg ?_
    refine oN (by simp only[go_sem,F];exact iR) ?_;repeat refine sg ?_
    (refine aN ?_;show (an _ _ _).run _=some _;simp only[go_sem,F])
    rw[hnm, <-ha,LP (by omega)]
  ·have h2:cd c.toNat=false:=by simpa using h2
   have hnm:bX l=false:=by
    cases l with
    |nil=>exact(h0 rfl).elim
    | cons d r=>
      simp only[LM,KX]at hc;subst hc;unfold bX;simp only[h2,LZ,LF]
   rw[hnm];have F:=ai4 g0 g1 hc h2;repeat refine sg ?_
   refine cC (dE env c) ?_;repeat refine sg ?_
   refine oY (by simp only[go_sem,F];exact iR) ?_;repeat refine sg ?_
   exact aR
 ·have g1:32< (l.length:Int):=by omega
  have hnm:bX l=false:=by
   unfold bX;rw[Ky h1];rfl
  rw[hnm];have F:=ai3 g0 g1 hc;repeat refine sg ?_
  refine oY (by simp only[go_sem,F];exact iR) ?_;repeat refine sg ?_
  exact aR
end
section
open Go.RowKit
structure OpD where
 kind:Int
 n:Int
 deriving DecidableEq,Inhabited
structure ActD where
 kind:Int
 n:Int
 name:List UInt8
 code:List OpD
 deriving DecidableEq,Inhabited
structure StD where
 name:List UInt8
 kind:Int
 parent:Int
 initial:Int
 inn:List ActD
 out:List ActD
 deriving DecidableEq,Inhabited
structure TrD where
 src:Int
 event:List UInt8
 guard:List OpD
 acts:List ActD
 target:Int
 deriving DecidableEq,Inhabited
structure VarD where
 name:List UInt8
 start:Int
 deriving DecidableEq,Inhabited
structure ChD where
 name:List UInt8
 initial:Int
 vars:List VarD
 states:List StD
 trans:List TrD
 deriving DecidableEq,Inhabited
def bp (x:OpD):List AV:=[I x.kind,I x.n]
abbrev opsAV (l:List OpD):AV:= .seq 2 (l.map bp)
def bP (x:ActD):List AV:=[I x.kind,I x.n,Sg x.name,opsAV x.code]
abbrev actsAV (l:List ActD):AV:= .seq 4 (l.map bP)
def aL (x:StD):List AV:=[Sg x.name,I x.kind,I x.parent,I x.initial,actsAV x.inn,actsAV x.out]
abbrev stsAV (l:List StD):AV:= .seq 6 (l.map aL)
def bi (x:TrD):List AV:=[I x.src,Sg x.event,opsAV x.guard,actsAV x.acts,I x.target]
abbrev trsAV (l:List TrD):AV:= .seq 5 (l.map bi)
def gQ (x:VarD):List AV:=[Sg x.name,I x.start]
abbrev varsAV (l:List VarD):AV:= .seq 2 (l.map gQ)
def aA (x:ChD):List AV:=[Sg x.name,I x.initial,varsAV x.vars,stsAV x.states,trsAV x.trans]
/-! Lists that are no longer than memory is. -/
def qG (_:OpD):Prop:=True
def gZ (x:ActD):Prop:=x.name.length<=maxLen/\(x.code.length<=maxLen/\ ∀y∈x.code,qG y)
def tu (x:StD):Prop:=x.name.length<=maxLen/\(x.inn.length<=maxLen/\ ∀y∈x.inn,gZ y)/\(x.out.length<=maxLen/\ ∀y∈x.out,gZ y)
def tt (x:TrD):Prop:=x.event.length<=maxLen/\(x.guard.length<=maxLen/\ ∀y∈x.guard,qG y)/\(x.acts.length<=maxLen/\ ∀y∈x.acts,gZ y)
def oA (x:VarD):Prop:=x.name.length<=maxLen
def i6 (x:ChD):Prop:=x.name.length<=maxLen/\(x.vars.length<=maxLen/\ ∀y∈x.vars,oA y)/\(x.states.length<=maxLen/\ ∀y∈x.states,tu y)/\(x.trans.length<=maxLen/\ ∀y∈x.trans,tt y)
end
section
open Go.RowKit
/-! Expressions -/
def aF (k:Int):Int:=if 1<=k/\k<=4 then 0 else if k=5\/k=6 then 1 else if 7<=k/\k<=19 then 2 else -1
theorem mP (k:Int): -1<=aF k/\aF k<=2:=by
 unfold aF;repeat' split
 all_goals omega
def mQ (o:OpD) (vs ss:Int):Bool:=if o.kind=1 then decide (0<=o.n/\o.n<=2147483647) else if o.kind=2 then decide (0<=o.n/\o.n<vs) else if o.kind=4 then decide (0<=o.n/\o.n<ss) else decide (o.n=0)
def bh (vs ss n:Int) (o:OpD):Bool:=decide (0<=aF o.kind)&&decide (aF o.kind<=n)&&mQ o vs ss
def hgt (vs ss:Int):List OpD->Int->Option Int
 |[],n=>some n
 |o::l,n=>if bh vs ss n o then hgt vs ss l (n-aF o.kind+1) else none
def iQ (l:List OpD) (vs ss:Int):Int:=if 32<l.length then 8 else if hgt vs ss l 0=some 1 then 0 else 1
def cB (l:List OpD) (vs ss:Int):Bool:=iQ l vs ss==0
theorem nP {vs ss:Int} {l:List OpD} {k:Nat} {o:OpD} {n:Int} (h:l[k]? =some o) (hn:hgt vs ss l 0=hgt vs ss (l.drop k) n):(bh vs ss n o=true->hgt vs ss l 0=hgt vs ss (l.drop (k+1)) (n-aF o.kind+1))/\(bh vs ss n o=false->hgt vs ss l 0=none):=by
 have hk:k<l.length:=(KW.1 h).1
 have he:l.drop k=o::l.drop (k+1):=by
  rw[M6 hk]
  congr 1
  rw[KV hk]at h;exact Lo h
 rw[he]at hn;simp only[hgt]at hn;exact⟨fun e=>by rw[hn,K0 e],fun e=>by rw[hn,KZ (by rw[e];simp)]⟩
theorem r9 {vs ss:Int} {l:List OpD} {k:Nat} {n:Int} (h:l.length<=k) (hn:hgt vs ss l 0=hgt vs ss (l.drop k) n):hgt vs ss l 0=some n:=by
 rw[hn,List.drop_eq_nil_of_le h];rfl
/-! Actions, states -/
def gd (nv ns:Int) (a:ActD):Bool:=
 if a.kind=1 then decide (0<=a.n/\a.n<nv)&&(a.name == [])&&cB a.code nv ns
 else if a.kind=2\/a.kind=4 then(a.n==0)&&bX a.name&&cB a.code nv ns
 else if a.kind=3 then(a.n==0)&&(a.name == [])&&cB a.code nv ns
 else if a.kind=5 then(a.n==0)&&bX a.name&&(a.code == [])
 else false
def dy (nv ns:Int) (l:List ActD):Bool:=decide (l.length<=32)&&l.all (gd nv ns)
def dw (s:StD):Bool:=(s.kind==1)||(s.kind==2)
def aS (s:StD):Bool:=(s.kind==4)||(s.kind==5)
def cn (c:ChD) (i:Int) (real:Bool) (k:Nat):Bool:=match c.states[k]? with
 |some s=>(s.parent==i)&&(!real|| !aS s)
 |none=>false
def bR (c:ChD) (i:Int) (real:Bool) (n:Nat):List Nat:=(List.range n).filter (cn c i real)
def kidsL (c:ChD) (i:Int) (real:Bool):List Nat:=bR c i real c.states.length
theorem pO (c:ChD) (i:Int) (real:Bool) (k:Nat):bR c i real (k+1)=bR c i real k++if cn c i real k then [k] else []:=by
 unfold bR;rw[NB,LL]
 congr 1
 simp only[MO,Oz]
theorem dB (c:ChD) (i:Int) (real:Bool) (k:Nat):(bR c i real k).length<=k:=by
 have:=Kw (cn c i real) (List.range k);simpa[bR]using this
theorem o7 {c:ChD} {i:Int} {real:Bool} {k n:Nat} (h:k∈bR c i real n):k<n/\cn c i real k=true:=by
 simpa[bR,Kb]using h
def eF (c:ChD) (name:List UInt8):Nat->Int
 |0=> -1
 | k+1=>if eF c name k= -1 then(match c.states[k]? with
   |some s=>if s.name=name then(k:Int) else -1
   |none=> -1) else eF c name k
def uK (c:ChD) (name:List UInt8):Int:=eF c name c.states.length
theorem ya (c:ChD) (name:List UInt8) {k:Nat} (h:eF c name k≠ -1): ∀n,k<=n->eF c name n=eF c name k:=by
 intro n hn
 induction n with
 | zero=>obtain rfl:k=0:=by omega
         rfl
 | succ n ih=>
   by_cases e:k=n+1
   ·rw[e]
   ·have:=ih (by omega);simp only[eF];rw[this,KZ h]
theorem vK (c:ChD) (name:List UInt8) {k:Nat} (hk:k<c.states.length) (hn:eF c name k= -1) (s:StD) (hs:c.states[k]? =some s) (he:s.name=name):uK c name=k:=by
 have h1:eF c name (k+1)=k:=by
  simp only[eF,K0 hn,hs,K0 he]
 unfold uK;rw[ya c name (k:=k+1) (by rw[h1];omega) _ hk,h1]
theorem pV (c:ChD) (name:List UInt8) {k:Nat} (hn:eF c name k= -1) (s:StD) (hs:c.states[k]? =some s) (he:s.name≠name):eF c name (k+1)= -1:=by
 simp only[eF,K0 hn,hs,KZ he]
def au (p:Nat->Bool) (n:Nat):Option Nat:=(List.range n).find? fun k=> !p k
theorem az {p:Nat->Bool} {n:Nat} (h: ∀j,j<n->p j=true):au p n=none:=by
 unfold au;rw[Nv];intro x hx;simp[h x (by simpa using hx)]
theorem cv {p:Nat->Bool} {n k:Nat} (hk:k<n) (h: ∀j,j<k->p j=true) (hb:p k=false):au p n=some k:=by
 unfold au
 have e:List.range n=List.range k++(k::(List.range (n-k-1)).map (k+1+ ·)):=by
  have:n=k+(n-k):=by omega
  rw[this,List.range_add]
  congr 1
  have e2:k+(n-k)-k-1+1=n-k:=by omega
  have:n-k=(n-k-1)+1:=by omega
  rw[show k+(n-k)-k-1=n-k-1 by omega,this,List.range_succ_eq_map,LI,Mk];simp only[Md,Ms,Me,true_and];apply MF;intro a _;simp only[Function.comp];omega
 rw[e,List.find?_append];have h1:(List.range k).find? (fun k=> !p k)=none:=az h;rw[h1];simp[hb]
/-! What is right -/
def at_ (c:ChD) (i:Int):Option StD:=if 0<=i then c.states[i.toNat]? else none
def al (c:ChD) (i:Int):Bool:=match at_ c i with
 |some q=>dw q
 |none=>false
def cc (c:ChD) (i:Nat) (s:StD):Bool:=(s.parent == -1)||(decide (0<=s.parent)&&decide (s.parent<i)&&al c s.parent)
def cS (c:ChD) (s:StD):Bool:=match at_ c s.parent with
 |some q=>q.kind==1
 |none=>false
def inL (l:List Nat) (n:Int):Bool:=l.any fun k=>(k:Int)==n
def dG (c:ChD) (i:Nat) (s:StD):Bool:=
 if s.kind=1 then(if kidsL c i true=[] then s.initial == -1 else inL (kidsL c i true) s.initial)
 else if s.kind=2 then((kidsL c i true).all fun k=>al c k)&&decide (0< (kidsL c i true).length)&&(s.initial == -1)
 else if s.kind=3 then(kidsL c i false == [])&&((s.parent == -1)||cS c s)&&(s.initial == -1)&&(s.out == [])
 else if s.kind=4\/s.kind=5 then(kidsL c i false == [])&&cS c s&&inL (kidsL c s.parent true) s.initial&&(s.inn == [])&&(s.out == [])
 else false
def bq (c:ChD) (i:Nat) (s:StD):Bool:=bX s.name&&(uK c s.name==(i:Int))&&cc c i s&&dG c i s&&dy c.vars.length c.states.length s.inn&&dy c.vars.length c.states.length s.out
def km (c:ChD) (i:Nat):Bool:=match c.states[i]? with
 |some s=>bq c i s
 |none=>false
def newVar (c:ChD) (name:List UInt8) (i:Nat):Bool:=(c.vars.take i).all fun x=> !(x.name==name)
def qK (c:ChD) (i:Nat) (v:VarD):Bool:=newVar c v.name i&&bX v.name&& !(v.name == [100,97,116,97])&& !(v.name == [105,110])&&decide (-2147483647<=v.start)&&decide (v.start<=2147483647)
def jo (c:ChD) (i:Nat):Bool:=match c.vars[i]? with
 |some v=>qK c i v
 |none=>false
def dP (c:ChD) (t:TrD):Bool:=al c t.src&&((t.event == [])||bX t.event)&&((t.guard == [])||cB t.guard c.vars.length c.states.length)&&dy c.vars.length c.states.length t.acts&&((t.target == -1)||(decide (0<=t.target)&&decide (t.target<c.states.length)))
def pw (c:ChD) (i:Nat):Bool:=match c.trans[i]? with
 |some t=>dP c t
 |none=>false
def l7 (c:ChD):Bool:=match at_ c c.initial with
 |some q=>(q.parent == -1)&&dw q
 |none=>false
def chk (c:ChD):Int×Int:=
 if 32<c.states.length\/64<c.trans.length\/8<c.vars.length then(8, -1)
 else if c.states=[]\/bX c.name=false then(1, -1)
 else match au (jo c) c.vars.length with
  |some i=>(1,2000+i)
  | none=>match au (km c) c.states.length with
    |some i=>(1,i)
    | none=>if l7 c=false then(1, -1) else match au (pw c) c.trans.length with
      |some i=>(1,1000+i)
      |none=>(0, -1)
end
section
open Go.RowKit
theorem d8 (env:Env) (l:List UInt8) (hl:l.length<=9223372036854775807):Con prog env 150 [Sg l] (B (bX l)):=
 Dh call150 fun w S vs hE hlen hv=>by
  match vs,hlen with
  | [v],_=>
    obtain rfl:=(hv 0 v _ rfl rfl).lit_inv;refine(G5 l hl w).mono ?_;rintro e w' ⟨rfl,rfl⟩;exact⟨rfl,MM _ _⟩
def aJ (n:Int):Bool:=decide (-2147483647<=n)&&decide (n<=2147483647)
theorem bw (env:Env) (n:Int):Con prog env 81 [I n] (B (aJ n)):=by
 unfold aJ;refine qf func81 call81 ntmps81 results81 ?_;by_cases h1: -2147483647<=n<;>by_cases h2:n<=2147483647<;>
 ·have F:=ai h1 h2;repeat refine st ?_
  exact aR
theorem oQ (env:Env) (n:Int):Con prog env 28 [I n] (B (aJ n)):=by
 unfold aJ;refine qf func28 call28 ntmps28 results28 ?_;by_cases h1: -2147483647<=n<;>by_cases h2:n<=2147483647<;>
 ·have F:=ai h1 h2;repeat refine st ?_
  exact aR
/-! Expressions' kinds -/
theorem jr {p:Int->Int->Prop} (h1: ∀k:Int,1<=k->k<=4-> ¬k<1-> ¬19<k-> ¬4<k->p k 0) (h5:p 5 1) (h6:p 6 1)
 (h7: ∀k:Int,1<=k-> ¬k<=4->(k==5)=false->(k==6)=false->7<=k->k<=19-> ¬k<1-> ¬19<k-> ¬k<=6->p k 2)
 (h8: ∀k:Int,¬1<=k->(k==5)=false->(k==6)=false-> ¬7<=k->k<1->p k (-1))
 (h9: ∀k:Int,1<=k-> ¬k<=4->(k==5)=false->(k==6)=false->7<=k-> ¬k<=19-> ¬k<1->19<k->p k (-1)) (k:Int):p k (aF k):=by
 have ne: ∀a b:Int,a≠b->(a==b)=false:=fun a b h=>by simpa using h
 by_cases a:1<=k
 ·by_cases b:k<=4
  ·rw[show aF k=0 by unfold aF;rw[K0 ⟨a,b⟩]];exact h1 k a b (by omega) (by omega) (by omega)
  ·by_cases c:k=5
   ·subst c;exact h5
   ·by_cases d:k=6
    ·subst d;exact h6
    ·by_cases e:k<=19
     ·rw[show aF k=2 by unfold aF;rw[KZ (by omega),KZ (by omega),K0 (by omega)]];exact h7 k a b (ne _ _ c) (ne _ _ d) (by omega) e (by omega) (by omega) (by omega)
     ·rw[show aF k= -1 by unfold aF;rw[KZ (by omega),KZ (by omega),KZ (by omega)]];exact h9 k a b (ne _ _ c) (ne _ _ d) (by omega) e (by omega) (by omega)
 ·rw[show aF k= -1 by unfold aF;rw[KZ (by omega),KZ (by omega),KZ (by omega)]];exact h8 k a (ne _ _ (by omega)) (ne _ _ (by omega)) (by omega) (by omega)
theorem eZ (env:Env) (k:Int):Con prog env 321 [I k] (I (aF k)):=by
 refine jr (p:=fun k r=>Con prog env 321 [I k] (I r)) ?_ ?_ ?_ ?_ ?_ ?_ k
 ·intro k a1 a2 a3 a4 a5;refine qf func321 call321 ntmps321 results321 ?_;have F:=ai5 a1 a2 a3 a4 a5;repeat refine st ?_
  exact aR
 ·refine qf func321 call321 ntmps321 results321 ?_;repeat refine st0 ?_
  exact aR0
 ·refine qf func321 call321 ntmps321 results321 ?_;repeat refine st0 ?_
  exact aR0
 ·intro k a1 a2 a3 a4 a5 a6 a7 a8 a9;refine qf func321 call321 ntmps321 results321 ?_;have F:=ai9 a1 a2 a3 a4 a5 a6 a7 a8 a9;repeat refine st ?_
  exact aR
 ·intro k a1 a2 a3 a4 a5;refine qf func321 call321 ntmps321 results321 ?_;have F:=ai5 a1 a2 a3 a4 a5;repeat refine st ?_
  exact aR
 ·intro k a1 a2 a3 a4 a5 a6 a7 a8;refine qf func321 call321 ntmps321 results321 ?_;have F:=ai8 a1 a2 a3 a4 a5 a6 a7 a8;repeat refine st ?_
  exact aR
theorem eY (env:Env) (k:Int):Con prog env 283 [I k] (I (aF k)):=by
 refine jr (p:=fun k r=>Con prog env 283 [I k] (I r)) ?_ ?_ ?_ ?_ ?_ ?_ k
 ·intro k a1 a2 a3 a4 a5;refine qf func283 call283 ntmps283 results283 ?_;have F:=ai5 a1 a2 a3 a4 a5;repeat refine st ?_
  exact aR
 ·refine qf func283 call283 ntmps283 results283 ?_;repeat refine st0 ?_
  exact aR0
 ·refine qf func283 call283 ntmps283 results283 ?_;repeat refine st0 ?_
  exact aR0
 ·intro k a1 a2 a3 a4 a5 a6 a7 a8 a9;refine qf func283 call283 ntmps283 results283 ?_;have F:=ai9 a1 a2 a3 a4 a5 a6 a7 a8 a9;repeat refine st ?_
  exact aR
 ·intro k a1 a2 a3 a4 a5;refine qf func283 call283 ntmps283 results283 ?_;have F:=ai5 a1 a2 a3 a4 a5;repeat refine st ?_
  exact aR
 ·intro k a1 a2 a3 a4 a5 a6 a7 a8;refine qf func283 call283 ntmps283 results283 ?_;have F:=ai8 a1 a2 a3 a4 a5 a6 a7 a8;repeat refine st ?_
  exact aR
theorem rF {p:OpD->Bool->Prop} (vs ss:Int)
 (h1: ∀n:Int,p ⟨1,n⟩ (decide (0<=n)&&decide (n<=2147483647))) (h2: ∀n:Int,p ⟨2,n⟩ (decide (0<=n)&&decide (n<vs))) (h4: ∀n:Int,p ⟨4,n⟩ (decide (0<=n)&&decide (n<ss)))
 (h: ∀k n:Int,(k==1)=false->(k==2)=false->(k==4)=false->p ⟨k,n⟩ (decide (n=0))) (o:OpD):p o (mQ o vs ss):=by
 have ne: ∀a b:Int,a≠b->(a==b)=false:=fun a b h=>by simpa using h
 obtain⟨k,n⟩:=o;unfold mQ;simp only[PC];by_cases a:k=1
 ·subst a;simpa using h1 n
 by_cases b:k=2
 ·subst b;simpa using h2 n
 by_cases c:k=4
 ·subst c;simpa using h4 n
 rw[KZ a,KZ b,KZ c];exact h k n (ne _ _ a) (ne _ _ b) (ne _ _ c)
theorem iK (env:Env) (o:OpD) (vs ss:Int):Con prog env 322 [.agg (bp o),I vs,I ss] (B (mQ o vs ss)):=by
 refine rF (p:=fun o r=>Con prog env 322 [.agg (bp o),I vs,I ss] (B r)) vs ss (fun n=> ?_) (fun n=> ?_) (fun n=> ?_) (fun k n a1 a2 a3=> ?_) o
 ·refine qf func322 call322 ntmps322 results322 ?_;by_cases h1:0<=n<;>by_cases h2:n<=2147483647<;>
  ·have h3:(n<2147483648)=(n<=2147483647):=by rw[eq_iff_iff];omega
   have F:=ai4 bp.eq_1 h1 h2 h3;repeat refine st ?_
   exact aR
 ·refine qf func322 call322 ntmps322 results322 ?_;by_cases h1:0<=n<;>by_cases h2:n<vs<;>
  ·have F:=ai3 bp.eq_1 h1 h2;repeat refine st ?_
   exact aR
 ·refine qf func322 call322 ntmps322 results322 ?_;by_cases h1:0<=n<;>by_cases h2:n<ss<;>
  ·have F:=ai3 bp.eq_1 h1 h2;repeat refine st ?_
   exact aR
 ·refine qf func322 call322 ntmps322 results322 ?_;by_cases h1:0<=n<;>by_cases h2:n<1<;>
  ·have h3:(n=0)=(0<=n/\n<1):=by rw[eq_iff_iff];omega
   have F:=ai7 bp.eq_1 h1 h2 h3 a1 a2 a3;repeat refine st ?_
   exact aR
theorem iI (env:Env) (o:OpD) (vs ss:Int):Con prog env 284 [.agg (bp o),I vs,I ss] (B (mQ o vs ss)):=by
 refine rF (p:=fun o r=>Con prog env 284 [.agg (bp o),I vs,I ss] (B r)) vs ss (fun n=> ?_) (fun n=> ?_) (fun n=> ?_) (fun k n a1 a2 a3=> ?_) o
 ·refine qf func284 call284 ntmps284 results284 ?_;by_cases h1:0<=n<;>by_cases h2:n<=2147483647<;>
  ·have F:=ai3 bp.eq_1 h1 h2;repeat refine st ?_
   exact aR
 ·refine qf func284 call284 ntmps284 results284 ?_;by_cases h1:0<=n<;>by_cases h2:n<vs<;>
  ·have F:=ai3 bp.eq_1 h1 h2;repeat refine st ?_
   exact aR
 ·refine qf func284 call284 ntmps284 results284 ?_;by_cases h1:0<=n<;>by_cases h2:n<ss<;>
  ·have F:=ai3 bp.eq_1 h1 h2;repeat refine st ?_
   exact aR
 ·refine qf func284 call284 ntmps284 results284 ?_;have h3:decide (n=0)=(n==0):=by rw[LD];simp
  rw[h3];have F:=ai4 bp.eq_1 a1 a2 a3;repeat refine st ?_
  exact aR
/-! States' kinds -/
theorem jR (env:Env) (s:StD):Con prog env 203 [.agg (aL s)] (B (aS s)):=by
 unfold aS;refine qf func203 call203 ntmps203 results203 ?_;cases h1:(s.kind==4)<;>cases h2:(s.kind==5)<;>
 ·have F:=ai3 aL.eq_1 h1 h2;repeat refine st ?_
  exact aR
theorem cu (env:Env) (s:StD):Con prog env 169 [.agg (aL s)] (B (aS s)):=by
 unfold aS;refine qf func169 call169 ntmps169 results169 ?_;cases h1:(s.kind==4)<;>cases h2:(s.kind==5)<;>
 ·have F:=ai3 aL.eq_1 h1 h2;repeat refine st ?_
  exact aR
theorem iM (env:Env) (s:StD):Con prog env 201 [.agg (aL s)] (B (dw s)):=by
 unfold dw;refine qf func201 call201 ntmps201 results201 ?_;cases h1:(s.kind==1)<;>cases h2:(s.kind==2)<;>
 ·have F:=ai3 aL.eq_1 h1 h2;repeat refine st ?_
  exact aR
theorem iJ (env:Env) (s:StD):Con prog env 104 [.agg (aL s)] (B (dw s)):=by
 unfold dw;refine qf func104 call104 ntmps104 results104 ?_;cases h1:(s.kind==1)<;>cases h2:(s.kind==2)<;>
 ·have F:=ai3 aL.eq_1 h1 h2;repeat refine st ?_
  exact aR
end
section
theorem take_same {α:Type} {a b:List α} {i:Nat} {x y:α} (h:a.take i=b.take i) (hx:a[i]? =some x) (hy:b[i]? =some y) (e:x=y):a.take (i+1)=b.take (i+1):=by
 obtain⟨h1,h2⟩:=KW.1 hx;obtain⟨h3,h4⟩:=KW.1 hy;rw[MY h1,MY h3,h,h2,h4,e]
theorem uQ {α:Type} [DecidableEq α] {a b:List α} {i:Nat} {x y:α} (hx:a[i]? =some x) (hy:b[i]? =some y) (e:x≠y):(a==b)=false:=by
 rw[ND];intro h;rw[h,hy]at hx;exact e (Lo hx).symm
theorem zC {α:Type} [DecidableEq α] {a b:List α} {i:Nat} (h:a.take i=b.take i) (ha:a.length<=i) (hb:b.length<=i):(a==b)=true:=by
 rw[LP ha,LP hb]at h;simpa using h
theorem aQ {α:Type} {l:List α} {i:Nat} (h:i<l.length): ∃x,l[i]? =some x/\x∈l:=⟨l[i],KV h,MI h⟩
end

end Go.Proofs.YtbjldjekgepopaaGreatDoor