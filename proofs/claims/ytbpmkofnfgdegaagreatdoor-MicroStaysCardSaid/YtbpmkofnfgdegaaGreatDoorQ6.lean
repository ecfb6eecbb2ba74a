/- Lists that are the same: plain. No program is named here. -/
import Derived.Test.YtbpmkofnfgdegaaGreatDoorQ5
import Derived.Test.YtbpmkofnfgdegaaGreatDoorProg
import Derived.Test.YtbpmkofnfgdegaaGreatDoorQ1
set_option maxRecDepth 100000
set_option maxHeartbeats 1000000
set_option linter.unusedSimpArgs false
namespace Go.Proofs.YtbpmkofnfgdegaaGreatDoor
open Go.Proofs.Tryz
section
open Go.RowKit
theorem bneA:(∀a b:Int,(a != b)= !(a==b))/\(∀a b:Nat,(a != b)= !(a==b))/\(∀a b:List UInt8,(a != b)= !(a==b))/\(∀a b:Bool,(a != b)= !(a==b)):=⟨fun _ _=>rfl,fun _ _=>rfl,fun _ _=>rfl,fun _ _=>rfl⟩
theorem st0 {p q:Prop} (k:q) (h:q->p:=by
 intro k;first
 |refine oO rfl (by simp only[go_sem];exact⟨rfl,rfl⟩) ?_
 |refine gR ?_
 |refine gO ?_
 |refine oZ (zlS ?_)
 |refine oZ ?_
 |refine oS ?_
 |refine gT ?_
 |refine gD mixed ?_
 |refine oB ?_
 |refine oK ?_
 |(refine oX ?_;simp only[zcV,zdr, ↓reduceIte,Nat.reduceEqDiff,reduceCtorEq])
 |refine oY (by simp only[go_sem];exact iR) ?_
 |refine oN (by simp only[go_sem];exact iR) ?_
 exact k):p:=h k
theorem st {p q:Prop} (k:q) (h:q->p:=by
 intro k;first
 |refine oO rfl (by simp only[go_sem,F];exact⟨rfl,rfl⟩) ?_
 |refine gR ?_
 |refine gO ?_
 |refine oZ (zlS ?_)
 |refine oZ ?_
 |refine oS ?_
 |refine gT ?_
 |refine gD mixed ?_
 |refine oB ?_
 |refine oK ?_
 |(refine oX ?_;simp only[zcV,zdr, ↓reduceIte,Nat.reduceEqDiff,reduceCtorEq])
 |refine oY (by simp only[go_sem,F];exact iR) ?_
 |refine oN (by simp only[go_sem,F];exact iR) ?_
 exact k):p:=h k
theorem sg0 {p q:Prop} (k:q) (h:q->p:=by
 intro k;first
 |refine oO rfl (by simp only[go_sem];exact⟨rfl,rfl⟩) ?_
 |refine gR ?_
 |refine gO ?_
 |refine oZ (zlS ?_)
 |refine oZ ?_
 |refine oS ?_
 |refine gT ?_
 |refine gD mixed ?_
 |refine oB ?_
 |refine oK ?_
 |(refine oX ?_;simp only[zcV,zdr, ↓reduceIte,Nat.reduceEqDiff,reduceCtorEq])
 exact k):p:=h k
theorem sg {p q:Prop} (k:q) (h:q->p:=by
 intro k;first
 |refine oO rfl (by simp only[go_sem,F];exact⟨rfl,rfl⟩) ?_
 |refine gR ?_
 |refine gO ?_
 |refine oZ (zlS ?_)
 |refine oZ ?_
 |refine oS ?_
 |refine gT ?_
 |refine gD mixed ?_
 |refine oB ?_
 |refine oK ?_
 |(refine oX ?_;simp only[zcV,zdr, ↓reduceIte,Nat.reduceEqDiff,reduceCtorEq])
 exact k):p:=h k
section
variable {P:Program} {env:Env} {nt:Nat} {Q:Exit->St->Prop} {s:St}
theorem cC0 {o:Oper} {f:FuncId} {args:List AV} {rest:List Stp} {s1:St} {ft:Foot} {cs:List AV} {res:AV} {K:St->List Foot->Prop} (hcon:Con P env f cs res) (k:aops P env rest s1 fun s2 fts=>K s2 (ft::fts)) (hc:zaH env s.f o=some (f,args):=by exact rfl)
 (ha:Takes (fzArgs args) s cs:=by simp only[go_sem];exact iR) (h:Comes' (runL (zcs false o.dst args res) s [] []) s o.dst s1 ft:=by simp only[go_sem];exact⟨rfl,rfl⟩):aops P env (⟨o, .always⟩::rest) s K:=oC hc hcon ha h k
theorem cC {o:Oper} {f:FuncId} {args:List AV} {rest:List Stp} {s1:St} {ft:Foot} {cs:List AV} {res:AV} {K:St->List Foot->Prop} (hcon:Con P env f cs res) (k:aops P env rest s1 fun s2 fts=>K s2 (ft::fts)) (hc:zaH env s.f o=some (f,args):=by exact rfl)
 (ha:Takes (fzArgs args) s cs:=by simp only[go_sem,F];exact iR) (h:Comes' (runL (zcs false o.dst args res) s [] []) s o.dst s1 ft:=by simp only[go_sem,F];exact⟨rfl,rfl⟩):aops P env (⟨o, .always⟩::rest) s K:=oC hc hcon ha h k
theorem lL {o:Oper} {f:FuncId} {args:List AV} {rest:List Stp} {s1:St} {ft:Foot} {cs:List AV} {res:AV} {K:St->List Foot->Prop} (hcon:ConF P env f cs res) (k:aops P env rest s1 fun s2 fts=>K s2 (ft::fts)) (hc:zaH env s.f o=some (f,args):=by exact rfl)
 (ha:Takes (fzArgs args) s cs:=by simp only[go_sem,F];exact iR) (h:Comes' (runL (zcs true o.dst args res) s [] []) s o.dst s1 ft:=by simp only[go_sem,F];exact⟨rfl,rfl⟩):aops P env (⟨o, .always⟩::rest) s K:=oL hc hcon ha h k
theorem aR0 (h:Q .ret s:=by show (zaG _ _ _).run _=some _;simp only[go_sem]):awp P env nt .ret Q s:=zal h
theorem aR (h:Q .ret s:=by show (zaG _ _ _).run _=some _;simp only[go_sem,F]):awp P env nt .ret Q s:=zal h
theorem qf {f:FuncId} {fn:Func} {c:Code} {n:Nat} {rs:Array ResultVar} {cs:List AV} {res:AV} (hf:P.funcs[f]? =some fn) (hc: ∀(args:Array Value) (w:World),(callFunc f args).run P w= .ok (.enter f args) w) (hn:fn.ntmps=n) (hr:fn.results=rs) (h:awp P env n c (retA P rs.toList res) (St.init cs)) (hb:fn.body=some c:=by exact rfl) (hl:cs.length<=n:=by simp):Con P env f cs res:=zdK hf hb hc (by rw[hn];exact hl) (by rw[hn,hr];exact h)
theorem qw {f:FuncId} {fn:Func} {c:Code} {n:Nat} {rs:Array ResultVar} {cs:List AV} {res:AV} (hf:P.funcs[f]? =some fn) (hc: ∀(args:Array Value) (w:World),(callFunc f args).run P w= .ok (.enter f args) w) (hn:fn.ntmps=n) (hr:fn.results=rs) (h:awp P env n c (retW P rs.toList res) (St.init cs)) (hb:fn.body=some c:=by exact rfl) (hl:cs.length<=n:=by simp):Con P env f cs res:=zfz hf hb hc (by rw[hn];exact hl) (by rw[hn,hr];exact h)
theorem tz01 {α1 p q:Prop} (c1:α1) (k:q) (h:α1->q->p:=by
 intro c1 k;first
 |(refine st0 ?_;exact k)
 |(refine cC0 c1 ?_;exact k)):p:=h c1 k
theorem tz02 {α1 α2 p q:Prop} (c1:α1) (c2:α2) (k:q) (h:α1->α2->q->p:=by
 intro c1 c2 k;first
 |(refine st0 ?_;exact k)
 |(refine cC0 c1 ?_;exact k)
 |(refine cC0 c2 ?_;exact k)):p:=h c1 c2 k
theorem tz03 {α1 α2 α3 p q:Prop} (c1:α1) (c2:α2) (c3:α3) (k:q) (h:α1->α2->α3->q->p:=by
 intro c1 c2 c3 k;first
 |(refine st0 ?_;exact k)
 |(refine cC0 c1 ?_;exact k)
 |(refine cC0 c2 ?_;exact k)
 |(refine cC0 c3 ?_;exact k)):p:=h c1 c2 c3 k
theorem tz07 {α1 α2 α3 α4 α5 α6 α7 p q:Prop} (c1:α1) (c2:α2) (c3:α3) (c4:α4) (c5:α5) (c6:α6) (c7:α7) (k:q) (h:α1->α2->α3->α4->α5->α6->α7->q->p:=by
 intro c1 c2 c3 c4 c5 c6 c7 k;first
 |(refine st0 ?_;exact k)
 |(refine cC0 c1 ?_;exact k)
 |(refine cC0 c2 ?_;exact k)
 |(refine cC0 c3 ?_;exact k)
 |(refine cC0 c4 ?_;exact k)
 |(refine cC0 c5 ?_;exact k)
 |(refine cC0 c6 ?_;exact k)
 |(refine cC0 c7 ?_;exact k)):p:=h c1 c2 c3 c4 c5 c6 c7 k
theorem tz1 {α1 p q:Prop} (c1:α1) (k:q) (h:α1->q->p:=by
 intro c1 k;first
 |(refine st ?_;exact k)
 |(refine cC c1 ?_;exact k)):p:=h c1 k
theorem tz2 {α1 α2 p q:Prop} (c1:α1) (c2:α2) (k:q) (h:α1->α2->q->p:=by
 intro c1 c2 k;first
 |(refine st ?_;exact k)
 |(refine cC c1 ?_;exact k)
 |(refine cC c2 ?_;exact k)):p:=h c1 c2 k
theorem tz3 {α1 α2 α3 p q:Prop} (c1:α1) (c2:α2) (c3:α3) (k:q) (h:α1->α2->α3->q->p:=by
 intro c1 c2 c3 k;first
 |(refine st ?_;exact k)
 |(refine cC c1 ?_;exact k)
 |(refine cC c2 ?_;exact k)
 |(refine cC c3 ?_;exact k)):p:=h c1 c2 c3 k
theorem tz4 {α1 α2 α3 α4 p q:Prop} (c1:α1) (c2:α2) (c3:α3) (c4:α4) (k:q) (h:α1->α2->α3->α4->q->p:=by
 intro c1 c2 c3 c4 k;first
 |(refine st ?_;exact k)
 |(refine cC c1 ?_;exact k)
 |(refine cC c2 ?_;exact k)
 |(refine cC c3 ?_;exact k)
 |(refine cC c4 ?_;exact k)):p:=h c1 c2 c3 c4 k
theorem tz5 {α1 α2 α3 α4 α5 p q:Prop} (c1:α1) (c2:α2) (c3:α3) (c4:α4) (c5:α5) (k:q) (h:α1->α2->α3->α4->α5->q->p:=by
 intro c1 c2 c3 c4 c5 k;first
 |(refine st ?_;exact k)
 |(refine cC c1 ?_;exact k)
 |(refine cC c2 ?_;exact k)
 |(refine cC c3 ?_;exact k)
 |(refine cC c4 ?_;exact k)
 |(refine cC c5 ?_;exact k)):p:=h c1 c2 c3 c4 c5 k
theorem tz6 {α1 α2 α3 α4 α5 α6 p q:Prop} (c1:α1) (c2:α2) (c3:α3) (c4:α4) (c5:α5) (c6:α6) (k:q) (h:α1->α2->α3->α4->α5->α6->q->p:=by
 intro c1 c2 c3 c4 c5 c6 k;first
 |(refine st ?_;exact k)
 |(refine cC c1 ?_;exact k)
 |(refine cC c2 ?_;exact k)
 |(refine cC c3 ?_;exact k)
 |(refine cC c4 ?_;exact k)
 |(refine cC c5 ?_;exact k)
 |(refine cC c6 ?_;exact k)):p:=h c1 c2 c3 c4 c5 c6 k
theorem tz8 {α1 α2 α3 α4 α5 α6 α7 α8 p q:Prop} (c1:α1) (c2:α2) (c3:α3) (c4:α4) (c5:α5) (c6:α6) (c7:α7) (c8:α8) (k:q) (h:α1->α2->α3->α4->α5->α6->α7->α8->q->p:=by
 intro c1 c2 c3 c4 c5 c6 c7 c8 k;first
 |(refine st ?_;exact k)
 |(refine cC c1 ?_;exact k)
 |(refine cC c2 ?_;exact k)
 |(refine cC c3 ?_;exact k)
 |(refine cC c4 ?_;exact k)
 |(refine cC c5 ?_;exact k)
 |(refine cC c6 ?_;exact k)
 |(refine cC c7 ?_;exact k)
 |(refine cC c8 ?_;exact k)):p:=h c1 c2 c3 c4 c5 c6 c7 c8 k
theorem sp {p q r:Prop} (k:q) (l:r) (h:q->r->p:=by
 intro k l;first
 |exact zkh (by simp only[go_sem,F];rfl) k l
 |exact ztp (by simp only[go_sem,F];rfl) k l):p:=h k l
theorem gz0 {p:Prop} (h:p:=by
 repeat' first
 |refine st ?_
 |exact aR
 |(refine sp ?_ ?_<;>(intro hB;first|exact absurd hB (by decide)|((try simp only[Bool.not_eq_true',Bool.not_eq_false',Bool.not_true,Bool.not_false,decide_eq_true_eq,decide_eq_false_iff_not]at hB);have F:=And.intro hB F)))):p:=h
theorem gz1 {α1 p:Prop} (c1:α1) (h:α1->p:=by
 intro c1;repeat' first
 |refine st ?_
 |refine cC c1 ?_
 |exact aR
 |(refine sp ?_ ?_<;>(intro hB;first|exact absurd hB (by decide)|((try simp only[Bool.not_eq_true',Bool.not_eq_false',Bool.not_true,Bool.not_false,decide_eq_true_eq,decide_eq_false_iff_not]at hB);have F:=And.intro hB F)))):p:=h c1
theorem gz2 {α1 α2 p:Prop} (c1:α1) (c2:α2) (h:α1->α2->p:=by
 intro c1 c2;repeat' first
 |refine st ?_
 |refine cC c1 ?_
 |refine cC c2 ?_
 |exact aR
 |(refine sp ?_ ?_<;>(intro hB;first|exact absurd hB (by decide)|((try simp only[Bool.not_eq_true',Bool.not_eq_false',Bool.not_true,Bool.not_false,decide_eq_true_eq,decide_eq_false_iff_not]at hB);have F:=And.intro hB F)))):p:=h c1 c2
theorem gz3 {α1 α2 α3 p:Prop} (c1:α1) (c2:α2) (c3:α3) (h:α1->α2->α3->p:=by
 intro c1 c2 c3;repeat' first
 |refine st ?_
 |refine cC c1 ?_
 |refine cC c2 ?_
 |refine cC c3 ?_
 |exact aR
 |(refine sp ?_ ?_<;>(intro hB;first|exact absurd hB (by decide)|((try simp only[Bool.not_eq_true',Bool.not_eq_false',Bool.not_true,Bool.not_false,decide_eq_true_eq,decide_eq_false_iff_not]at hB);have F:=And.intro hB F)))):p:=h c1 c2 c3
theorem gz4 {α1 α2 α3 α4 p:Prop} (c1:α1) (c2:α2) (c3:α3) (c4:α4) (h:α1->α2->α3->α4->p:=by
 intro c1 c2 c3 c4;repeat' first
 |refine st ?_
 |refine cC c1 ?_
 |refine cC c2 ?_
 |refine cC c3 ?_
 |refine cC c4 ?_
 |exact aR
 |(refine sp ?_ ?_<;>(intro hB;first|exact absurd hB (by decide)|((try simp only[Bool.not_eq_true',Bool.not_eq_false',Bool.not_true,Bool.not_false,decide_eq_true_eq,decide_eq_false_iff_not]at hB);have F:=And.intro hB F)))):p:=h c1 c2 c3 c4
theorem gz5 {α1 α2 α3 α4 α5 p:Prop} (c1:α1) (c2:α2) (c3:α3) (c4:α4) (c5:α5) (h:α1->α2->α3->α4->α5->p:=by
 intro c1 c2 c3 c4 c5;repeat' first
 |refine st ?_
 |refine cC c1 ?_
 |refine cC c2 ?_
 |refine cC c3 ?_
 |refine cC c4 ?_
 |refine cC c5 ?_
 |exact aR
 |(refine sp ?_ ?_<;>(intro hB;first|exact absurd hB (by decide)|((try simp only[Bool.not_eq_true',Bool.not_eq_false',Bool.not_true,Bool.not_false,decide_eq_true_eq,decide_eq_false_iff_not]at hB);have F:=And.intro hB F)))):p:=h c1 c2 c3 c4 c5
theorem gz6 {α1 α2 α3 α4 α5 α6 p:Prop} (c1:α1) (c2:α2) (c3:α3) (c4:α4) (c5:α5) (c6:α6) (h:α1->α2->α3->α4->α5->α6->p:=by
 intro c1 c2 c3 c4 c5 c6;repeat' first
 |refine st ?_
 |refine cC c1 ?_
 |refine cC c2 ?_
 |refine cC c3 ?_
 |refine cC c4 ?_
 |refine cC c5 ?_
 |refine cC c6 ?_
 |exact aR
 |(refine sp ?_ ?_<;>(intro hB;first|exact absurd hB (by decide)|((try simp only[Bool.not_eq_true',Bool.not_eq_false',Bool.not_true,Bool.not_false,decide_eq_true_eq,decide_eq_false_iff_not]at hB);have F:=And.intro hB F)))):p:=h c1 c2 c3 c4 c5 c6
theorem gz9 {α1 α2 α3 α4 α5 α6 α7 α8 α9 p:Prop} (c1:α1) (c2:α2) (c3:α3) (c4:α4) (c5:α5) (c6:α6) (c7:α7) (c8:α8) (c9:α9) (h:α1->α2->α3->α4->α5->α6->α7->α8->α9->p:=by
 intro c1 c2 c3 c4 c5 c6 c7 c8 c9;repeat' first
 |refine st ?_
 |refine cC c1 ?_
 |refine cC c2 ?_
 |refine cC c3 ?_
 |refine cC c4 ?_
 |refine cC c5 ?_
 |refine cC c6 ?_
 |refine cC c7 ?_
 |refine cC c8 ?_
 |refine cC c9 ?_
 |exact aR
 |(refine sp ?_ ?_<;>(intro hB;first|exact absurd hB (by decide)|((try simp only[Bool.not_eq_true',Bool.not_eq_false',Bool.not_true,Bool.not_false,decide_eq_true_eq,decide_eq_false_iff_not]at hB);have F:=And.intro hB F)))):p:=h c1 c2 c3 c4 c5 c6 c7 c8 c9
theorem gz10 {α1 α2 α3 α4 α5 α6 α7 α8 α9 α10 p:Prop} (c1:α1) (c2:α2) (c3:α3) (c4:α4) (c5:α5) (c6:α6) (c7:α7) (c8:α8) (c9:α9) (c10:α10) (h:α1->α2->α3->α4->α5->α6->α7->α8->α9->α10->p:=by
 intro c1 c2 c3 c4 c5 c6 c7 c8 c9 c10;repeat' first
 |refine st ?_
 |refine cC c1 ?_
 |refine cC c2 ?_
 |refine cC c3 ?_
 |refine cC c4 ?_
 |refine cC c5 ?_
 |refine cC c6 ?_
 |refine cC c7 ?_
 |refine cC c8 ?_
 |refine cC c9 ?_
 |refine cC c10 ?_
 |exact aR
 |(refine sp ?_ ?_<;>(intro hB;first|exact absurd hB (by decide)|((try simp only[Bool.not_eq_true',Bool.not_eq_false',Bool.not_true,Bool.not_false,decide_eq_true_eq,decide_eq_false_iff_not]at hB);have F:=And.intro hB F)))):p:=h c1 c2 c3 c4 c5 c6 c7 c8 c9 c10
theorem gz13 {α1 α2 α3 α4 α5 α6 α7 α8 α9 α10 α11 α12 α13 p:Prop} (c1:α1) (c2:α2) (c3:α3) (c4:α4) (c5:α5) (c6:α6) (c7:α7) (c8:α8) (c9:α9) (c10:α10) (c11:α11) (c12:α12) (c13:α13) (h:α1->α2->α3->α4->α5->α6->α7->α8->α9->α10->α11->α12->α13->p:=by
 intro c1 c2 c3 c4 c5 c6 c7 c8 c9 c10 c11 c12 c13;repeat' first
 |refine st ?_
 |refine cC c1 ?_
 |refine cC c2 ?_
 |refine cC c3 ?_
 |refine cC c4 ?_
 |refine cC c5 ?_
 |refine cC c6 ?_
 |refine cC c7 ?_
 |refine cC c8 ?_
 |refine cC c9 ?_
 |refine cC c10 ?_
 |refine cC c11 ?_
 |refine cC c12 ?_
 |refine cC c13 ?_
 |exact aR
 |(refine sp ?_ ?_<;>(intro hB;first|exact absurd hB (by decide)|((try simp only[Bool.not_eq_true',Bool.not_eq_false',Bool.not_true,Bool.not_false,decide_eq_true_eq,decide_eq_false_iff_not]at hB);have F:=And.intro hB F)))):p:=h c1 c2 c3 c4 c5 c6 c7 c8 c9 c10 c11 c12 c13
theorem qe0 {p:Prop} (h:p:=by simp only[go_sem]):p:=h
theorem qe {p:Prop} (h:p:=by simp only[go_sem,F]):p:=h
end
end
section
open Go.RowKit
def zbB (c:Int):Bool:=decide (c=95\/(97<=c/\c<=122)\/(65<=c/\c<=90))
def zgr (c:Int):Bool:=decide (48<=c/\c<=57)
def zbp (c:Int):Bool:=zbB c||zgr c||decide (c=46)
theorem zfR (c:Int) (w:World):Calls prog 205 #[.int .u8 c] w fun e w'=>e= .returned (.bool (zbB c))/\w=w':=by
 by_cases h1:c=95
 ·subst h1
  go_enter func205,ntmps205
  go_wp2
  go_ret
  exact⟨rfl,rfl⟩
 have e1:(c==95)=false:=by simp[h1]
 by_cases h2:97<=c<;>by_cases h3:c<=122<;>by_cases h4:65<=c<;>by_cases h5:c<=90
 all_goals first
  |(exfalso;omega)
  |(go_enter func205,ntmps205
    go_wp2
    go_ret
    exact⟨by simp[zbB];omega,rfl⟩)
theorem zsZ (c:Int) (w:World):Calls prog 251 #[.int .u8 c] w fun e w'=>e= .returned (.bool (zgr c))/\w=w':=by
 by_cases h2:48<=c
 all_goals
  go_enter func251,ntmps251
  go_wp2
  go_ret
  exact⟨by simp[zgr];try omega,rfl⟩
theorem zle (c:Int) (w:World):Calls prog 207 #[.int .u8 c] w fun e w'=>e= .returned (.bool (zbp c))/\w=w':=by
 by_cases h1:zbB c<;>by_cases h2:zgr c
 all_goals
  go_enter func207,ntmps207
  go_wp2_with (first
   |(go_at_call 205;refine(zfR _ _).mono ?_;rintro e w' ⟨rfl,rfl⟩)
   |(go_at_call 251;refine(zsZ _ _).mono ?_;rintro e w' ⟨rfl,rfl⟩))
  go_ret
  exact⟨by simp[zbp,h1,h2]<;>rfl,rfl⟩
def innerLen (l:List UInt8):Nat:=(l.takeWhile fun c=>zbp c.toNat).length
theorem zhB (l:List UInt8) (k:Nat) (hk:k<=l.length) (h1: ∀j (h:j<l.length),j<k->zbp l[j].toNat=true) (h2: ∀h:k<l.length,¬zbp l[k].toNat=true):innerLen l=k:=by
 unfold innerLen
 induction l generalizing k with
 |nil=>simp at hk |-;omega
 | cons c l ih=>
   rw[List.takeWhile_cons];cases k with
   | zero=>
     rw[if_neg (show ¬zbp c.toNat=true from h2 (by simp))];rfl
   | succ k=>
     rw[if_pos (show zbp c.toNat=true from h1 0 (by simp) (by omega))];simp only[List.length_cons]at hk |-;rw[ih k (by omega) (fun j h hj=>h1 (j+1) (by simpa using h) (by omega)) (fun h=>h2 (by simpa using h))]
theorem zq4 (l:List UInt8) (hl:l.length<=9223372036854775807) (w:World):
 Calls prog 206 #[.string ⟨l.toArray⟩, .int .i64 0, .func (.func 207) #[] #[]] w fun e w'=>e= .returned (.int .i64 (innerLen l))/\w=w':=by
 go_enter func206,ntmps206
 go_wp2_with fail
 go_loop [1] (fun i=> ∃k:Nat,k<=l.length/\i= .int .i64 k/\ ∀j (h:j<l.length),j<k->zbp l[j].toNat=true) (fun i=>l.length-(intOf i).toNat)
 case atStart=>exact⟨0,by omega,rfl,fun j _ h=>by omega⟩
 case round=>
  obtain⟨k,hk,rfl,hall⟩:=hrel;have HA:=Lib.hid hall;try clear hall
  by_cases hlt:k<l.length
  ·by_cases hin:zbp l[k].toNat=true
   ·have hin':zbp (((ByteArray.mk l.toArray)[k]'(by simpa[ByteArray.size]using hlt)).toNat)=true:=hin;have HI:=Lib.hid hin;try clear hin
    go_wp2_with (go_at_call 207;refine(zle _ _).mono ?_;rintro e w' ⟨rfl,rfl⟩)
    go_round
    case rel=>
     refine⟨k+1,by omega,by go_num,fun j h hj=> ?_⟩;rcases Nat.lt_or_ge j k with h' | h'
     ·exact HA.out j h h'
     ·obtain rfl:j=k:=by omega
      exact HI.out
    case measure=>simp[intOf];omega
   ·have hin':zbp (((ByteArray.mk l.toArray)[k]'(by simpa[ByteArray.size]using hlt)).toNat)=false:=Bool.eq_false_iff.2 hin;have HI:=Lib.hid hin;try clear hin
    go_wp2_with (go_at_call 207;refine(zle _ _).mono ?_;rintro e w' ⟨rfl,rfl⟩)
    go_ret
    refine⟨?_,rfl⟩;rw[zhB l k hk HA.out (fun _=>HI.out)];rfl
  ·go_wp2_with fail
   go_ret
   refine⟨?_,rfl⟩;rw[zhB l k hk HA.out (fun h=>absurd h hlt)];rfl
def zbi (l:List UInt8):Bool:=decide (l.length<=32)&&(match l with|[]=>false|c::_=>zbB c.toNat)&&l.all fun c=>zbp c.toNat
theorem zlf (l:List UInt8):(innerLen l=l.length)↔(l.all fun c=>zbp c.toNat)=true:=by
 unfold innerLen
 induction l with
 |nil=>simp
 | cons c l ih=>
   rw[List.takeWhile_cons];by_cases h:zbp c.toNat=true
   ·rw[if_pos h];simp only[List.length_cons,List.all_cons,h,Bool.true_and];rw[<-ih];omega
   ·rw[if_neg h];simp[h]
theorem zub (l:List UInt8) (hl:l.length<=9223372036854775807) (w:World):
 Calls prog 169 #[.string ⟨l.toArray⟩] w fun e w'=>e= .returned (.bool (zbi l))/\w=w':=by
 cases l with
 | nil=>
   go_enter func169,ntmps169
   go_wp2_with fail
   go_ret
   exact⟨rfl,rfl⟩
 | cons c r=>
   generalize hL:c::r=l at*;have hpos:0<l.length:=by rw[<-hL];simp
   have h0:l[0]=c:=by subst hL;rfl
   have hne:l.isEmpty=false:=by rw[<-hL];rfl
   have hN:zbi l=(decide (l.length<=32)&&zbB c.toNat&&decide ((innerLen l:Int)=l.length)):=by
    subst hL;simp only[zbi]
    congr 1
    rw[Bool.eq_iff_iff, <-zlf];simp only[decide_eq_true_eq];omega
   have HN:=Lib.hid hN;try clear hN hL
   by_cases h32:l.length<=32
   ·by_cases hc:zbB c.toNat=true
    ·have hc':zbB (((ByteArray.mk l.toArray)[0]'(by simpa[ByteArray.size]using hpos)).toNat)=true:=by rw[zvb l 0 hpos,h0];exact hc
     have HC:=Lib.hid hc;try clear hc h0
     go_enter func169,ntmps169
     go_wp2_with (first
      |(go_at_call 205;refine(zfR _ _).mono ?_;rintro e w' ⟨rfl,rfl⟩)
      |(go_at_call 206;refine(zq4 l hl _).mono ?_;rintro e w' ⟨rfl,rfl⟩))
     go_ret
     rw[HN.out];refine⟨?_,rfl⟩;simp[h32,HC.out];rfl
    ·have hc':zbB (((ByteArray.mk l.toArray)[0]'(by simpa[ByteArray.size]using hpos)).toNat)=false:=by rw[zvb l 0 hpos,h0];exact Bool.eq_false_iff.2 hc
     have HC:=Lib.hid hc;try clear hc h0
     go_enter func169,ntmps169
     go_wp2_with (go_at_call 205;refine(zfR _ _).mono ?_;rintro e w' ⟨rfl,rfl⟩)
     go_ret
     rw[HN.out];exact⟨by simp[HC.out],rfl⟩
   ·go_enter func169,ntmps169
    go_wp2_with fail
    go_ret
    rw[HN.out];exact⟨by simp[h32];try omega,rfl⟩
/-! The document's -/
end
section
open Go.RowKit
theorem zbE (env:Env) (c:UInt8):Con prog env 104 [.lit (.int .u8 (c.toNat:Int))] (B (zbB c.toNat)):=by
 refine qf func104 call104 ntmps104 results104 ?_;have hc:=c.toNat_lt;generalize c.toNat=n at*;unfold zbB;by_cases h1:(n:Int)=95
 ·have e:decide ((n:Int)=95\/(97<=(n:Int)/\(n:Int)<=122)\/(65<=(n:Int)/\(n:Int)<=90))=true:=by simp;omega
  rw[e];have h1:((n:Int)==95)=true:=by simp;omega
  have F:=h1;repeat refine sg ?_
  exact aR
 ·have h1':((n:Int)==95)=false:=by simp;omega
  by_cases h2:(97:Int)<=(n:Int)
  ·by_cases h3:(n:Int)<=122
   ·have e:decide ((n:Int)=95\/(97<=(n:Int)/\(n:Int)<=122)\/(65<=(n:Int)/\(n:Int)<=90))=true:=by simp;omega
    rw[e];have F:=ai3 h1' h2 h3;repeat refine sg ?_
    exact aR
   ·have e:decide ((n:Int)=95\/(97<=(n:Int)/\(n:Int)<=122)\/(65<=(n:Int)/\(n:Int)<=90))=false:=by simp;omega
    have h4:(65:Int)<=(n:Int):=by omega
    have h5: ¬(n:Int)<=90:=by omega
    rw[e];have F:=ai5 h1' h2 h3 h4 h5;repeat refine sg ?_
    exact aR
  ·by_cases h4:(65:Int)<=(n:Int)
   ·by_cases h5:(n:Int)<=90
    ·have e:decide ((n:Int)=95\/(97<=(n:Int)/\(n:Int)<=122)\/(65<=(n:Int)/\(n:Int)<=90))=true:=by simp;omega
     rw[e];have F:=ai4 h1' h2 h4 h5;repeat refine sg ?_
     exact aR
    ·have e:decide ((n:Int)=95\/(97<=(n:Int)/\(n:Int)<=122)\/(65<=(n:Int)/\(n:Int)<=90))=false:=by simp;omega
     rw[e];have F:=ai4 h1' h2 h4 h5;repeat refine sg ?_
     exact aR
   ·have e:decide ((n:Int)=95\/(97<=(n:Int)/\(n:Int)<=122)\/(65<=(n:Int)/\(n:Int)<=90))=false:=by simp;omega
    rw[e];have F:=ai3 h1' h2 h4;repeat refine sg ?_
    exact aR
theorem zeT (env:Env) (c:UInt8):Con prog env 105 [.lit (.int .u8 (c.toNat:Int))] (B (zgr c.toNat)):=by
 refine qf func105 call105 ntmps105 results105 ?_;generalize c.toNat=n at*;unfold zgr;by_cases h2:(48:Int)<=(n:Int)
 ·by_cases h3:(n:Int)<=57
  ·rw[decide_eq_true ⟨h2,h3⟩];have F:=ai h2 h3;repeat refine sg ?_
   exact aR
  ·rw[decide_eq_false (by omega)];have F:=ai h2 h3;repeat refine sg ?_
   exact aR
 ·rw[decide_eq_false (by omega)];have F:=h2;repeat refine sg ?_
  exact aR
theorem zkk {l:List UInt8} {p:UInt8->Bool} {i:Nat} (h:(l.take i).all p=true) (hi:i<l.length) (hp:p l[i]=true):(l.take (i+1)).all p=true:=by
 rw[List.take_succ_eq_append_getElem hi,List.all_append,h];simp[hp]
theorem zw0 {l:List UInt8} {p:UInt8->Bool} {i:Nat} (hi:i<l.length) (hp:p l[i]=false):l.all p=false:=by
 rw[Bool.eq_false_iff];intro h;rw[List.all_eq_true]at h;rw[h _ (List.getElem_mem hi)]at hp;cases hp
theorem zcB (env:Env) (l:List UInt8):Con prog env 55 [Sg l] (B (zbi l)):=by
 refine qf func55 call55 ntmps55 results55 ?_;by_cases h0:l=[]
 ·subst h0;repeat refine sg0 ?_
  refine oY (by simp only[go_sem];exact iR) ?_;repeat refine sg0 ?_
  (refine zal ?_;show (zaG _ _ _).run _=some _;simp only[go_sem])
  rfl
 obtain⟨c,hc⟩: ∃c,l[0]? =some c:=⟨l[0]'(List.length_pos_iff.2 h0),List.getElem?_eq_getElem _⟩
 have g0:((l.length:Int)==0)=false:=by
  have:=List.length_pos_iff.2 h0;simp;exact h0
 by_cases h1:l.length<=32
 ·have g1: ¬32< (l.length:Int):=by omega
  by_cases h2:zbB c.toNat=true
  ·have hnm:zbi l=l.all fun c=>zbp c.toNat:=by
    cases l with
    |nil=>exact(h0 rfl).elim
    | cons d r=>
      simp only[List.getElem?_cons_zero,Option.some.injEq]at hc;subst hc;unfold zbi;simp only[h2,decide_eq_true h1,Bool.true_and]
   have F:=ai4 g0 g1 hc h2;repeat refine sg ?_
   refine cC (zbE env c) ?_;repeat refine sg ?_
   refine oN (by simp only[go_sem,F];exact iR) ?_;repeat refine sg ?_
   refine zab (D:=Nat) (fun i _=>[(0,Sg l),(3,I i)]) (fun _ _=>[]) (fun i _ _=>i<=l.length/\((l.take i).all fun c=>zbp c.toNat)=true) (fun i=>l.length-i) 0 ?_ ?_ ?_ ?_
   ·exact⟨Nat.zero_le _,rfl⟩
   ·exact qe
   ·exact qe
   rintro i vs esc ⟨hi,ha⟩;by_cases hlt:i<l.length
   ·have g2:=nlt hlt;have g3:=zaa hlt (by omega);have g4:l[i]? =some l[i]:=List.getElem?_eq_getElem hlt;have hnxt:=fun hp=>zkk (p:=fun c=>zbp c.toNat) ha hlt hp;have hnot:=fun hp=>zw0 (p:=fun c=>zbp c.toNat) hlt hp;try simp only at hnxt
    try simp only at hnot
    generalize l[i]=x at*;by_cases h5:zbB x.toNat=true
    ·
     have F:=ai4 g2 g3 g4 h5;repeat refine sg ?_
     refine oY (by simp only[go_sem,F];exact iR) ?_;repeat refine sg ?_
     refine cC (zbE env x) ?_;repeat refine sg ?_
     refine oN (by simp only[go_sem,F];exact iR) ?_;repeat refine sg ?_
     refine⟨i+1,⟨hlt,hnxt (by simp[zbp,h5])⟩,?_,?_,?_⟩
     ·exact qe
     ·exact qe
     ·omega
    have h5:zbB x.toNat=false:=by simpa using h5
    by_cases h6:zgr x.toNat=true
    ·
     have F:=ai5 g2 g3 g4 h5 h6;repeat refine sg ?_
     refine oY (by simp only[go_sem,F];exact iR) ?_;repeat refine sg ?_
     refine cC (zbE env x) ?_;repeat refine sg ?_
     refine cC (zeT env x) ?_;repeat refine sg ?_
     refine oN (by simp only[go_sem,F];exact iR) ?_;repeat refine sg ?_
     refine⟨i+1,⟨hlt,hnxt (by simp[zbp,h5,h6])⟩,?_,?_,?_⟩
     ·exact qe
     ·exact qe
     ·omega
    have h6:zgr x.toNat=false:=by simpa using h6
    by_cases h7:(x.toNat:Int)=46
    ·have h8:((x.toNat:Int) != 46)=false:=by rw[h7];rfl
     have F:=ai6 g2 g3 g4 h5 h6 h8;repeat refine sg ?_
     refine oY (by simp only[go_sem,F];exact iR) ?_;repeat refine sg ?_
     refine cC (zbE env x) ?_;repeat refine sg ?_
     refine cC (zeT env x) ?_;repeat refine sg ?_
     refine oN (by simp only[go_sem,F];exact iR) ?_;repeat refine sg ?_
     refine⟨i+1,⟨hlt,hnxt (by simp only[zbp,h5,h6,decide_eq_true h7,Bool.or_true])⟩,?_,?_,?_⟩
     ·exact qe
     ·exact qe
     ·omega
    ·have h8:((x.toNat:Int) != 46)=true:=bne_iff_ne.2 h7;have F:=ai6 g2 g3 g4 h5 h6 h8;repeat refine sg ?_
     refine oY (by simp only[go_sem,F];exact iR) ?_;repeat refine sg ?_
     refine cC (zbE env x) ?_;repeat refine sg ?_
     refine cC (zeT env x) ?_;repeat refine sg ?_
     refine oY (by simp only[go_sem,F];exact iR) ?_;repeat refine sg ?_
     (refine zal ?_;show (zaG _ _ _).run _=some _;simp only[go_sem,F])
     rw[hnm,hnot (by simp only[zbp,h5,h6,decide_eq_false h7,Bool.or_false])]
   ·have g2: ¬(i:Int)< (l.length:Int):=by omega
    have F:=g2;repeat refine sg ?_
    refine oN (by simp only[go_sem,F];exact iR) ?_;repeat refine sg ?_
    (refine zal ?_;show (zaG _ _ _).run _=some _;simp only[go_sem,F])
    rw[hnm, <-ha,List.take_of_length_le (by omega)]
  ·have h2:zbB c.toNat=false:=by simpa using h2
   have hnm:zbi l=false:=by
    cases l with
    |nil=>exact(h0 rfl).elim
    | cons d r=>
      simp only[List.getElem?_cons_zero,Option.some.injEq]at hc;subst hc;unfold zbi;simp only[h2,Bool.and_false,Bool.false_and]
   rw[hnm];have F:=ai4 g0 g1 hc h2;repeat refine sg ?_
   refine cC (zbE env c) ?_;repeat refine sg ?_
   refine oY (by simp only[go_sem,F];exact iR) ?_;repeat refine sg ?_
   exact aR
 ·have g1:32< (l.length:Int):=by omega
  have hnm:zbi l=false:=by
   unfold zbi;rw[decide_eq_false h1];rfl
  rw[hnm];have F:=ai3 g0 g1 hc;repeat refine sg ?_
  refine oY (by simp only[go_sem,F];exact iR) ?_;repeat refine sg ?_
  exact aR
end
section
open Go.RowKit
structure OpD where
 kind:Int
 n:Int
 deriving DecidableEq,Inhabited
structure ActD where
 kind:Int
 n:Int
 name:List UInt8
 code:List OpD
 deriving DecidableEq,Inhabited
structure StD where
 name:List UInt8
 kind:Int
 parent:Int
 initial:Int
 inn:List ActD
 out:List ActD
 deriving DecidableEq,Inhabited
structure TrD where
 src:Int
 event:List UInt8
 guard:List OpD
 acts:List ActD
 target:Int
 deriving DecidableEq,Inhabited
structure VarD where
 name:List UInt8
 start:Int
 deriving DecidableEq,Inhabited
structure ChD where
 name:List UInt8
 initial:Int
 vars:List VarD
 states:List StD
 trans:List TrD
 deriving DecidableEq,Inhabited
def opAV (x:OpD):List AV:=[I x.kind,I x.n]
abbrev opsAV (l:List OpD):AV:= .seq 2 (l.map opAV)
def zbl (x:ActD):List AV:=[I x.kind,I x.n,Sg x.name,opsAV x.code]
abbrev actsAV (l:List ActD):AV:= .seq 4 (l.map zbl)
def stAV (x:StD):List AV:=[Sg x.name,I x.kind,I x.parent,I x.initial,actsAV x.inn,actsAV x.out]
abbrev stsAV (l:List StD):AV:= .seq 6 (l.map stAV)
def trAV (x:TrD):List AV:=[I x.src,Sg x.event,opsAV x.guard,actsAV x.acts,I x.target]
abbrev trsAV (l:List TrD):AV:= .seq 5 (l.map trAV)
def zdW (x:VarD):List AV:=[Sg x.name,I x.start]
abbrev varsAV (l:List VarD):AV:= .seq 2 (l.map zdW)
def chAV (x:ChD):List AV:=[Sg x.name,I x.initial,varsAV x.vars,stsAV x.states,trsAV x.trans]
/-! Lists that are no longer than memory is. -/
def zlx (_:OpD):Prop:=True
def zel (x:ActD):Prop:=x.name.length<=maxLen/\(x.code.length<=maxLen/\ ∀y∈x.code,zlx y)
def zlw (x:StD):Prop:=x.name.length<=maxLen/\(x.inn.length<=maxLen/\ ∀y∈x.inn,zel y)/\(x.out.length<=maxLen/\ ∀y∈x.out,zel y)
def zlv (x:TrD):Prop:=x.event.length<=maxLen/\(x.guard.length<=maxLen/\ ∀y∈x.guard,zlx y)/\(x.acts.length<=maxLen/\ ∀y∈x.acts,zel y)
def zhQ (x:VarD):Prop:=x.name.length<=maxLen
def zeP (x:ChD):Prop:=x.name.length<=maxLen/\(x.vars.length<=maxLen/\ ∀y∈x.vars,zhQ y)/\(x.states.length<=maxLen/\ ∀y∈x.states,zlw y)/\(x.trans.length<=maxLen/\ ∀y∈x.trans,zlv y)
end
section
open Go.RowKit
/-! Expressions -/
def zad (k:Int):Int:=if 1<=k/\k<=4 then 0 else if k=5\/k=6 then 1 else if 7<=k/\k<=19 then 2 else -1
theorem zgd (k:Int): -1<=zad k/\zad k<=2:=by
 unfold zad;repeat' split
 all_goals omega
def numB (o:OpD) (vs ss:Int):Bool:=if o.kind=1 then decide (0<=o.n/\o.n<=2147483647) else if o.kind=2 then decide (0<=o.n/\o.n<vs) else if o.kind=4 then decide (0<=o.n/\o.n<ss) else decide (o.n=0)
def zbc (vs ss n:Int) (o:OpD):Bool:=decide (0<=zad o.kind)&&decide (zad o.kind<=n)&&numB o vs ss
def hgt (vs ss:Int):List OpD->Int->Option Int
 |[],n=>some n
 |o::l,n=>if zbc vs ss n o then hgt vs ss l (n-zad o.kind+1) else none
def zeM (l:List OpD) (vs ss:Int):Int:=if 32<l.length then 8 else if hgt vs ss l 0=some 1 then 0 else 1
def zbQ (l:List OpD) (vs ss:Int):Bool:=zeM l vs ss==0
theorem zgM {vs ss:Int} {l:List OpD} {k:Nat} {o:OpD} {n:Int} (h:l[k]? =some o) (hn:hgt vs ss l 0=hgt vs ss (l.drop k) n):(zbc vs ss n o=true->hgt vs ss l 0=hgt vs ss (l.drop (k+1)) (n-zad o.kind+1))/\(zbc vs ss n o=false->hgt vs ss l 0=none):=by
 have hk:k<l.length:=(List.getElem?_eq_some_iff.1 h).1
 have he:l.drop k=o::l.drop (k+1):=by
  rw[List.drop_eq_getElem_cons hk]
  congr 1
  rw[List.getElem?_eq_getElem hk]at h;exact Option.some.inj h
 rw[he]at hn;simp only[hgt]at hn;exact⟨fun e=>by rw[hn,if_pos e],fun e=>by rw[hn,if_neg (by rw[e];simp)]⟩
theorem zjY {vs ss:Int} {l:List OpD} {k:Nat} {n:Int} (h:l.length<=k) (hn:hgt vs ss l 0=hgt vs ss (l.drop k) n):hgt vs ss l 0=some n:=by
 rw[hn,List.drop_eq_nil_of_le h];rfl
/-! Actions, states -/
def actB (nv ns:Int) (a:ActD):Bool:=
 if a.kind=1 then decide (0<=a.n/\a.n<nv)&&(a.name == [])&&zbQ a.code nv ns
 else if a.kind=2\/a.kind=4 then(a.n==0)&&zbi a.name&&zbQ a.code nv ns
 else if a.kind=3 then(a.n==0)&&(a.name == [])&&zbQ a.code nv ns
 else if a.kind=5 then(a.n==0)&&zbi a.name&&(a.code == [])
 else false
def zcZ (nv ns:Int) (l:List ActD):Bool:=decide (l.length<=32)&&l.all (actB nv ns)
def zcW (s:StD):Bool:=(s.kind==1)||(s.kind==2)
def zaq (s:StD):Bool:=(s.kind==4)||(s.kind==5)
def zb6 (c:ChD) (i:Int) (real:Bool) (k:Nat):Bool:=match c.states[k]? with
 |some s=>(s.parent==i)&&(!real|| !zaq s)
 |none=>false
def zaX (c:ChD) (i:Int) (real:Bool) (n:Nat):List Nat:=(List.range n).filter (zb6 c i real)
def kidsL (c:ChD) (i:Int) (real:Bool):List Nat:=zaX c i real c.states.length
theorem zhw (c:ChD) (i:Int) (real:Bool) (k:Nat):zaX c i real (k+1)=zaX c i real k++if zb6 c i real k then [k] else []:=by
 unfold zaX;rw[List.range_succ,List.filter_append]
 congr 1
 simp only[List.filter_cons,List.filter_nil]
theorem zbM (c:ChD) (i:Int) (real:Bool) (k:Nat):(zaX c i real k).length<=k:=by
 have:=List.length_filter_le (zb6 c i real) (List.range k);simpa[zaX]using this
theorem zhx {c:ChD} {i:Int} {real:Bool} {k n:Nat} (h:k∈zaX c i real n):k<n/\zb6 c i real k=true:=by
 simpa[zaX,List.mem_filter]using h
def zcO (c:ChD) (name:List UInt8):Nat->Int
 |0=> -1
 | k+1=>if zcO c name k= -1 then(match c.states[k]? with
   |some s=>if s.name=name then(k:Int) else -1
   |none=> -1) else zcO c name k
def zm8 (c:ChD) (name:List UInt8):Int:=zcO c name c.states.length
theorem zm7 (c:ChD) (name:List UInt8) {k:Nat} (h:zcO c name k≠ -1): ∀n,k<=n->zcO c name n=zcO c name k:=by
 intro n hn
 induction n with
 | zero=>obtain rfl:k=0:=by omega
         rfl
 | succ n ih=>
   by_cases e:k=n+1
   ·rw[e]
   ·have:=ih (by omega);simp only[zcO];rw[this,if_neg h]
theorem zlr (c:ChD) (name:List UInt8) {k:Nat} (hk:k<c.states.length) (hn:zcO c name k= -1) (s:StD) (hs:c.states[k]? =some s) (he:s.name=name):zm8 c name=k:=by
 have h1:zcO c name (k+1)=k:=by
  simp only[zcO,if_pos hn,hs,if_pos he]
 unfold zm8;rw[zm7 c name (k:=k+1) (by rw[h1];omega) _ hk,h1]
theorem zhP (c:ChD) (name:List UInt8) {k:Nat} (hn:zcO c name k= -1) (s:StD) (hs:c.states[k]? =some s) (he:s.name≠name):zcO c name (k+1)= -1:=by
 simp only[zcO,if_pos hn,hs,if_neg he]
def zaA (p:Nat->Bool) (n:Nat):Option Nat:=(List.range n).find? fun k=> !p k
theorem zaz {p:Nat->Bool} {n:Nat} (h: ∀j,j<n->p j=true):zaA p n=none:=by
 unfold zaA;rw[List.find?_eq_none];intro x hx;simp[h x (by simpa using hx)]
theorem zbC {p:Nat->Bool} {n k:Nat} (hk:k<n) (h: ∀j,j<k->p j=true) (hb:p k=false):zaA p n=some k:=by
 unfold zaA
 have e:List.range n=List.range k++(k::(List.range (n-k-1)).map (k+1+ ·)):=by
  have:n=k+(n-k):=by omega
  rw[this,List.range_add]
  congr 1
  have e2:k+(n-k)-k-1+1=n-k:=by omega
  have:n-k=(n-k-1)+1:=by omega
  rw[show k+(n-k)-k-1=n-k-1 by omega,this,List.range_succ_eq_map,List.map_cons,List.map_map];simp only[Nat.add_zero,Nat.add_sub_cancel,List.cons.injEq,true_and];apply List.map_congr_left;intro a _;simp only[Function.comp];omega
 rw[e,List.find?_append];have h1:(List.range k).find? (fun k=> !p k)=none:=zaz h;rw[h1];simp[hb]
/-! What is right -/
def at_ (c:ChD) (i:Int):Option StD:=if 0<=i then c.states[i.toNat]? else none
def zav (c:ChD) (i:Int):Bool:=match at_ c i with
 |some q=>zcW q
 |none=>false
def zbz (c:ChD) (i:Nat) (s:StD):Bool:=(s.parent == -1)||(decide (0<=s.parent)&&decide (s.parent<i)&&zav c s.parent)
def zbJ (c:ChD) (s:StD):Bool:=match at_ c s.parent with
 |some q=>q.kind==1
 |none=>false
def inL (l:List Nat) (n:Int):Bool:=l.any fun k=>(k:Int)==n
def zbZ (c:ChD) (i:Nat) (s:StD):Bool:=
 if s.kind=1 then(if kidsL c i true=[] then s.initial == -1 else inL (kidsL c i true) s.initial)
 else if s.kind=2 then((kidsL c i true).all fun k=>zav c k)&&decide (0< (kidsL c i true).length)&&(s.initial == -1)
 else if s.kind=3 then(kidsL c i false == [])&&((s.parent == -1)||zbJ c s)&&(s.initial == -1)&&(s.out == [])
 else if s.kind=4\/s.kind=5 then(kidsL c i false == [])&&zbJ c s&&inL (kidsL c s.parent true) s.initial&&(s.inn == [])&&(s.out == [])
 else false
def zbm (c:ChD) (i:Nat) (s:StD):Bool:=zbi s.name&&(zm8 c s.name==(i:Int))&&zbz c i s&&zbZ c i s&&zcZ c.vars.length c.states.length s.inn&&zcZ c.vars.length c.states.length s.out
def zgx (c:ChD) (i:Nat):Bool:=match c.states[i]? with
 |some s=>zbm c i s
 |none=>false
def newVar (c:ChD) (name:List UInt8) (i:Nat):Bool:=(c.vars.take i).all fun x=> !(x.name==name)
def varB (c:ChD) (i:Nat) (v:VarD):Bool:=newVar c v.name i&&zbi v.name&& !(v.name == [100,97,116,97])&& !(v.name == [105,110])&&decide (-2147483647<=v.start)&&decide (v.start<=2147483647)
def zeS (c:ChD) (i:Nat):Bool:=match c.vars[i]? with
 |some v=>varB c i v
 |none=>false
def zch (c:ChD) (t:TrD):Bool:=zav c t.src&&((t.event == [])||zbi t.event)&&((t.guard == [])||zbQ t.guard c.vars.length c.states.length)&&zcZ c.vars.length c.states.length t.acts&&((t.target == -1)||(decide (0<=t.target)&&decide (t.target<c.states.length)))
def zkd (c:ChD) (i:Nat):Bool:=match c.trans[i]? with
 |some t=>zch c t
 |none=>false
def topB (c:ChD):Bool:=match at_ c c.initial with
 |some q=>(q.parent == -1)&&zcW q
 |none=>false
def chk (c:ChD):Int×Int:=
 if 32<c.states.length\/64<c.trans.length\/8<c.vars.length then(8, -1)
 else if c.states=[]\/zbi c.name=false then(1, -1)
 else match zaA (zeS c) c.vars.length with
  |some i=>(1,2000+i)
  | none=>match zaA (zgx c) c.states.length with
    |some i=>(1,i)
    | none=>if topB c=false then(1, -1) else match zaA (zkd c) c.trans.length with
      |some i=>(1,1000+i)
      |none=>(0, -1)
end
section
open Go.RowKit
theorem zb2 (env:Env) (l:List UInt8) (hl:l.length<=9223372036854775807):Con prog env 169 [Sg l] (B (zbi l)):=
 zwc call169 fun w S vs hE hlen hv=>by
  match vs,hlen with
  | [v],_=>
    obtain rfl:=(hv 0 v _ rfl rfl).lit_inv;refine(zub l hl w).mono ?_;rintro e w' ⟨rfl,rfl⟩;exact⟨rfl,Below.refl _ _⟩
def zai (n:Int):Bool:=decide (-2147483647<=n)&&decide (n<=2147483647)
theorem zbR (env:Env) (n:Int):Con prog env 69 [I n] (B (zai n)):=by
 unfold zai;refine qf func69 call69 ntmps69 results69 ?_;by_cases h1: -2147483647<=n<;>by_cases h2:n<=2147483647<;>
 ·have F:=ai h1 h2;repeat refine st ?_
  exact aR
theorem zfh (env:Env) (n:Int):Con prog env 27 [I n] (B (zai n)):=by
 unfold zai;refine qf func27 call27 ntmps27 results27 ?_;by_cases h1: -2147483647<=n<;>by_cases h2:n<=2147483647<;>
 ·have F:=ai h1 h2;repeat refine st ?_
  exact aR
/-! Expressions' kinds -/
theorem zeO {p:Int->Int->Prop} (h1: ∀k:Int,1<=k->k<=4-> ¬k<1-> ¬19<k-> ¬4<k->p k 0) (h5:p 5 1) (h6:p 6 1)
 (h7: ∀k:Int,1<=k-> ¬k<=4->(k==5)=false->(k==6)=false->7<=k->k<=19-> ¬k<1-> ¬19<k-> ¬k<=6->p k 2)
 (h8: ∀k:Int,¬1<=k->(k==5)=false->(k==6)=false-> ¬7<=k->k<1->p k (-1))
 (h9: ∀k:Int,1<=k-> ¬k<=4->(k==5)=false->(k==6)=false->7<=k-> ¬k<=19-> ¬k<1->19<k->p k (-1)) (k:Int):p k (zad k):=by
 have ne: ∀a b:Int,a≠b->(a==b)=false:=fun a b h=>by simpa using h
 by_cases a:1<=k
 ·by_cases b:k<=4
  ·rw[show zad k=0 by unfold zad;rw[if_pos ⟨a,b⟩]];exact h1 k a b (by omega) (by omega) (by omega)
  ·by_cases c:k=5
   ·subst c;exact h5
   ·by_cases d:k=6
    ·subst d;exact h6
    ·by_cases e:k<=19
     ·rw[show zad k=2 by unfold zad;rw[if_neg (by omega),if_neg (by omega),if_pos (by omega)]];exact h7 k a b (ne _ _ c) (ne _ _ d) (by omega) e (by omega) (by omega) (by omega)
     ·rw[show zad k= -1 by unfold zad;rw[if_neg (by omega),if_neg (by omega),if_neg (by omega)]];exact h9 k a b (ne _ _ c) (ne _ _ d) (by omega) e (by omega) (by omega)
 ·rw[show zad k= -1 by unfold zad;rw[if_neg (by omega),if_neg (by omega),if_neg (by omega)]];exact h8 k a (ne _ _ (by omega)) (ne _ _ (by omega)) (by omega) (by omega)
theorem zcu (env:Env) (k:Int):Con prog env 265 [I k] (I (zad k)):=by
 refine zeO (p:=fun k r=>Con prog env 265 [I k] (I r)) ?_ ?_ ?_ ?_ ?_ ?_ k
 ·intro k a1 a2 a3 a4 a5;refine qf func265 call265 ntmps265 results265 ?_;have F:=ai5 a1 a2 a3 a4 a5;repeat refine st ?_
  exact aR
 ·refine qf func265 call265 ntmps265 results265 ?_;repeat refine st0 ?_
  exact aR0
 ·refine qf func265 call265 ntmps265 results265 ?_;repeat refine st0 ?_
  exact aR0
 ·intro k a1 a2 a3 a4 a5 a6 a7 a8 a9;refine qf func265 call265 ntmps265 results265 ?_;have F:=ai9 a1 a2 a3 a4 a5 a6 a7 a8 a9;repeat refine st ?_
  exact aR
 ·intro k a1 a2 a3 a4 a5;refine qf func265 call265 ntmps265 results265 ?_;have F:=ai5 a1 a2 a3 a4 a5;repeat refine st ?_
  exact aR
 ·intro k a1 a2 a3 a4 a5 a6 a7 a8;refine qf func265 call265 ntmps265 results265 ?_;have F:=ai8 a1 a2 a3 a4 a5 a6 a7 a8;repeat refine st ?_
  exact aR
theorem zct (env:Env) (k:Int):Con prog env 237 [I k] (I (zad k)):=by
 refine zeO (p:=fun k r=>Con prog env 237 [I k] (I r)) ?_ ?_ ?_ ?_ ?_ ?_ k
 ·intro k a1 a2 a3 a4 a5;refine qf func237 call237 ntmps237 results237 ?_;have F:=ai5 a1 a2 a3 a4 a5;repeat refine st ?_
  exact aR
 ·refine qf func237 call237 ntmps237 results237 ?_;repeat refine st0 ?_
  exact aR0
 ·refine qf func237 call237 ntmps237 results237 ?_;repeat refine st0 ?_
  exact aR0
 ·intro k a1 a2 a3 a4 a5 a6 a7 a8 a9;refine qf func237 call237 ntmps237 results237 ?_;have F:=ai9 a1 a2 a3 a4 a5 a6 a7 a8 a9;repeat refine st ?_
  exact aR
 ·intro k a1 a2 a3 a4 a5;refine qf func237 call237 ntmps237 results237 ?_;have F:=ai5 a1 a2 a3 a4 a5;repeat refine st ?_
  exact aR
 ·intro k a1 a2 a3 a4 a5 a6 a7 a8;refine qf func237 call237 ntmps237 results237 ?_;have F:=ai8 a1 a2 a3 a4 a5 a6 a7 a8;repeat refine st ?_
  exact aR
theorem ziC {p:OpD->Bool->Prop} (vs ss:Int)
 (h1: ∀n:Int,p ⟨1,n⟩ (decide (0<=n)&&decide (n<=2147483647))) (h2: ∀n:Int,p ⟨2,n⟩ (decide (0<=n)&&decide (n<vs))) (h4: ∀n:Int,p ⟨4,n⟩ (decide (0<=n)&&decide (n<ss)))
 (h: ∀k n:Int,(k==1)=false->(k==2)=false->(k==4)=false->p ⟨k,n⟩ (decide (n=0))) (o:OpD):p o (numB o vs ss):=by
 have ne: ∀a b:Int,a≠b->(a==b)=false:=fun a b h=>by simpa using h
 obtain⟨k,n⟩:=o;unfold numB;simp only[Bool.decide_and];by_cases a:k=1
 ·subst a;simpa using h1 n
 by_cases b:k=2
 ·subst b;simpa using h2 n
 by_cases c:k=4
 ·subst c;simpa using h4 n
 rw[if_neg a,if_neg b,if_neg c];exact h k n (ne _ _ a) (ne _ _ b) (ne _ _ c)
theorem zdD (env:Env) (o:OpD) (vs ss:Int):Con prog env 266 [.agg (opAV o),I vs,I ss] (B (numB o vs ss)):=by
 refine ziC (p:=fun o r=>Con prog env 266 [.agg (opAV o),I vs,I ss] (B r)) vs ss (fun n=> ?_) (fun n=> ?_) (fun n=> ?_) (fun k n a1 a2 a3=> ?_) o
 ·refine qf func266 call266 ntmps266 results266 ?_;by_cases h1:0<=n<;>by_cases h2:n<=2147483647<;>
  ·have h3:(n<2147483648)=(n<=2147483647):=by rw[eq_iff_iff];omega
   have F:=ai4 opAV.eq_1 h1 h2 h3;repeat refine st ?_
   exact aR
 ·refine qf func266 call266 ntmps266 results266 ?_;by_cases h1:0<=n<;>by_cases h2:n<vs<;>
  ·have F:=ai3 opAV.eq_1 h1 h2;repeat refine st ?_
   exact aR
 ·refine qf func266 call266 ntmps266 results266 ?_;by_cases h1:0<=n<;>by_cases h2:n<ss<;>
  ·have F:=ai3 opAV.eq_1 h1 h2;repeat refine st ?_
   exact aR
 ·refine qf func266 call266 ntmps266 results266 ?_;by_cases h1:0<=n<;>by_cases h2:n<1<;>
  ·have h3:(n=0)=(0<=n/\n<1):=by rw[eq_iff_iff];omega
   have F:=ai7 opAV.eq_1 h1 h2 h3 a1 a2 a3;repeat refine st ?_
   exact aR
theorem zdA (env:Env) (o:OpD) (vs ss:Int):Con prog env 238 [.agg (opAV o),I vs,I ss] (B (numB o vs ss)):=by
 refine ziC (p:=fun o r=>Con prog env 238 [.agg (opAV o),I vs,I ss] (B r)) vs ss (fun n=> ?_) (fun n=> ?_) (fun n=> ?_) (fun k n a1 a2 a3=> ?_) o
 ·refine qf func238 call238 ntmps238 results238 ?_;by_cases h1:0<=n<;>by_cases h2:n<=2147483647<;>
  ·have F:=ai3 opAV.eq_1 h1 h2;repeat refine st ?_
   exact aR
 ·refine qf func238 call238 ntmps238 results238 ?_;by_cases h1:0<=n<;>by_cases h2:n<vs<;>
  ·have F:=ai3 opAV.eq_1 h1 h2;repeat refine st ?_
   exact aR
 ·refine qf func238 call238 ntmps238 results238 ?_;by_cases h1:0<=n<;>by_cases h2:n<ss<;>
  ·have F:=ai3 opAV.eq_1 h1 h2;repeat refine st ?_
   exact aR
 ·refine qf func238 call238 ntmps238 results238 ?_;have h3:decide (n=0)=(n==0):=by rw[Bool.eq_iff_iff];simp
  rw[h3];have F:=ai4 opAV.eq_1 a1 a2 a3;repeat refine st ?_
  exact aR
/-! States' kinds -/
theorem zeb (env:Env) (s:StD):Con prog env 176 [.agg (stAV s)] (B (zaq s)):=by
 unfold zaq;refine qf func176 call176 ntmps176 results176 ?_;cases h1:(s.kind==4)<;>cases h2:(s.kind==5)<;>
 ·have F:=ai3 stAV.eq_1 h1 h2;repeat refine st ?_
  exact aR
theorem zby (env:Env) (s:StD):Con prog env 93 [.agg (stAV s)] (B (zaq s)):=by
 unfold zaq;refine qf func93 call93 ntmps93 results93 ?_;cases h1:(s.kind==4)<;>cases h2:(s.kind==5)<;>
 ·have F:=ai3 stAV.eq_1 h1 h2;repeat refine st ?_
  exact aR
theorem zdE (env:Env) (s:StD):Con prog env 174 [.agg (stAV s)] (B (zcW s)):=by
 unfold zcW;refine qf func174 call174 ntmps174 results174 ?_;cases h1:(s.kind==1)<;>cases h2:(s.kind==2)<;>
 ·have F:=ai3 stAV.eq_1 h1 h2;repeat refine st ?_
  exact aR
theorem zdB (env:Env) (s:StD):Con prog env 114 [.agg (stAV s)] (B (zcW s)):=by
 unfold zcW;refine qf func114 call114 ntmps114 results114 ?_;cases h1:(s.kind==1)<;>cases h2:(s.kind==2)<;>
 ·have F:=ai3 stAV.eq_1 h1 h2;repeat refine st ?_
  exact aR
end
section
theorem take_same {α:Type} {a b:List α} {i:Nat} {x y:α} (h:a.take i=b.take i) (hx:a[i]? =some x) (hy:b[i]? =some y) (e:x=y):a.take (i+1)=b.take (i+1):=by
 obtain⟨h1,h2⟩:=List.getElem?_eq_some_iff.1 hx;obtain⟨h3,h4⟩:=List.getElem?_eq_some_iff.1 hy;rw[List.take_succ_eq_append_getElem h1,List.take_succ_eq_append_getElem h3,h,h2,h4,e]
theorem zku {α:Type} [DecidableEq α] {a b:List α} {i:Nat} {x y:α} (hx:a[i]? =some x) (hy:b[i]? =some y) (e:x≠y):(a==b)=false:=by
 rw[beq_eq_false_iff_ne];intro h;rw[h,hy]at hx;exact e (Option.some.inj hx).symm
theorem znN {α:Type} [DecidableEq α] {a b:List α} {i:Nat} (h:a.take i=b.take i) (ha:a.length<=i) (hb:b.length<=i):(a==b)=true:=by
 rw[List.take_of_length_le ha,List.take_of_length_le hb]at h;simpa using h
theorem zak {α:Type} {l:List α} {i:Nat} (h:i<l.length): ∃x,l[i]? =some x/\x∈l:=⟨l[i],List.getElem?_eq_getElem h,List.getElem_mem h⟩
end

end Go.Proofs.YtbpmkofnfgdegaaGreatDoor