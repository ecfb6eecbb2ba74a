/- Lists that are the same: plain. No program is named here. -/
import Derived.Test.YtbpmkofnfgdegaaGreatDoorM5
import Derived.Test.YtbpmkofnfgdegaaGreatDoorM4
import Derived.Test.YtbpmkofnfgdegaaGreatDoorProg
import Derived.Test.YtbpmkofnfgdegaaGreatDoorM1
set_option maxRecDepth 100000
set_option maxHeartbeats 1000000
set_option linter.unusedSimpArgs false
namespace Go.Proofs.YtbpmkofnfgdegaaGreatDoor
open Go.Proofs.Tryz
section
open Go.RowKit
attribute [local go_sem_proc ↓] reduceIte
attribute [local go_sem_proc] reduceCtorEq Nat.reduceBEq Nat.reduceAdd Nat.reduceSub Nat.reduceEqDiff Nat.reduceLT Nat.reduceLeDiff Nat.reduceMul Int.reduceToNat Int.reduceBEq Int.reduceBNe Int.reduceEq Int.reduceLT Int.reduceLE
attribute [local go_sem] zp1 zj5 zmp zgH zmf ze2 zhp ze3 List.isEmpty_cons Array.isEmpty_iff zhz zj0 zfp zgG zeF zcT zbY zj1 zdC zeH zcs zdP zl0 zbz mfind zdN Rd.map AV.bare AV.bare.bareL AV.ofVal zaz zcN zdq zdV zdf Takes zcK zdc zpY zj2 zpX zms zsq zmq zeG zp0 zmk zmr zpW zhB zmn zpZ zml zfr zmo zfq zmm zhA zsp zj3 zsn zso zp2 zp3 zsi zsk zpD zsj zpA zpB zpC zoU zlG zlw zkO zpd unRd zlf exRd val zdu zb9 seen AV.plain AV.soft adopt fzArgs Rd.run AV.asCells zfg runL Comes' Rd.row Rd.bind Out.app apps Eff.app St.renew St.setRow St.show St.put St.init upd zgI zj7 zrD eqFs zbG zj6 zef znG zct zcu zgL zgK bound zgJ zc6 zdQ zj4 zcq zfo zdz zb6 fz zbp zb7 shows zbb splice wrs wes Value.oneCell' List.getD_cons_zero List.getD_cons_succ List.getD_nil List.length_cons List.length_nil List.map_cons List.map_nil List.nil_append List.cons_append List.all_cons List.all_nil List.getElem?_cons_zero List.getElem?_cons_succ List.set_cons_zero List.set_cons_succ List.take_succ_cons List.take_zero List.drop_succ_cons List.drop_zero List.take_nil List.drop_nil List.replicate_succ List.replicate_zero Bool.and_true Bool.true_and Bool.and_self and_self true_and and_true Nat.zero_add Nat.add_zero Option.some.injEq Nat.zero_lt_succ Bool.not_true Bool.not_false ne_eq not_true_eq_false not_false_eq_true Option.map_some Option.map_none List.toList_toArray head zgw zaA List.length_map Int.toNat_natCast Int.natCast_nonneg List.getElem?_map decide_true decide_false Bool.false_eq_true if_true if_false Bool.or_self Bool.or_true Bool.true_or Bool.false_or Bool.or_false Bool.and_false Bool.false_and List.flatten_cons List.flatten_nil List.append_nil nat0 or_self or_false false_or or_true true_or and_false false_and List.length_append List.isEmpty_nil bne_self_eq_false beq_self_eq_true zaf zsf bytesOf_map wants Int.cast_ofNat_Int gt_iff_lt ge_iff_le
attribute [local go_sem <-] List.map_drop List.map_take
/-! Weaker values -/
theorem Str.iface {t:TypeId} {c' c:AV} (h:Str c' c):Str (.iface t c') (.iface t c):=fun S w v hv=>by
 cases hv with
 | iface _ v _ hv=>exact .iface t v c (h S w v hv)
theorem Str.ref1 {cs' cs:List AV} {off:Nat} (h:Strs cs' cs):Str (.ref cs.length [cs'] 0 off) (.ref cs.length [cs] 0 off):=fun S w v hv=>by
 cases hv with
 | ref sz es i off b o u hz hc hr=>
   have at': ∀(i j:Nat) (c:AV),cellAt [cs] i j=some c-> ∃c',cellAt [cs'] i j=some c'/\Str c' c:=fun i j c hcc=>by
    cases i with
    | zero=>
      have hj:cs[j]? =some c:=hcc;have hlt:j<cs'.length:=by rw [h.1]; exact(List.getElem?_eq_some_iff.1 hj).1
      exact⟨cs'[j],List.getElem?_eq_getElem hlt,h.2 j _ c (List.getElem?_eq_getElem hlt) hj⟩
    | succ i=>simp [cellAt] at hcc
   refine .ref _ [cs] 0 off b o u (fun i e he=>by
    cases i with
    | zero=>simp at he; rw [<-he]
    | succ i=>simp at he) (fun i j c hcc=> ?_) fun i j c hcc=> ?_
   ·obtain⟨c',h1,_⟩:=at' i j c hcc;exact hc i j c' h1
   ·obtain⟨c',h1,h2⟩:=at' i j c hcc;exact h2 S w _ (hr i j c' h1)
abbrev sentV (a:Addr):AV:= .lit (.iface 309 (.pointer (some a)))
abbrev errV (p:Int) (e:AV):AV:= .iface 138 (.ref 3 [[.any,I p,e]] 0 0)
abbrev nilE:AV:= .lit .nilIface
theorem zrE (s p:AV) (q:Int) (hp:p=I q) (e:AV):RStr (.iface 138 (.ref 3 [[s,p,e]] 0 0)) (errV q e):=by
 subst hp;exact .of (.iface (.ref1 (cs:=[.any,I q,e]) (.cons (.any _) (.refl _)))) (fun _ _ _ h=>by cases h) (fun _ _ _ h=>by cases h)
def zoB (ad:Nat->Addr) (g:Nat):Option AV:=
 if g=1 then some (sentV (ad 1)) else
 if g=2 then some (sentV (ad 2)) else
 if g=3 then some (sentV (ad 3)) else
 if g=4 then some (sentV (ad 4)) else
 if g=5 then some (sentV (ad 5)) else
 if g=6 then some (sentV (ad 6)) else
 if g=0 then some (sentV (ad 7)) else
 if g=7 then some (sentV (ad 8)) else
 if g=8 then some (sentV (ad 9)) else none
structure More where
 inv:World->Prop
 up: ∀w w',inv w->Below w.heap.size w w'->inv w'
def zaP (ad:Nat->Addr) (mo:More):Env:=⟨zoB ad,fun w=>Sents w ad/\mo.inv w,fun w w' h hb=>⟨h.1.below hb,mo.up w w' h.2 hb⟩⟩
theorem zp4 {ad:Nat->Addr} {mo:More} {w:World} (h:Sents w ad) (hm:mo.inv w):EnvOk (zaP ad mo) (fun b _=>b<w.heap.size) w:=by
 refine⟨⟨h,hm⟩,fun b o hb=>hb,fun g c hg=> ?_⟩;have one: ∀ {g:Nat} {a:Addr},Sent w g a-> ∃u,w.cell? ⟨g,0,none⟩=some u/\u.oneCell'=true/\g<w.heap.size/\RV (fun b _=>b<w.heap.size) w u (sentV a):=fun hs=>⟨_,hs.1,rfl,zqj hs.1, .lit _⟩;have hg:zoB ad g=some c:=hg;unfold zoB at hg;split at hg
 ·rename_i e; subst e; cases hg; exact one h.s1
 split at hg
 ·rename_i e; subst e; cases hg; exact one h.s2
 split at hg
 ·rename_i e; subst e; cases hg; exact one h.s3
 split at hg
 ·rename_i e; subst e; cases hg; exact one h.s4
 split at hg
 ·rename_i e; subst e; cases hg; exact one h.s5
 split at hg
 ·rename_i e; subst e; cases hg; exact one h.s6
 split at hg
 ·rename_i e; subst e; cases hg; exact one h.s7
 split at hg
 ·rename_i e; subst e; cases hg; exact one h.s8
 split at hg
 ·rename_i e; subst e; cases hg; exact one h.s9
 cases hg
section
variable {ad:Nat->Addr} {mo:More} {f:Nat->AV}
end
theorem zgx {env:Env} {g:Nat} {c:AV} (h:env g=some c) (f:Nat->AV):gt env f (.global g)= .ref 1 [[c]] 0 0:=by simp only [gt,h]
theorem zbD (env:Env) (s:List UInt8) (a:Addr):Con prog env 57 [Sg s,sentV a] (errV (-1) (sentV a)):=by
 refine zeJ func57 rfl call57 (by rw [ntmps57]; simp) ?_;rw [ntmps57,results57];repeat (first | refine oO rfl (by simp only [go_sem]; exact⟨rfl,rfl⟩) ?_ | refine gR ?_ | refine gO ?_ | refine oZ (zls ?_) | refine oZ ?_ | refine oS ?_ | refine gT ?_ | refine gD mixed ?_ | refine oB ?_ | refine oK ?_ | (refine oX ?_; simp only [zcK,zdc, ↓reduceIte,Nat.reduceEqDiff,reduceCtorEq]))
 (refine zak ?_; refine⟨_,(by show (zaz _ _ _).run _=some _; simp only [go_sem]; rfl), ?_⟩)
 exact zrE _ _ _ rfl _
/-! fault.Code -/
theorem zqf {P:Program} {env:Env} {f:FuncId} {cs:List AV} {u:Value} (henter: ∀(args:Array Value) (w:World),(callFunc f args).run P w= .ok (.enter f args) w)
 (h: ∀(w:World) (S:Nat->Nat->Prop) (vs:List Value),EnvOk env S w->vs.length=cs.length->(∀(i:Nat) (v:Value) (c:AV),vs[i]? =some v->cs[i]? =some c->RV S w v c)->Calls P f vs.toArray w fun e w'=>e= .returned u/\Below w.heap.size w w'):Con P env f cs (.lit u):=by
 refine⟨henter,fun w S vs hE hl hv=>(h w S vs hE hl hv).mono ?_⟩;rintro e w' ⟨rfl,hb⟩;exact⟨u,rfl,hb,S,fun _ _ h=>h,fun _ _ h=> .inl h,fun b o hb'=>Nat.lt_of_lt_of_le (hE.low b o hb') hb.size, .lit _⟩
theorem zm1 {w:World} {ad:Nat->Addr} (h:Sents w ad) (k:Nat) (hk:1<=k/\k<=9):Lies w (ad k):=by
 obtain rfl | rfl | rfl | rfl | rfl | rfl | rfl | rfl | rfl:k=1\/k=2\/k=3\/k=4\/k=5\/k=6\/k=7\/k=8\/k=9:=by omega
 ·exact h.s1.2
 ·exact h.s2.2
 ·exact h.s3.2
 ·exact h.s4.2
 ·exact h.s5.2
 ·exact h.s6.2
 ·exact h.s7.2
 ·exact h.s8.2
 ·exact h.s9.2
end
section
open Go.RowKit
attribute [go_sem_proc ↓] reduceIte
attribute [go_sem_proc] reduceCtorEq Nat.reduceBEq Nat.reduceAdd Nat.reduceSub Nat.reduceEqDiff Nat.reduceLT Nat.reduceLeDiff Nat.reduceMul Int.reduceToNat Int.reduceBEq Int.reduceBNe Int.reduceEq Int.reduceLT Int.reduceLE
attribute [go_sem] zp1 zj5 zmp zgH zmf ze2 zhp ze3 List.isEmpty_cons Array.isEmpty_iff zhz zj0 zfp zgG zeF zcT zbY zj1 zdC zeH zcs zdP zl0 zbz mfind zdN Rd.map AV.bare AV.bare.bareL AV.ofVal zaz zcN zdq zdV zdf Takes zcK zdc zpY zj2 zpX zms zsq zmq zeG zp0 zmk zmr zpW zhB zmn zpZ zml zfr zmo zfq zmm zhA zsp zj3 zsn zso zp2 zp3 zsi zsk zpD zsj zpA zpB zpC zoU zlG zlw zkO zpd unRd zlf exRd val zdu zb9 seen AV.plain AV.soft adopt fzArgs Rd.run AV.asCells zfg runL Comes' Rd.row Rd.bind Out.app apps Eff.app St.renew St.setRow St.show St.put St.init upd zgI zj7 zrD eqFs zbG zj6 zef znG zct zcu zgL zgK bound zgJ zc6 zdQ zj4 zcq zfo zdz zb6 fz zbp zb7 shows zbb splice wrs wes Value.oneCell' List.getD_cons_zero List.getD_cons_succ List.getD_nil List.length_cons List.length_nil List.map_cons List.map_nil List.nil_append List.cons_append List.all_cons List.all_nil List.getElem?_cons_zero List.getElem?_cons_succ List.set_cons_zero List.set_cons_succ List.take_succ_cons List.take_zero List.drop_succ_cons List.drop_zero List.take_nil List.drop_nil List.replicate_succ List.replicate_zero Bool.and_true Bool.true_and Bool.and_self and_self true_and and_true Nat.zero_add Nat.add_zero Option.some.injEq Nat.zero_lt_succ Bool.not_true Bool.not_false ne_eq not_true_eq_false not_false_eq_true Option.map_some Option.map_none List.toList_toArray head zgw zaA List.length_map Int.toNat_natCast Int.natCast_nonneg List.getElem?_map decide_true decide_false Bool.false_eq_true if_true if_false Bool.or_self Bool.or_true Bool.true_or Bool.false_or Bool.or_false Bool.and_false Bool.false_and List.flatten_cons List.flatten_nil List.append_nil nat0 or_self or_false false_or or_true true_or and_false false_and List.length_append List.isEmpty_nil bne_self_eq_false beq_self_eq_true zaf zsf bytesOf_map wants Int.cast_ofNat_Int gt_iff_lt ge_iff_le
attribute [go_sem <-] List.map_drop List.map_take
end
section
open Go.RowKit
theorem bneA:(∀a b:Int,(a != b)= !(a==b))/\(∀a b:Nat,(a != b)= !(a==b))/\(∀a b:List UInt8,(a != b)= !(a==b))/\(∀a b:Bool,(a != b)= !(a==b)):=⟨fun _ _=>rfl,fun _ _=>rfl,fun _ _=>rfl,fun _ _=>rfl⟩
theorem st0 {p q:Prop} (k:q) (h:q->p:=by
 intro k;first
 | refine oO rfl (by simp only [go_sem]; exact⟨rfl,rfl⟩) ?_
 | refine gR ?_
 | refine gO ?_
 | refine oZ (zls ?_)
 | refine oZ ?_
 | refine oS ?_
 | refine gT ?_
 | refine gD mixed ?_
 | refine oB ?_
 | refine oK ?_
 |(refine oX ?_; simp only [zcK,zdc, ↓reduceIte,Nat.reduceEqDiff,reduceCtorEq])
 | refine oY (by simp only [go_sem]; exact iR) ?_
 | refine oN (by simp only [go_sem]; exact iR) ?_
 exact k):p:=h k
theorem st {p q:Prop} (k:q) (h:q->p:=by
 intro k;first
 | refine oO rfl (by simp only [go_sem,F]; exact⟨rfl,rfl⟩) ?_
 | refine gR ?_
 | refine gO ?_
 | refine oZ (zls ?_)
 | refine oZ ?_
 | refine oS ?_
 | refine gT ?_
 | refine gD mixed ?_
 | refine oB ?_
 | refine oK ?_
 |(refine oX ?_; simp only [zcK,zdc, ↓reduceIte,Nat.reduceEqDiff,reduceCtorEq])
 | refine oY (by simp only [go_sem,F]; exact iR) ?_
 | refine oN (by simp only [go_sem,F]; exact iR) ?_
 exact k):p:=h k
theorem sg0 {p q:Prop} (k:q) (h:q->p:=by
 intro k;first
 | refine oO rfl (by simp only [go_sem]; exact⟨rfl,rfl⟩) ?_
 | refine gR ?_
 | refine gO ?_
 | refine oZ (zls ?_)
 | refine oZ ?_
 | refine oS ?_
 | refine gT ?_
 | refine gD mixed ?_
 | refine oB ?_
 | refine oK ?_
 |(refine oX ?_; simp only [zcK,zdc, ↓reduceIte,Nat.reduceEqDiff,reduceCtorEq])
 exact k):p:=h k
theorem sg {p q:Prop} (k:q) (h:q->p:=by
 intro k;first
 | refine oO rfl (by simp only [go_sem,F]; exact⟨rfl,rfl⟩) ?_
 | refine gR ?_
 | refine gO ?_
 | refine oZ (zls ?_)
 | refine oZ ?_
 | refine oS ?_
 | refine gT ?_
 | refine gD mixed ?_
 | refine oB ?_
 | refine oK ?_
 |(refine oX ?_; simp only [zcK,zdc, ↓reduceIte,Nat.reduceEqDiff,reduceCtorEq])
 exact k):p:=h k
section
variable {P:Program} {env:Env} {nt:Nat} {Q:Exit->St->Prop} {s:St}
theorem cC0 {o:Oper} {f:FuncId} {args:List AV} {rest:List Stp} {s1:St} {ft:Foot} {cs:List AV} {res:AV} {K:St->List Foot->Prop} (hcon:Con P env f cs res) (k:aops P env rest s1 fun s2 fts=>K s2 (ft::fts)) (hc:zaQ env s.f o=some (f,args):=by exact rfl)
 (ha:Takes (fzArgs args) s cs:=by simp only [go_sem]; exact iR) (h:Comes' (runL (zb9 false o.dst args res) s [] []) s o.dst s1 ft:=by simp only [go_sem]; exact⟨rfl,rfl⟩):aops P env (⟨o, .always⟩::rest) s K:=oC hc hcon ha h k
theorem cC {o:Oper} {f:FuncId} {args:List AV} {rest:List Stp} {s1:St} {ft:Foot} {cs:List AV} {res:AV} {K:St->List Foot->Prop} (hcon:Con P env f cs res) (k:aops P env rest s1 fun s2 fts=>K s2 (ft::fts)) (hc:zaQ env s.f o=some (f,args):=by exact rfl)
 (ha:Takes (fzArgs args) s cs:=by simp only [go_sem,F]; exact iR) (h:Comes' (runL (zb9 false o.dst args res) s [] []) s o.dst s1 ft:=by simp only [go_sem,F]; exact⟨rfl,rfl⟩):aops P env (⟨o, .always⟩::rest) s K:=oC hc hcon ha h k
theorem lL {o:Oper} {f:FuncId} {args:List AV} {rest:List Stp} {s1:St} {ft:Foot} {cs:List AV} {res:AV} {K:St->List Foot->Prop} (hcon:ConF P env f cs res) (k:aops P env rest s1 fun s2 fts=>K s2 (ft::fts)) (hc:zaQ env s.f o=some (f,args):=by exact rfl)
 (ha:Takes (fzArgs args) s cs:=by simp only [go_sem,F]; exact iR) (h:Comes' (runL (zb9 true o.dst args res) s [] []) s o.dst s1 ft:=by simp only [go_sem,F]; exact⟨rfl,rfl⟩):aops P env (⟨o, .always⟩::rest) s K:=oL hc hcon ha h k
theorem aR0 (h:Q .ret s:=by show (zaz _ _ _).run _=some _; simp only [go_sem]):awp P env nt .ret Q s:=zak h
theorem aR (h:Q .ret s:=by show (zaz _ _ _).run _=some _; simp only [go_sem,F]):awp P env nt .ret Q s:=zak h
theorem qf {f:FuncId} {fn:Func} {c:Code} {n:Nat} {rs:Array ResultVar} {cs:List AV} {res:AV} (hf:P.funcs[f]? =some fn) (hc: ∀(args:Array Value) (w:World),(callFunc f args).run P w= .ok (.enter f args) w) (hn:fn.ntmps=n) (hr:fn.results=rs) (h:awp P env n c (retA P rs.toList res) (St.init cs)) (hb:fn.body=some c:=by exact rfl) (hl:cs.length<=n:=by simp):Con P env f cs res:=zc7 hf hb hc (by rw [hn]; exact hl) (by rw [hn,hr]; exact h)
theorem qw {f:FuncId} {fn:Func} {c:Code} {n:Nat} {rs:Array ResultVar} {cs:List AV} {res:AV} (hf:P.funcs[f]? =some fn) (hc: ∀(args:Array Value) (w:World),(callFunc f args).run P w= .ok (.enter f args) w) (hn:fn.ntmps=n) (hr:fn.results=rs) (h:awp P env n c (retW P rs.toList res) (St.init cs)) (hb:fn.body=some c:=by exact rfl) (hl:cs.length<=n:=by simp):Con P env f cs res:=zeJ hf hb hc (by rw [hn]; exact hl) (by rw [hn,hr]; exact h)
theorem qe0 {p:Prop} (h:p:=by simp only [go_sem]):p:=h
theorem qe {p:Prop} (h:p:=by simp only [go_sem,F]):p:=h
end
end
section
open Go.RowKit
def zbr (c:Int):Bool:=decide (c=95\/(97<=c/\c<=122)\/(65<=c/\c<=90))
def zfs (c:Int):Bool:=decide (48<=c/\c<=57)
def zbj (c:Int):Bool:=zbr c||zfs c||decide (c=46)
theorem zeW (c:Int) (w:World):Calls prog 205 #[.int .u8 c] w fun e w'=>e= .returned (.bool (zbr c))/\w=w':=by
 by_cases h1:c=95
 ·subst h1
  go_enter func205,ntmps205
  go_wp2
  go_ret
  exact⟨rfl,rfl⟩
 have e1:(c==95)=false:=by simp [h1]
 by_cases h2:97<=c<;>by_cases h3:c<=122<;>by_cases h4:65<=c<;>by_cases h5:c<=90
 all_goals first
  |(exfalso; omega)
  |(go_enter func205,ntmps205
    go_wp2
    go_ret
    exact⟨by simp [zbr]; omega,rfl⟩)
theorem zqc (c:Int) (w:World):Calls prog 251 #[.int .u8 c] w fun e w'=>e= .returned (.bool (zfs c))/\w=w':=by
 by_cases h2:48<=c
 all_goals
  go_enter func251,ntmps251
  go_wp2
  go_ret
  exact⟨by simp [zfs]; try omega,rfl⟩
theorem zjA (c:Int) (w:World):Calls prog 207 #[.int .u8 c] w fun e w'=>e= .returned (.bool (zbj c))/\w=w':=by
 by_cases h1:zbr c<;>by_cases h2:zfs c
 all_goals
  go_enter func207,ntmps207
  go_wp2_with (first
   |(go_at_call 205; refine(zeW _ _).mono ?_; rintro e w' ⟨rfl,rfl⟩)
   |(go_at_call 251; refine(zqc _ _).mono ?_; rintro e w' ⟨rfl,rfl⟩))
  go_ret
  exact⟨by simp [zbj,h1,h2]<;>rfl,rfl⟩
def innerLen (l:List UInt8):Nat:=(l.takeWhile fun c=>zbj c.toNat).length
theorem zgt (l:List UInt8) (k:Nat) (hk:k<=l.length) (h1: ∀j (h:j<l.length),j<k->zbj l[j].toNat=true) (h2: ∀h:k<l.length,¬zbj l[k].toNat=true):innerLen l=k:=by
 unfold innerLen
 induction l generalizing k with
 | nil=>simp at hk |-; omega
 | cons c l ih=>
   rw [List.takeWhile_cons];cases k with
   | zero=>
     rw [if_neg (show ¬zbj c.toNat=true from h2 (by simp))];rfl
   | succ k=>
     rw [if_pos (show zbj c.toNat=true from h1 0 (by simp) (by omega))];simp only [List.length_cons] at hk |-;rw [ih k (by omega) (fun j h hj=>h1 (j+1) (by simpa using h) (by omega)) (fun h=>h2 (by simpa using h))]
theorem zoE (l:List UInt8) (hl:l.length<=9223372036854775807) (w:World):
 Calls prog 206 #[.string ⟨l.toArray⟩, .int .i64 0, .func (.func 207) #[] #[]] w fun e w'=>e= .returned (.int .i64 (innerLen l))/\w=w':=by
 go_enter func206,ntmps206
 go_wp2_with fail
 go_loop [1] (fun i=> ∃k:Nat,k<=l.length/\i= .int .i64 k/\ ∀j (h:j<l.length),j<k->zbj l[j].toNat=true) (fun i=>l.length-(intOf i).toNat)
 case atStart=>exact⟨0,by omega,rfl,fun j _ h=>by omega⟩
 case round=>
  obtain⟨k,hk,rfl,hall⟩:=hrel;have HA:=Lib.hid hall;try clear hall
  by_cases hlt:k<l.length
  ·by_cases hin:zbj l[k].toNat=true
   ·have hin':zbj (((ByteArray.mk l.toArray)[k]'(by simpa [ByteArray.size] using hlt)).toNat)=true:=hin;have HI:=Lib.hid hin;try clear hin
    go_wp2_with (go_at_call 207; refine(zjA _ _).mono ?_; rintro e w' ⟨rfl,rfl⟩)
    go_round
    case rel=>
     refine⟨k+1,by omega,by go_num,fun j h hj=> ?_⟩;rcases Nat.lt_or_ge j k with h' | h'
     ·exact HA.out j h h'
     ·obtain rfl:j=k:=by omega
      exact HI.out
    case measure=>simp [intOf]; omega
   ·have hin':zbj (((ByteArray.mk l.toArray)[k]'(by simpa [ByteArray.size] using hlt)).toNat)=false:=Bool.eq_false_iff.2 hin;have HI:=Lib.hid hin;try clear hin
    go_wp2_with (go_at_call 207; refine(zjA _ _).mono ?_; rintro e w' ⟨rfl,rfl⟩)
    go_ret
    refine⟨?_,rfl⟩;rw [zgt l k hk HA.out (fun _=>HI.out)];rfl
  ·go_wp2_with fail
   go_ret
   refine⟨?_,rfl⟩;rw [zgt l k hk HA.out (fun h=>absurd h hlt)];rfl
def zax (l:List UInt8):Bool:=decide (l.length<=32)&&(match l with | []=>false | c::_=>zbr c.toNat)&&l.all fun c=>zbj c.toNat
theorem zjB (l:List UInt8):(innerLen l=l.length)↔(l.all fun c=>zbj c.toNat)=true:=by
 unfold innerLen
 induction l with
 | nil=>simp
 | cons c l ih=>
   rw [List.takeWhile_cons];by_cases h:zbj c.toNat=true
   ·rw [if_pos h];simp only [List.length_cons,List.all_cons,h,Bool.true_and];rw [<-ih];omega
   ·rw [if_neg h];simp [h]
theorem zrf (l:List UInt8) (hl:l.length<=9223372036854775807) (w:World):
 Calls prog 169 #[.string ⟨l.toArray⟩] w fun e w'=>e= .returned (.bool (zax l))/\w=w':=by
 cases l with
 | nil=>
   go_enter func169,ntmps169
   go_wp2_with fail
   go_ret
   exact⟨rfl,rfl⟩
 | cons c r=>
   generalize hL:c::r=l at*;have hpos:0<l.length:=by rw [<-hL]; simp
   have h0:l[0]=c:=by subst hL; rfl
   have hne:l.isEmpty=false:=by rw [<-hL]; rfl
   have hN:zax l=(decide (l.length<=32)&&zbr c.toNat&&decide ((innerLen l:Int)=l.length)):=by
    subst hL;simp only [zax]
    congr 1
    rw [Bool.eq_iff_iff, <-zjB];simp only [decide_eq_true_eq];omega
   have HN:=Lib.hid hN;try clear hN hL
   by_cases h32:l.length<=32
   ·by_cases hc:zbr c.toNat=true
    ·have hc':zbr (((ByteArray.mk l.toArray)[0]'(by simpa [ByteArray.size] using hpos)).toNat)=true:=by rw [zse l 0 hpos,h0]; exact hc
     have HC:=Lib.hid hc;try clear hc h0
     go_enter func169,ntmps169
     go_wp2_with (first
      |(go_at_call 205; refine(zeW _ _).mono ?_; rintro e w' ⟨rfl,rfl⟩)
      |(go_at_call 206; refine(zoE l hl _).mono ?_; rintro e w' ⟨rfl,rfl⟩))
     go_ret
     rw [HN.out];refine⟨?_,rfl⟩;simp [h32,HC.out];rfl
    ·have hc':zbr (((ByteArray.mk l.toArray)[0]'(by simpa [ByteArray.size] using hpos)).toNat)=false:=by rw [zse l 0 hpos,h0]; exact Bool.eq_false_iff.2 hc
     have HC:=Lib.hid hc;try clear hc h0
     go_enter func169,ntmps169
     go_wp2_with (go_at_call 205; refine(zeW _ _).mono ?_; rintro e w' ⟨rfl,rfl⟩)
     go_ret
     rw [HN.out];exact⟨by simp [HC.out],rfl⟩
   ·go_enter func169,ntmps169
    go_wp2_with fail
    go_ret
    rw [HN.out];exact⟨by simp [h32]; try omega,rfl⟩
/-! The document's -/
end
section
open Go.RowKit
theorem zbu (env:Env) (c:UInt8):Con prog env 104 [.lit (.int .u8 (c.toNat:Int))] (B (zbr c.toNat)):=by
 refine qf func104 call104 ntmps104 results104 ?_;have hc:=c.toNat_lt;generalize c.toNat=n at*;unfold zbr;by_cases h1:(n:Int)=95
 ·have e:decide ((n:Int)=95\/(97<=(n:Int)/\(n:Int)<=122)\/(65<=(n:Int)/\(n:Int)<=90))=true:=by simp; omega
  rw [e];have h1:((n:Int)==95)=true:=by simp; omega
  have F:=h1;repeat refine sg ?_
  exact aR
 ·have h1':((n:Int)==95)=false:=by simp; omega
  by_cases h2:(97:Int)<=(n:Int)
  ·by_cases h3:(n:Int)<=122
   ·have e:decide ((n:Int)=95\/(97<=(n:Int)/\(n:Int)<=122)\/(65<=(n:Int)/\(n:Int)<=90))=true:=by simp; omega
    rw [e];have F:=ai3 h1' h2 h3;repeat refine sg ?_
    exact aR
   ·have e:decide ((n:Int)=95\/(97<=(n:Int)/\(n:Int)<=122)\/(65<=(n:Int)/\(n:Int)<=90))=false:=by simp; omega
    have h4:(65:Int)<=(n:Int):=by omega
    have h5: ¬(n:Int)<=90:=by omega
    rw [e];have F:=ai5 h1' h2 h3 h4 h5;repeat refine sg ?_
    exact aR
  ·by_cases h4:(65:Int)<=(n:Int)
   ·by_cases h5:(n:Int)<=90
    ·have e:decide ((n:Int)=95\/(97<=(n:Int)/\(n:Int)<=122)\/(65<=(n:Int)/\(n:Int)<=90))=true:=by simp; omega
     rw [e];have F:=ai4 h1' h2 h4 h5;repeat refine sg ?_
     exact aR
    ·have e:decide ((n:Int)=95\/(97<=(n:Int)/\(n:Int)<=122)\/(65<=(n:Int)/\(n:Int)<=90))=false:=by simp; omega
     rw [e];have F:=ai4 h1' h2 h4 h5;repeat refine sg ?_
     exact aR
   ·have e:decide ((n:Int)=95\/(97<=(n:Int)/\(n:Int)<=122)\/(65<=(n:Int)/\(n:Int)<=90))=false:=by simp; omega
    rw [e];have F:=ai3 h1' h2 h4;repeat refine sg ?_
    exact aR
theorem zd1 (env:Env) (c:UInt8):Con prog env 105 [.lit (.int .u8 (c.toNat:Int))] (B (zfs c.toNat)):=by
 refine qf func105 call105 ntmps105 results105 ?_;generalize c.toNat=n at*;unfold zfs;by_cases h2:(48:Int)<=(n:Int)
 ·by_cases h3:(n:Int)<=57
  ·rw [decide_eq_true ⟨h2,h3⟩];have F:=ai h2 h3;repeat refine sg ?_
   exact aR
  ·rw [decide_eq_false (by omega)];have F:=ai h2 h3;repeat refine sg ?_
   exact aR
 ·rw [decide_eq_false (by omega)];have F:=h2;repeat refine sg ?_
  exact aR
theorem ziL {l:List UInt8} {p:UInt8->Bool} {i:Nat} (h:(l.take i).all p=true) (hi:i<l.length) (hp:p l[i]=true):(l.take (i+1)).all p=true:=by
 rw [List.take_succ_eq_append_getElem hi,List.all_append,h];simp [hp]
theorem zt0 {l:List UInt8} {p:UInt8->Bool} {i:Nat} (hi:i<l.length) (hp:p l[i]=false):l.all p=false:=by
 rw [Bool.eq_false_iff];intro h;rw [List.all_eq_true] at h;rw [h _ (List.getElem_mem hi)] at hp;cases hp
theorem zbJ (env:Env) (l:List UInt8):Con prog env 55 [Sg l] (B (zax l)):=by
 refine qf func55 call55 ntmps55 results55 ?_;by_cases h0:l=[]
 ·subst h0;repeat refine sg0 ?_
  refine oY (by simp only [go_sem]; exact iR) ?_;repeat refine sg0 ?_
  (refine zak ?_; show (zaz _ _ _).run _=some _; simp only [go_sem])
  rfl
 obtain⟨c,hc⟩: ∃c,l[0]? =some c:=⟨l[0]'(List.length_pos_iff.2 h0),List.getElem?_eq_getElem _⟩
 have g0:((l.length:Int)==0)=false:=by
  have:=List.length_pos_iff.2 h0;simp; exact h0
 by_cases h1:l.length<=32
 ·have g1: ¬32< (l.length:Int):=by omega
  by_cases h2:zbr c.toNat=true
  ·have hnm:zax l=l.all fun c=>zbj c.toNat:=by
    cases l with
    | nil=>exact(h0 rfl).elim
    | cons d r=>
      simp only [List.getElem?_cons_zero,Option.some.injEq] at hc;subst hc;unfold zax;simp only [h2,decide_eq_true h1,Bool.true_and]
   have F:=ai4 g0 g1 hc h2;repeat refine sg ?_
   refine cC (zbu env c) ?_;repeat refine sg ?_
   refine oN (by simp only [go_sem,F]; exact iR) ?_;repeat refine sg ?_
   refine zab (D:=Nat) (fun i _=>[(0,Sg l),(3,I i)]) (fun _ _=>[]) (fun i _ _=>i<=l.length/\((l.take i).all fun c=>zbj c.toNat)=true) (fun i=>l.length-i) 0 ?_ ?_ ?_ ?_
   ·exact⟨Nat.zero_le _,rfl⟩
   ·exact qe
   ·exact qe
   rintro i vs esc ⟨hi,ha⟩;by_cases hlt:i<l.length
   ·have g2:=nlt hlt;have g3:=zaa hlt (by omega);have g4:l[i]? =some l[i]:=List.getElem?_eq_getElem hlt;have hnxt:=fun hp=>ziL (p:=fun c=>zbj c.toNat) ha hlt hp;have hnot:=fun hp=>zt0 (p:=fun c=>zbj c.toNat) hlt hp;try simp only at hnxt
    try simp only at hnot
    generalize l[i]=x at*;by_cases h5:zbr x.toNat=true
    ·
     have F:=ai4 g2 g3 g4 h5;repeat refine sg ?_
     refine oY (by simp only [go_sem,F]; exact iR) ?_;repeat refine sg ?_
     refine cC (zbu env x) ?_;repeat refine sg ?_
     refine oN (by simp only [go_sem,F]; exact iR) ?_;repeat refine sg ?_
     refine⟨i+1,⟨hlt,hnxt (by simp [zbj,h5])⟩, ?_, ?_, ?_⟩
     ·exact qe
     ·exact qe
     ·omega
    have h5:zbr x.toNat=false:=by simpa using h5
    by_cases h6:zfs x.toNat=true
    ·
     have F:=ai5 g2 g3 g4 h5 h6;repeat refine sg ?_
     refine oY (by simp only [go_sem,F]; exact iR) ?_;repeat refine sg ?_
     refine cC (zbu env x) ?_;repeat refine sg ?_
     refine cC (zd1 env x) ?_;repeat refine sg ?_
     refine oN (by simp only [go_sem,F]; exact iR) ?_;repeat refine sg ?_
     refine⟨i+1,⟨hlt,hnxt (by simp [zbj,h5,h6])⟩, ?_, ?_, ?_⟩
     ·exact qe
     ·exact qe
     ·omega
    have h6:zfs x.toNat=false:=by simpa using h6
    by_cases h7:(x.toNat:Int)=46
    ·have h8:((x.toNat:Int) != 46)=false:=by rw [h7]; rfl
     have F:=ai6 g2 g3 g4 h5 h6 h8;repeat refine sg ?_
     refine oY (by simp only [go_sem,F]; exact iR) ?_;repeat refine sg ?_
     refine cC (zbu env x) ?_;repeat refine sg ?_
     refine cC (zd1 env x) ?_;repeat refine sg ?_
     refine oN (by simp only [go_sem,F]; exact iR) ?_;repeat refine sg ?_
     refine⟨i+1,⟨hlt,hnxt (by simp only [zbj,h5,h6,decide_eq_true h7,Bool.or_true])⟩, ?_, ?_, ?_⟩
     ·exact qe
     ·exact qe
     ·omega
    ·have h8:((x.toNat:Int) != 46)=true:=bne_iff_ne.2 h7;have F:=ai6 g2 g3 g4 h5 h6 h8;repeat refine sg ?_
     refine oY (by simp only [go_sem,F]; exact iR) ?_;repeat refine sg ?_
     refine cC (zbu env x) ?_;repeat refine sg ?_
     refine cC (zd1 env x) ?_;repeat refine sg ?_
     refine oY (by simp only [go_sem,F]; exact iR) ?_;repeat refine sg ?_
     (refine zak ?_; show (zaz _ _ _).run _=some _; simp only [go_sem,F])
     rw [hnm,hnot (by simp only [zbj,h5,h6,decide_eq_false h7,Bool.or_false])]
   ·have g2: ¬(i:Int)< (l.length:Int):=by omega
    have F:=g2;repeat refine sg ?_
    refine oN (by simp only [go_sem,F]; exact iR) ?_;repeat refine sg ?_
    (refine zak ?_; show (zaz _ _ _).run _=some _; simp only [go_sem,F])
    rw [hnm, <-ha,List.take_of_length_le (by omega)]
  ·have h2:zbr c.toNat=false:=by simpa using h2
   have hnm:zax l=false:=by
    cases l with
    | nil=>exact(h0 rfl).elim
    | cons d r=>
      simp only [List.getElem?_cons_zero,Option.some.injEq] at hc;subst hc;unfold zax;simp only [h2,Bool.and_false,Bool.false_and]
   rw [hnm];have F:=ai4 g0 g1 hc h2;repeat refine sg ?_
   refine cC (zbu env c) ?_;repeat refine sg ?_
   refine oY (by simp only [go_sem,F]; exact iR) ?_;repeat refine sg ?_
   exact aR
 ·have g1:32< (l.length:Int):=by omega
  have hnm:zax l=false:=by
   unfold zax;rw [decide_eq_false h1];rfl
  rw [hnm];have F:=ai3 g0 g1 hc;repeat refine sg ?_
  refine oY (by simp only [go_sem,F]; exact iR) ?_;repeat refine sg ?_
  exact aR
end
section
open Go.RowKit
structure OpD where
 kind:Int
 n:Int
 deriving DecidableEq,Inhabited
structure ActD where
 kind:Int
 n:Int
 name:List UInt8
 code:List OpD
 deriving DecidableEq,Inhabited
structure StD where
 name:List UInt8
 kind:Int
 parent:Int
 initial:Int
 inn:List ActD
 out:List ActD
 deriving DecidableEq,Inhabited
structure TrD where
 src:Int
 event:List UInt8
 guard:List OpD
 acts:List ActD
 target:Int
 deriving DecidableEq,Inhabited
structure VarD where
 name:List UInt8
 start:Int
 deriving DecidableEq,Inhabited
structure ChD where
 name:List UInt8
 initial:Int
 vars:List VarD
 states:List StD
 trans:List TrD
 deriving DecidableEq,Inhabited
def opAV (x:OpD):List AV:=[I x.kind,I x.n]
abbrev opsAV (l:List OpD):AV:= .seq 2 (l.map opAV)
def zam (x:ActD):List AV:=[I x.kind,I x.n,Sg x.name,opsAV x.code]
abbrev actsAV (l:List ActD):AV:= .seq 4 (l.map zam)
def stAV (x:StD):List AV:=[Sg x.name,I x.kind,I x.parent,I x.initial,actsAV x.inn,actsAV x.out]
abbrev stsAV (l:List StD):AV:= .seq 6 (l.map stAV)
def trAV (x:TrD):List AV:=[I x.src,Sg x.event,opsAV x.guard,actsAV x.acts,I x.target]
abbrev trsAV (l:List TrD):AV:= .seq 5 (l.map trAV)
def zca (x:VarD):List AV:=[Sg x.name,I x.start]
abbrev varsAV (l:List VarD):AV:= .seq 2 (l.map zca)
def chAV (x:ChD):List AV:=[Sg x.name,I x.initial,varsAV x.vars,stsAV x.states,trsAV x.trans]
/-! Lists that are no longer than memory is. -/
def zjU (_:OpD):Prop:=True
def zdA (x:ActD):Prop:=x.name.length<=maxLen/\(x.code.length<=maxLen/\ ∀y∈x.code,zjU y)
def zjT (x:StD):Prop:=x.name.length<=maxLen/\(x.inn.length<=maxLen/\ ∀y∈x.inn,zdA y)/\(x.out.length<=maxLen/\ ∀y∈x.out,zdA y)
def zjS (x:TrD):Prop:=x.event.length<=maxLen/\(x.guard.length<=maxLen/\ ∀y∈x.guard,zjU y)/\(x.acts.length<=maxLen/\ ∀y∈x.acts,zdA y)
def zgE (x:VarD):Prop:=x.name.length<=maxLen
def zdZ (x:ChD):Prop:=x.name.length<=maxLen/\(x.vars.length<=maxLen/\ ∀y∈x.vars,zgE y)/\(x.states.length<=maxLen/\ ∀y∈x.states,zjT y)/\(x.trans.length<=maxLen/\ ∀y∈x.trans,zjS y)
end
section
open Go.RowKit
/-! Expressions -/
def zac (k:Int):Int:=if 1<=k/\k<=4 then 0 else if k=5\/k=6 then 1 else if 7<=k/\k<=19 then 2 else -1
theorem zdv (k:Int): -1<=zac k/\zac k<=2:=by
 unfold zac;repeat' split
 all_goals omega
def numB (o:OpD) (vs ss:Int):Bool:=if o.kind=1 then decide (0<=o.n/\o.n<=2147483647) else if o.kind=2 then decide (0<=o.n/\o.n<vs) else if o.kind=4 then decide (0<=o.n/\o.n<ss) else decide (o.n=0)
def zbn (vs ss n:Int) (o:OpD):Bool:=decide (0<=zac o.kind)&&decide (zac o.kind<=n)&&numB o vs ss
def hgt (vs ss:Int):List OpD->Int->Option Int
 | [],n=>some n
 | o::l,n=>if zbn vs ss n o then hgt vs ss l (n-zac o.kind+1) else none
def zdU (l:List OpD) (vs ss:Int):Int:=if 32<l.length then 8 else if hgt vs ss l 0=some 1 then 0 else 1
def zaF (l:List OpD) (vs ss:Int):Bool:=zdU l vs ss==0
theorem zir {vs ss:Int} {l:List OpD} {k:Nat} {o:OpD} {n:Int} (h:l[k]? =some o) (hn:hgt vs ss l 0=hgt vs ss (l.drop k) n):(zbn vs ss n o=true->hgt vs ss l 0=hgt vs ss (l.drop (k+1)) (n-zac o.kind+1))/\(zbn vs ss n o=false->hgt vs ss l 0=none):=by
 have hk:k<l.length:=(List.getElem?_eq_some_iff.1 h).1
 have he:l.drop k=o::l.drop (k+1):=by
  rw [List.drop_eq_getElem_cons hk]
  congr 1
  rw [List.getElem?_eq_getElem hk] at h;exact Option.some.inj h
 rw [he] at hn;simp only [hgt] at hn;exact⟨fun e=>by rw [hn,if_pos e],fun e=>by rw [hn,if_neg (by rw [e]; simp)]⟩
theorem zlg {vs ss:Int} {l:List OpD} {k:Nat} {n:Int} (h:l.length<=k) (hn:hgt vs ss l 0=hgt vs ss (l.drop k) n):hgt vs ss l 0=some n:=by
 rw [hn,List.drop_eq_nil_of_le h];rfl
/-! Actions, states -/
def actB (nv ns:Int) (a:ActD):Bool:=
 if a.kind=1 then decide (0<=a.n/\a.n<nv)&&(a.name == [])&&zaF a.code nv ns
 else if a.kind=2\/a.kind=4 then(a.n==0)&&zax a.name&&zaF a.code nv ns
 else if a.kind=3 then(a.n==0)&&(a.name == [])&&zaF a.code nv ns
 else if a.kind=5 then(a.n==0)&&zax a.name&&(a.code == [])
 else false
def zbq (nv ns:Int) (l:List ActD):Bool:=decide (l.length<=32)&&l.all (actB nv ns)
def zco (s:StD):Bool:=(s.kind==1)||(s.kind==2)
def zaI (s:StD):Bool:=(s.kind==4)||(s.kind==5)
def zbN (c:ChD) (i:Int) (real:Bool) (k:Nat):Bool:=match c.states[k]? with
 | some s=>(s.parent==i)&&(!real|| !zaI s)
 | none=>false
def zaY (c:ChD) (i:Int) (real:Bool) (n:Nat):List Nat:=(List.range n).filter (zbN c i real)
def kidsL (c:ChD) (i:Int) (real:Bool):List Nat:=zaY c i real c.states.length
theorem zgr (c:ChD) (i:Int) (real:Bool) (k:Nat):zaY c i real (k+1)=zaY c i real k++if zbN c i real k then [k] else []:=by
 unfold zaY;rw [List.range_succ,List.filter_append]
 congr 1
 simp only [List.filter_cons,List.filter_nil]
theorem za4 (c:ChD) (i:Int) (real:Bool) (k:Nat):(zaY c i real k).length<=k:=by
 have:=List.length_filter_le (zbN c i real) (List.range k);simpa [zaY] using this
theorem zeD {c:ChD} {i:Int} {real:Bool} {k n:Nat} (h:k∈zaY c i real n):k<n/\zbN c i real k=true:=by
 simpa [zaY,List.mem_filter] using h
def zcr (c:ChD) (name:List UInt8):Nat->Int
 | 0=> -1
 | k+1=>if zcr c name k= -1 then(match c.states[k]? with
   | some s=>if s.name=name then(k:Int) else -1
   | none=> -1) else zcr c name k
def zg6 (c:ChD) (name:List UInt8):Int:=zcr c name c.states.length
theorem zll (c:ChD) (name:List UInt8) {k:Nat} (h:zcr c name k≠ -1): ∀n,k<=n->zcr c name n=zcr c name k:=by
 intro n hn
 induction n with
 | zero=>obtain rfl:k=0:=by omega
         rfl
 | succ n ih=>
   by_cases e:k=n+1
   ·rw [e]
   ·have:=ih (by omega);simp only [zcr];rw [this,if_neg h]
theorem zjN (c:ChD) (name:List UInt8) {k:Nat} (hk:k<c.states.length) (hn:zcr c name k= -1) (s:StD) (hs:c.states[k]? =some s) (he:s.name=name):zg6 c name=k:=by
 have h1:zcr c name (k+1)=k:=by
  simp only [zcr,if_pos hn,hs,if_pos he]
 unfold zg6;rw [zll c name (k:=k+1) (by rw [h1]; omega) _ hk,h1]
theorem zgD (c:ChD) (name:List UInt8) {k:Nat} (hn:zcr c name k= -1) (s:StD) (hs:c.states[k]? =some s) (he:s.name≠name):zcr c name (k+1)= -1:=by
 simp only [zcr,if_pos hn,hs,if_neg he]
def zaD (p:Nat->Bool) (n:Nat):Option Nat:=(List.range n).find? fun k=> !p k
theorem zaC {p:Nat->Bool} {n:Nat} (h: ∀j,j<n->p j=true):zaD p n=none:=by
 unfold zaD;rw [List.find?_eq_none];intro x hx;simp [h x (by simpa using hx)]
theorem zbt {p:Nat->Bool} {n k:Nat} (hk:k<n) (h: ∀j,j<k->p j=true) (hb:p k=false):zaD p n=some k:=by
 unfold zaD
 have e:List.range n=List.range k++(k::(List.range (n-k-1)).map (k+1+ ·)):=by
  have:n=k+(n-k):=by omega
  rw [this,List.range_add]
  congr 1
  have e2:k+(n-k)-k-1+1=n-k:=by omega
  have:n-k=(n-k-1)+1:=by omega
  rw [show k+(n-k)-k-1=n-k-1 by omega,this,List.range_succ_eq_map,List.map_cons,List.map_map];simp only [Nat.add_zero,Nat.add_sub_cancel,List.cons.injEq,true_and];apply List.map_congr_left;intro a _;simp only [Function.comp];omega
 rw [e,List.find?_append];have h1:(List.range k).find? (fun k=> !p k)=none:=zaC h;rw [h1];simp [hb]
/-! What is right -/
def at_ (c:ChD) (i:Int):Option StD:=if 0<=i then c.states[i.toNat]? else none
def zaU (c:ChD) (i:Int):Bool:=match at_ c i with
 | some q=>zco q
 | none=>false
def zaH (c:ChD) (i:Nat) (s:StD):Bool:=(s.parent == -1)||(decide (0<=s.parent)&&decide (s.parent<i)&&zaU c s.parent)
def zaO (c:ChD) (s:StD):Bool:=match at_ c s.parent with
 | some q=>q.kind==1
 | none=>false
def inL (l:List Nat) (n:Int):Bool:=l.any fun k=>(k:Int)==n
def zap (c:ChD) (i:Nat) (s:StD):Bool:=
 if s.kind=1 then(if kidsL c i true=[] then s.initial == -1 else inL (kidsL c i true) s.initial)
 else if s.kind=2 then((kidsL c i true).all fun k=>zaU c k)&&decide (0< (kidsL c i true).length)&&(s.initial == -1)
 else if s.kind=3 then(kidsL c i false == [])&&((s.parent == -1)||zaO c s)&&(s.initial == -1)&&(s.out == [])
 else if s.kind=4\/s.kind=5 then(kidsL c i false == [])&&zaO c s&&inL (kidsL c s.parent true) s.initial&&(s.inn == [])&&(s.out == [])
 else false
def zaq (c:ChD) (i:Nat) (s:StD):Bool:=zax s.name&&(zg6 c s.name==(i:Int))&&zaH c i s&&zap c i s&&zbq c.vars.length c.states.length s.inn&&zbq c.vars.length c.states.length s.out
def zfy (c:ChD) (i:Nat):Bool:=match c.states[i]? with
 | some s=>zaq c i s
 | none=>false
def newVar (c:ChD) (name:List UInt8) (i:Nat):Bool:=(c.vars.take i).all fun x=> !(x.name==name)
def varB (c:ChD) (i:Nat) (v:VarD):Bool:=newVar c v.name i&&zax v.name&& !(v.name == [100,97,116,97])&& !(v.name == [105,110])&&decide (-2147483647<=v.start)&&decide (v.start<=2147483647)
def zd0 (c:ChD) (i:Nat):Bool:=match c.vars[i]? with
 | some v=>varB c i v
 | none=>false
def zck (c:ChD) (t:TrD):Bool:=zaU c t.src&&((t.event == [])||zax t.event)&&((t.guard == [])||zaF t.guard c.vars.length c.states.length)&&zbq c.vars.length c.states.length t.acts&&((t.target == -1)||(decide (0<=t.target)&&decide (t.target<c.states.length)))
def ziG (c:ChD) (i:Nat):Bool:=match c.trans[i]? with
 | some t=>zck c t
 | none=>false
def topB (c:ChD):Bool:=match at_ c c.initial with
 | some q=>(q.parent == -1)&&zco q
 | none=>false
def chk (c:ChD):Int×Int:=
 if 32<c.states.length\/64<c.trans.length\/8<c.vars.length then(8, -1)
 else if c.states=[]\/zax c.name=false then(1, -1)
 else match zaD (zd0 c) c.vars.length with
  | some i=>(1,2000+i)
  | none=>match zaD (zfy c) c.states.length with
    | some i=>(1,i)
    | none=>if topB c=false then(1, -1) else match zaD (ziG c) c.trans.length with
      | some i=>(1,1000+i)
      | none=>(0, -1)
end
section
open Go.RowKit
theorem zbK (env:Env) (l:List UInt8) (hl:l.length<=9223372036854775807):Con prog env 169 [Sg l] (B (zax l)):=
 zqf call169 fun w S vs hE hlen hv=>by
  match vs,hlen with
  | [v],_=>
    obtain rfl:=(hv 0 v _ rfl rfl).lit_inv;refine(zrf l hl w).mono ?_;rintro e w' ⟨rfl,rfl⟩;exact⟨rfl,Below.refl _ _⟩
def zaj (n:Int):Bool:=decide (-2147483647<=n)&&decide (n<=2147483647)
theorem zbk (env:Env) (n:Int):Con prog env 69 [I n] (B (zaj n)):=by
 unfold zaj;refine qf func69 call69 ntmps69 results69 ?_;by_cases h1: -2147483647<=n<;>by_cases h2:n<=2147483647<;>
 ·have F:=ai h1 h2;repeat refine st ?_
  exact aR
theorem zbV (env:Env) (n:Int):Con prog env 27 [I n] (B (zaj n)):=by
 unfold zaj;refine qf func27 call27 ntmps27 results27 ?_;by_cases h1: -2147483647<=n<;>by_cases h2:n<=2147483647<;>
 ·have F:=ai h1 h2;repeat refine st ?_
  exact aR
/-! Expressions' kinds -/
theorem zdY {p:Int->Int->Prop} (h1: ∀k:Int,1<=k->k<=4-> ¬k<1-> ¬19<k-> ¬4<k->p k 0) (h5:p 5 1) (h6:p 6 1)
 (h7: ∀k:Int,1<=k-> ¬k<=4->(k==5)=false->(k==6)=false->7<=k->k<=19-> ¬k<1-> ¬19<k-> ¬k<=6->p k 2)
 (h8: ∀k:Int,¬1<=k->(k==5)=false->(k==6)=false-> ¬7<=k->k<1->p k (-1))
 (h9: ∀k:Int,1<=k-> ¬k<=4->(k==5)=false->(k==6)=false->7<=k-> ¬k<=19-> ¬k<1->19<k->p k (-1)) (k:Int):p k (zac k):=by
 have ne: ∀a b:Int,a≠b->(a==b)=false:=fun a b h=>by simpa using h
 by_cases a:1<=k
 ·by_cases b:k<=4
  ·rw [show zac k=0 by unfold zac; rw [if_pos ⟨a,b⟩]];exact h1 k a b (by omega) (by omega) (by omega)
  ·by_cases c:k=5
   ·subst c; exact h5
   ·by_cases d:k=6
    ·subst d; exact h6
    ·by_cases e:k<=19
     ·rw [show zac k=2 by unfold zac; rw [if_neg (by omega),if_neg (by omega),if_pos (by omega)]];exact h7 k a b (ne _ _ c) (ne _ _ d) (by omega) e (by omega) (by omega) (by omega)
     ·rw [show zac k= -1 by unfold zac; rw [if_neg (by omega),if_neg (by omega),if_neg (by omega)]];exact h9 k a b (ne _ _ c) (ne _ _ d) (by omega) e (by omega) (by omega)
 ·rw [show zac k= -1 by unfold zac; rw [if_neg (by omega),if_neg (by omega),if_neg (by omega)]];exact h8 k a (ne _ _ (by omega)) (ne _ _ (by omega)) (by omega) (by omega)
theorem zcc (env:Env) (k:Int):Con prog env 265 [I k] (I (zac k)):=by
 refine zdY (p:=fun k r=>Con prog env 265 [I k] (I r)) ?_ ?_ ?_ ?_ ?_ ?_ k
 ·intro k a1 a2 a3 a4 a5;refine qf func265 call265 ntmps265 results265 ?_;have F:=ai5 a1 a2 a3 a4 a5;repeat refine st ?_
  exact aR
 ·refine qf func265 call265 ntmps265 results265 ?_;repeat refine st0 ?_
  exact aR0
 ·refine qf func265 call265 ntmps265 results265 ?_;repeat refine st0 ?_
  exact aR0
 ·intro k a1 a2 a3 a4 a5 a6 a7 a8 a9;refine qf func265 call265 ntmps265 results265 ?_;have F:=ai9 a1 a2 a3 a4 a5 a6 a7 a8 a9;repeat refine st ?_
  exact aR
 ·intro k a1 a2 a3 a4 a5;refine qf func265 call265 ntmps265 results265 ?_;have F:=ai5 a1 a2 a3 a4 a5;repeat refine st ?_
  exact aR
 ·intro k a1 a2 a3 a4 a5 a6 a7 a8;refine qf func265 call265 ntmps265 results265 ?_;have F:=ai8 a1 a2 a3 a4 a5 a6 a7 a8;repeat refine st ?_
  exact aR
theorem zbC (env:Env) (k:Int):Con prog env 237 [I k] (I (zac k)):=by
 refine zdY (p:=fun k r=>Con prog env 237 [I k] (I r)) ?_ ?_ ?_ ?_ ?_ ?_ k
 ·intro k a1 a2 a3 a4 a5;refine qf func237 call237 ntmps237 results237 ?_;have F:=ai5 a1 a2 a3 a4 a5;repeat refine st ?_
  exact aR
 ·refine qf func237 call237 ntmps237 results237 ?_;repeat refine st0 ?_
  exact aR0
 ·refine qf func237 call237 ntmps237 results237 ?_;repeat refine st0 ?_
  exact aR0
 ·intro k a1 a2 a3 a4 a5 a6 a7 a8 a9;refine qf func237 call237 ntmps237 results237 ?_;have F:=ai9 a1 a2 a3 a4 a5 a6 a7 a8 a9;repeat refine st ?_
  exact aR
 ·intro k a1 a2 a3 a4 a5;refine qf func237 call237 ntmps237 results237 ?_;have F:=ai5 a1 a2 a3 a4 a5;repeat refine st ?_
  exact aR
 ·intro k a1 a2 a3 a4 a5 a6 a7 a8;refine qf func237 call237 ntmps237 results237 ?_;have F:=ai8 a1 a2 a3 a4 a5 a6 a7 a8;repeat refine st ?_
  exact aR
theorem zhn {p:OpD->Bool->Prop} (vs ss:Int)
 (h1: ∀n:Int,p ⟨1,n⟩ (decide (0<=n)&&decide (n<=2147483647))) (h2: ∀n:Int,p ⟨2,n⟩ (decide (0<=n)&&decide (n<vs))) (h4: ∀n:Int,p ⟨4,n⟩ (decide (0<=n)&&decide (n<ss)))
 (h: ∀k n:Int,(k==1)=false->(k==2)=false->(k==4)=false->p ⟨k,n⟩ (decide (n=0))) (o:OpD):p o (numB o vs ss):=by
 have ne: ∀a b:Int,a≠b->(a==b)=false:=fun a b h=>by simpa using h
 obtain⟨k,n⟩:=o;unfold numB;simp only [Bool.decide_and];by_cases a:k=1
 ·subst a; simpa using h1 n
 by_cases b:k=2
 ·subst b; simpa using h2 n
 by_cases c:k=4
 ·subst c; simpa using h4 n
 rw [if_neg a,if_neg b,if_neg c];exact h k n (ne _ _ a) (ne _ _ b) (ne _ _ c)
theorem zc1 (env:Env) (o:OpD) (vs ss:Int):Con prog env 266 [.agg (opAV o),I vs,I ss] (B (numB o vs ss)):=by
 refine zhn (p:=fun o r=>Con prog env 266 [.agg (opAV o),I vs,I ss] (B r)) vs ss (fun n=> ?_) (fun n=> ?_) (fun n=> ?_) (fun k n a1 a2 a3=> ?_) o
 ·refine qf func266 call266 ntmps266 results266 ?_;by_cases h1:0<=n<;>by_cases h2:n<=2147483647<;>
  ·have h3:(n<2147483648)=(n<=2147483647):=by rw [eq_iff_iff]; omega
   have F:=ai4 opAV.eq_1 h1 h2 h3;repeat refine st ?_
   exact aR
 ·refine qf func266 call266 ntmps266 results266 ?_;by_cases h1:0<=n<;>by_cases h2:n<vs<;>
  ·have F:=ai3 opAV.eq_1 h1 h2;repeat refine st ?_
   exact aR
 ·refine qf func266 call266 ntmps266 results266 ?_;by_cases h1:0<=n<;>by_cases h2:n<ss<;>
  ·have F:=ai3 opAV.eq_1 h1 h2;repeat refine st ?_
   exact aR
 ·refine qf func266 call266 ntmps266 results266 ?_;by_cases h1:0<=n<;>by_cases h2:n<1<;>
  ·have h3:(n=0)=(0<=n/\n<1):=by rw [eq_iff_iff]; omega
   have F:=ai7 opAV.eq_1 h1 h2 h3 a1 a2 a3;repeat refine st ?_
   exact aR
theorem zcZ (env:Env) (o:OpD) (vs ss:Int):Con prog env 238 [.agg (opAV o),I vs,I ss] (B (numB o vs ss)):=by
 refine zhn (p:=fun o r=>Con prog env 238 [.agg (opAV o),I vs,I ss] (B r)) vs ss (fun n=> ?_) (fun n=> ?_) (fun n=> ?_) (fun k n a1 a2 a3=> ?_) o
 ·refine qf func238 call238 ntmps238 results238 ?_;by_cases h1:0<=n<;>by_cases h2:n<=2147483647<;>
  ·have F:=ai3 opAV.eq_1 h1 h2;repeat refine st ?_
   exact aR
 ·refine qf func238 call238 ntmps238 results238 ?_;by_cases h1:0<=n<;>by_cases h2:n<vs<;>
  ·have F:=ai3 opAV.eq_1 h1 h2;repeat refine st ?_
   exact aR
 ·refine qf func238 call238 ntmps238 results238 ?_;by_cases h1:0<=n<;>by_cases h2:n<ss<;>
  ·have F:=ai3 opAV.eq_1 h1 h2;repeat refine st ?_
   exact aR
 ·refine qf func238 call238 ntmps238 results238 ?_;have h3:decide (n=0)=(n==0):=by rw [Bool.eq_iff_iff]; simp
  rw [h3];have F:=ai4 opAV.eq_1 a1 a2 a3;repeat refine st ?_
  exact aR
/-! States' kinds -/
theorem zdt (env:Env) (s:StD):Con prog env 176 [.agg (stAV s)] (B (zaI s)):=by
 unfold zaI;refine qf func176 call176 ntmps176 results176 ?_;cases h1:(s.kind==4)<;>cases h2:(s.kind==5)<;>
 ·have F:=ai3 stAV.eq_1 h1 h2;repeat refine st ?_
  exact aR
theorem za9 (env:Env) (s:StD):Con prog env 93 [.agg (stAV s)] (B (zaI s)):=by
 unfold zaI;refine qf func93 call93 ntmps93 results93 ?_;cases h1:(s.kind==4)<;>cases h2:(s.kind==5)<;>
 ·have F:=ai3 stAV.eq_1 h1 h2;repeat refine st ?_
  exact aR
theorem zc2 (env:Env) (s:StD):Con prog env 174 [.agg (stAV s)] (B (zco s)):=by
 unfold zco;refine qf func174 call174 ntmps174 results174 ?_;cases h1:(s.kind==1)<;>cases h2:(s.kind==2)<;>
 ·have F:=ai3 stAV.eq_1 h1 h2;repeat refine st ?_
  exact aR
theorem zc0 (env:Env) (s:StD):Con prog env 114 [.agg (stAV s)] (B (zco s)):=by
 unfold zco;refine qf func114 call114 ntmps114 results114 ?_;cases h1:(s.kind==1)<;>cases h2:(s.kind==2)<;>
 ·have F:=ai3 stAV.eq_1 h1 h2;repeat refine st ?_
  exact aR
end
section
theorem take_same {α:Type} {a b:List α} {i:Nat} {x y:α} (h:a.take i=b.take i) (hx:a[i]? =some x) (hy:b[i]? =some y) (e:x=y):a.take (i+1)=b.take (i+1):=by
 obtain⟨h1,h2⟩:=List.getElem?_eq_some_iff.1 hx;obtain⟨h3,h4⟩:=List.getElem?_eq_some_iff.1 hy;rw [List.take_succ_eq_append_getElem h1,List.take_succ_eq_append_getElem h3,h,h2,h4,e]
theorem ziT {α:Type} [DecidableEq α] {a b:List α} {i:Nat} {x y:α} (hx:a[i]? =some x) (hy:b[i]? =some y) (e:x≠y):(a==b)=false:=by
 rw [beq_eq_false_iff_ne];intro h;rw [h,hy] at hx;exact e (Option.some.inj hx).symm
theorem zlU {α:Type} [DecidableEq α] {a b:List α} {i:Nat} (h:a.take i=b.take i) (ha:a.length<=i) (hb:b.length<=i):(a==b)=true:=by
 rw [List.take_of_length_le ha,List.take_of_length_le hb] at h;simpa using h
theorem zal {α:Type} {l:List α} {i:Nat} (h:i<l.length): ∃x,l[i]? =some x/\x∈l:=⟨l[i],List.getElem?_eq_getElem h,List.getElem_mem h⟩
end

end Go.Proofs.YtbpmkofnfgdegaaGreatDoor