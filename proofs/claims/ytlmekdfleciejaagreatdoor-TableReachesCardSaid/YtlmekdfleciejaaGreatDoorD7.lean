/- Walking without memory: rows that are not there, rows seen. No program is named here. -/
import Derived.Test.YtlmekdfleciejaaGreatDoorD5
import Derived.Test.YtlmekdfleciejaaGreatDoorD6
namespace Go.Proofs.YtlmekdfleciejaaGreatDoor
open Go.RowKit
section
attribute [go_sem] zqP zkt zfT resI znc zlx zoY toRL toKL gin gout nout vin zcJ lay AV.ren AV.ren.renL Row.ren zav Option.bind_some Option.bind_none Option.isSome_some Option.isSome_none Option.getD_some Bool.true_eq_false zpW zlF zpX wrs wes List.cons.injEq Prod.mk.injEq forall_const
end
section
theorem bneA:(∀a b:Int,(a != b)= !(a==b))/\(∀a b:Nat,(a != b)= !(a==b))/\(∀a b:List UInt8,(a != b)= !(a==b))/\(∀a b:Bool,(a != b)= !(a==b)):=⟨fun _ _=>rfl,fun _ _=>rfl,fun _ _=>rfl,fun _ _=>rfl⟩
theorem st0 {p q:Prop} (k:q) (h:q->p:=by
 intro k
 first
 | refine oO rfl (by simp only [go_sem]; exact⟨rfl,rfl⟩) ?_
 | refine gR ?_
 | refine gO ?_
 | refine oZ (zb5 ?_)
 | refine oZ ?_
 | refine oS ?_
 | refine gT ?_
 | refine gD Tryz.mixed ?_
 | refine oB ?_
 | refine oK ?_
 |(refine oX ?_; simp only [zaQ,zaE, ↓reduceIte,Nat.reduceEqDiff,reduceCtorEq])
 | refine oY (by simp only [go_sem]; exact iR) ?_
 | refine oN (by simp only [go_sem]; exact iR) ?_
 exact k):p:=h k
theorem st {p q:Prop} (k:q) (h:q->p:=by
 intro k
 first
 | refine oO rfl (by simp only [go_sem,F]; exact⟨rfl,rfl⟩) ?_
 | refine gR ?_
 | refine gO ?_
 | refine oZ (zb5 ?_)
 | refine oZ ?_
 | refine oS ?_
 | refine gT ?_
 | refine gD Tryz.mixed ?_
 | refine oB ?_
 | refine oK ?_
 |(refine oX ?_; simp only [zaQ,zaE, ↓reduceIte,Nat.reduceEqDiff,reduceCtorEq])
 | refine oY (by simp only [go_sem,F]; exact iR) ?_
 | refine oN (by simp only [go_sem,F]; exact iR) ?_
 exact k):p:=h k
theorem sg0 {p q:Prop} (k:q) (h:q->p:=by
 intro k
 first
 | refine oO rfl (by simp only [go_sem]; exact⟨rfl,rfl⟩) ?_
 | refine gR ?_
 | refine gO ?_
 | refine oZ (zb5 ?_)
 | refine oZ ?_
 | refine oS ?_
 | refine gT ?_
 | refine gD Tryz.mixed ?_
 | refine oB ?_
 | refine oK ?_
 |(refine oX ?_; simp only [zaQ,zaE, ↓reduceIte,Nat.reduceEqDiff,reduceCtorEq])
 exact k):p:=h k
theorem sg {p q:Prop} (k:q) (h:q->p:=by
 intro k
 first
 | refine oO rfl (by simp only [go_sem,F]; exact⟨rfl,rfl⟩) ?_
 | refine gR ?_
 | refine gO ?_
 | refine oZ (zb5 ?_)
 | refine oZ ?_
 | refine oS ?_
 | refine gT ?_
 | refine gD Tryz.mixed ?_
 | refine oB ?_
 | refine oK ?_
 |(refine oX ?_; simp only [zaQ,zaE, ↓reduceIte,Nat.reduceEqDiff,reduceCtorEq])
 exact k):p:=h k
section
variable {P:Program} {env:Env} {nt:Nat} {Q:Exit->St->Prop} {s:St}
theorem cC0 {o:Oper} {f:FuncId} {args:List AV} {rest:List Stp} {s1:St} {ft:Foot} {cs:List AV} {res:AV} {K:St->List Foot->Prop} (hcon:Con P env f cs res) (k:aops P env rest s1 fun s2 fts=>K s2 (ft::fts)) (hc:zaN env s.f o=some (f,args):=by exact rfl)
 (ha:Takes (fzArgs args) s cs:=by simp only [go_sem]; exact iR) (h:Comes' (runL (zcm false o.dst args res) s [] []) s o.dst s1 ft:=by simp only [go_sem]; exact⟨rfl,rfl⟩):aops P env (⟨o, .always⟩::rest) s K:=oC hc hcon ha h k
theorem cC {o:Oper} {f:FuncId} {args:List AV} {rest:List Stp} {s1:St} {ft:Foot} {cs:List AV} {res:AV} {K:St->List Foot->Prop} (hcon:Con P env f cs res) (k:aops P env rest s1 fun s2 fts=>K s2 (ft::fts)) (hc:zaN env s.f o=some (f,args):=by exact rfl)
 (ha:Takes (fzArgs args) s cs:=by simp only [go_sem,F]; exact iR) (h:Comes' (runL (zcm false o.dst args res) s [] []) s o.dst s1 ft:=by simp only [go_sem,F]; exact⟨rfl,rfl⟩):aops P env (⟨o, .always⟩::rest) s K:=oC hc hcon ha h k
theorem aR0 (h:Q .ret s:=by show (zaz _ _ _).run _=some _; simp only [go_sem]):awp P env nt .ret Q s:=zak h
theorem aR (h:Q .ret s:=by show (zaz _ _ _).run _=some _; simp only [go_sem,F]):awp P env nt .ret Q s:=zak h
end
end
section
theorem Sim.tell {x:Ctx} {s:St} {a:Act} {w:World} {m:Mem} (h:Sim x s a w m) (t:Nat) (c:AV) (hc:RL w m s (a.tmps.getD t undef) c):Sim x (s.put (some t) c) a w m:=by
 refine { h with dfs:=h.dfs,siz:=h.siz,slot:=fun t'=> ?_,rows:=fun r' row' hr'=> ?_ }
 ·have key:RL w m s (a.tmps.getD t' undef) (upd s.f t c t'):=by
   by_cases e1:t'=t
   ·subst e1
    rw [upd_same]
    exact hc
   ·rw [upd_ne _ _ _ e1]
    exact h.slot t'
  exact RL.put key (some t) _
 ·exact(h.rows r' row' hr').mono (s':=s.put (some t) c) (fun b o hb=>⟨hb, .rfl⟩) (fun _=>Nat.le_refl _) (fun r row' _ hr=>⟨row',hr,rfl,rfl⟩) rfl (fun _ _=>rfl) rfl (fun _ _ _ hh=>hh)
section
variable {P:Program} {env:Env} {nt:Nat} {Q:Exit->St->Prop} {s:St}
end
theorem Sim.nilCell {x:Ctx} {s:St} {a:Act} {w:World} {m:Mem} (h:Sim x s a w m) (r r2 i j:Nat) (row:Row) (e:List AV) (ty:TypeId) (sz:Nat) (hne:r2≠r) (hsz:0<sz) (hr:s.rows r=some row) (hrz:row.sz≠0) (hp:row.pure=false) (hi:row.es[i]? =some e) (hj:e[j]? =some (.lit (.slice none 0 0))):
 Sim x ((s.renew r2 ⟨sz,[],ty,true⟩ false).setRow r { row with es:=row.es.set i (e.set j (.row r2 (s.vs r2+1))) }) a w ⟨m.S,upd m.ρ r2 (.slice none 0 0)⟩:=by
 have h1:=h.renew r2 ⟨sz,[],ty,true⟩ false (.slice none 0 0) m.S (Below.refl _ _) (fun b o hh=>⟨hh, .rfl⟩) (fun b o hh=> .inl hh) (fun k row' hk hr g hg=>⟨rfl,by simp [Value.ownBlock],fun o hh=>hh⟩)
  (.inl ⟨hsz,fun i e' he=>by simp at he,⟨[],by simp only [upd_same]; exact World.ownsRow_nil _ _ _ _,by simp,fun i j c hc=>by simp [cellAt] at hc⟩,(fun he=>by simp [St.renew,upd_same] at he),(fun g hg=>by simp [upd_same,Value.ownBlock] at hg),(fun _ g hg=>by simp [upd_same,Value.ownBlock] at hg)⟩) (fun b _=>⟨rfl,fun _ hh=>hh,by simp [Value.ownBlock]⟩)
 have hr1:(s.renew r2 ⟨sz,[],ty,true⟩ false).rows r=some row:=by simpa only [St.renew,upd_ne _ _ _ (Ne.symm hne)] using hr
 have k:=(h1.rows r row hr1).cells hrz
 have hil:i<row.es.length:=(List.getElem?_eq_some_iff.1 hi).1
 have hz': ∀(p:Nat) (e':List AV),(row.es.set i (e.set j (.row r2 (s.vs r2+1))))[p]? =some e'->e'.length=row.sz:=fun p e' hpe=>by
  rw [List.getElem?_set] at hpe
  by_cases ep:i=p
  ·rw [if_pos ep,if_pos hil] at hpe
   cases hpe
   rw [List.length_set]
   exact k.len i e hi
  ·rw [if_neg ep] at hpe
   exact k.len p e' hpe
 have hk: ∀q row2,(({ s.renew r2 ⟨sz,[],ty,true⟩ false with } :St).setRow r { row with es:=row.es.set i (e.set j (.row r2 (s.vs r2+1))) }).vs q=(s.renew r2 ⟨sz,[],ty,true⟩ false).vs q->((s.renew r2 ⟨sz,[],ty,true⟩ false).setRow r { row with es:=row.es.set i (e.set j (.row r2 (s.vs r2+1))) }).rows q=some row2-> ∃row0,(s.renew r2 ⟨sz,[],ty,true⟩ false).rows q=some row0/\row0.sz=row2.sz/\(upd m.ρ r2 (.slice none 0 0)) q=(upd m.ρ r2 (.slice none 0 0)) q:=fun q row2 _ hq=>by
  by_cases eq:q=r
  ·subst eq
   simp only [St.setRow,upd_same,Option.some.injEq] at hq
   subst hq
   exact⟨row,hr1,rfl,rfl⟩
  ·simp only [St.setRow,upd_ne _ _ _ eq] at hq
   exact⟨row2,hq,rfl,rfl⟩
 refine h1.reset r row { row with es:=row.es.set i (e.set j (.row r2 (s.vs r2+1))) } hr1 rfl (Below.refl _ _) (fun _ _ _=> .rfl) (fun _ _ _ _ _ _=>rfl) (.inl ⟨k.pos,hz', ?_,fun he g hg o ho=> ?_,fun g hg o ho=> ?_,fun he g hg o=> ?_⟩) (fun _ _=>rfl)
 ·obtain⟨xs,k1,k2,k3⟩:=k.own
  refine⟨xs,by simpa only [List.length_set] using k1,k2,fun p q c hc=> ?_⟩
  show ∃u,xs[p*row.sz+q]? =some u/\if row.pure=true then _ else _
  have old: ∀c',cellAt row.es p q=some c'->c'=c-> ∃u,xs[p*row.sz+q]? =some u/\(if row.pure=true then RV m.S w u c else RL w ⟨m.S,upd m.ρ r2 (.slice none 0 0)⟩ ((s.renew r2 ⟨sz,[],ty,true⟩ false).setRow r { row with es:=row.es.set i (e.set j (.row r2 (s.vs r2+1))) }) u c):=fun c' hc' ec=>by
   subst ec
   obtain⟨u,u1,u2⟩:=k3 p q c' hc'
   refine⟨u,u1, ?_⟩
   rw [if_neg (by simp [hp])] at u2 |-
   exact u2.mono (fun b o hb=>⟨hb, .rfl⟩) (fun _=>Nat.le_refl _) hk
  unfold cellAt at hc
  rw [List.getElem?_set] at hc
  by_cases ep:i=p
  ·subst ep
   rw [if_pos rfl,if_pos hil] at hc
   simp only [Option.bind_some,List.getElem?_set] at hc
   by_cases eq:j=q
   ·subst eq
    have hjl:j<e.length:=(List.getElem?_eq_some_iff.1 hj).1
    rw [if_pos rfl,if_pos hjl] at hc
    cases hc
    obtain⟨u,u1,u2⟩:=k3 i j (.lit (.slice none 0 0)) (by unfold cellAt; rw [hi]; exact hj)
    refine⟨u,u1, ?_⟩
    rw [if_neg (by simp [hp])] at u2 |-
    rw [u2.lit_]
    exact .row r2 (s.vs r2+1) rfl (by simp [St.setRow,St.renew,upd_same]) fun _ row _=>by simp [upd_same]
   ·rw [if_neg eq] at hc
    exact old c (by unfold cellAt; rw [hi]; exact hc) rfl
  ·rw [if_neg ep] at hc
   exact old c hc rfl
 ·simp only [List.length_set] at ho
  exact k.esc he g hg o ho
 ·simp only [List.length_set] at ho
  exact k.spare g hg o ho
 ·exact k.fresh he g hg o
section
variable {P:Program} {env:Env} {nt:Nat} {Q:Exit->St->Prop} {s:St}
theorem zbh {c:Code} {s1:St} (r r2 i j:Nat) (row:Row) (e:List AV) (ty:TypeId) (sz:Nat) (hne:r2≠r) (hsz:0<sz) (hrz:row.sz≠0) (hp:row.pure=false) (hi:row.es[i]? =some e) (hj:e[j]? =some (.lit (.slice none 0 0))) (hr:Is (s.rows r) (some row))
 (h1:Is ((s.renew r2 ⟨sz,[],ty,true⟩ false).setRow r { row with es:=row.es.set i (e.set j (.row r2 (s.vs r2+1))) }) s1) (h:awp P env nt c Q s1):awp P env nt c Q s:=
 fun ro x he hn a w _ hS=>h ro x he hn a w _ (by
  have:=hS.nilCell r r2 i j row e ty sz hne hsz hr hrz hp hi hj
  rw [show _=s1 from h1] at this
  exact this)
end
theorem Con.empty {P:Program} {env:Env} {f:FuncId} {sz:Nat} {res:AV} (h: ∀A cap,Con P env f [.lit (.slice A 0 cap)] res):Con P env f [.seq sz []] res:=by
 refine⟨(h none 0).enter,fun w S vs hE hl hv=> ?_⟩
 match vs,hl with
 | [v],_=>
   have h0:RV S w v (.seq sz []):=hv 0 v _ rfl rfl
   have hx: ∃A cap,v= .slice A 0 cap:=by
    generalize he:([]:List (List AV))=es at h0
    cases h0 with
    | seq A n cap sz es b o u hn=>
      subst he
      simp only [List.length_nil] at hn
      subst hn
      exact⟨A,cap,rfl⟩
   obtain⟨A,cap,rfl⟩:=hx
   refine(h A cap).calls w S [.slice A 0 cap] hE rfl fun i v c h1 h2=> ?_
   match i,h1,h2 with
   | 0,h1,h2=>cases h1; cases h2; exact .lit _
end
section
end

end Go.Proofs.YtlmekdfleciejaaGreatDoor