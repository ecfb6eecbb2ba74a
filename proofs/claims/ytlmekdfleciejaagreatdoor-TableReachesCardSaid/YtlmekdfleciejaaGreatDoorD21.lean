/- Contracts of the program's checks of a state's parent and shape: by the walk without memory. -/
import Derived.Test.YtlmekdfleciejaaGreatDoorD20
import Derived.Test.YtlmekdfleciejaaGreatDoorD5
import Derived.Test.YtlmekdfleciejaaGreatDoorD7
set_option maxRecDepth 100000
set_option maxHeartbeats 8000000
set_option linter.unusedSimpArgs false
namespace Go.Proofs.YtlmekdfleciejaaGreatDoor
open Go.RowKit
theorem zke (env:Env) (c:ChD) (i:Int):Con Tryz.prog env 181 [.agg (chAV c),I i] (B (decide (0<=i)&&decide (i<c.states.length))):=by
 refine zaa Tryz.func181 rfl Tryz.call181 (by rw [Tryz.ntmps181]; simp) ?_
 rw [Tryz.ntmps181,Tryz.results181]
 by_cases h1:0<=i<;>by_cases h2:i< (c.states.length:Int)<;>
 ·have F:=ai chAV.eq_1<|ai h1<|h2
  repeat refine st ?_
  exact aR
theorem Str.ifl (t:TypeId) (v:Value):Str (.lit (.iface t v)) (.iface t (.lit v)):=fun S w u h=>by
 obtain rfl:=h.lit_inv
 exact .iface t v (.lit v) (.lit v)
theorem Str.lfi (t:TypeId) (v:Value):Str (.iface t (.lit v)) (.lit (.iface t v)):=fun S w u h=>by
 cases h with
 | iface _ v' _ h=>
   obtain rfl:=h.lit_inv
   exact .lit _
theorem zew (s p:AV) (q:Int) (hp:p=I q) (e e':AV) (he:Str e' e):RStr (.iface 120 (.ref 3 [[s,p,e']] 0 0)) (errV q e):=by
 subst hp
 exact .of (.iface (.ref1 (cs:=[.any,I q,e]) (.cons (.any _) (.cons (.refl _) (.cons he .nil))))) (fun _ _ _ h=>by cases h) (fun _ _ _ h=>by cases h)
theorem zoi (env:Env) (s:List UInt8) (p:Int) (a:Addr) (hp: -1<=p):Con Tryz.prog env 213 [Sg s,I p,sentV a] (errV p (sentV a)):=by
 refine Con.args (cs:=[Sg s,I p, .iface 261 (.lit (.pointer (some a)))]) ?_ (.cons (.refl _) (.cons (.refl _) (.cons (.ifl _ _) .nil)))
 have h1: ¬p< -1:=by omega
 refine zaj Tryz.func213 rfl Tryz.call213 (by rw [Tryz.ntmps213]; simp) ?_
 rw [Tryz.ntmps213,Tryz.results213]
 have F:=h1
 repeat refine st ?_
 (refine zak ?_; refine⟨_,(by show (zaz _ _ _).run _=some _; simp only [go_sem,F]; rfl), ?_⟩)
 exact zew _ _ _ rfl _ _ (.lfi _ _)
theorem zfD (env:Env) (a1 a8:Addr) (he:ChEnv env a1 a8) (p:Int) (hp: -1<=p):Con Tryz.prog env 178 [I p] (errV p (sentV a1)):=by
 have g1:=zkq he.e1
 refine zaa Tryz.func178 rfl Tryz.call178 (by rw [Tryz.ntmps178]; simp) ?_
 rw [Tryz.ntmps178,Tryz.results178]
 have F:=g1
 repeat (first | refine st ?_ | refine cC (zoi env _ p a1 hp) ?_)
 exact aR
theorem zdI {c:ChD} {m:Nat} {q:StD} (h:c.states[m]? =some q):zar c (m:Int)=zbV q:=by unfold zar; rw [zbp,h]
theorem zdU {n:Int} (h:0<=n): ∃m:Nat,n=m:=⟨n.toNat,by omega⟩
theorem zkd (env:Env) (c:ChD) (i:Nat) (s:StD) (hs:c.states[i]? =some s):Con Tryz.prog env 219 [.agg (chAV c),I i] (B (zaC c i s)):=by
 have hi:i<c.states.length:=(List.getElem?_eq_some_iff.1 hs).1
 have k0:=nlt hi
 refine zaa Tryz.func219 rfl Tryz.call219 (by rw [Tryz.ntmps219]; simp) ?_
 rw [Tryz.ntmps219,Tryz.results219]
 cases h1:(s.parent == -1)
 ·by_cases h2:0<=s.parent
  ·obtain⟨m,hm⟩:=zdU h2
   by_cases h3:(m:Int)< (i:Int)
   ·have hml:m<c.states.length:=by omega
    obtain⟨q,hq,_⟩:=zam hml
    have k3:=nlt hml
    have h1':((m:Int) == -1)=false:=by rw [<-hm]; exact h1
    rw [show zaC c i s=zbV q by unfold zaC; rw [hm,zdI hq,h1']; simp [h3]]
    have F:=ai chAV.eq_1<|ai k0<|ai hs<|ai stAV.eq_1<|ai hm<|ai h1'<|ai h3<|ai k3<|hq
    repeat (first | refine st ?_ | refine cC (zcS env q) ?_)
    exact aR
   ·have h1':((m:Int) == -1)=false:=by rw [<-hm]; exact h1
    rw [show zaC c i s=false by unfold zaC; rw [hm,h1']; simp [h3]]
    have F:=ai chAV.eq_1<|ai k0<|ai hs<|ai stAV.eq_1<|ai hm<|ai h1'<|h3
    repeat refine st ?_
    exact aR
  ·rw [show zaC c i s=false by unfold zaC; rw [h1]; simp [h2]]
   have F:=ai chAV.eq_1<|ai k0<|ai hs<|ai stAV.eq_1<|ai h1<|h2
   repeat refine st ?_
   exact aR
 ·rw [show zaC c i s=true by unfold zaC; rw [h1]; rfl]
  have F:=ai chAV.eq_1<|ai k0<|ai hs<|ai stAV.eq_1<|h1
  repeat refine st ?_
  exact aR
theorem zl4 (env:Env) (c:ChD) (s:StD) (hp:s.parent<c.states.length):Con Tryz.prog env 242 [.agg (chAV c), .agg (stAV s)] (B (zaB c s)):=by
 refine zaa Tryz.func242 rfl Tryz.call242 (by rw [Tryz.ntmps242]; simp) ?_
 rw [Tryz.ntmps242,Tryz.results242]
 by_cases h2:0<=s.parent
 ·obtain⟨m,hm⟩:=zdU h2
  have hml:m<c.states.length:=by omega
  obtain⟨q,hq,_⟩:=zam hml
  have k3:=nlt hml
  rw [show zaB c s=(q.kind==1) by unfold zaB; rw [hm,zbp,hq]]
  have F:=ai chAV.eq_1<|ai stAV.eq_1<|ai hm<|ai k3<|hq
  repeat refine st ?_
  exact aR
 ·rw [show zaB c s=false by unfold zaB at_; rw [if_neg h2]]
  have F:=ai chAV.eq_1<|ai stAV.eq_1<|h2
  repeat refine st ?_
  exact aR
theorem zmJ {a b:Nat} (ha:a<=9223372036854775807) (hb:b<=9223372036854775807):IntKind.i64.wrap ((a:Int)+(b:Int))=0↔a+b=0:=by
 by_cases h:a+b<9223372036854775808
 ·rw [zbU (by omega) (by omega)]
  omega
 ·have:IntKind.i64.wrap ((a:Int)+(b:Int))=(a:Int)+(b:Int)-18446744073709551616:=by
   simp [IntKind.wrap,IntKind.bits,IntKind.signed]
   omega
  omega
theorem zbK {α:Type} [DecidableEq α] (l:List α):((l.length:Int)==0)=(l == []):=by
 rw [Bool.eq_iff_iff]
 simp
theorem zno {c:ChD} {i:Nat} {s:StD} (hi:i<c.states.length) (h:zaC c i s=true):s.parent<c.states.length:=by
 unfold zaC at h
 simp only [Bool.or_eq_true,beq_iff_eq,Bool.and_eq_true,decide_eq_true_eq] at h
 omega
theorem zqv {c:ChD} {i:Int} {real:Bool} {j k:Nat} (h:(kidsL c i real)[j]? =some k): ∃q,c.states[k]? =some q/\k<c.states.length:=by
 have hk:=zep (List.mem_of_getElem? h)
 obtain⟨q,hq,_⟩:=zam hk.1
 exact⟨q,hq,hk.1⟩
theorem zl3 (env:Env) (c:ChD) (i:Nat) (s:StD) (hs:c.states[i]? =some s) (hn:c.states.length<=1000000) (hp:s.parent<c.states.length) (h1l:s.inn.length<=9223372036854775807) (h2l:s.out.length<=9223372036854775807):Con Tryz.prog env 220 [.agg (chAV c),I i] (B (zan c i s)):=by
 have hi:i<c.states.length:=(List.getElem?_eq_some_iff.1 hs).1
 have k0:=nlt hi
 have hreal:=zcG env c i hn
 have hreal2:=zcG env c s.parent hn
 have hkids:=zf9 env c i hn
 have hplain:=zl4 env c s hp
 have hKl:(kidsL c i true).length<=1000000:=Nat.le_trans (zaX c i true _) hn
 have hKl2:(kidsL c s.parent true).length<=1000000:=Nat.le_trans (zaX c s.parent true _) hn
 have hcon:=zdu env (kidsL c i true) s.initial hKl
 have hcon2:=zdu env (kidsL c s.parent true) s.initial hKl2
 have z1:=zbK (kidsL c i true)
 have z2:=zbK (kidsL c i false)
 have z3:=zbK s.out
 refine zaa Tryz.func220 rfl Tryz.call220 (by rw [Tryz.ntmps220]; simp) ?_
 rw [Tryz.ntmps220,Tryz.results220]
 by_cases hk1:s.kind=1
 ·have hr:zan c i s=(if kidsL c i true=[] then s.initial == -1 else inL (kidsL c i true) s.initial):=by unfold zan; rw [if_pos hk1]
  rw [hr]
  cases e1:(kidsL c i true == [])
  ·rw [if_neg (by simpa using e1)]
   have F:=ai chAV.eq_1<|ai k0<|ai hs<|ai stAV.eq_1<|ai hk1<|ai z1<|e1
   repeat (first | refine st ?_ | refine cC hreal ?_ | refine cC hcon ?_)
   exact aR
  ·have e1':kidsL c i true=[]:=by simpa using e1
   rw [if_pos e1']
   cases e2:(s.initial == -1)
   ·have F:=ai chAV.eq_1<|ai k0<|ai hs<|ai stAV.eq_1<|ai hk1<|ai z1<|ai e1<|e2
    repeat (first | refine st ?_ | refine cC hreal ?_ | refine cC hcon ?_)
    (refine zak ?_; show (zaz _ _ _).run _=some _; simp only [go_sem,F])
    rw [e1']
    rfl
   ·have F:=ai chAV.eq_1<|ai k0<|ai hs<|ai stAV.eq_1<|ai hk1<|ai z1<|ai e1<|e2
    repeat (first | refine st ?_ | refine cC hreal ?_ | refine cC hcon ?_)
    exact aR
 have b1:=za3 hk1
 by_cases hk2:s.kind=2
 ·have hr:zan c i s=(((kidsL c i true).all fun k=>zar c k)&&decide (0< (kidsL c i true).length)&&(s.initial == -1)):=by unfold zan; rw [if_neg hk1,if_pos hk2]
  rw [hr]
  have F:=ai chAV.eq_1<|ai k0<|ai hs<|ai stAV.eq_1<|hk2
  repeat (first | refine st ?_ | refine cC hreal ?_)
  refine zab (D:=Nat) (fun j vs=>[(1,I i),(2, .loc 2 (vs 2) 0 0),(5, .loc 5 (vs 5) 0 0),(6, .row 16 (vs 16)),(18,I 2),(37, .row 16 (vs 16)),(38,I (kidsL c i true).length),(39,I j)]) (fun _ _=>[(2,⟨5,[chAV c],26,false⟩),(5,⟨6,[stAV s],34,false⟩),(16,⟨1,(kidsL c i true).map zae,3,true⟩)]) (fun j _ _=>j<=(kidsL c i true).length/\((kidsL c i true).take j).all (fun k=>zar c k)=true) (fun j=>(kidsL c i true).length-j) 0 ?_ ?_ ?_ ?_
  ·exact⟨Nat.zero_le _,rfl⟩
  ·(simp only [go_sem,F])
  ·(simp only [go_sem,F])
  rintro j ws esc ⟨hj,hall⟩
  by_cases hlt:j< (kidsL c i true).length
  ·obtain⟨k,hk,_⟩:=zam hlt
   obtain⟨q,hq,hkl⟩:=zqv hk
   have k1:=nlt hlt
   have k2:=zac hlt (by omega)
   have k3:=nlt hkl
   have hnorm:=zcS env q
   cases e1:zbV q
   ·rw [show ((kidsL c i true).all fun k=>zar c k)=false from ze6 hk (by rw [zdI hq]; exact e1),Bool.false_and,Bool.false_and]
    have F:=ai chAV.eq_1<|ai k1<|ai k2<|ai k3<|ai hk<|ai hq<|ai zae.eq_1<|ai stAV.eq_1<|e1
    repeat (first | refine st ?_ | refine cC hnorm ?_)
    exact aR
   ·have F:=ai chAV.eq_1<|ai k1<|ai k2<|ai k3<|ai hk<|ai hq<|ai zae.eq_1<|ai stAV.eq_1<|e1
    repeat (first | refine st ?_ | refine cC hnorm ?_)
    refine⟨j+1,⟨hlt,zbC hall hk (by rw [zdI hq]; exact e1)⟩, ?_, ?_, ?_⟩
    ·(simp only [go_sem,F])
    ·(simp only [go_sem,F])
    ·omega
  ·have k1: ¬(j:Int)< ((kidsL c i true).length:Int):=by omega
   rw [zib hall (by omega),Bool.true_and]
   have z4:decide ((0:Int)< ((kidsL c i true).length:Int))=decide (0< (kidsL c i true).length):=by rw [Bool.eq_iff_iff]; simp
   cases e1:decide (0< (kidsL c i true).length)
   ·have e1': ¬(0:Int)< ((kidsL c i true).length:Int):=by simpa using e1
    have F:=ai chAV.eq_1<|ai k1<|ai stAV.eq_1<|e1'
    repeat refine st ?_
    exact aR
   ·have e1':(0:Int)< ((kidsL c i true).length:Int):=by simpa using e1
    have F:=ai chAV.eq_1<|ai k1<|ai stAV.eq_1<|e1'
    repeat refine st ?_
    exact aR
 have b2:=za3 hk2
 by_cases hk3:s.kind=3
 ·have hr:zan c i s=((kidsL c i false == [])&&((s.parent == -1)||zaB c s)&&(s.initial == -1)&&(s.out == [])):=by unfold zan; rw [if_neg hk1,if_neg hk2,if_pos hk3]
  rw [hr]
  cases e1:(kidsL c i false == [])
  ·have F:=ai chAV.eq_1<|ai k0<|ai hs<|ai stAV.eq_1<|ai hk3<|ai z2<|e1
   repeat (first | refine st ?_ | refine cC hreal ?_ | refine cC hkids ?_ | refine cC hplain ?_)
   exact aR
  ·cases e2:(s.parent == -1)
   ·cases e3:zaB c s
    ·have F:=ai chAV.eq_1<|ai k0<|ai hs<|ai stAV.eq_1<|ai hk3<|ai z2<|ai e1<|ai e2<|e3
     repeat (first | refine st ?_ | refine cC hreal ?_ | refine cC hkids ?_ | refine cC hplain ?_)
     exact aR
    ·cases e4:(s.initial == -1)
     ·have F:=ai chAV.eq_1<|ai k0<|ai hs<|ai stAV.eq_1<|ai hk3<|ai z2<|ai e1<|ai e2<|ai e3<|e4
      repeat (first | refine st ?_ | refine cC hreal ?_ | refine cC hkids ?_ | refine cC hplain ?_)
      exact aR
     ·have F:=ai chAV.eq_1<|ai k0<|ai hs<|ai stAV.eq_1<|ai hk3<|ai z2<|ai e1<|ai e2<|ai e3<|ai e4<|z3
      repeat (first | refine st ?_ | refine cC hreal ?_ | refine cC hkids ?_ | refine cC hplain ?_)
      exact aR
   ·cases e4:(s.initial == -1)
    ·have F:=ai chAV.eq_1<|ai k0<|ai hs<|ai stAV.eq_1<|ai hk3<|ai z2<|ai e1<|ai e2<|e4
     repeat (first | refine st ?_ | refine cC hreal ?_ | refine cC hkids ?_ | refine cC hplain ?_)
     exact aR
    ·have F:=ai chAV.eq_1<|ai k0<|ai hs<|ai stAV.eq_1<|ai hk3<|ai z2<|ai e1<|ai e2<|ai e4<|z3
     repeat (first | refine st ?_ | refine cC hreal ?_ | refine cC hkids ?_ | refine cC hplain ?_)
     exact aR
 have b3:=za3 hk3
 by_cases hk45:s.kind=4\/s.kind=5
 ·have hr:zan c i s=((kidsL c i false == [])&&zaB c s&&inL (kidsL c s.parent true) s.initial&&(s.inn == [])&&(s.out == [])):=by unfold zan; rw [if_neg hk1,if_neg hk2,if_neg hk3,if_pos hk45]
  rw [hr]
  have z5:(IntKind.i64.wrap ((s.inn.length:Int)+(s.out.length:Int))==0)=((s.inn == [])&&(s.out == [])):=by
   rw [Bool.eq_iff_iff]
   simp only [beq_iff_eq,Bool.and_eq_true, <-List.length_eq_zero_iff,zmJ h1l h2l]
   omega
  rw [Bool.and_assoc _ (s.inn == []), <-z5]
  rcases hk45 with hk | hk
  ·cases e1:(kidsL c i false == [])
   ·have F:=ai chAV.eq_1<|ai k0<|ai hs<|ai stAV.eq_1<|ai hk<|ai z2<|e1
    repeat (first | refine st ?_ | refine cC hreal ?_ | refine cC hkids ?_ | refine cC hplain ?_ | refine cC hreal2 ?_ | refine cC hcon2 ?_)
    exact aR
   ·cases e2:zaB c s
    ·have F:=ai chAV.eq_1<|ai k0<|ai hs<|ai stAV.eq_1<|ai hk<|ai z2<|ai e1<|e2
     repeat (first | refine st ?_ | refine cC hreal ?_ | refine cC hkids ?_ | refine cC hplain ?_ | refine cC hreal2 ?_ | refine cC hcon2 ?_)
     exact aR
    ·cases e3:inL (kidsL c s.parent true) s.initial
     ·have F:=ai chAV.eq_1<|ai k0<|ai hs<|ai stAV.eq_1<|ai hk<|ai z2<|ai e1<|ai e2<|e3
      repeat (first | refine st ?_ | refine cC hreal ?_ | refine cC hkids ?_ | refine cC hplain ?_ | refine cC hreal2 ?_ | refine cC hcon2 ?_)
      exact aR
     ·have F:=ai chAV.eq_1<|ai k0<|ai hs<|ai stAV.eq_1<|ai hk<|ai z2<|ai e1<|ai e2<|e3
      repeat (first | refine st ?_ | refine cC hreal ?_ | refine cC hkids ?_ | refine cC hplain ?_ | refine cC hreal2 ?_ | refine cC hcon2 ?_)
      exact aR
  ·cases e1:(kidsL c i false == [])
   ·have F:=ai chAV.eq_1<|ai k0<|ai hs<|ai stAV.eq_1<|ai hk<|ai z2<|e1
    repeat (first | refine st ?_ | refine cC hreal ?_ | refine cC hkids ?_ | refine cC hplain ?_ | refine cC hreal2 ?_ | refine cC hcon2 ?_)
    exact aR
   ·cases e2:zaB c s
    ·have F:=ai chAV.eq_1<|ai k0<|ai hs<|ai stAV.eq_1<|ai hk<|ai z2<|ai e1<|e2
     repeat (first | refine st ?_ | refine cC hreal ?_ | refine cC hkids ?_ | refine cC hplain ?_ | refine cC hreal2 ?_ | refine cC hcon2 ?_)
     exact aR
    ·cases e3:inL (kidsL c s.parent true) s.initial
     ·have F:=ai chAV.eq_1<|ai k0<|ai hs<|ai stAV.eq_1<|ai hk<|ai z2<|ai e1<|ai e2<|e3
      repeat (first | refine st ?_ | refine cC hreal ?_ | refine cC hkids ?_ | refine cC hplain ?_ | refine cC hreal2 ?_ | refine cC hcon2 ?_)
      exact aR
     ·have F:=ai chAV.eq_1<|ai k0<|ai hs<|ai stAV.eq_1<|ai hk<|ai z2<|ai e1<|ai e2<|e3
      repeat (first | refine st ?_ | refine cC hreal ?_ | refine cC hkids ?_ | refine cC hplain ?_ | refine cC hreal2 ?_ | refine cC hcon2 ?_)
      exact aR
 have b4:=za3 (fun h=>hk45 (.inl h))
 have b5:=za3 (fun h=>hk45 (.inr h))
 rw [show zan c i s=false by unfold zan; rw [if_neg hk1,if_neg hk2,if_neg hk3,if_neg hk45]]
 have F:=ai chAV.eq_1<|ai k0<|ai hs<|ai stAV.eq_1<|ai b1<|ai b2<|ai b3<|ai b4<|b5
 repeat (first | refine st ?_ | refine cC hreal ?_)
 exact aR
end Go.Proofs.YtlmekdfleciejaaGreatDoor
