/- Contracts of expressions' checks, of numbers among numbers: by the walk without memory. -/
import Derived.Test.YtlmekdfleciejaaGreatDoorD17
import Derived.Test.YtlmekdfleciejaaGreatDoorD5
import Derived.Test.YtlmekdfleciejaaGreatDoorD7
import Derived.Test.YtlmekdfleciejaaGreatDoorD10
set_option maxRecDepth 100000
set_option maxHeartbeats 1000000
set_option linter.unusedSimpArgs false
namespace Go.Proofs.YtlmekdfleciejaaGreatDoor
open Go.RowKit
structure ChEnv (env:Env) (a1 a8:Addr):Prop where
 e1:env 1=some (sentV a1)
 e8:env 7=some (sentV a8)
def zdW (a1 a8:Addr) (l:List OpD) (vs ss:Int):AV:=if zeZ l vs ss=0 then nilE else if zeZ l vs ss=8 then errV (-1) (sentV a8) else errV (-1) (sentV a1)
theorem zhi {l:List OpD} (vs ss:Int) (h:32<l.length):zeZ l vs ss=8:=by unfold zeZ; rw [if_pos h]
theorem zjB {l:List OpD} {vs ss:Int} (h: ¬32<l.length) (hh:hgt vs ss l 0=some 1):zeZ l vs ss=0:=by unfold zeZ; rw [if_neg h,if_pos hh]
theorem zfH {l:List OpD} {vs ss:Int} (h: ¬32<l.length) (hh:hgt vs ss l 0≠some 1):zeZ l vs ss=1:=by unfold zeZ; rw [if_neg h,if_neg hh]
theorem zik {vs ss n:Int} {o:OpD} (h:zec vs ss n o=true): ¬zaf o.kind<0/\ ¬n<zaf o.kind/\numB o vs ss=true:=by
 simp only [zec,Bool.and_eq_true,decide_eq_true_eq] at h
 exact⟨by omega,by omega,h.2⟩
theorem zgS {vs ss n:Int} {o:OpD} (h:zec vs ss n o=false):zaf o.kind<0\/(¬zaf o.kind<0/\n<zaf o.kind)\/(¬zaf o.kind<0/\ ¬n<zaf o.kind/\numB o vs ss=false):=by
 by_cases a:zaf o.kind<0
 ·exact .inl a
 by_cases b:n<zaf o.kind
 ·exact .inr (.inl ⟨a,b⟩)
 refine .inr (.inr ⟨a,b, ?_⟩)
 have e1:0<=zaf o.kind:=by omega
 have e2:zaf o.kind<=n:=by omega
 simpa [zec,e1,e2] using h
theorem zgL (env:Env) (a1 a8:Addr) (he:ChEnv env a1 a8) (l:List OpD) (vs ss:Int):Con Tryz.prog env 244 [opsAV l,I vs,I ss] (zdW a1 a8 l vs ss):=by
 have g1:=zkq he.e1
 have g8:=zkq he.e8
 refine zaa Tryz.func244 rfl Tryz.call244 (by rw [Tryz.ntmps244]; simp) ?_
 rw [Tryz.ntmps244,Tryz.results244]
 by_cases hl:32<l.length
 ·have hL:(32:Int)<l.length:=by omega
  rw [show zdW a1 a8 l vs ss=errV (-1) (sentV a8) by unfold zdW; rw [zhi vs ss hl]; rfl]
  have F:=ai hL<|g8
  repeat (first | refine st ?_ | refine cC (zcy env _ a8) ?_)
  exact aR
 have hL: ¬(32:Int)<l.length:=by omega
 have F:=hL
 repeat refine st ?_
 refine zab (D:=Nat×Int) (fun d _=>[(1,I vs),(2,I ss),(7,I d.2),(16,opsAV l),(17,I l.length),(18,I d.1)]) (fun _ _=>[]) (fun d _ _=>d.1<=l.length/\hgt vs ss l 0=hgt vs ss (l.drop d.1) d.2/\0<=d.2/\d.2<=d.1) (fun d=>l.length-d.1) (0,0) ?_ ?_ ?_ ?_
 ·exact⟨Nat.zero_le _,rfl,Int.le_refl _,Int.le_refl _⟩
 ·(simp only [go_sem,F])
 ·(simp only [go_sem,F])
 rintro⟨i,n⟩ ws esc ⟨hi,hh,h0,hn⟩
 simp only at hi hh h0 hn
 by_cases hlt:i<l.length
 ·obtain⟨o,ho,_⟩:=zam hlt
  obtain⟨up,no⟩:=zld ho hh
  have k1:=nlt hlt
  have k2:=zac hlt (by omega)
  have hop:=zff o.kind
  cases hok:zec vs ss n o with
  | true=>
    obtain⟨b1,b2,b3⟩:=zik hok
    have w1:IntKind.i64.wrap (1-zaf o.kind)=1-zaf o.kind:=zbU (by omega) (by omega)
    have w2:IntKind.i64.wrap (n+(1-zaf o.kind))=n+(1-zaf o.kind):=zbU (by omega) (by omega)
    have F:=ai k1<|ai k2<|ai ho<|ai opAV.eq_1<|ai b1<|ai b2<|ai b3<|ai w1<|w2
    repeat (first | refine st ?_ | refine cC (zb3 env o.kind) ?_ | refine cC (zcR env o vs ss) ?_)
    refine⟨(i+1,n+(1-zaf o.kind)),⟨by simp only; omega, ?_,by simp only; omega,by simp only; omega⟩, ?_, ?_, ?_⟩
    ·simp only
     rw [up hok]
     congr 1
     omega
    ·(simp only [go_sem,F])
    ·(simp only [go_sem,F])
    ·simp only; omega
  | false=>
    rw [show zdW a1 a8 l vs ss=errV (-1) (sentV a1) by unfold zdW; rw [zfH hl (by rw [no hok]; simp)]; rfl]
    rcases zgS hok with b1 | ⟨b1,b2⟩ | ⟨b1,b2,b3⟩
    ·have F:=ai k1<|ai k2<|ai ho<|ai opAV.eq_1<|ai b1<|g1
     repeat (first | refine st ?_ | refine cC (zb3 env o.kind) ?_ | refine cC (zcR env o vs ss) ?_ | refine cC (zcy env _ a1) ?_)
     exact aR
    ·have F:=ai k1<|ai k2<|ai ho<|ai opAV.eq_1<|ai b1<|ai b2<|g1
     repeat (first | refine st ?_ | refine cC (zb3 env o.kind) ?_ | refine cC (zcR env o vs ss) ?_ | refine cC (zcy env _ a1) ?_)
     exact aR
    ·have F:=ai k1<|ai k2<|ai ho<|ai opAV.eq_1<|ai b1<|ai b2<|ai b3<|g1
     repeat (first | refine st ?_ | refine cC (zb3 env o.kind) ?_ | refine cC (zcR env o vs ss) ?_ | refine cC (zcy env _ a1) ?_)
     exact aR
 ·have k1: ¬(i:Int)< (l.length:Int):=by omega
  have hend:=zn2 (by omega) hh
  by_cases h1:n=1
  ·subst h1
   rw [show zdW a1 a8 l vs ss=nilE by unfold zdW; rw [zjB hl hend]; rfl]
   have F:=ai k1<|g1
   repeat (first | refine st ?_ | refine cC (zcy env _ a1) ?_)
   exact aR
  ·rw [show zdW a1 a8 l vs ss=errV (-1) (sentV a1) by unfold zdW; rw [zfH hl (by rw [hend]; simpa using h1)]; rfl]
   have k2:(n != 1)=true:=by simpa using h1
   have F:=ai k1<|ai k2<|g1
   repeat (first | refine st ?_ | refine cC (zcy env _ a1) ?_)
   exact aR
theorem zgJ (env:Env) (l:List OpD) (vs ss:Int):Con Tryz.prog env 187 [opsAV l,I vs,I ss] (I (zeZ l vs ss)):=by
 refine zaa Tryz.func187 rfl Tryz.call187 (by rw [Tryz.ntmps187]; simp) ?_
 rw [Tryz.ntmps187,Tryz.results187]
 by_cases hl:32<l.length
 ·have hL:(32:Int)<l.length:=by omega
  rw [zhi vs ss hl]
  have F:=hL
  repeat refine st ?_
  exact aR
 have hL: ¬(32:Int)<l.length:=by omega
 have F:=hL
 repeat refine st ?_
 refine zab (D:=Nat×Int) (fun d _=>[(0,opsAV l),(1,I vs),(2,I ss),(7,I d.2),(8,I d.1)]) (fun _ _=>[]) (fun d _ _=>d.1<=l.length/\hgt vs ss l 0=hgt vs ss (l.drop d.1) d.2/\0<=d.2/\d.2<=d.1) (fun d=>l.length-d.1) (0,0) ?_ ?_ ?_ ?_
 ·exact⟨Nat.zero_le _,rfl,Int.le_refl _,Int.le_refl _⟩
 ·(simp only [go_sem,F])
 ·(simp only [go_sem,F])
 rintro⟨i,n⟩ ws esc ⟨hi,hh,h0,hn⟩
 simp only at hi hh h0 hn
 by_cases hlt:i<l.length
 ·obtain⟨o,ho,_⟩:=zam hlt
  obtain⟨up,no⟩:=zld ho hh
  have k1:=nlt hlt
  have k2:=zac hlt (by omega)
  have hop:=zff o.kind
  cases hok:zec vs ss n o with
  | true=>
    obtain⟨b1,b2,b3⟩:=zik hok
    have w1:IntKind.i64.wrap (n-zaf o.kind)=n-zaf o.kind:=zbU (by omega) (by omega)
    have w2:IntKind.i64.wrap (n-zaf o.kind+1)=n-zaf o.kind+1:=zbU (by omega) (by omega)
    have F:=ai k1<|ai k2<|ai ho<|ai opAV.eq_1<|ai b1<|ai b2<|ai b3<|ai w1<|w2
    repeat (first | refine st ?_ | refine cC (zb2 env o.kind) ?_ | refine cC (zcP env o vs ss) ?_)
    refine⟨(i+1,n-zaf o.kind+1),⟨by simp only; omega,up hok,by simp only; omega,by simp only; omega⟩, ?_, ?_, ?_⟩
    ·(simp only [go_sem,F])
    ·(simp only [go_sem,F])
    ·simp only; omega
  | false=>
    rw [zfH hl (by rw [no hok]; simp)]
    rcases zgS hok with b1 | ⟨b1,b2⟩ | ⟨b1,b2,b3⟩
    ·have F:=ai k1<|ai k2<|ai ho<|ai opAV.eq_1<|b1
     repeat (first | refine st ?_ | refine cC (zb2 env o.kind) ?_ | refine cC (zcP env o vs ss) ?_)
     exact aR
    ·have F:=ai k1<|ai k2<|ai ho<|ai opAV.eq_1<|ai b1<|b2
     repeat (first | refine st ?_ | refine cC (zb2 env o.kind) ?_ | refine cC (zcP env o vs ss) ?_)
     exact aR
    ·have F:=ai k1<|ai k2<|ai ho<|ai opAV.eq_1<|ai b1<|ai b2<|b3
     repeat (first | refine st ?_ | refine cC (zb2 env o.kind) ?_ | refine cC (zcP env o vs ss) ?_)
     exact aR
 ·have k1: ¬(i:Int)< (l.length:Int):=by omega
  have hend:=zn2 (by omega) hh
  by_cases h1:n=1
  ·subst h1
   rw [zjB hl hend]
   have F:=k1
   repeat refine st ?_
   exact aR
  ·rw [zfH hl (by rw [hend]; simpa using h1)]
   have k2:(n != 1)=true:=by simpa using h1
   have F:=ai k1<|k2
   repeat refine st ?_
   exact aR
end Go.Proofs.YtlmekdfleciejaaGreatDoor
