/- Contracts of the program's checks of a state's parent and shape: by the walk without memory. -/
import Derived.Test.YtnbjaghjdeicmaaGreatDoorG10
import Derived.Test.YtnbjaghjdeicmaaGreatDoorG5
import Derived.Test.YtnbjaghjdeicmaaGreatDoorG9
set_option maxRecDepth 100000
set_option maxHeartbeats 8000000
set_option linter.unusedSimpArgs false
namespace Go.Proofs.YtnbjaghjdeicmaaGreatDoor
open Go.RowKit
section
structure ChEnv (env:Env) (a1 a8:Addr):Prop where
 e1:env 1=some (sentV a1)
 e8:env 7=some (sentV a8)
def zes (a1 a8:Addr) (l:List OpD) (vs ss:Int):AV:=if zfB l vs ss=0 then nilE else if zfB l vs ss=8 then errV (-1) (sentV a8) else errV (-1) (sentV a1)
theorem zif {l:List OpD} (vs ss:Int) (h:32<l.length):zfB l vs ss=8:=by unfold zfB; rw [if_pos h]
theorem zkx {l:List OpD} {vs ss:Int} (h: ¬32<l.length) (hh:hgt vs ss l 0=some 1):zfB l vs ss=0:=by unfold zfB; rw [if_neg h,if_pos hh]
theorem zgv {l:List OpD} {vs ss:Int} (h: ¬32<l.length) (hh:hgt vs ss l 0≠some 1):zfB l vs ss=1:=by unfold zfB; rw [if_neg h,if_neg hh]
theorem zjn {vs ss n:Int} {o:OpD} (h:zeL vs ss n o=true): ¬zaf o.kind<0/\ ¬n<zaf o.kind/\numB o vs ss=true:=by
 simp only [zeL,Bool.and_eq_true,decide_eq_true_eq] at h
 exact⟨by omega,by omega,h.2⟩
theorem zhP {vs ss n:Int} {o:OpD} (h:zeL vs ss n o=false):zaf o.kind<0\/(¬zaf o.kind<0/\n<zaf o.kind)\/(¬zaf o.kind<0/\ ¬n<zaf o.kind/\numB o vs ss=false):=by
 by_cases a:zaf o.kind<0
 ·exact .inl a
 by_cases b:n<zaf o.kind
 ·exact .inr (.inl ⟨a,b⟩)
 refine .inr (.inr ⟨a,b, ?_⟩)
 have e1:0<=zaf o.kind:=by omega
 have e2:zaf o.kind<=n:=by omega
 simpa [zeL,e1,e2] using h
theorem zhF (env:Env) (a1 a8:Addr) (he:ChEnv env a1 a8) (l:List OpD) (vs ss:Int):Con Tryz.prog env 292 [opsAV l,I vs,I ss] (zes a1 a8 l vs ss):=by
 have g1:=zhG he.e1
 have g8:=zhG he.e8
 refine zaa Tryz.func292 rfl Tryz.call292 (by rw [Tryz.ntmps292]; simp) ?_
 rw [Tryz.ntmps292,Tryz.results292]
 by_cases hl:32<l.length
 ·have hL:(32:Int)<l.length:=by omega
  rw [show zes a1 a8 l vs ss=errV (-1) (sentV a8) by unfold zes; rw [zif vs ss hl]; rfl]
  have F:=ai hL<|g8
  repeat (first | refine st ?_ | refine cC (zb5 env _ a8) ?_)
  exact aR
 have hL: ¬(32:Int)<l.length:=by omega
 have F:=hL
 repeat refine st ?_
 refine zac (D:=Nat×Int) (fun d _=>[(1,I vs),(2,I ss),(7,I d.2),(16,opsAV l),(17,I l.length),(18,I d.1)]) (fun _ _=>[]) (fun d _ _=>d.1<=l.length/\hgt vs ss l 0=hgt vs ss (l.drop d.1) d.2/\0<=d.2/\d.2<=d.1) (fun d=>l.length-d.1) (0,0) ?_ ?_ ?_ ?_
 ·exact⟨Nat.zero_le _,rfl,Int.le_refl _,Int.le_refl _⟩
 ·(simp only [go_sem,F])
 ·(simp only [go_sem,F])
 rintro⟨i,n⟩ ws esc ⟨hi,hh,h0,hn⟩
 simp only at hi hh h0 hn
 by_cases hlt:i<l.length
 ·obtain⟨o,ho,_⟩:=zap hlt
  obtain⟨up,no⟩:=zmn ho hh
  have k1:=nlt hlt
  have k2:=zab hlt (by omega)
  have hop:=zfS o.kind
  cases hok:zeL vs ss n o with
  | true=>
    obtain⟨b1,b2,b3⟩:=zjn hok
    have w1:IntKind.i64.wrap (1-zaf o.kind)=1-zaf o.kind:=zbQ (by omega) (by omega)
    have w2:IntKind.i64.wrap (n+(1-zaf o.kind))=n+(1-zaf o.kind):=zbQ (by omega) (by omega)
    have F:=ai k1<|ai k2<|ai ho<|ai opAV.eq_1<|ai b1<|ai b2<|ai b3<|ai w1<|w2
    repeat (first | refine st ?_ | refine cC (zcp env o.kind) ?_ | refine cC (zdf env o vs ss) ?_)
    refine⟨(i+1,n+(1-zaf o.kind)),⟨by simp only; omega, ?_,by simp only; omega,by simp only; omega⟩, ?_, ?_, ?_⟩
    ·simp only
     rw [up hok]
     congr 1
     omega
    ·(simp only [go_sem,F])
    ·(simp only [go_sem,F])
    ·simp only; omega
  | false=>
    rw [show zes a1 a8 l vs ss=errV (-1) (sentV a1) by unfold zes; rw [zgv hl (by rw [no hok]; simp)]; rfl]
    rcases zhP hok with b1 | ⟨b1,b2⟩ | ⟨b1,b2,b3⟩
    ·have F:=ai k1<|ai k2<|ai ho<|ai opAV.eq_1<|ai b1<|g1
     repeat (first | refine st ?_ | refine cC (zcp env o.kind) ?_ | refine cC (zdf env o vs ss) ?_ | refine cC (zb5 env _ a1) ?_)
     exact aR
    ·have F:=ai k1<|ai k2<|ai ho<|ai opAV.eq_1<|ai b1<|ai b2<|g1
     repeat (first | refine st ?_ | refine cC (zcp env o.kind) ?_ | refine cC (zdf env o vs ss) ?_ | refine cC (zb5 env _ a1) ?_)
     exact aR
    ·have F:=ai k1<|ai k2<|ai ho<|ai opAV.eq_1<|ai b1<|ai b2<|ai b3<|g1
     repeat (first | refine st ?_ | refine cC (zcp env o.kind) ?_ | refine cC (zdf env o vs ss) ?_ | refine cC (zb5 env _ a1) ?_)
     exact aR
 ·have k1: ¬(i:Int)< (l.length:Int):=by omega
  have hend:=zpn (by omega) hh
  by_cases h1:n=1
  ·subst h1
   rw [show zes a1 a8 l vs ss=nilE by unfold zes; rw [zkx hl hend]; rfl]
   have F:=ai k1<|g1
   repeat (first | refine st ?_ | refine cC (zb5 env _ a1) ?_)
   exact aR
  ·rw [show zes a1 a8 l vs ss=errV (-1) (sentV a1) by unfold zes; rw [zgv hl (by rw [hend]; simpa using h1)]; rfl]
   have k2:(n != 1)=true:=by simpa using h1
   have F:=ai k1<|ai k2<|g1
   repeat (first | refine st ?_ | refine cC (zb5 env _ a1) ?_)
   exact aR
theorem zhD (env:Env) (l:List OpD) (vs ss:Int):Con Tryz.prog env 246 [opsAV l,I vs,I ss] (I (zfB l vs ss)):=by
 refine zaa Tryz.func246 rfl Tryz.call246 (by rw [Tryz.ntmps246]; simp) ?_
 rw [Tryz.ntmps246,Tryz.results246]
 by_cases hl:32<l.length
 ·have hL:(32:Int)<l.length:=by omega
  rw [zif vs ss hl]
  have F:=hL
  repeat refine st ?_
  exact aR
 have hL: ¬(32:Int)<l.length:=by omega
 have F:=hL
 repeat refine st ?_
 refine zac (D:=Nat×Int) (fun d _=>[(0,opsAV l),(1,I vs),(2,I ss),(7,I d.2),(8,I d.1)]) (fun _ _=>[]) (fun d _ _=>d.1<=l.length/\hgt vs ss l 0=hgt vs ss (l.drop d.1) d.2/\0<=d.2/\d.2<=d.1) (fun d=>l.length-d.1) (0,0) ?_ ?_ ?_ ?_
 ·exact⟨Nat.zero_le _,rfl,Int.le_refl _,Int.le_refl _⟩
 ·(simp only [go_sem,F])
 ·(simp only [go_sem,F])
 rintro⟨i,n⟩ ws esc ⟨hi,hh,h0,hn⟩
 simp only at hi hh h0 hn
 by_cases hlt:i<l.length
 ·obtain⟨o,ho,_⟩:=zap hlt
  obtain⟨up,no⟩:=zmn ho hh
  have k1:=nlt hlt
  have k2:=zab hlt (by omega)
  have hop:=zfS o.kind
  cases hok:zeL vs ss n o with
  | true=>
    obtain⟨b1,b2,b3⟩:=zjn hok
    have w1:IntKind.i64.wrap (n-zaf o.kind)=n-zaf o.kind:=zbQ (by omega) (by omega)
    have w2:IntKind.i64.wrap (n-zaf o.kind+1)=n-zaf o.kind+1:=zbQ (by omega) (by omega)
    have F:=ai k1<|ai k2<|ai ho<|ai opAV.eq_1<|ai b1<|ai b2<|ai b3<|ai w1<|w2
    repeat (first | refine st ?_ | refine cC (zco env o.kind) ?_ | refine cC (zdd env o vs ss) ?_)
    refine⟨(i+1,n-zaf o.kind+1),⟨by simp only; omega,up hok,by simp only; omega,by simp only; omega⟩, ?_, ?_, ?_⟩
    ·(simp only [go_sem,F])
    ·(simp only [go_sem,F])
    ·simp only; omega
  | false=>
    rw [zgv hl (by rw [no hok]; simp)]
    rcases zhP hok with b1 | ⟨b1,b2⟩ | ⟨b1,b2,b3⟩
    ·have F:=ai k1<|ai k2<|ai ho<|ai opAV.eq_1<|b1
     repeat (first | refine st ?_ | refine cC (zco env o.kind) ?_ | refine cC (zdd env o vs ss) ?_)
     exact aR
    ·have F:=ai k1<|ai k2<|ai ho<|ai opAV.eq_1<|ai b1<|b2
     repeat (first | refine st ?_ | refine cC (zco env o.kind) ?_ | refine cC (zdd env o vs ss) ?_)
     exact aR
    ·have F:=ai k1<|ai k2<|ai ho<|ai opAV.eq_1<|ai b1<|ai b2<|b3
     repeat (first | refine st ?_ | refine cC (zco env o.kind) ?_ | refine cC (zdd env o vs ss) ?_)
     exact aR
 ·have k1: ¬(i:Int)< (l.length:Int):=by omega
  have hend:=zpn (by omega) hh
  by_cases h1:n=1
  ·subst h1
   rw [zkx hl hend]
   have F:=k1
   repeat refine st ?_
   exact aR
  ·rw [zgv hl (by rw [hend]; simpa using h1)]
   have k2:(n != 1)=true:=by simpa using h1
   have F:=ai k1<|k2
   repeat refine st ?_
   exact aR
end
section
def zaj (k:Nat):List AV:=[I k]
abbrev nsAV (l:List Nat):AV:= .seq 1 (l.map zaj)
def idxFrom:List Nat->Int->Nat->Int
 | [],_,_=> -1
 | x::l,v,k=>if (x:Int)=v then k else idxFrom l v (k+1)
def idxI (l:List Nat) (v:Int):Int:=idxFrom l v 0
theorem zml {l:List Nat} {v:Int} {k x:Nat} (h:l[k]? =some x) (hn:idxI l v=idxFrom (l.drop k) v k):((x:Int)=v->idxI l v=k)/\((x:Int)≠v->idxI l v=idxFrom (l.drop (k+1)) v (k+1)):=by
 have hk:k<l.length:=(List.getElem?_eq_some_iff.1 h).1
 have he:l.drop k=x::l.drop (k+1):=by
  rw [List.drop_eq_getElem_cons hk]
  congr 1
  rw [List.getElem?_eq_getElem hk] at h
  exact Option.some.inj h
 rw [he] at hn
 simp only [idxFrom] at hn
 exact⟨fun e=>by rw [hn,if_pos e],fun e=>by rw [hn,if_neg e]⟩
theorem zpj {l:List Nat} {v:Int} {k:Nat} (h:l.length<=k) (hn:idxI l v=idxFrom (l.drop k) v k):idxI l v= -1:=by
 rw [hn,List.drop_eq_nil_of_le h]
 rfl
theorem zpi (v:Int): ∀(l:List Nat) (k:Nat),decide (0<=idxFrom l v k)=inL l v
 | [],k=>rfl
 | x::l,k=>by
   have ih:=zpi v l (k+1)
   have e0:inL (x::l) v=(((x:Int)==v)||inL l v):=rfl
   rw [e0, <-ih]
   by_cases e:(x:Int)=v
   ·have e1:idxFrom (x::l) v k=k:=if_pos e
    rw [Bool.eq_iff_iff]
    simp [e1,e]
   ·have e1:idxFrom (x::l) v k=idxFrom l v (k+1):=if_neg e
    rw [Bool.eq_iff_iff]
    simp [e1,e]
theorem zph (env:Env) (l:List Nat) (v:Int) (hl:l.length<=1000000):Con Tryz.prog env 149 [nsAV l,I v] (I (idxI l v)):=by
 refine zaa Tryz.func149 rfl Tryz.call149 (by rw [Tryz.ntmps149]; simp) ?_
 rw [Tryz.ntmps149,Tryz.results149]
 repeat refine st0 ?_
 refine zac (D:=Nat) (fun k _=>[(0,nsAV l),(1,I v),(7,I l.length),(8,I k)]) (fun _ _=>[]) (fun k _ _=>k<=l.length/\idxI l v=idxFrom (l.drop k) v k) (fun k=>l.length-k) 0 ?_ ?_ ?_ ?_
 ·exact⟨Nat.zero_le _,rfl⟩
 ·(simp only [go_sem])
 ·(simp only [go_sem])
 rintro k ws esc ⟨hk,hi⟩
 by_cases hlt:k<l.length
 ·obtain⟨x,hx,_⟩:=zap hlt
  obtain⟨yes,no⟩:=zml hx hi
  have k1:=nlt hlt
  have k2:=zab hlt (by omega)
  by_cases e:(x:Int)=v
  ·rw [yes e]
   have k3:(v==(x:Int))=true:=by simp [e]
   have F:=ai k1<|ai k2<|ai k3<|ai hx<|zaj.eq_1
   repeat refine st ?_
   exact aR
  ·have k3:(v==(x:Int))=false:=by simpa using fun h=>e h.symm
   have F:=ai k1<|ai k2<|ai k3<|ai hx<|zaj.eq_1
   repeat refine st ?_
   refine⟨k+1,⟨hlt,no e⟩, ?_, ?_, ?_⟩
   ·(simp only [go_sem,F])
   ·(simp only [go_sem,F])
   ·omega
 ·have k1: ¬(k:Int)< (l.length:Int):=by omega
  rw [zpj (by omega) hi]
  have F:=k1
  repeat refine st ?_
  exact aR
theorem zgh (env:Env) (l:List Nat) (v:Int) (hl:l.length<=1000000):Con Tryz.prog env 72 [nsAV l,I v] (B (inL l v)):=by
 have h:=zpi v l 0
 refine zaa Tryz.func72 rfl Tryz.call72 (by rw [Tryz.ntmps72]; simp) ?_
 rw [Tryz.ntmps72,Tryz.results72]
 repeat (first | refine st0 ?_ | refine cC0 (zph env l v hl) ?_)
 (refine zah ?_; show (zaG _ _ _).run _=some _; simp only [go_sem])
 exact congrArg B h
theorem zle (env:Env) (l:List Nat) (v:Int) (hl:l.length<=1000000):Con Tryz.prog env 27 [nsAV l,I v] (B (inL l v)):=by
 rw [<-zpi v l 0,show idxFrom l v 0=idxI l v from rfl]
 refine zaa Tryz.func27 rfl Tryz.call27 (by rw [Tryz.ntmps27]; simp) ?_
 rw [Tryz.ntmps27,Tryz.results27]
 repeat refine st0 ?_
 refine zac (D:=Nat) (fun k _=>[(0,nsAV l),(1,I v),(5,I k)]) (fun _ _=>[]) (fun k _ _=>k<=l.length/\idxI l v=idxFrom (l.drop k) v k) (fun k=>l.length-k) 0 ?_ ?_ ?_ ?_
 ·exact⟨Nat.zero_le _,rfl⟩
 ·(simp only [go_sem])
 ·(simp only [go_sem])
 rintro k ws esc ⟨hk,hi⟩
 by_cases hlt:k<l.length
 ·obtain⟨x,hx,_⟩:=zap hlt
  obtain⟨yes,no⟩:=zml hx hi
  have k1:=nlt hlt
  have k2:=zab hlt (by omega)
  by_cases e:(x:Int)=v
  ·rw [yes e,decide_eq_true (Int.natCast_nonneg k)]
   have k3:((x:Int)==v)=true:=by simp [e]
   have F:=ai k1<|ai k2<|ai k3<|ai hx<|zaj.eq_1
   repeat refine st ?_
   exact aR
  ·have k3:((x:Int)==v)=false:=by simpa using e
   have F:=ai k1<|ai k2<|ai k3<|ai hx<|zaj.eq_1
   repeat refine st ?_
   refine⟨k+1,⟨hlt,no e⟩, ?_, ?_, ?_⟩
   ·(simp only [go_sem,F])
   ·(simp only [go_sem,F])
   ·omega
 ·have k1: ¬(k:Int)< (l.length:Int):=by omega
  rw [zpj (by omega) hi]
  have F:=k1
  repeat refine st ?_
  exact aR
/-! Kids -/
theorem ziU {c:ChD} {k:Nat} {s:StD} (hs:c.states[k]? =some s) (i:Int) (real:Bool):zcW c i real k=((s.parent==i)&&(!real|| !zbh s)):=by unfold zcW; rw [hs]
theorem ze2 {c:ChD} {i:Int} {real:Bool} {k:Nat} (h:zcW c i real k=true):(zbl c i real (k+1)).map zaj=(zbl c i real k).map zaj++[[I k]]:=by
 rw [zg8,h,if_pos rfl,List.map_append]
 rfl
theorem zdV {c:ChD} {i:Int} {real:Bool} {k:Nat} (h:zcW c i real k=false):(zbl c i real (k+1)).map zaj=(zbl c i real k).map zaj:=by
 rw [zg8,h]
 simp
theorem zdO (env:Env) (c:ChD) (i:Int) (hc:c.states.length<=1000000):Con Tryz.prog env 124 [.agg (chAV c),I i] (.own 3 1 ((kidsL c i true).map zaj)):=by
 refine zaa Tryz.func124 rfl Tryz.call124 (by rw [Tryz.ntmps124]; simp) ?_
 rw [Tryz.ntmps124,Tryz.results124]
 have F:=chAV.eq_1
 repeat refine st ?_
 refine zcu 5 5 3 1 ?_
 refine zac (D:=Nat) (fun k vs=>[(1,I i),(5, .row 5 (vs 5)),(9,stsAV c.states),(10,I c.states.length),(11,I k)]) (fun k _=>[(5,⟨1,(zbl c i true k).map zaj,3,true⟩)]) (fun k _ esc=>k<=c.states.length/\esc 5=false) (fun k=>c.states.length-k) 0 ?_ ?_ ?_ ?_
 ·exact⟨Nat.zero_le _,rfl⟩
 ·(simp only [go_sem,F])
 ·(simp only [go_sem,F])
  simp [zbl]
 rintro k ws esc ⟨hk,he⟩
 by_cases hlt:k<c.states.length
 ·obtain⟨s,hs,_⟩:=zap hlt
  have k1:=nlt hlt
  have k2:=zab hlt (by omega)
  have hkid:=ziU hs i true
  have hlen:=zbd c i true k
  have hf:Fits ((zbl c i true k).length+1) 8:=⟨by omega,by omega⟩
  cases h1:(s.parent==i) with
  | false=>
    have hsame:=zdV (show zcW c i true k=false by rw [hkid,h1]; rfl)
    have F:=ai k1<|ai k2<|ai hs<|ai stAV.eq_1<|h1
    repeat (first | refine st ?_ | refine cC (zdP env s) ?_)
    refine⟨k+1,⟨hlt,by simp only [go_sem,he]⟩, ?_, ?_, ?_⟩
    ·(simp only [go_sem,F])
    ·have F:=ai k1<|ai k2<|ai hs<|ai stAV.eq_1<|ai h1<|hsame
     (simp only [go_sem,F])
    ·omega
  | true=>
    cases h2:zbh s with
    | true=>
      have hsame:=zdV (show zcW c i true k=false by rw [hkid,h1,h2]; rfl)
      have F:=ai k1<|ai k2<|ai hs<|ai stAV.eq_1<|ai h1<|h2
      repeat (first | refine st ?_ | refine cC (zdP env s) ?_)
      refine⟨k+1,⟨hlt,by simp only [go_sem,he]⟩, ?_, ?_, ?_⟩
      ·(simp only [go_sem,F])
      ·have F:=ai k1<|ai k2<|ai hs<|ai stAV.eq_1<|ai h1<|ai h2<|hsame
       (simp only [go_sem,F])
      ·omega
    | false=>
      have hmore:=ze2 (show zcW c i true k=true by rw [hkid,h1,h2]; rfl)
      have F:=ai k1<|ai k2<|ai hs<|ai stAV.eq_1<|ai h1<|ai h2<|hf
      repeat (first | refine st ?_ | refine cC (zdP env s) ?_)
      refine⟨k+1,⟨hlt,by simp only [go_sem,he]⟩, ?_, ?_, ?_⟩
      ·(simp only [go_sem,F])
      ·have F:=ai k1<|ai k2<|ai hs<|ai stAV.eq_1<|ai h1<|ai h2<|hmore
       (simp only [go_sem,F])
      ·omega
 ·have k1: ¬(k:Int)< (c.states.length:Int):=by omega
  obtain rfl:k=c.states.length:=by omega
  have F:=ai k1<|he
  repeat refine st ?_
  (refine zah ?_; show (zaG _ _ _).run _=some _; simp only [go_sem,F])
  rfl
theorem zjH (env:Env) (c:ChD) (i:Int) (hc:c.states.length<=1000000):Con Tryz.prog env 206 [.agg (chAV c),I i] (.own 3 1 ((kidsL c i false).map zaj)):=by
 refine zaa Tryz.func206 rfl Tryz.call206 (by rw [Tryz.ntmps206]; simp) ?_
 rw [Tryz.ntmps206,Tryz.results206]
 have F:=chAV.eq_1
 repeat refine st ?_
 refine zcu 5 5 3 1 ?_
 refine zac (D:=Nat) (fun k vs=>[(1,I i),(5, .row 5 (vs 5)),(9,stsAV c.states),(10,I c.states.length),(11,I k)]) (fun k _=>[(5,⟨1,(zbl c i false k).map zaj,3,true⟩)]) (fun k _ esc=>k<=c.states.length/\esc 5=false) (fun k=>c.states.length-k) 0 ?_ ?_ ?_ ?_
 ·exact⟨Nat.zero_le _,rfl⟩
 ·(simp only [go_sem,F])
 ·(simp only [go_sem,F])
  simp [zbl]
 rintro k ws esc ⟨hk,he⟩
 by_cases hlt:k<c.states.length
 ·obtain⟨s,hs,_⟩:=zap hlt
  have k1:=nlt hlt
  have k2:=zab hlt (by omega)
  have hkid:=ziU hs i false
  have hlen:=zbd c i false k
  have hf:Fits ((zbl c i false k).length+1) 8:=⟨by omega,by omega⟩
  cases h1:(s.parent==i) with
  | false=>
    have hsame:=zdV (show zcW c i false k=false by rw [hkid,h1]; rfl)
    have F:=ai k1<|ai k2<|ai hs<|ai stAV.eq_1<|h1
    repeat refine st ?_
    refine⟨k+1,⟨hlt,by simp only [go_sem,he]⟩, ?_, ?_, ?_⟩
    ·(simp only [go_sem,F])
    ·have F:=ai k1<|ai k2<|ai hs<|ai stAV.eq_1<|ai h1<|hsame
     (simp only [go_sem,F])
    ·omega
  | true=>
    have hmore:=ze2 (show zcW c i false k=true by rw [hkid,h1]; rfl)
    have F:=ai k1<|ai k2<|ai hs<|ai stAV.eq_1<|ai h1<|hf
    repeat refine st ?_
    refine⟨k+1,⟨hlt,by simp only [go_sem,he]⟩, ?_, ?_, ?_⟩
    ·(simp only [go_sem,F])
    ·have F:=ai k1<|ai k2<|ai hs<|ai stAV.eq_1<|ai h1<|hmore
     (simp only [go_sem,F])
    ·omega
 ·have k1: ¬(k:Int)< (c.states.length:Int):=by omega
  obtain rfl:k=c.states.length:=by omega
  have F:=ai k1<|he
  repeat refine st ?_
  (refine zah ?_; show (zaG _ _ _).run _=some _; simp only [go_sem,F])
  rfl
theorem zbS (env:Env) (c:ChD) (i:Int) (real:Bool) (hc:c.states.length<=1000000):Con Tryz.prog env 154 [.agg (chAV c),I i,B real] (.own 3 1 ((kidsL c i real).map zaj)):=by
 refine zaa Tryz.func154 rfl Tryz.call154 (by rw [Tryz.ntmps154]; simp) ?_
 rw [Tryz.ntmps154,Tryz.results154]
 have F:=chAV.eq_1
 repeat refine st ?_
 refine zac (D:=Nat) (fun k vs=>[(1,I i),(2,B real),(3, .loc 3 (vs 3) 0 0),(7, .row 9 (vs 9)),(8,I k)]) (fun k _=>[(3,⟨5,[chAV c],26,false⟩),(9,⟨1,(zbl c i real k).map zaj,3,true⟩)]) (fun k _ esc=>k<=c.states.length/\esc 9=false) (fun k=>c.states.length-k) 0 ?_ ?_ ?_ ?_
 ·exact⟨Nat.zero_le _,rfl⟩
 ·(simp only [go_sem,F])
 ·(simp only [go_sem,F])
  simp [zbl]
 rintro k ws esc ⟨hk,he⟩
 by_cases hlt:k<c.states.length
 ·obtain⟨s,hs,_⟩:=zap hlt
  have k1:=nlt hlt
  have k2:=zab hlt (by omega)
  have hkid:=ziU hs i real
  have hlen:=zbd c i real k
  have hf:Fits ((zbl c i real k).length+1) 8:=⟨by omega,by omega⟩
  cases h1:(s.parent==i) with
  | false=>
    have hsame:=zdV (show zcW c i real k=false by rw [hkid,h1]; rfl)
    have F:=ai chAV.eq_1<|ai k1<|ai k2<|ai hs<|ai stAV.eq_1<|h1
    repeat (first | refine st ?_ | refine cC (zbi env s) ?_)
    refine⟨k+1,⟨hlt,by simp only [go_sem,he]⟩, ?_, ?_, ?_⟩
    ·(simp only [go_sem,F])
    ·have F:=ai chAV.eq_1<|ai k1<|ai k2<|ai hs<|ai stAV.eq_1<|ai h1<|hsame
     (simp only [go_sem,F])
    ·omega
  | true=>
    cases real with
    | false=>
      have hmore:=ze2 (show zcW c i false k=true by rw [hkid,h1]; rfl)
      have F:=ai chAV.eq_1<|ai k1<|ai k2<|ai hs<|ai stAV.eq_1<|ai h1<|hf
      repeat (first | refine st ?_ | refine cC (zbi env s) ?_)
      refine⟨k+1,⟨hlt,by simp only [go_sem,he]⟩, ?_, ?_, ?_⟩
      ·(simp only [go_sem,F])
      ·have F:=ai chAV.eq_1<|ai k1<|ai k2<|ai hs<|ai stAV.eq_1<|ai h1<|hmore
       (simp only [go_sem,F])
      ·omega
    | true=>
      cases h2:zbh s with
      | true=>
        have hsame:=zdV (show zcW c i true k=false by rw [hkid,h1,h2]; rfl)
        have F:=ai chAV.eq_1<|ai k1<|ai k2<|ai hs<|ai stAV.eq_1<|ai h1<|h2
        repeat (first | refine st ?_ | refine cC (zbi env s) ?_)
        refine⟨k+1,⟨hlt,by simp only [go_sem,he]⟩, ?_, ?_, ?_⟩
        ·(simp only [go_sem,F])
        ·have F:=ai chAV.eq_1<|ai k1<|ai k2<|ai hs<|ai stAV.eq_1<|ai h1<|ai h2<|hsame
         (simp only [go_sem,F])
        ·omega
      | false=>
        have hmore:=ze2 (show zcW c i true k=true by rw [hkid,h1,h2]; rfl)
        have F:=ai chAV.eq_1<|ai k1<|ai k2<|ai hs<|ai stAV.eq_1<|ai h1<|ai h2<|hf
        repeat (first | refine st ?_ | refine cC (zbi env s) ?_)
        refine⟨k+1,⟨hlt,by simp only [go_sem,he]⟩, ?_, ?_, ?_⟩
        ·(simp only [go_sem,F])
        ·have F:=ai chAV.eq_1<|ai k1<|ai k2<|ai hs<|ai stAV.eq_1<|ai h1<|ai h2<|hmore
         (simp only [go_sem,F])
        ·omega
 ·have k1: ¬(k:Int)< (c.states.length:Int):=by omega
  obtain rfl:k=c.states.length:=by omega
  have F:=ai chAV.eq_1<|ai k1<|he
  repeat refine st ?_
  (refine zah ?_; show (zaG _ _ _).run _=some _; simp only [go_sem,F])
  rfl
/-! The state of a name -/
theorem zoT (env:Env) (c:ChD) (name:List UInt8) (hc:c.states.length<=1000000):Con Tryz.prog env 250 [.agg (chAV c),Sg name] (I (zhJ c name)):=by
 refine zaa Tryz.func250 rfl Tryz.call250 (by rw [Tryz.ntmps250]; simp) ?_
 rw [Tryz.ntmps250,Tryz.results250]
 have F:=chAV.eq_1
 repeat refine st ?_
 refine zac (D:=Nat) (fun k _=>[(1,Sg name),(8,stsAV c.states),(9,I c.states.length),(10,I k)]) (fun _ _=>[]) (fun k _ _=>k<=c.states.length/\zcF c name k= -1) (fun k=>c.states.length-k) 0 ?_ ?_ ?_ ?_
 ·exact⟨Nat.zero_le _,rfl⟩
 ·(simp only [go_sem,F])
 ·(simp only [go_sem,F])
 rintro k ws esc ⟨hk,hf⟩
 by_cases hlt:k<c.states.length
 ·obtain⟨s,hs,_⟩:=zap hlt
  have k1:=nlt hlt
  have k2:=zab hlt (by omega)
  cases h1:(s.name==name) with
  | true=>
    rw [zke c name hlt hf s hs (by simpa using h1)]
    have F:=ai k1<|ai k2<|ai hs<|ai stAV.eq_1<|h1
    repeat refine st ?_
    exact aR
  | false=>
    have F:=ai k1<|ai k2<|ai hs<|ai stAV.eq_1<|h1
    repeat refine st ?_
    refine⟨k+1,⟨hlt,zhh c name hf s hs (by simpa using h1)⟩, ?_, ?_, ?_⟩
    ·(simp only [go_sem,F])
    ·(simp only [go_sem,F])
    ·omega
 ·have k1: ¬(k:Int)< (c.states.length:Int):=by omega
  obtain rfl:k=c.states.length:=by omega
  rw [show zhJ c name= -1 from hf]
  have F:=k1
  repeat refine st ?_
  exact aR
theorem zjC (env:Env) (c:ChD) (name:List UInt8) (hc:c.states.length<=1000000):Con Tryz.prog env 187 [.agg (chAV c),Sg name] (I (zhJ c name)):=by
 refine zaa Tryz.func187 rfl Tryz.call187 (by rw [Tryz.ntmps187]; simp) ?_
 rw [Tryz.ntmps187,Tryz.results187]
 have F:=chAV.eq_1
 repeat refine st ?_
 refine zac (D:=Nat) (fun k vs=>[(1,Sg name),(2, .loc 2 (vs 2) 0 0),(5,I k)]) (fun _ _=>[(2,⟨5,[chAV c],26,false⟩)]) (fun k _ _=>k<=c.states.length/\zcF c name k= -1) (fun k=>c.states.length-k) 0 ?_ ?_ ?_ ?_
 ·exact⟨Nat.zero_le _,rfl⟩
 ·(simp only [go_sem,F])
 ·(simp only [go_sem,F])
 rintro k ws esc ⟨hk,hf⟩
 by_cases hlt:k<c.states.length
 ·obtain⟨s,hs,_⟩:=zap hlt
  have k1:=nlt hlt
  have k2:=zab hlt (by omega)
  cases h1:(s.name==name) with
  | true=>
    rw [zke c name hlt hf s hs (by simpa using h1)]
    have F:=ai chAV.eq_1<|ai k1<|ai k2<|ai hs<|ai stAV.eq_1<|h1
    repeat refine st ?_
    exact aR
  | false=>
    have F:=ai chAV.eq_1<|ai k1<|ai k2<|ai hs<|ai stAV.eq_1<|h1
    repeat refine st ?_
    refine⟨k+1,⟨hlt,zhh c name hf s hs (by simpa using h1)⟩, ?_, ?_, ?_⟩
    ·(simp only [go_sem,F])
    ·(simp only [go_sem,F])
    ·omega
 ·have k1: ¬(k:Int)< (c.states.length:Int):=by omega
  obtain rfl:k=c.states.length:=by omega
  rw [show zhJ c name= -1 from hf]
  have F:=ai chAV.eq_1<|k1
  repeat refine st ?_
  exact aR
end
section
theorem zjJ (env:Env) (a1 a8:Addr) (he:ChEnv env a1 a8) (c:ChD) (l:List OpD):Con Tryz.prog env 254 [.agg (chAV c),opsAV l] (B (za0 l c.vars.length c.states.length)):=by
 have hx:=zhF env a1 a8 he l c.vars.length c.states.length
 unfold zes at hx
 refine zaa Tryz.func254 rfl Tryz.call254 (by rw [Tryz.ntmps254]; simp) ?_
 rw [Tryz.ntmps254,Tryz.results254]
 by_cases h0:zfB l c.vars.length c.states.length=0
 ·rw [if_pos h0] at hx
  rw [show za0 l c.vars.length c.states.length=true by simp [za0,h0]]
  have F:=chAV.eq_1
  repeat (first | refine st ?_ | refine cC hx ?_)
  exact aR
 ·rw [if_neg h0] at hx
  rw [show za0 l c.vars.length c.states.length=false by simp [za0,h0]]
  by_cases h8:zfB l c.vars.length c.states.length=8
  ·rw [if_pos h8] at hx
   have F:=chAV.eq_1
   repeat (first | refine st ?_ | refine cC hx ?_)
   exact aR
  ·rw [if_neg h8] at hx
   have F:=chAV.eq_1
   repeat (first | refine st ?_ | refine cC hx ?_)
   exact aR
theorem zbk {a b:Int} (h:a≠b):(a==b)=false:=by simpa using h
theorem zqQ (env:Env) (a1 a8:Addr) (he:ChEnv env a1 a8) (c:ChD) (a:ActD) (ha:a.name.length<=9223372036854775807):Con Tryz.prog env 291 [.agg (chAV c), .agg (zaO a)] (B (actB c.vars.length c.states.length a)):=by
 obtain⟨k,n,m,co⟩:=a
 have hcode:=zjJ env a1 a8 he c co
 have hname:=zbD env m ha
 refine zaa Tryz.func291 rfl Tryz.call291 (by rw [Tryz.ntmps291]; simp) ?_
 rw [Tryz.ntmps291,Tryz.results291]
 by_cases hk1:k=1
 ·subst hk1
  have hr:actB c.vars.length c.states.length ⟨1,n,m,co⟩=(decide (0<=n/\n<c.vars.length)&&(m == [])&&za0 co c.vars.length c.states.length):=rfl
  by_cases h1:0<=n
  ·by_cases h2:n< (c.vars.length:Int)
   ·cases h3:(m == [])
    ·rw [show actB c.vars.length c.states.length ⟨1,n,m,co⟩=false by rw [hr,h3]; simp]
     have F:=ai chAV.eq_1<|ai zaO.eq_1<|ai h1<|ai h2<|h3
     repeat (first | refine st ?_ | refine cC hcode ?_)
     exact aR
    ·rw [show actB c.vars.length c.states.length ⟨1,n,m,co⟩=za0 co c.vars.length c.states.length by rw [hr,h3]; simp [h1,h2]]
     have F:=ai chAV.eq_1<|ai zaO.eq_1<|ai h1<|ai h2<|h3
     repeat (first | refine st ?_ | refine cC hcode ?_)
     exact aR
   ·rw [show actB c.vars.length c.states.length ⟨1,n,m,co⟩=false by rw [hr]; simp [h2]]
    have F:=ai chAV.eq_1<|ai zaO.eq_1<|ai h1<|h2
    repeat (first | refine st ?_ | refine cC hcode ?_)
    exact aR
  ·rw [show actB c.vars.length c.states.length ⟨1,n,m,co⟩=false by rw [hr]; simp [h1]]
   have F:=ai chAV.eq_1<|ai zaO.eq_1<|h1
   repeat (first | refine st ?_ | refine cC hcode ?_)
   exact aR
 by_cases hk24:k=2\/k=4
 ·have hr:actB c.vars.length c.states.length ⟨k,n,m,co⟩=((n==0)&&zaC m&&za0 co c.vars.length c.states.length):=by unfold actB; rw [if_neg hk1,if_pos hk24]
  rw [hr]
  rcases hk24 with rfl | rfl
  ·cases h1:(n==0)
   ·have F:=ai chAV.eq_1<|ai zaO.eq_1<|h1
    repeat (first | refine st ?_ | refine cC hcode ?_ | refine cC hname ?_)
    exact aR
   ·cases h2:zaC m
    ·have F:=ai chAV.eq_1<|ai zaO.eq_1<|ai h1<|h2
     repeat (first | refine st ?_ | refine cC hcode ?_ | refine cC hname ?_)
     exact aR
    ·have F:=ai chAV.eq_1<|ai zaO.eq_1<|ai h1<|h2
     repeat (first | refine st ?_ | refine cC hcode ?_ | refine cC hname ?_)
     exact aR
  ·cases h1:(n==0)
   ·have F:=ai chAV.eq_1<|ai zaO.eq_1<|h1
    repeat (first | refine st ?_ | refine cC hcode ?_ | refine cC hname ?_)
    exact aR
   ·cases h2:zaC m
    ·have F:=ai chAV.eq_1<|ai zaO.eq_1<|ai h1<|h2
     repeat (first | refine st ?_ | refine cC hcode ?_ | refine cC hname ?_)
     exact aR
    ·have F:=ai chAV.eq_1<|ai zaO.eq_1<|ai h1<|h2
     repeat (first | refine st ?_ | refine cC hcode ?_ | refine cC hname ?_)
     exact aR
 by_cases hk3:k=3
 ·subst hk3
  have hr:actB c.vars.length c.states.length ⟨3,n,m,co⟩=((n==0)&&(m == [])&&za0 co c.vars.length c.states.length):=rfl
  rw [hr]
  cases h1:(n==0)
  ·have F:=ai chAV.eq_1<|ai zaO.eq_1<|h1
   repeat (first | refine st ?_ | refine cC hcode ?_ | refine cC hname ?_)
   exact aR
  ·cases h2:(m == [])
   ·have F:=ai chAV.eq_1<|ai zaO.eq_1<|ai h1<|h2
    repeat (first | refine st ?_ | refine cC hcode ?_ | refine cC hname ?_)
    exact aR
   ·have F:=ai chAV.eq_1<|ai zaO.eq_1<|ai h1<|h2
    repeat (first | refine st ?_ | refine cC hcode ?_ | refine cC hname ?_)
    exact aR
 by_cases hk5:k=5
 ·subst hk5
  have hr:actB c.vars.length c.states.length ⟨5,n,m,co⟩=((n==0)&&zaC m&&(co == [])):=rfl
  rw [hr]
  have h3:((co.length:Int)==0)=(co == []):=by
   rw [Bool.eq_iff_iff]
   simp
  cases h1:(n==0)
  ·have F:=ai chAV.eq_1<|ai zaO.eq_1<|h1
   repeat (first | refine st ?_ | refine cC hcode ?_ | refine cC hname ?_)
   exact aR
  ·cases h2:zaC m
   ·have F:=ai chAV.eq_1<|ai zaO.eq_1<|ai h1<|h2
    repeat (first | refine st ?_ | refine cC hcode ?_ | refine cC hname ?_)
    exact aR
   ·have F:=ai chAV.eq_1<|ai zaO.eq_1<|ai h1<|ai h2<|h3
    repeat (first | refine st ?_ | refine cC hcode ?_ | refine cC hname ?_)
    exact aR
 have hr:actB c.vars.length c.states.length ⟨k,n,m,co⟩=false:=by unfold actB; rw [if_neg hk1,if_neg hk24,if_neg hk3,if_neg hk5]
 have b1:=zbk hk1
 have b2:=zbk (fun h=>hk24 (.inl h))
 have b4:=zbk (fun h=>hk24 (.inr h))
 have b3:=zbk hk3
 have b5:=zbk hk5
 rw [hr]
 have F:=ai chAV.eq_1<|ai zaO.eq_1<|ai b1<|ai b2<|ai b3<|ai b4<|b5
 repeat refine st ?_
 exact aR
theorem zbV {α:Type} {l:List α} {p:α->Bool} {i:Nat} {x:α} (h:(l.take i).all p=true) (hx:l[i]? =some x) (hp:p x=true):(l.take (i+1)).all p=true:=by
 obtain⟨h1,h2⟩:=List.getElem?_eq_some_iff.1 hx
 rw [List.take_succ_eq_append_getElem h1,List.all_append,h,h2]
 simp [hp]
theorem zfH {α:Type} {l:List α} {p:α->Bool} {i:Nat} {x:α} (hx:l[i]? =some x) (hp:p x=false):l.all p=false:=by
 rw [Bool.eq_false_iff]
 intro h
 rw [List.all_eq_true] at h
 rw [h _ (List.mem_of_getElem? hx)] at hp
 cases hp
theorem zje {α:Type} {l:List α} {p:α->Bool} {i:Nat} (h:(l.take i).all p=true) (hi:l.length<=i):l.all p=true:=by
 rwa [List.take_of_length_le hi] at h
theorem zg3 (env:Env) (a1 a8:Addr) (he:ChEnv env a1 a8) (c:ChD) (l:List ActD) (hl:l.length<=9223372036854775807) (ha: ∀a∈l,a.name.length<=9223372036854775807):Con Tryz.prog env 253 [.agg (chAV c),actsAV l] (B (zbY c.vars.length c.states.length l)):=by
 refine zaa Tryz.func253 rfl Tryz.call253 (by rw [Tryz.ntmps253]; simp) ?_
 rw [Tryz.ntmps253,Tryz.results253]
 have F:=chAV.eq_1
 repeat refine st ?_
 refine zac (D:=Nat) (fun k vs=>[(1,actsAV l),(2, .loc 2 (vs 2) 0 0),(7,actsAV l),(8,I l.length),(9,I k)]) (fun _ _=>[(2,⟨5,[chAV c],26,false⟩)]) (fun k _ _=>k<=l.length/\(l.take k).all (actB c.vars.length c.states.length)=true) (fun k=>l.length-k) 0 ?_ ?_ ?_ ?_
 ·exact⟨Nat.zero_le _,rfl⟩
 ·(simp only [go_sem,F])
 ·(simp only [go_sem,F])
 rintro k ws esc ⟨hk,hall⟩
 by_cases hlt:k<l.length
 ·obtain⟨a,hx,hm⟩:=zap hlt
  have k1:=nlt hlt
  have k2:=zab hlt hl
  have hact:=zqQ env a1 a8 he c a (ha a hm)
  cases h1:actB c.vars.length c.states.length a with
  | true=>
    have F:=ai chAV.eq_1<|ai k1<|ai k2<|ai hx<|ai zaO.eq_1<|h1
    repeat (first | refine st ?_ | refine cC hact ?_)
    refine⟨k+1,⟨hlt,zbV hall hx h1⟩, ?_, ?_, ?_⟩
    ·(simp only [go_sem,F])
    ·(simp only [go_sem,F])
    ·omega
  | false=>
    rw [show zbY c.vars.length c.states.length l=false by unfold zbY; rw [zfH hx h1]; simp]
    have F:=ai chAV.eq_1<|ai k1<|ai k2<|ai hx<|ai zaO.eq_1<|h1
    repeat (first | refine st ?_ | refine cC hact ?_)
    exact aR
 ·have k1: ¬(k:Int)< (l.length:Int):=by omega
  have h3:decide ((l.length:Int)<=32)=decide (l.length<=32):=by rw [Bool.eq_iff_iff]; simp; omega
  rw [show zbY c.vars.length c.states.length l=decide (l.length<=32) by unfold zbY; rw [zje hall (by omega)]; simp]
  have F:=ai chAV.eq_1<|k1
  repeat refine st ?_
  (refine zah ?_; show (zaG _ _ _).run _=some _; simp only [go_sem,F])
  exact congrArg B h3
end
section
theorem zlj (env:Env) (c:ChD) (i:Int):Con Tryz.prog env 201 [.agg (chAV c),I i] (B (decide (0<=i)&&decide (i<c.states.length))):=by
 refine zaa Tryz.func201 rfl Tryz.call201 (by rw [Tryz.ntmps201]; simp) ?_
 rw [Tryz.ntmps201,Tryz.results201]
 by_cases h1:0<=i<;>by_cases h2:i< (c.states.length:Int)<;>
 ·have F:=ai chAV.eq_1<|ai h1<|h2
  repeat refine st ?_
  exact aR
theorem Str.ifl (t:TypeId) (v:Value):Str (.lit (.iface t v)) (.iface t (.lit v)):=fun S w u h=>by
 obtain rfl:=h.lit_inv
 exact .iface t v (.lit v) (.lit v)
theorem Str.lfi (t:TypeId) (v:Value):Str (.iface t (.lit v)) (.lit (.iface t v)):=fun S w u h=>by
 cases h with
 | iface _ v' _ h=>
   obtain rfl:=h.lit_inv
   exact .lit _
theorem zfb (s p:AV) (q:Int) (hp:p=I q) (e e':AV) (he:Str e' e):RStr (.iface 159 (.ref 3 [[s,p,e']] 0 0)) (errV q e):=by
 subst hp
 exact .of (.iface (.ref1 (cs:=[.any,I q,e]) (.cons (.any _) (.cons (.refl _) (.cons he .nil))))) (fun _ _ _ h=>by cases h) (fun _ _ _ h=>by cases h)
theorem zpF (env:Env) (s:List UInt8) (p:Int) (a:Addr) (hp: -1<=p):Con Tryz.prog env 227 [Sg s,I p,sentV a] (errV p (sentV a)):=by
 refine Con.args (cs:=[Sg s,I p, .iface 379 (.lit (.pointer (some a)))]) ?_ (.cons (.refl _) (.cons (.refl _) (.cons (.ifl _ _) .nil)))
 have h1: ¬p< -1:=by omega
 refine zaK Tryz.func227 rfl Tryz.call227 (by rw [Tryz.ntmps227]; simp) ?_
 rw [Tryz.ntmps227,Tryz.results227]
 have F:=h1
 repeat refine st ?_
 (refine zah ?_; refine⟨_,(by show (zaG _ _ _).run _=some _; simp only [go_sem,F]; rfl), ?_⟩)
 exact zfb _ _ _ rfl _ _ (.lfi _ _)
theorem zgq (env:Env) (a1 a8:Addr) (he:ChEnv env a1 a8) (p:Int) (hp: -1<=p):Con Tryz.prog env 198 [I p] (errV p (sentV a1)):=by
 have g1:=zhG he.e1
 refine zaa Tryz.func198 rfl Tryz.call198 (by rw [Tryz.ntmps198]; simp) ?_
 rw [Tryz.ntmps198,Tryz.results198]
 have F:=g1
 repeat (first | refine st ?_ | refine cC (zpF env _ p a1 hp) ?_)
 exact aR
theorem zed {c:ChD} {m:Nat} {q:StD} (h:c.states[m]? =some q):zaM c (m:Int)=zcq q:=by unfold zaM; rw [zce,h]
theorem zeq {n:Int} (h:0<=n): ∃m:Nat,n=m:=⟨n.toNat,by omega⟩
theorem zli (env:Env) (c:ChD) (i:Nat) (s:StD) (hs:c.states[i]? =some s):Con Tryz.prog env 251 [.agg (chAV c),I i] (B (zaV c i s)):=by
 have hi:i<c.states.length:=(List.getElem?_eq_some_iff.1 hs).1
 have k0:=nlt hi
 refine zaa Tryz.func251 rfl Tryz.call251 (by rw [Tryz.ntmps251]; simp) ?_
 rw [Tryz.ntmps251,Tryz.results251]
 cases h1:(s.parent == -1)
 ·by_cases h2:0<=s.parent
  ·obtain⟨m,hm⟩:=zeq h2
   by_cases h3:(m:Int)< (i:Int)
   ·have hml:m<c.states.length:=by omega
    obtain⟨q,hq,_⟩:=zap hml
    have k3:=nlt hml
    have h1':((m:Int) == -1)=false:=by rw [<-hm]; exact h1
    rw [show zaV c i s=zcq q by unfold zaV; rw [hm,zed hq,h1']; simp [h3]]
    have F:=ai chAV.eq_1<|ai k0<|ai hs<|ai stAV.eq_1<|ai hm<|ai h1'<|ai h3<|ai k3<|hq
    repeat (first | refine st ?_ | refine cC (zdg env q) ?_)
    exact aR
   ·have h1':((m:Int) == -1)=false:=by rw [<-hm]; exact h1
    rw [show zaV c i s=false by unfold zaV; rw [hm,h1']; simp [h3]]
    have F:=ai chAV.eq_1<|ai k0<|ai hs<|ai stAV.eq_1<|ai hm<|ai h1'<|h3
    repeat refine st ?_
    exact aR
  ·rw [show zaV c i s=false by unfold zaV; rw [h1]; simp [h2]]
   have F:=ai chAV.eq_1<|ai k0<|ai hs<|ai stAV.eq_1<|ai h1<|h2
   repeat refine st ?_
   exact aR
 ·rw [show zaV c i s=true by unfold zaV; rw [h1]; rfl]
  have F:=ai chAV.eq_1<|ai k0<|ai hs<|ai stAV.eq_1<|h1
  repeat refine st ?_
  exact aR
theorem znj (env:Env) (c:ChD) (s:StD) (hp:s.parent<c.states.length):Con Tryz.prog env 290 [.agg (chAV c), .agg (stAV s)] (B (zaW c s)):=by
 refine zaa Tryz.func290 rfl Tryz.call290 (by rw [Tryz.ntmps290]; simp) ?_
 rw [Tryz.ntmps290,Tryz.results290]
 by_cases h2:0<=s.parent
 ·obtain⟨m,hm⟩:=zeq h2
  have hml:m<c.states.length:=by omega
  obtain⟨q,hq,_⟩:=zap hml
  have k3:=nlt hml
  rw [show zaW c s=(q.kind==1) by unfold zaW; rw [hm,zce,hq]]
  have F:=ai chAV.eq_1<|ai stAV.eq_1<|ai hm<|ai k3<|hq
  repeat refine st ?_
  exact aR
 ·rw [show zaW c s=false by unfold zaW at_; rw [if_neg h2]]
  have F:=ai chAV.eq_1<|ai stAV.eq_1<|h2
  repeat refine st ?_
  exact aR
theorem zn1 {a b:Nat} (ha:a<=9223372036854775807) (hb:b<=9223372036854775807):IntKind.i64.wrap ((a:Int)+(b:Int))=0↔a+b=0:=by
 by_cases h:a+b<9223372036854775808
 ·rw [zbQ (by omega) (by omega)]
  omega
 ·have:IntKind.i64.wrap ((a:Int)+(b:Int))=(a:Int)+(b:Int)-18446744073709551616:=by
   simp [IntKind.wrap,IntKind.bits,IntKind.signed]
   omega
  omega
theorem zb4 {α:Type} [DecidableEq α] (l:List α):((l.length:Int)==0)=(l == []):=by
 rw [Bool.eq_iff_iff]
 simp
theorem zoP {c:ChD} {i:Nat} {s:StD} (hi:i<c.states.length) (h:zaV c i s=true):s.parent<c.states.length:=by
 unfold zaV at h
 simp only [Bool.or_eq_true,beq_iff_eq,Bool.and_eq_true,decide_eq_true_eq] at h
 omega
theorem zsp {c:ChD} {i:Int} {real:Bool} {j k:Nat} (h:(kidsL c i real)[j]? =some k): ∃q,c.states[k]? =some q/\k<c.states.length:=by
 have hk:=ze3 (List.mem_of_getElem? h)
 obtain⟨q,hq,_⟩:=zap hk.1
 exact⟨q,hq,hk.1⟩
theorem zni (env:Env) (c:ChD) (i:Nat) (s:StD) (hs:c.states[i]? =some s) (hn:c.states.length<=1000000) (hp:s.parent<c.states.length) (h1l:s.inn.length<=9223372036854775807) (h2l:s.out.length<=9223372036854775807):Con Tryz.prog env 252 [.agg (chAV c),I i] (B (zas c i s)):=by
 have hi:i<c.states.length:=(List.getElem?_eq_some_iff.1 hs).1
 have k0:=nlt hi
 have hreal:=zdO env c i hn
 have hreal2:=zdO env c s.parent hn
 have hkids:=zjH env c i hn
 have hplain:=znj env c s hp
 have hKl:(kidsL c i true).length<=1000000:=Nat.le_trans (zbd c i true _) hn
 have hKl2:(kidsL c s.parent true).length<=1000000:=Nat.le_trans (zbd c s.parent true _) hn
 have hcon:=zgh env (kidsL c i true) s.initial hKl
 have hcon2:=zgh env (kidsL c s.parent true) s.initial hKl2
 have z1:=zb4 (kidsL c i true)
 have z2:=zb4 (kidsL c i false)
 have z3:=zb4 s.out
 refine zaa Tryz.func252 rfl Tryz.call252 (by rw [Tryz.ntmps252]; simp) ?_
 rw [Tryz.ntmps252,Tryz.results252]
 by_cases hk1:s.kind=1
 ·have hr:zas c i s=(if kidsL c i true=[] then s.initial == -1 else inL (kidsL c i true) s.initial):=by unfold zas; rw [if_pos hk1]
  rw [hr]
  cases e1:(kidsL c i true == [])
  ·rw [if_neg (by simpa using e1)]
   have F:=ai chAV.eq_1<|ai k0<|ai hs<|ai stAV.eq_1<|ai hk1<|ai z1<|e1
   repeat (first | refine st ?_ | refine cC hreal ?_ | refine cC hcon ?_)
   exact aR
  ·have e1':kidsL c i true=[]:=by simpa using e1
   rw [if_pos e1']
   cases e2:(s.initial == -1)
   ·have F:=ai chAV.eq_1<|ai k0<|ai hs<|ai stAV.eq_1<|ai hk1<|ai z1<|ai e1<|e2
    repeat (first | refine st ?_ | refine cC hreal ?_ | refine cC hcon ?_)
    (refine zah ?_; show (zaG _ _ _).run _=some _; simp only [go_sem,F])
    rw [e1']
    rfl
   ·have F:=ai chAV.eq_1<|ai k0<|ai hs<|ai stAV.eq_1<|ai hk1<|ai z1<|ai e1<|e2
    repeat (first | refine st ?_ | refine cC hreal ?_ | refine cC hcon ?_)
    exact aR
 have b1:=zbk hk1
 by_cases hk2:s.kind=2
 ·have hr:zas c i s=(((kidsL c i true).all fun k=>zaM c k)&&decide (0< (kidsL c i true).length)&&(s.initial == -1)):=by unfold zas; rw [if_neg hk1,if_pos hk2]
  rw [hr]
  have F:=ai chAV.eq_1<|ai k0<|ai hs<|ai stAV.eq_1<|hk2
  repeat (first | refine st ?_ | refine cC hreal ?_)
  refine zac (D:=Nat) (fun j vs=>[(1,I i),(2, .loc 2 (vs 2) 0 0),(5, .loc 5 (vs 5) 0 0),(6, .row 16 (vs 16)),(18,I 2),(37, .row 16 (vs 16)),(38,I (kidsL c i true).length),(39,I j)]) (fun _ _=>[(2,⟨5,[chAV c],26,false⟩),(5,⟨6,[stAV s],123,false⟩),(16,⟨1,(kidsL c i true).map zaj,3,true⟩)]) (fun j _ _=>j<=(kidsL c i true).length/\((kidsL c i true).take j).all (fun k=>zaM c k)=true) (fun j=>(kidsL c i true).length-j) 0 ?_ ?_ ?_ ?_
  ·exact⟨Nat.zero_le _,rfl⟩
  ·(simp only [go_sem,F])
  ·(simp only [go_sem,F])
  rintro j ws esc ⟨hj,hall⟩
  by_cases hlt:j< (kidsL c i true).length
  ·obtain⟨k,hk,_⟩:=zap hlt
   obtain⟨q,hq,hkl⟩:=zsp hk
   have k1:=nlt hlt
   have k2:=zab hlt (by omega)
   have k3:=nlt hkl
   have hnorm:=zdg env q
   cases e1:zcq q
   ·rw [show ((kidsL c i true).all fun k=>zaM c k)=false from zfH hk (by rw [zed hq]; exact e1),Bool.false_and,Bool.false_and]
    have F:=ai chAV.eq_1<|ai k1<|ai k2<|ai k3<|ai hk<|ai hq<|ai zaj.eq_1<|ai stAV.eq_1<|e1
    repeat (first | refine st ?_ | refine cC hnorm ?_)
    exact aR
   ·have F:=ai chAV.eq_1<|ai k1<|ai k2<|ai k3<|ai hk<|ai hq<|ai zaj.eq_1<|ai stAV.eq_1<|e1
    repeat (first | refine st ?_ | refine cC hnorm ?_)
    refine⟨j+1,⟨hlt,zbV hall hk (by rw [zed hq]; exact e1)⟩, ?_, ?_, ?_⟩
    ·(simp only [go_sem,F])
    ·(simp only [go_sem,F])
    ·omega
  ·have k1: ¬(j:Int)< ((kidsL c i true).length:Int):=by omega
   rw [zje hall (by omega),Bool.true_and]
   have z4:decide ((0:Int)< ((kidsL c i true).length:Int))=decide (0< (kidsL c i true).length):=by rw [Bool.eq_iff_iff]; simp
   cases e1:decide (0< (kidsL c i true).length)
   ·have e1': ¬(0:Int)< ((kidsL c i true).length:Int):=by simpa using e1
    have F:=ai chAV.eq_1<|ai k1<|ai stAV.eq_1<|e1'
    repeat refine st ?_
    exact aR
   ·have e1':(0:Int)< ((kidsL c i true).length:Int):=by simpa using e1
    have F:=ai chAV.eq_1<|ai k1<|ai stAV.eq_1<|e1'
    repeat refine st ?_
    exact aR
 have b2:=zbk hk2
 by_cases hk3:s.kind=3
 ·have hr:zas c i s=((kidsL c i false == [])&&((s.parent == -1)||zaW c s)&&(s.initial == -1)&&(s.out == [])):=by unfold zas; rw [if_neg hk1,if_neg hk2,if_pos hk3]
  rw [hr]
  cases e1:(kidsL c i false == [])
  ·have F:=ai chAV.eq_1<|ai k0<|ai hs<|ai stAV.eq_1<|ai hk3<|ai z2<|e1
   repeat (first | refine st ?_ | refine cC hreal ?_ | refine cC hkids ?_ | refine cC hplain ?_)
   exact aR
  ·cases e2:(s.parent == -1)
   ·cases e3:zaW c s
    ·have F:=ai chAV.eq_1<|ai k0<|ai hs<|ai stAV.eq_1<|ai hk3<|ai z2<|ai e1<|ai e2<|e3
     repeat (first | refine st ?_ | refine cC hreal ?_ | refine cC hkids ?_ | refine cC hplain ?_)
     exact aR
    ·cases e4:(s.initial == -1)
     ·have F:=ai chAV.eq_1<|ai k0<|ai hs<|ai stAV.eq_1<|ai hk3<|ai z2<|ai e1<|ai e2<|ai e3<|e4
      repeat (first | refine st ?_ | refine cC hreal ?_ | refine cC hkids ?_ | refine cC hplain ?_)
      exact aR
     ·have F:=ai chAV.eq_1<|ai k0<|ai hs<|ai stAV.eq_1<|ai hk3<|ai z2<|ai e1<|ai e2<|ai e3<|ai e4<|z3
      repeat (first | refine st ?_ | refine cC hreal ?_ | refine cC hkids ?_ | refine cC hplain ?_)
      exact aR
   ·cases e4:(s.initial == -1)
    ·have F:=ai chAV.eq_1<|ai k0<|ai hs<|ai stAV.eq_1<|ai hk3<|ai z2<|ai e1<|ai e2<|e4
     repeat (first | refine st ?_ | refine cC hreal ?_ | refine cC hkids ?_ | refine cC hplain ?_)
     exact aR
    ·have F:=ai chAV.eq_1<|ai k0<|ai hs<|ai stAV.eq_1<|ai hk3<|ai z2<|ai e1<|ai e2<|ai e4<|z3
     repeat (first | refine st ?_ | refine cC hreal ?_ | refine cC hkids ?_ | refine cC hplain ?_)
     exact aR
 have b3:=zbk hk3
 by_cases hk45:s.kind=4\/s.kind=5
 ·have hr:zas c i s=((kidsL c i false == [])&&zaW c s&&inL (kidsL c s.parent true) s.initial&&(s.inn == [])&&(s.out == [])):=by unfold zas; rw [if_neg hk1,if_neg hk2,if_neg hk3,if_pos hk45]
  rw [hr]
  have z5:(IntKind.i64.wrap ((s.inn.length:Int)+(s.out.length:Int))==0)=((s.inn == [])&&(s.out == [])):=by
   rw [Bool.eq_iff_iff]
   simp only [beq_iff_eq,Bool.and_eq_true, <-List.length_eq_zero_iff,zn1 h1l h2l]
   omega
  rw [Bool.and_assoc _ (s.inn == []), <-z5]
  rcases hk45 with hk | hk
  ·cases e1:(kidsL c i false == [])
   ·have F:=ai chAV.eq_1<|ai k0<|ai hs<|ai stAV.eq_1<|ai hk<|ai z2<|e1
    repeat (first | refine st ?_ | refine cC hreal ?_ | refine cC hkids ?_ | refine cC hplain ?_ | refine cC hreal2 ?_ | refine cC hcon2 ?_)
    exact aR
   ·cases e2:zaW c s
    ·have F:=ai chAV.eq_1<|ai k0<|ai hs<|ai stAV.eq_1<|ai hk<|ai z2<|ai e1<|e2
     repeat (first | refine st ?_ | refine cC hreal ?_ | refine cC hkids ?_ | refine cC hplain ?_ | refine cC hreal2 ?_ | refine cC hcon2 ?_)
     exact aR
    ·cases e3:inL (kidsL c s.parent true) s.initial
     ·have F:=ai chAV.eq_1<|ai k0<|ai hs<|ai stAV.eq_1<|ai hk<|ai z2<|ai e1<|ai e2<|e3
      repeat (first | refine st ?_ | refine cC hreal ?_ | refine cC hkids ?_ | refine cC hplain ?_ | refine cC hreal2 ?_ | refine cC hcon2 ?_)
      exact aR
     ·have F:=ai chAV.eq_1<|ai k0<|ai hs<|ai stAV.eq_1<|ai hk<|ai z2<|ai e1<|ai e2<|e3
      repeat (first | refine st ?_ | refine cC hreal ?_ | refine cC hkids ?_ | refine cC hplain ?_ | refine cC hreal2 ?_ | refine cC hcon2 ?_)
      exact aR
  ·cases e1:(kidsL c i false == [])
   ·have F:=ai chAV.eq_1<|ai k0<|ai hs<|ai stAV.eq_1<|ai hk<|ai z2<|e1
    repeat (first | refine st ?_ | refine cC hreal ?_ | refine cC hkids ?_ | refine cC hplain ?_ | refine cC hreal2 ?_ | refine cC hcon2 ?_)
    exact aR
   ·cases e2:zaW c s
    ·have F:=ai chAV.eq_1<|ai k0<|ai hs<|ai stAV.eq_1<|ai hk<|ai z2<|ai e1<|e2
     repeat (first | refine st ?_ | refine cC hreal ?_ | refine cC hkids ?_ | refine cC hplain ?_ | refine cC hreal2 ?_ | refine cC hcon2 ?_)
     exact aR
    ·cases e3:inL (kidsL c s.parent true) s.initial
     ·have F:=ai chAV.eq_1<|ai k0<|ai hs<|ai stAV.eq_1<|ai hk<|ai z2<|ai e1<|ai e2<|e3
      repeat (first | refine st ?_ | refine cC hreal ?_ | refine cC hkids ?_ | refine cC hplain ?_ | refine cC hreal2 ?_ | refine cC hcon2 ?_)
      exact aR
     ·have F:=ai chAV.eq_1<|ai k0<|ai hs<|ai stAV.eq_1<|ai hk<|ai z2<|ai e1<|ai e2<|e3
      repeat (first | refine st ?_ | refine cC hreal ?_ | refine cC hkids ?_ | refine cC hplain ?_ | refine cC hreal2 ?_ | refine cC hcon2 ?_)
      exact aR
 have b4:=zbk (fun h=>hk45 (.inl h))
 have b5:=zbk (fun h=>hk45 (.inr h))
 rw [show zas c i s=false by unfold zas; rw [if_neg hk1,if_neg hk2,if_neg hk3,if_neg hk45]]
 have F:=ai chAV.eq_1<|ai k0<|ai hs<|ai stAV.eq_1<|ai b1<|ai b2<|ai b3<|ai b4<|b5
 repeat (first | refine st ?_ | refine cC hreal ?_)
 exact aR
end

end Go.Proofs.YtnbjaghjdeicmaaGreatDoor