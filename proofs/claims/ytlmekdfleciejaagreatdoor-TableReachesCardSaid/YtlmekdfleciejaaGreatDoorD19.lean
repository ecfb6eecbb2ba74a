/- Contracts of kids, of numbers among numbers, of the state of a name: by the walk without memory. -/
import Derived.Test.YtlmekdfleciejaaGreatDoorD17
import Derived.Test.YtlmekdfleciejaaGreatDoorD5
import Derived.Test.YtlmekdfleciejaaGreatDoorD7
import Derived.Test.YtlmekdfleciejaaGreatDoorD10
set_option maxRecDepth 100000
set_option maxHeartbeats 1000000
set_option linter.unusedSimpArgs false
namespace Go.Proofs.YtlmekdfleciejaaGreatDoor
open Go.RowKit
def zae (k:Nat):List AV:=[I k]
abbrev nsAV (l:List Nat):AV:= .seq 1 (l.map zae)
def idxFrom:List Nat->Int->Nat->Int
 | [],_,_=> -1
 | x::l,v,k=>if (x:Int)=v then k else idxFrom l v (k+1)
def idxI (l:List Nat) (v:Int):Int:=idxFrom l v 0
theorem zlc {l:List Nat} {v:Int} {k x:Nat} (h:l[k]? =some x) (hn:idxI l v=idxFrom (l.drop k) v k):((x:Int)=v->idxI l v=k)/\((x:Int)≠v->idxI l v=idxFrom (l.drop (k+1)) v (k+1)):=by
 have hk:k<l.length:=(List.getElem?_eq_some_iff.1 h).1
 have he:l.drop k=x::l.drop (k+1):=by
  rw [List.drop_eq_getElem_cons hk]
  congr 1
  rw [List.getElem?_eq_getElem hk] at h
  exact Option.some.inj h
 rw [he] at hn
 simp only [idxFrom] at hn
 exact⟨fun e=>by rw [hn,if_pos e],fun e=>by rw [hn,if_neg e]⟩
theorem znX {l:List Nat} {v:Int} {k:Nat} (h:l.length<=k) (hn:idxI l v=idxFrom (l.drop k) v k):idxI l v= -1:=by
 rw [hn,List.drop_eq_nil_of_le h]
 rfl
theorem znW (v:Int): ∀(l:List Nat) (k:Nat),decide (0<=idxFrom l v k)=inL l v
 | [],k=>rfl
 | x::l,k=>by
   have ih:=znW v l (k+1)
   have e0:inL (x::l) v=(((x:Int)==v)||inL l v):=rfl
   rw [e0, <-ih]
   by_cases e:(x:Int)=v
   ·have e1:idxFrom (x::l) v k=k:=if_pos e
    rw [Bool.eq_iff_iff]
    simp [e1,e]
   ·have e1:idxFrom (x::l) v k=idxFrom l v (k+1):=if_neg e
    rw [Bool.eq_iff_iff]
    simp [e1,e]
theorem znU (env:Env) (l:List Nat) (v:Int) (hl:l.length<=1000000):Con Tryz.prog env 131 [nsAV l,I v] (I (idxI l v)):=by
 refine zaa Tryz.func131 rfl Tryz.call131 (by rw [Tryz.ntmps131]; simp) ?_
 rw [Tryz.ntmps131,Tryz.results131]
 repeat refine st0 ?_
 refine zab (D:=Nat) (fun k _=>[(0,nsAV l),(1,I v),(7,I l.length),(8,I k)]) (fun _ _=>[]) (fun k _ _=>k<=l.length/\idxI l v=idxFrom (l.drop k) v k) (fun k=>l.length-k) 0 ?_ ?_ ?_ ?_
 ·exact⟨Nat.zero_le _,rfl⟩
 ·(simp only [go_sem])
 ·(simp only [go_sem])
 rintro k ws esc ⟨hk,hi⟩
 by_cases hlt:k<l.length
 ·obtain⟨x,hx,_⟩:=zam hlt
  obtain⟨yes,no⟩:=zlc hx hi
  have k1:=nlt hlt
  have k2:=zac hlt (by omega)
  by_cases e:(x:Int)=v
  ·rw [yes e]
   have k3:(v==(x:Int))=true:=by simp [e]
   have F:=ai k1<|ai k2<|ai k3<|ai hx<|zae.eq_1
   repeat refine st ?_
   exact aR
  ·have k3:(v==(x:Int))=false:=by simpa using fun h=>e h.symm
   have F:=ai k1<|ai k2<|ai k3<|ai hx<|zae.eq_1
   repeat refine st ?_
   refine⟨k+1,⟨hlt,no e⟩, ?_, ?_, ?_⟩
   ·(simp only [go_sem,F])
   ·(simp only [go_sem,F])
   ·omega
 ·have k1: ¬(k:Int)< (l.length:Int):=by omega
  rw [znX (by omega) hi]
  have F:=k1
  repeat refine st ?_
  exact aR
theorem zdu (env:Env) (l:List Nat) (v:Int) (hl:l.length<=1000000):Con Tryz.prog env 82 [nsAV l,I v] (B (inL l v)):=by
 have h:=znW v l 0
 refine zaa Tryz.func82 rfl Tryz.call82 (by rw [Tryz.ntmps82]; simp) ?_
 rw [Tryz.ntmps82,Tryz.results82]
 repeat (first | refine st0 ?_ | refine cC0 (znU env l v hl) ?_)
 (refine zak ?_; show (zaz _ _ _).run _=some _; simp only [go_sem])
 exact congrArg B h
theorem zhM (env:Env) (l:List Nat) (v:Int) (hl:l.length<=1000000):Con Tryz.prog env 52 [nsAV l,I v] (B (inL l v)):=by
 rw [<-znW v l 0,show idxFrom l v 0=idxI l v from rfl]
 refine zaa Tryz.func52 rfl Tryz.call52 (by rw [Tryz.ntmps52]; simp) ?_
 rw [Tryz.ntmps52,Tryz.results52]
 repeat refine st0 ?_
 refine zab (D:=Nat) (fun k _=>[(0,nsAV l),(1,I v),(5,I k)]) (fun _ _=>[]) (fun k _ _=>k<=l.length/\idxI l v=idxFrom (l.drop k) v k) (fun k=>l.length-k) 0 ?_ ?_ ?_ ?_
 ·exact⟨Nat.zero_le _,rfl⟩
 ·(simp only [go_sem])
 ·(simp only [go_sem])
 rintro k ws esc ⟨hk,hi⟩
 by_cases hlt:k<l.length
 ·obtain⟨x,hx,_⟩:=zam hlt
  obtain⟨yes,no⟩:=zlc hx hi
  have k1:=nlt hlt
  have k2:=zac hlt (by omega)
  by_cases e:(x:Int)=v
  ·rw [yes e,decide_eq_true (Int.natCast_nonneg k)]
   have k3:((x:Int)==v)=true:=by simp [e]
   have F:=ai k1<|ai k2<|ai k3<|ai hx<|zae.eq_1
   repeat refine st ?_
   exact aR
  ·have k3:((x:Int)==v)=false:=by simpa using e
   have F:=ai k1<|ai k2<|ai k3<|ai hx<|zae.eq_1
   repeat refine st ?_
   refine⟨k+1,⟨hlt,no e⟩, ?_, ?_, ?_⟩
   ·(simp only [go_sem,F])
   ·(simp only [go_sem,F])
   ·omega
 ·have k1: ¬(k:Int)< (l.length:Int):=by omega
  rw [znX (by omega) hi]
  have F:=k1
  repeat refine st ?_
  exact aR
/-! Kids -/
theorem zhU {c:ChD} {k:Nat} {s:StD} (hs:c.states[k]? =some s) (i:Int) (real:Bool):zbL c i real k=((s.parent==i)&&(!real|| !zat s)):=by unfold zbL; rw [hs]
theorem zeo {c:ChD} {i:Int} {real:Bool} {k:Nat} (h:zbL c i real k=true):(zaT c i real (k+1)).map zae=(zaT c i real k).map zae++[[I k]]:=by
 rw [zgg,h,if_pos rfl,List.map_append]
 rfl
theorem zdm {c:ChD} {i:Int} {real:Bool} {k:Nat} (h:zbL c i real k=false):(zaT c i real (k+1)).map zae=(zaT c i real k).map zae:=by
 rw [zgg,h]
 simp
theorem zcG (env:Env) (c:ChD) (i:Int) (hc:c.states.length<=1000000):Con Tryz.prog env 85 [.agg (chAV c),I i] (.own 3 1 ((kidsL c i true).map zae)):=by
 refine zaa Tryz.func85 rfl Tryz.call85 (by rw [Tryz.ntmps85]; simp) ?_
 rw [Tryz.ntmps85,Tryz.results85]
 have F:=chAV.eq_1
 repeat refine st ?_
 refine zbo 5 5 3 1 ?_
 refine zab (D:=Nat) (fun k vs=>[(1,I i),(5, .row 5 (vs 5)),(9,stsAV c.states),(10,I c.states.length),(11,I k)]) (fun k _=>[(5,⟨1,(zaT c i true k).map zae,3,true⟩)]) (fun k _ esc=>k<=c.states.length/\esc 5=false) (fun k=>c.states.length-k) 0 ?_ ?_ ?_ ?_
 ·exact⟨Nat.zero_le _,rfl⟩
 ·(simp only [go_sem,F])
 ·(simp only [go_sem,F])
  simp [zaT]
 rintro k ws esc ⟨hk,he⟩
 by_cases hlt:k<c.states.length
 ·obtain⟨s,hs,_⟩:=zam hlt
  have k1:=nlt hlt
  have k2:=zac hlt (by omega)
  have hkid:=zhU hs i true
  have hlen:=zaX c i true k
  have hf:Fits ((zaT c i true k).length+1) 8:=⟨by omega,by omega⟩
  cases h1:(s.parent==i) with
  | false=>
    have hsame:=zdm (show zbL c i true k=false by rw [hkid,h1]; rfl)
    have F:=ai k1<|ai k2<|ai hs<|ai stAV.eq_1<|h1
    repeat (first | refine st ?_ | refine cC (zdj env s) ?_)
    refine⟨k+1,⟨hlt,by simp only [go_sem,he]⟩, ?_, ?_, ?_⟩
    ·(simp only [go_sem,F])
    ·have F:=ai k1<|ai k2<|ai hs<|ai stAV.eq_1<|ai h1<|hsame
     (simp only [go_sem,F])
    ·omega
  | true=>
    cases h2:zat s with
    | true=>
      have hsame:=zdm (show zbL c i true k=false by rw [hkid,h1,h2]; rfl)
      have F:=ai k1<|ai k2<|ai hs<|ai stAV.eq_1<|ai h1<|h2
      repeat (first | refine st ?_ | refine cC (zdj env s) ?_)
      refine⟨k+1,⟨hlt,by simp only [go_sem,he]⟩, ?_, ?_, ?_⟩
      ·(simp only [go_sem,F])
      ·have F:=ai k1<|ai k2<|ai hs<|ai stAV.eq_1<|ai h1<|ai h2<|hsame
       (simp only [go_sem,F])
      ·omega
    | false=>
      have hmore:=zeo (show zbL c i true k=true by rw [hkid,h1,h2]; rfl)
      have F:=ai k1<|ai k2<|ai hs<|ai stAV.eq_1<|ai h1<|ai h2<|hf
      repeat (first | refine st ?_ | refine cC (zdj env s) ?_)
      refine⟨k+1,⟨hlt,by simp only [go_sem,he]⟩, ?_, ?_, ?_⟩
      ·(simp only [go_sem,F])
      ·have F:=ai k1<|ai k2<|ai hs<|ai stAV.eq_1<|ai h1<|ai h2<|hmore
       (simp only [go_sem,F])
      ·omega
 ·have k1: ¬(k:Int)< (c.states.length:Int):=by omega
  obtain rfl:k=c.states.length:=by omega
  have F:=ai k1<|he
  repeat refine st ?_
  (refine zak ?_; show (zaz _ _ _).run _=some _; simp only [go_sem,F])
  rfl
theorem zf9 (env:Env) (c:ChD) (i:Int) (hc:c.states.length<=1000000):Con Tryz.prog env 86 [.agg (chAV c),I i] (.own 3 1 ((kidsL c i false).map zae)):=by
 refine zaa Tryz.func86 rfl Tryz.call86 (by rw [Tryz.ntmps86]; simp) ?_
 rw [Tryz.ntmps86,Tryz.results86]
 have F:=chAV.eq_1
 repeat refine st ?_
 refine zbo 5 5 3 1 ?_
 refine zab (D:=Nat) (fun k vs=>[(1,I i),(5, .row 5 (vs 5)),(9,stsAV c.states),(10,I c.states.length),(11,I k)]) (fun k _=>[(5,⟨1,(zaT c i false k).map zae,3,true⟩)]) (fun k _ esc=>k<=c.states.length/\esc 5=false) (fun k=>c.states.length-k) 0 ?_ ?_ ?_ ?_
 ·exact⟨Nat.zero_le _,rfl⟩
 ·(simp only [go_sem,F])
 ·(simp only [go_sem,F])
  simp [zaT]
 rintro k ws esc ⟨hk,he⟩
 by_cases hlt:k<c.states.length
 ·obtain⟨s,hs,_⟩:=zam hlt
  have k1:=nlt hlt
  have k2:=zac hlt (by omega)
  have hkid:=zhU hs i false
  have hlen:=zaX c i false k
  have hf:Fits ((zaT c i false k).length+1) 8:=⟨by omega,by omega⟩
  cases h1:(s.parent==i) with
  | false=>
    have hsame:=zdm (show zbL c i false k=false by rw [hkid,h1]; rfl)
    have F:=ai k1<|ai k2<|ai hs<|ai stAV.eq_1<|h1
    repeat refine st ?_
    refine⟨k+1,⟨hlt,by simp only [go_sem,he]⟩, ?_, ?_, ?_⟩
    ·(simp only [go_sem,F])
    ·have F:=ai k1<|ai k2<|ai hs<|ai stAV.eq_1<|ai h1<|hsame
     (simp only [go_sem,F])
    ·omega
  | true=>
    have hmore:=zeo (show zbL c i false k=true by rw [hkid,h1]; rfl)
    have F:=ai k1<|ai k2<|ai hs<|ai stAV.eq_1<|ai h1<|hf
    repeat refine st ?_
    refine⟨k+1,⟨hlt,by simp only [go_sem,he]⟩, ?_, ?_, ?_⟩
    ·(simp only [go_sem,F])
    ·have F:=ai k1<|ai k2<|ai hs<|ai stAV.eq_1<|ai h1<|hmore
     (simp only [go_sem,F])
    ·omega
 ·have k1: ¬(k:Int)< (c.states.length:Int):=by omega
  obtain rfl:k=c.states.length:=by omega
  have F:=ai k1<|he
  repeat refine st ?_
  (refine zak ?_; show (zaz _ _ _).run _=some _; simp only [go_sem,F])
  rfl
theorem zbw (env:Env) (c:ChD) (i:Int) (real:Bool) (hc:c.states.length<=1000000):Con Tryz.prog env 55 [.agg (chAV c),I i,B real] (.own 3 1 ((kidsL c i real).map zae)):=by
 refine zaa Tryz.func55 rfl Tryz.call55 (by rw [Tryz.ntmps55]; simp) ?_
 rw [Tryz.ntmps55,Tryz.results55]
 have F:=chAV.eq_1
 repeat refine st ?_
 refine zab (D:=Nat) (fun k vs=>[(1,I i),(2,B real),(3, .loc 3 (vs 3) 0 0),(7, .row 9 (vs 9)),(8,I k)]) (fun k _=>[(3,⟨5,[chAV c],26,false⟩),(9,⟨1,(zaT c i real k).map zae,3,true⟩)]) (fun k _ esc=>k<=c.states.length/\esc 9=false) (fun k=>c.states.length-k) 0 ?_ ?_ ?_ ?_
 ·exact⟨Nat.zero_le _,rfl⟩
 ·(simp only [go_sem,F])
 ·(simp only [go_sem,F])
  simp [zaT]
 rintro k ws esc ⟨hk,he⟩
 by_cases hlt:k<c.states.length
 ·obtain⟨s,hs,_⟩:=zam hlt
  have k1:=nlt hlt
  have k2:=zac hlt (by omega)
  have hkid:=zhU hs i real
  have hlen:=zaX c i real k
  have hf:Fits ((zaT c i real k).length+1) 8:=⟨by omega,by omega⟩
  cases h1:(s.parent==i) with
  | false=>
    have hsame:=zdm (show zbL c i real k=false by rw [hkid,h1]; rfl)
    have F:=ai chAV.eq_1<|ai k1<|ai k2<|ai hs<|ai stAV.eq_1<|h1
    repeat (first | refine st ?_ | refine cC (za1 env s) ?_)
    refine⟨k+1,⟨hlt,by simp only [go_sem,he]⟩, ?_, ?_, ?_⟩
    ·(simp only [go_sem,F])
    ·have F:=ai chAV.eq_1<|ai k1<|ai k2<|ai hs<|ai stAV.eq_1<|ai h1<|hsame
     (simp only [go_sem,F])
    ·omega
  | true=>
    cases real with
    | false=>
      have hmore:=zeo (show zbL c i false k=true by rw [hkid,h1]; rfl)
      have F:=ai chAV.eq_1<|ai k1<|ai k2<|ai hs<|ai stAV.eq_1<|ai h1<|hf
      repeat (first | refine st ?_ | refine cC (za1 env s) ?_)
      refine⟨k+1,⟨hlt,by simp only [go_sem,he]⟩, ?_, ?_, ?_⟩
      ·(simp only [go_sem,F])
      ·have F:=ai chAV.eq_1<|ai k1<|ai k2<|ai hs<|ai stAV.eq_1<|ai h1<|hmore
       (simp only [go_sem,F])
      ·omega
    | true=>
      cases h2:zat s with
      | true=>
        have hsame:=zdm (show zbL c i true k=false by rw [hkid,h1,h2]; rfl)
        have F:=ai chAV.eq_1<|ai k1<|ai k2<|ai hs<|ai stAV.eq_1<|ai h1<|h2
        repeat (first | refine st ?_ | refine cC (za1 env s) ?_)
        refine⟨k+1,⟨hlt,by simp only [go_sem,he]⟩, ?_, ?_, ?_⟩
        ·(simp only [go_sem,F])
        ·have F:=ai chAV.eq_1<|ai k1<|ai k2<|ai hs<|ai stAV.eq_1<|ai h1<|ai h2<|hsame
         (simp only [go_sem,F])
        ·omega
      | false=>
        have hmore:=zeo (show zbL c i true k=true by rw [hkid,h1,h2]; rfl)
        have F:=ai chAV.eq_1<|ai k1<|ai k2<|ai hs<|ai stAV.eq_1<|ai h1<|ai h2<|hf
        repeat (first | refine st ?_ | refine cC (za1 env s) ?_)
        refine⟨k+1,⟨hlt,by simp only [go_sem,he]⟩, ?_, ?_, ?_⟩
        ·(simp only [go_sem,F])
        ·have F:=ai chAV.eq_1<|ai k1<|ai k2<|ai hs<|ai stAV.eq_1<|ai h1<|ai h2<|hmore
         (simp only [go_sem,F])
        ·omega
 ·have k1: ¬(k:Int)< (c.states.length:Int):=by omega
  obtain rfl:k=c.states.length:=by omega
  have F:=ai chAV.eq_1<|ai k1<|he
  repeat refine st ?_
  (refine zak ?_; show (zaz _ _ _).run _=some _; simp only [go_sem,F])
  rfl
/-! The state of a name -/
theorem znr (env:Env) (c:ChD) (name:List UInt8) (hc:c.states.length<=1000000):Con Tryz.prog env 218 [.agg (chAV c),Sg name] (I (zgP c name)):=by
 refine zaa Tryz.func218 rfl Tryz.call218 (by rw [Tryz.ntmps218]; simp) ?_
 rw [Tryz.ntmps218,Tryz.results218]
 have F:=chAV.eq_1
 repeat refine st ?_
 refine zab (D:=Nat) (fun k _=>[(1,Sg name),(8,stsAV c.states),(9,I c.states.length),(10,I k)]) (fun _ _=>[]) (fun k _ _=>k<=c.states.length/\zci c name k= -1) (fun k=>c.states.length-k) 0 ?_ ?_ ?_ ?_
 ·exact⟨Nat.zero_le _,rfl⟩
 ·(simp only [go_sem,F])
 ·(simp only [go_sem,F])
 rintro k ws esc ⟨hk,hf⟩
 by_cases hlt:k<c.states.length
 ·obtain⟨s,hs,_⟩:=zam hlt
  have k1:=nlt hlt
  have k2:=zac hlt (by omega)
  cases h1:(s.name==name) with
  | true=>
    rw [zjd c name hlt hf s hs (by simpa using h1)]
    have F:=ai k1<|ai k2<|ai hs<|ai stAV.eq_1<|h1
    repeat refine st ?_
    exact aR
  | false=>
    have F:=ai k1<|ai k2<|ai hs<|ai stAV.eq_1<|h1
    repeat refine st ?_
    refine⟨k+1,⟨hlt,zgo c name hf s hs (by simpa using h1)⟩, ?_, ?_, ?_⟩
    ·(simp only [go_sem,F])
    ·(simp only [go_sem,F])
    ·omega
 ·have k1: ¬(k:Int)< (c.states.length:Int):=by omega
  obtain rfl:k=c.states.length:=by omega
  rw [show zgP c name= -1 from hf]
  have F:=k1
  repeat refine st ?_
  exact aR
theorem ziA (env:Env) (c:ChD) (name:List UInt8) (hc:c.states.length<=1000000):Con Tryz.prog env 144 [.agg (chAV c),Sg name] (I (zgP c name)):=by
 refine zaa Tryz.func144 rfl Tryz.call144 (by rw [Tryz.ntmps144]; simp) ?_
 rw [Tryz.ntmps144,Tryz.results144]
 have F:=chAV.eq_1
 repeat refine st ?_
 refine zab (D:=Nat) (fun k vs=>[(1,Sg name),(2, .loc 2 (vs 2) 0 0),(5,I k)]) (fun _ _=>[(2,⟨5,[chAV c],26,false⟩)]) (fun k _ _=>k<=c.states.length/\zci c name k= -1) (fun k=>c.states.length-k) 0 ?_ ?_ ?_ ?_
 ·exact⟨Nat.zero_le _,rfl⟩
 ·(simp only [go_sem,F])
 ·(simp only [go_sem,F])
 rintro k ws esc ⟨hk,hf⟩
 by_cases hlt:k<c.states.length
 ·obtain⟨s,hs,_⟩:=zam hlt
  have k1:=nlt hlt
  have k2:=zac hlt (by omega)
  cases h1:(s.name==name) with
  | true=>
    rw [zjd c name hlt hf s hs (by simpa using h1)]
    have F:=ai chAV.eq_1<|ai k1<|ai k2<|ai hs<|ai stAV.eq_1<|h1
    repeat refine st ?_
    exact aR
  | false=>
    have F:=ai chAV.eq_1<|ai k1<|ai k2<|ai hs<|ai stAV.eq_1<|h1
    repeat refine st ?_
    refine⟨k+1,⟨hlt,zgo c name hf s hs (by simpa using h1)⟩, ?_, ?_, ?_⟩
    ·(simp only [go_sem,F])
    ·(simp only [go_sem,F])
    ·omega
 ·have k1: ¬(k:Int)< (c.states.length:Int):=by omega
  obtain rfl:k=c.states.length:=by omega
  rw [show zgP c name= -1 from hf]
  have F:=ai chAV.eq_1<|k1
  repeat refine st ?_
  exact aR
end Go.Proofs.YtlmekdfleciejaaGreatDoor
