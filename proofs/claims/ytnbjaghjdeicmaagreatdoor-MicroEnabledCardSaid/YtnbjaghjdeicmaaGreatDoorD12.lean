/- The contract of chart.Check, by those of its parts: by the walk without memory. -/
import Derived.Test.YtnbjaghjdeicmaaGreatDoorD7
import Derived.Test.YtnbjaghjdeicmaaGreatDoorD6
import Derived.Test.YtnbjaghjdeicmaaGreatDoorD11
set_option maxRecDepth 100000
set_option maxHeartbeats 8000000
set_option linter.unusedSimpArgs false
namespace Go.Proofs.YtnbjaghjdeicmaaGreatDoor
open Go.RowKit
section
def zad (k:Nat):List AV:=[I k]
abbrev nsAV (l:List Nat):AV:= .seq 1 (l.map zad)
def idxFrom:List Nat->Int->Nat->Int
 | [],_,_=> -1
 | x::l,v,k=>if (x:Int)=v then k else idxFrom l v (k+1)
def idxI (l:List Nat) (v:Int):Int:=idxFrom l v 0
theorem zna {l:List Nat} {v:Int} {k x:Nat} (h:l[k]? =some x) (hn:idxI l v=idxFrom (l.drop k) v k):((x:Int)=v->idxI l v=k)/\((x:Int)≠v->idxI l v=idxFrom (l.drop (k+1)) v (k+1)):=by
 have hk:k<l.length:=(List.getElem?_eq_some_iff.1 h).1
 have he:l.drop k=x::l.drop (k+1):=by
  rw [List.drop_eq_getElem_cons hk]
  congr 1
  rw [List.getElem?_eq_getElem hk] at h
  exact Option.some.inj h
 rw [he] at hn
 simp only [idxFrom] at hn
 exact⟨fun e=>by rw [hn,if_pos e],fun e=>by rw [hn,if_neg e]⟩
theorem zqG {l:List Nat} {v:Int} {k:Nat} (h:l.length<=k) (hn:idxI l v=idxFrom (l.drop k) v k):idxI l v= -1:=by
 rw [hn,List.drop_eq_nil_of_le h]
 rfl
theorem zqF (v:Int): ∀(l:List Nat) (k:Nat),decide (0<=idxFrom l v k)=inL l v
 | [],k=>rfl
 | x::l,k=>by
   have ih:=zqF v l (k+1)
   have e0:inL (x::l) v=(((x:Int)==v)||inL l v):=rfl
   rw [e0, <-ih]
   by_cases e:(x:Int)=v
   ·have e1:idxFrom (x::l) v k=k:=if_pos e
    rw [Bool.eq_iff_iff]
    simp [e1,e]
   ·have e1:idxFrom (x::l) v k=idxFrom l v (k+1):=if_neg e
    rw [Bool.eq_iff_iff]
    simp [e1,e]
theorem zqD (env:Env) (l:List Nat) (v:Int) (hl:l.length<=1000000):Con Tryz.prog env 149 [nsAV l,I v] (I (idxI l v)):=by
 refine zaa Tryz.func149 rfl Tryz.call149 (by rw [Tryz.ntmps149]; simp) ?_
 rw [Tryz.ntmps149,Tryz.results149]
 repeat refine st0 ?_
 refine zac (D:=Nat) (fun k _=>[(0,nsAV l),(1,I v),(7,I l.length),(8,I k)]) (fun _ _=>[]) (fun k _ _=>k<=l.length/\idxI l v=idxFrom (l.drop k) v k) (fun k=>l.length-k) 0 ?_ ?_ ?_ ?_
 ·exact⟨Nat.zero_le _,rfl⟩
 ·(simp only [go_sem])
 ·(simp only [go_sem])
 rintro k ws esc ⟨hk,hi⟩
 by_cases hlt:k<l.length
 ·obtain⟨x,hx,_⟩:=zat hlt
  obtain⟨yes,no⟩:=zna hx hi
  have k1:=nlt hlt
  have k2:=zab hlt (by omega)
  by_cases e:(x:Int)=v
  ·rw [yes e]
   have k3:(v==(x:Int))=true:=by simp [e]
   have F:=ai k1<|ai k2<|ai k3<|ai hx<|zad.eq_1
   repeat refine st ?_
   exact aR
  ·have k3:(v==(x:Int))=false:=by simpa using fun h=>e h.symm
   have F:=ai k1<|ai k2<|ai k3<|ai hx<|zad.eq_1
   repeat refine st ?_
   refine⟨k+1,⟨hlt,no e⟩, ?_, ?_, ?_⟩
   ·(simp only [go_sem,F])
   ·(simp only [go_sem,F])
   ·omega
 ·have k1: ¬(k:Int)< (l.length:Int):=by omega
  rw [zqG (by omega) hi]
  have F:=k1
  repeat refine st ?_
  exact aR
theorem zd6 (env:Env) (l:List Nat) (v:Int) (hl:l.length<=1000000):Con Tryz.prog env 72 [nsAV l,I v] (B (inL l v)):=by
 have h:=zqF v l 0
 refine zaa Tryz.func72 rfl Tryz.call72 (by rw [Tryz.ntmps72]; simp) ?_
 rw [Tryz.ntmps72,Tryz.results72]
 repeat (first | refine st0 ?_ | refine cC0 (zqD env l v hl) ?_)
 (refine zaf ?_; show (zao _ _ _).run _=some _; simp only [go_sem])
 exact congrArg B h
theorem zi0 (env:Env) (l:List Nat) (v:Int) (hl:l.length<=1000000):Con Tryz.prog env 27 [nsAV l,I v] (B (inL l v)):=by
 rw [<-zqF v l 0,show idxFrom l v 0=idxI l v from rfl]
 refine zaa Tryz.func27 rfl Tryz.call27 (by rw [Tryz.ntmps27]; simp) ?_
 rw [Tryz.ntmps27,Tryz.results27]
 repeat refine st0 ?_
 refine zac (D:=Nat) (fun k _=>[(0,nsAV l),(1,I v),(5,I k)]) (fun _ _=>[]) (fun k _ _=>k<=l.length/\idxI l v=idxFrom (l.drop k) v k) (fun k=>l.length-k) 0 ?_ ?_ ?_ ?_
 ·exact⟨Nat.zero_le _,rfl⟩
 ·(simp only [go_sem])
 ·(simp only [go_sem])
 rintro k ws esc ⟨hk,hi⟩
 by_cases hlt:k<l.length
 ·obtain⟨x,hx,_⟩:=zat hlt
  obtain⟨yes,no⟩:=zna hx hi
  have k1:=nlt hlt
  have k2:=zab hlt (by omega)
  by_cases e:(x:Int)=v
  ·rw [yes e,decide_eq_true (Int.natCast_nonneg k)]
   have k3:((x:Int)==v)=true:=by simp [e]
   have F:=ai k1<|ai k2<|ai k3<|ai hx<|zad.eq_1
   repeat refine st ?_
   exact aR
  ·have k3:((x:Int)==v)=false:=by simpa using e
   have F:=ai k1<|ai k2<|ai k3<|ai hx<|zad.eq_1
   repeat refine st ?_
   refine⟨k+1,⟨hlt,no e⟩, ?_, ?_, ?_⟩
   ·(simp only [go_sem,F])
   ·(simp only [go_sem,F])
   ·omega
 ·have k1: ¬(k:Int)< (l.length:Int):=by omega
  rw [zqG (by omega) hi]
  have F:=k1
  repeat refine st ?_
  exact aR
/-! Kids -/
theorem zjd {c:ChD} {k:Nat} {s:StD} (hs:c.states[k]? =some s) (i:Int) (real:Bool):zb6 c i real k=((s.parent==i)&&(!real|| !zaD s)):=by unfold zb6; rw [hs]
theorem zfc {c:ChD} {i:Int} {real:Bool} {k:Nat} (h:zb6 c i real k=true):(za4 c i real (k+1)).map zad=(za4 c i real k).map zad++[[I k]]:=by
 rw [zg6,h,if_pos rfl,List.map_append]
 rfl
theorem zdX {c:ChD} {i:Int} {real:Bool} {k:Nat} (h:zb6 c i real k=false):(za4 c i real (k+1)).map zad=(za4 c i real k).map zad:=by
 rw [zg6,h]
 simp
theorem zc9 (env:Env) (c:ChD) (i:Int) (hc:c.states.length<=1000000):Con Tryz.prog env 124 [.agg (chAV c),I i] (.own 3 1 ((kidsL c i true).map zad)):=by
 refine zaa Tryz.func124 rfl Tryz.call124 (by rw [Tryz.ntmps124]; simp) ?_
 rw [Tryz.ntmps124,Tryz.results124]
 have F:=chAV.eq_1
 repeat refine st ?_
 refine zaX 5 5 3 1 ?_
 refine zac (D:=Nat) (fun k vs=>[(1,I i),(5, .row 5 (vs 5)),(9,stsAV c.states),(10,I c.states.length),(11,I k)]) (fun k _=>[(5,⟨1,(za4 c i true k).map zad,3,true⟩)]) (fun k _ esc=>k<=c.states.length/\esc 5=false) (fun k=>c.states.length-k) 0 ?_ ?_ ?_ ?_
 ·exact⟨Nat.zero_le _,rfl⟩
 ·(simp only [go_sem,F])
 ·(simp only [go_sem,F])
  simp [za4]
 rintro k ws esc ⟨hk,he⟩
 by_cases hlt:k<c.states.length
 ·obtain⟨s,hs,_⟩:=zat hlt
  have k1:=nlt hlt
  have k2:=zab hlt (by omega)
  have hkid:=zjd hs i true
  have hlen:=za9 c i true k
  have hf:Fits ((za4 c i true k).length+1) 8:=⟨by omega,by omega⟩
  cases h1:(s.parent==i) with
  | false=>
    have hsame:=zdX (show zb6 c i true k=false by rw [hkid,h1]; rfl)
    have F:=ai k1<|ai k2<|ai hs<|ai stAV.eq_1<|h1
    repeat (first | refine st ?_ | refine cC (zdT env s) ?_)
    refine⟨k+1,⟨hlt,by simp only [go_sem,he]⟩, ?_, ?_, ?_⟩
    ·(simp only [go_sem,F])
    ·have F:=ai k1<|ai k2<|ai hs<|ai stAV.eq_1<|ai h1<|hsame
     (simp only [go_sem,F])
    ·omega
  | true=>
    cases h2:zaD s with
    | true=>
      have hsame:=zdX (show zb6 c i true k=false by rw [hkid,h1,h2]; rfl)
      have F:=ai k1<|ai k2<|ai hs<|ai stAV.eq_1<|ai h1<|h2
      repeat (first | refine st ?_ | refine cC (zdT env s) ?_)
      refine⟨k+1,⟨hlt,by simp only [go_sem,he]⟩, ?_, ?_, ?_⟩
      ·(simp only [go_sem,F])
      ·have F:=ai k1<|ai k2<|ai hs<|ai stAV.eq_1<|ai h1<|ai h2<|hsame
       (simp only [go_sem,F])
      ·omega
    | false=>
      have hmore:=zfc (show zb6 c i true k=true by rw [hkid,h1,h2]; rfl)
      have F:=ai k1<|ai k2<|ai hs<|ai stAV.eq_1<|ai h1<|ai h2<|hf
      repeat (first | refine st ?_ | refine cC (zdT env s) ?_)
      refine⟨k+1,⟨hlt,by simp only [go_sem,he]⟩, ?_, ?_, ?_⟩
      ·(simp only [go_sem,F])
      ·have F:=ai k1<|ai k2<|ai hs<|ai stAV.eq_1<|ai h1<|ai h2<|hmore
       (simp only [go_sem,F])
      ·omega
 ·have k1: ¬(k:Int)< (c.states.length:Int):=by omega
  obtain rfl:k=c.states.length:=by omega
  have F:=ai k1<|he
  repeat refine st ?_
  (refine zaf ?_; show (zao _ _ _).run _=some _; simp only [go_sem,F])
  rfl
theorem zgX (env:Env) (c:ChD) (i:Int) (hc:c.states.length<=1000000):Con Tryz.prog env 206 [.agg (chAV c),I i] (.own 3 1 ((kidsL c i false).map zad)):=by
 refine zaa Tryz.func206 rfl Tryz.call206 (by rw [Tryz.ntmps206]; simp) ?_
 rw [Tryz.ntmps206,Tryz.results206]
 have F:=chAV.eq_1
 repeat refine st ?_
 refine zaX 5 5 3 1 ?_
 refine zac (D:=Nat) (fun k vs=>[(1,I i),(5, .row 5 (vs 5)),(9,stsAV c.states),(10,I c.states.length),(11,I k)]) (fun k _=>[(5,⟨1,(za4 c i false k).map zad,3,true⟩)]) (fun k _ esc=>k<=c.states.length/\esc 5=false) (fun k=>c.states.length-k) 0 ?_ ?_ ?_ ?_
 ·exact⟨Nat.zero_le _,rfl⟩
 ·(simp only [go_sem,F])
 ·(simp only [go_sem,F])
  simp [za4]
 rintro k ws esc ⟨hk,he⟩
 by_cases hlt:k<c.states.length
 ·obtain⟨s,hs,_⟩:=zat hlt
  have k1:=nlt hlt
  have k2:=zab hlt (by omega)
  have hkid:=zjd hs i false
  have hlen:=za9 c i false k
  have hf:Fits ((za4 c i false k).length+1) 8:=⟨by omega,by omega⟩
  cases h1:(s.parent==i) with
  | false=>
    have hsame:=zdX (show zb6 c i false k=false by rw [hkid,h1]; rfl)
    have F:=ai k1<|ai k2<|ai hs<|ai stAV.eq_1<|h1
    repeat refine st ?_
    refine⟨k+1,⟨hlt,by simp only [go_sem,he]⟩, ?_, ?_, ?_⟩
    ·(simp only [go_sem,F])
    ·have F:=ai k1<|ai k2<|ai hs<|ai stAV.eq_1<|ai h1<|hsame
     (simp only [go_sem,F])
    ·omega
  | true=>
    have hmore:=zfc (show zb6 c i false k=true by rw [hkid,h1]; rfl)
    have F:=ai k1<|ai k2<|ai hs<|ai stAV.eq_1<|ai h1<|hf
    repeat refine st ?_
    refine⟨k+1,⟨hlt,by simp only [go_sem,he]⟩, ?_, ?_, ?_⟩
    ·(simp only [go_sem,F])
    ·have F:=ai k1<|ai k2<|ai hs<|ai stAV.eq_1<|ai h1<|hmore
     (simp only [go_sem,F])
    ·omega
 ·have k1: ¬(k:Int)< (c.states.length:Int):=by omega
  obtain rfl:k=c.states.length:=by omega
  have F:=ai k1<|he
  repeat refine st ?_
  (refine zaf ?_; show (zao _ _ _).run _=some _; simp only [go_sem,F])
  rfl
theorem zbf (env:Env) (c:ChD) (i:Int) (real:Bool) (hc:c.states.length<=1000000):Con Tryz.prog env 154 [.agg (chAV c),I i,B real] (.own 3 1 ((kidsL c i real).map zad)):=by
 refine zaa Tryz.func154 rfl Tryz.call154 (by rw [Tryz.ntmps154]; simp) ?_
 rw [Tryz.ntmps154,Tryz.results154]
 have F:=chAV.eq_1
 repeat refine st ?_
 refine zac (D:=Nat) (fun k vs=>[(1,I i),(2,B real),(3, .loc 3 (vs 3) 0 0),(7, .row 9 (vs 9)),(8,I k)]) (fun k _=>[(3,⟨5,[chAV c],26,false⟩),(9,⟨1,(za4 c i real k).map zad,3,true⟩)]) (fun k _ esc=>k<=c.states.length/\esc 9=false) (fun k=>c.states.length-k) 0 ?_ ?_ ?_ ?_
 ·exact⟨Nat.zero_le _,rfl⟩
 ·(simp only [go_sem,F])
 ·(simp only [go_sem,F])
  simp [za4]
 rintro k ws esc ⟨hk,he⟩
 by_cases hlt:k<c.states.length
 ·obtain⟨s,hs,_⟩:=zat hlt
  have k1:=nlt hlt
  have k2:=zab hlt (by omega)
  have hkid:=zjd hs i real
  have hlen:=za9 c i real k
  have hf:Fits ((za4 c i real k).length+1) 8:=⟨by omega,by omega⟩
  cases h1:(s.parent==i) with
  | false=>
    have hsame:=zdX (show zb6 c i real k=false by rw [hkid,h1]; rfl)
    have F:=ai chAV.eq_1<|ai k1<|ai k2<|ai hs<|ai stAV.eq_1<|h1
    repeat (first | refine st ?_ | refine cC (zbe env s) ?_)
    refine⟨k+1,⟨hlt,by simp only [go_sem,he]⟩, ?_, ?_, ?_⟩
    ·(simp only [go_sem,F])
    ·have F:=ai chAV.eq_1<|ai k1<|ai k2<|ai hs<|ai stAV.eq_1<|ai h1<|hsame
     (simp only [go_sem,F])
    ·omega
  | true=>
    cases real with
    | false=>
      have hmore:=zfc (show zb6 c i false k=true by rw [hkid,h1]; rfl)
      have F:=ai chAV.eq_1<|ai k1<|ai k2<|ai hs<|ai stAV.eq_1<|ai h1<|hf
      repeat (first | refine st ?_ | refine cC (zbe env s) ?_)
      refine⟨k+1,⟨hlt,by simp only [go_sem,he]⟩, ?_, ?_, ?_⟩
      ·(simp only [go_sem,F])
      ·have F:=ai chAV.eq_1<|ai k1<|ai k2<|ai hs<|ai stAV.eq_1<|ai h1<|hmore
       (simp only [go_sem,F])
      ·omega
    | true=>
      cases h2:zaD s with
      | true=>
        have hsame:=zdX (show zb6 c i true k=false by rw [hkid,h1,h2]; rfl)
        have F:=ai chAV.eq_1<|ai k1<|ai k2<|ai hs<|ai stAV.eq_1<|ai h1<|h2
        repeat (first | refine st ?_ | refine cC (zbe env s) ?_)
        refine⟨k+1,⟨hlt,by simp only [go_sem,he]⟩, ?_, ?_, ?_⟩
        ·(simp only [go_sem,F])
        ·have F:=ai chAV.eq_1<|ai k1<|ai k2<|ai hs<|ai stAV.eq_1<|ai h1<|ai h2<|hsame
         (simp only [go_sem,F])
        ·omega
      | false=>
        have hmore:=zfc (show zb6 c i true k=true by rw [hkid,h1,h2]; rfl)
        have F:=ai chAV.eq_1<|ai k1<|ai k2<|ai hs<|ai stAV.eq_1<|ai h1<|ai h2<|hf
        repeat (first | refine st ?_ | refine cC (zbe env s) ?_)
        refine⟨k+1,⟨hlt,by simp only [go_sem,he]⟩, ?_, ?_, ?_⟩
        ·(simp only [go_sem,F])
        ·have F:=ai chAV.eq_1<|ai k1<|ai k2<|ai hs<|ai stAV.eq_1<|ai h1<|ai h2<|hmore
         (simp only [go_sem,F])
        ·omega
 ·have k1: ¬(k:Int)< (c.states.length:Int):=by omega
  obtain rfl:k=c.states.length:=by omega
  have F:=ai chAV.eq_1<|ai k1<|he
  repeat refine st ?_
  (refine zaf ?_; show (zao _ _ _).run _=some _; simp only [go_sem,F])
  rfl
/-! The state of a name -/
theorem zqa (env:Env) (c:ChD) (name:List UInt8) (hc:c.states.length<=1000000):Con Tryz.prog env 250 [.agg (chAV c),Sg name] (I (zhP c name)):=by
 refine zaa Tryz.func250 rfl Tryz.call250 (by rw [Tryz.ntmps250]; simp) ?_
 rw [Tryz.ntmps250,Tryz.results250]
 have F:=chAV.eq_1
 repeat refine st ?_
 refine zac (D:=Nat) (fun k _=>[(1,Sg name),(8,stsAV c.states),(9,I c.states.length),(10,I k)]) (fun _ _=>[]) (fun k _ _=>k<=c.states.length/\zcF c name k= -1) (fun k=>c.states.length-k) 0 ?_ ?_ ?_ ?_
 ·exact⟨Nat.zero_le _,rfl⟩
 ·(simp only [go_sem,F])
 ·(simp only [go_sem,F])
 rintro k ws esc ⟨hk,hf⟩
 by_cases hlt:k<c.states.length
 ·obtain⟨s,hs,_⟩:=zat hlt
  have k1:=nlt hlt
  have k2:=zab hlt (by omega)
  cases h1:(s.name==name) with
  | true=>
    rw [zkL c name hlt hf s hs (by simpa using h1)]
    have F:=ai k1<|ai k2<|ai hs<|ai stAV.eq_1<|h1
    repeat refine st ?_
    exact aR
  | false=>
    have F:=ai k1<|ai k2<|ai hs<|ai stAV.eq_1<|h1
    repeat refine st ?_
    refine⟨k+1,⟨hlt,zhm c name hf s hs (by simpa using h1)⟩, ?_, ?_, ?_⟩
    ·(simp only [go_sem,F])
    ·(simp only [go_sem,F])
    ·omega
 ·have k1: ¬(k:Int)< (c.states.length:Int):=by omega
  obtain rfl:k=c.states.length:=by omega
  rw [show zhP c name= -1 from hf]
  have F:=k1
  repeat refine st ?_
  exact aR
theorem zj6 (env:Env) (c:ChD) (name:List UInt8) (hc:c.states.length<=1000000):Con Tryz.prog env 187 [.agg (chAV c),Sg name] (I (zhP c name)):=by
 refine zaa Tryz.func187 rfl Tryz.call187 (by rw [Tryz.ntmps187]; simp) ?_
 rw [Tryz.ntmps187,Tryz.results187]
 have F:=chAV.eq_1
 repeat refine st ?_
 refine zac (D:=Nat) (fun k vs=>[(1,Sg name),(2, .loc 2 (vs 2) 0 0),(5,I k)]) (fun _ _=>[(2,⟨5,[chAV c],26,false⟩)]) (fun k _ _=>k<=c.states.length/\zcF c name k= -1) (fun k=>c.states.length-k) 0 ?_ ?_ ?_ ?_
 ·exact⟨Nat.zero_le _,rfl⟩
 ·(simp only [go_sem,F])
 ·(simp only [go_sem,F])
 rintro k ws esc ⟨hk,hf⟩
 by_cases hlt:k<c.states.length
 ·obtain⟨s,hs,_⟩:=zat hlt
  have k1:=nlt hlt
  have k2:=zab hlt (by omega)
  cases h1:(s.name==name) with
  | true=>
    rw [zkL c name hlt hf s hs (by simpa using h1)]
    have F:=ai chAV.eq_1<|ai k1<|ai k2<|ai hs<|ai stAV.eq_1<|h1
    repeat refine st ?_
    exact aR
  | false=>
    have F:=ai chAV.eq_1<|ai k1<|ai k2<|ai hs<|ai stAV.eq_1<|h1
    repeat refine st ?_
    refine⟨k+1,⟨hlt,zhm c name hf s hs (by simpa using h1)⟩, ?_, ?_, ?_⟩
    ·(simp only [go_sem,F])
    ·(simp only [go_sem,F])
    ·omega
 ·have k1: ¬(k:Int)< (c.states.length:Int):=by omega
  obtain rfl:k=c.states.length:=by omega
  rw [show zhP c name= -1 from hf]
  have F:=ai chAV.eq_1<|k1
  repeat refine st ?_
  exact aR
end
section
theorem zkd (env:Env) (a1 a8:Addr) (he:ChEnv env a1 a8) (c:ChD) (l:List OpD):Con Tryz.prog env 254 [.agg (chAV c),opsAV l] (B (zaH l c.vars.length c.states.length)):=by
 have hx:=zey env a1 a8 he l c.vars.length c.states.length
 unfold zd3 at hx
 refine zaa Tryz.func254 rfl Tryz.call254 (by rw [Tryz.ntmps254]; simp) ?_
 rw [Tryz.ntmps254,Tryz.results254]
 by_cases h0:zev l c.vars.length c.states.length=0
 ·rw [if_pos h0] at hx
  rw [show zaH l c.vars.length c.states.length=true by simp [zaH,h0]]
  have F:=chAV.eq_1
  repeat (first | refine st ?_ | refine cC hx ?_)
  exact aR
 ·rw [if_neg h0] at hx
  rw [show zaH l c.vars.length c.states.length=false by simp [zaH,h0]]
  by_cases h8:zev l c.vars.length c.states.length=8
  ·rw [if_pos h8] at hx
   have F:=chAV.eq_1
   repeat (first | refine st ?_ | refine cC hx ?_)
   exact aR
  ·rw [if_neg h8] at hx
   have F:=chAV.eq_1
   repeat (first | refine st ?_ | refine cC hx ?_)
   exact aR
theorem zbh {a b:Int} (h:a≠b):(a==b)=false:=by simpa using h
theorem zsf (env:Env) (a1 a8:Addr) (he:ChEnv env a1 a8) (c:ChD) (a:ActD) (ha:a.name.length<=9223372036854775807):Con Tryz.prog env 291 [.agg (chAV c), .agg (zaK a)] (B (actB c.vars.length c.states.length a)):=by
 obtain⟨k,n,m,co⟩:=a
 have hcode:=zkd env a1 a8 he c co
 have hname:=zb1 env m ha
 refine zaa Tryz.func291 rfl Tryz.call291 (by rw [Tryz.ntmps291]; simp) ?_
 rw [Tryz.ntmps291,Tryz.results291]
 by_cases hk1:k=1
 ·subst hk1
  have hr:actB c.vars.length c.states.length ⟨1,n,m,co⟩=(decide (0<=n/\n<c.vars.length)&&(m == [])&&zaH co c.vars.length c.states.length):=rfl
  by_cases h1:0<=n
  ·by_cases h2:n< (c.vars.length:Int)
   ·cases h3:(m == [])
    ·rw [show actB c.vars.length c.states.length ⟨1,n,m,co⟩=false by rw [hr,h3]; simp]
     have F:=ai chAV.eq_1<|ai zaK.eq_1<|ai h1<|ai h2<|h3
     repeat (first | refine st ?_ | refine cC hcode ?_)
     exact aR
    ·rw [show actB c.vars.length c.states.length ⟨1,n,m,co⟩=zaH co c.vars.length c.states.length by rw [hr,h3]; simp [h1,h2]]
     have F:=ai chAV.eq_1<|ai zaK.eq_1<|ai h1<|ai h2<|h3
     repeat (first | refine st ?_ | refine cC hcode ?_)
     exact aR
   ·rw [show actB c.vars.length c.states.length ⟨1,n,m,co⟩=false by rw [hr]; simp [h2]]
    have F:=ai chAV.eq_1<|ai zaK.eq_1<|ai h1<|h2
    repeat (first | refine st ?_ | refine cC hcode ?_)
    exact aR
  ·rw [show actB c.vars.length c.states.length ⟨1,n,m,co⟩=false by rw [hr]; simp [h1]]
   have F:=ai chAV.eq_1<|ai zaK.eq_1<|h1
   repeat (first | refine st ?_ | refine cC hcode ?_)
   exact aR
 by_cases hk24:k=2\/k=4
 ·have hr:actB c.vars.length c.states.length ⟨k,n,m,co⟩=((n==0)&&zaJ m&&zaH co c.vars.length c.states.length):=by unfold actB; rw [if_neg hk1,if_pos hk24]
  rw [hr]
  rcases hk24 with rfl | rfl
  ·cases h1:(n==0)
   ·have F:=ai chAV.eq_1<|ai zaK.eq_1<|h1
    repeat (first | refine st ?_ | refine cC hcode ?_ | refine cC hname ?_)
    exact aR
   ·cases h2:zaJ m
    ·have F:=ai chAV.eq_1<|ai zaK.eq_1<|ai h1<|h2
     repeat (first | refine st ?_ | refine cC hcode ?_ | refine cC hname ?_)
     exact aR
    ·have F:=ai chAV.eq_1<|ai zaK.eq_1<|ai h1<|h2
     repeat (first | refine st ?_ | refine cC hcode ?_ | refine cC hname ?_)
     exact aR
  ·cases h1:(n==0)
   ·have F:=ai chAV.eq_1<|ai zaK.eq_1<|h1
    repeat (first | refine st ?_ | refine cC hcode ?_ | refine cC hname ?_)
    exact aR
   ·cases h2:zaJ m
    ·have F:=ai chAV.eq_1<|ai zaK.eq_1<|ai h1<|h2
     repeat (first | refine st ?_ | refine cC hcode ?_ | refine cC hname ?_)
     exact aR
    ·have F:=ai chAV.eq_1<|ai zaK.eq_1<|ai h1<|h2
     repeat (first | refine st ?_ | refine cC hcode ?_ | refine cC hname ?_)
     exact aR
 by_cases hk3:k=3
 ·subst hk3
  have hr:actB c.vars.length c.states.length ⟨3,n,m,co⟩=((n==0)&&(m == [])&&zaH co c.vars.length c.states.length):=rfl
  rw [hr]
  cases h1:(n==0)
  ·have F:=ai chAV.eq_1<|ai zaK.eq_1<|h1
   repeat (first | refine st ?_ | refine cC hcode ?_ | refine cC hname ?_)
   exact aR
  ·cases h2:(m == [])
   ·have F:=ai chAV.eq_1<|ai zaK.eq_1<|ai h1<|h2
    repeat (first | refine st ?_ | refine cC hcode ?_ | refine cC hname ?_)
    exact aR
   ·have F:=ai chAV.eq_1<|ai zaK.eq_1<|ai h1<|h2
    repeat (first | refine st ?_ | refine cC hcode ?_ | refine cC hname ?_)
    exact aR
 by_cases hk5:k=5
 ·subst hk5
  have hr:actB c.vars.length c.states.length ⟨5,n,m,co⟩=((n==0)&&zaJ m&&(co == [])):=rfl
  rw [hr]
  have h3:((co.length:Int)==0)=(co == []):=by
   rw [Bool.eq_iff_iff]
   simp
  cases h1:(n==0)
  ·have F:=ai chAV.eq_1<|ai zaK.eq_1<|h1
   repeat (first | refine st ?_ | refine cC hcode ?_ | refine cC hname ?_)
   exact aR
  ·cases h2:zaJ m
   ·have F:=ai chAV.eq_1<|ai zaK.eq_1<|ai h1<|h2
    repeat (first | refine st ?_ | refine cC hcode ?_ | refine cC hname ?_)
    exact aR
   ·have F:=ai chAV.eq_1<|ai zaK.eq_1<|ai h1<|ai h2<|h3
    repeat (first | refine st ?_ | refine cC hcode ?_ | refine cC hname ?_)
    exact aR
 have hr:actB c.vars.length c.states.length ⟨k,n,m,co⟩=false:=by unfold actB; rw [if_neg hk1,if_neg hk24,if_neg hk3,if_neg hk5]
 have b1:=zbh hk1
 have b2:=zbh (fun h=>hk24 (.inl h))
 have b4:=zbh (fun h=>hk24 (.inr h))
 have b3:=zbh hk3
 have b5:=zbh hk5
 rw [hr]
 have F:=ai chAV.eq_1<|ai zaK.eq_1<|ai b1<|ai b2<|ai b3<|ai b4<|b5
 repeat refine st ?_
 exact aR
theorem zbW {α:Type} {l:List α} {p:α->Bool} {i:Nat} {x:α} (h:(l.take i).all p=true) (hx:l[i]? =some x) (hp:p x=true):(l.take (i+1)).all p=true:=by
 obtain⟨h1,h2⟩:=List.getElem?_eq_some_iff.1 hx
 rw [List.take_succ_eq_append_getElem h1,List.all_append,h,h2]
 simp [hp]
theorem zfS {α:Type} {l:List α} {p:α->Bool} {i:Nat} {x:α} (hx:l[i]? =some x) (hp:p x=false):l.all p=false:=by
 rw [Bool.eq_false_iff]
 intro h
 rw [List.all_eq_true] at h
 rw [h _ (List.mem_of_getElem? hx)] at hp
 cases hp
theorem zjB {α:Type} {l:List α} {p:α->Bool} {i:Nat} (h:(l.take i).all p=true) (hi:l.length<=i):l.all p=true:=by
 rwa [List.take_of_length_le hi] at h
theorem zgZ (env:Env) (a1 a8:Addr) (he:ChEnv env a1 a8) (c:ChD) (l:List ActD) (hl:l.length<=9223372036854775807) (ha: ∀a∈l,a.name.length<=9223372036854775807):Con Tryz.prog env 253 [.agg (chAV c),actsAV l] (B (zbY c.vars.length c.states.length l)):=by
 refine zaa Tryz.func253 rfl Tryz.call253 (by rw [Tryz.ntmps253]; simp) ?_
 rw [Tryz.ntmps253,Tryz.results253]
 have F:=chAV.eq_1
 repeat refine st ?_
 refine zac (D:=Nat) (fun k vs=>[(1,actsAV l),(2, .loc 2 (vs 2) 0 0),(7,actsAV l),(8,I l.length),(9,I k)]) (fun _ _=>[(2,⟨5,[chAV c],26,false⟩)]) (fun k _ _=>k<=l.length/\(l.take k).all (actB c.vars.length c.states.length)=true) (fun k=>l.length-k) 0 ?_ ?_ ?_ ?_
 ·exact⟨Nat.zero_le _,rfl⟩
 ·(simp only [go_sem,F])
 ·(simp only [go_sem,F])
 rintro k ws esc ⟨hk,hall⟩
 by_cases hlt:k<l.length
 ·obtain⟨a,hx,hm⟩:=zat hlt
  have k1:=nlt hlt
  have k2:=zab hlt hl
  have hact:=zsf env a1 a8 he c a (ha a hm)
  cases h1:actB c.vars.length c.states.length a with
  | true=>
    have F:=ai chAV.eq_1<|ai k1<|ai k2<|ai hx<|ai zaK.eq_1<|h1
    repeat (first | refine st ?_ | refine cC hact ?_)
    refine⟨k+1,⟨hlt,zbW hall hx h1⟩, ?_, ?_, ?_⟩
    ·(simp only [go_sem,F])
    ·(simp only [go_sem,F])
    ·omega
  | false=>
    rw [show zbY c.vars.length c.states.length l=false by unfold zbY; rw [zfS hx h1]; simp]
    have F:=ai chAV.eq_1<|ai k1<|ai k2<|ai hx<|ai zaK.eq_1<|h1
    repeat (first | refine st ?_ | refine cC hact ?_)
    exact aR
 ·have k1: ¬(k:Int)< (l.length:Int):=by omega
  have h3:decide ((l.length:Int)<=32)=decide (l.length<=32):=by rw [Bool.eq_iff_iff]; simp; omega
  rw [show zbY c.vars.length c.states.length l=decide (l.length<=32) by unfold zbY; rw [zjB hall (by omega)]; simp]
  have F:=ai chAV.eq_1<|k1
  repeat refine st ?_
  (refine zaf ?_; show (zao _ _ _).run _=some _; simp only [go_sem,F])
  exact congrArg B h3
end
section
theorem zlW (env:Env) (c:ChD) (i:Int):Con Tryz.prog env 201 [.agg (chAV c),I i] (B (decide (0<=i)&&decide (i<c.states.length))):=by
 refine zaa Tryz.func201 rfl Tryz.call201 (by rw [Tryz.ntmps201]; simp) ?_
 rw [Tryz.ntmps201,Tryz.results201]
 by_cases h1:0<=i<;>by_cases h2:i< (c.states.length:Int)<;>
 ·have F:=ai chAV.eq_1<|ai h1<|h2
  repeat refine st ?_
  exact aR
theorem Str.ifl (t:TypeId) (v:Value):Str (.lit (.iface t v)) (.iface t (.lit v)):=fun S w u h=>by
 obtain rfl:=h.lit_inv
 exact .iface t v (.lit v) (.lit v)
theorem Str.lfi (t:TypeId) (v:Value):Str (.iface t (.lit v)) (.lit (.iface t v)):=fun S w u h=>by
 cases h with
 | iface _ v' _ h=>
   obtain rfl:=h.lit_inv
   exact .lit _
theorem zfl (s p:AV) (q:Int) (hp:p=I q) (e e':AV) (he:Str e' e):RStr (.iface 159 (.ref 3 [[s,p,e']] 0 0)) (errV q e):=by
 subst hp
 exact .of (.iface (.ref1 (cs:=[.any,I q,e]) (.cons (.any _) (.cons (.refl _) (.cons he .nil))))) (fun _ _ _ h=>by cases h) (fun _ _ _ h=>by cases h)
theorem zmg (env:Env) (s:List UInt8) (p:Int) (a:Addr) (hp: -1<=p):Con Tryz.prog env 227 [Sg s,I p,sentV a] (errV p (sentV a)):=by
 refine Con.args (cs:=[Sg s,I p, .iface 379 (.lit (.pointer (some a)))]) ?_ (.cons (.refl _) (.cons (.refl _) (.cons (.ifl _ _) .nil)))
 have h1: ¬p< -1:=by omega
 refine zan Tryz.func227 rfl Tryz.call227 (by rw [Tryz.ntmps227]; simp) ?_
 rw [Tryz.ntmps227,Tryz.results227]
 have F:=h1
 repeat refine st ?_
 (refine zaf ?_; refine⟨_,(by show (zao _ _ _).run _=some _; simp only [go_sem,F]; rfl), ?_⟩)
 exact zfl _ _ _ rfl _ _ (.lfi _ _)
theorem zgm (env:Env) (a1 a8:Addr) (he:ChEnv env a1 a8) (p:Int) (hp: -1<=p):Con Tryz.prog env 198 [I p] (errV p (sentV a1)):=by
 have g1:=zhf he.e1
 refine zaa Tryz.func198 rfl Tryz.call198 (by rw [Tryz.ntmps198]; simp) ?_
 rw [Tryz.ntmps198,Tryz.results198]
 have F:=g1
 repeat (first | refine st ?_ | refine cC (zmg env _ p a1 hp) ?_)
 exact aR
theorem zel {c:ChD} {m:Nat} {q:StD} (h:c.states[m]? =some q):zaA c (m:Int)=zcc q:=by unfold zaA; rw [zbV,h]
theorem zcU {n:Int} (h:0<=n): ∃m:Nat,n=m:=⟨n.toNat,by omega⟩
theorem zlV (env:Env) (c:ChD) (i:Nat) (s:StD) (hs:c.states[i]? =some s):Con Tryz.prog env 251 [.agg (chAV c),I i] (B (zaR c i s)):=by
 have hi:i<c.states.length:=(List.getElem?_eq_some_iff.1 hs).1
 have k0:=nlt hi
 refine zaa Tryz.func251 rfl Tryz.call251 (by rw [Tryz.ntmps251]; simp) ?_
 rw [Tryz.ntmps251,Tryz.results251]
 cases h1:(s.parent == -1)
 ·by_cases h2:0<=s.parent
  ·obtain⟨m,hm⟩:=zcU h2
   by_cases h3:(m:Int)< (i:Int)
   ·have hml:m<c.states.length:=by omega
    obtain⟨q,hq,_⟩:=zat hml
    have k3:=nlt hml
    have h1':((m:Int) == -1)=false:=by rw [<-hm]; exact h1
    rw [show zaR c i s=zcc q by unfold zaR; rw [hm,zel hq,h1']; simp [h3]]
    have F:=ai chAV.eq_1<|ai k0<|ai hs<|ai stAV.eq_1<|ai hm<|ai h1'<|ai h3<|ai k3<|hq
    repeat (first | refine st ?_ | refine cC (zdo env q) ?_)
    exact aR
   ·have h1':((m:Int) == -1)=false:=by rw [<-hm]; exact h1
    rw [show zaR c i s=false by unfold zaR; rw [hm,h1']; simp [h3]]
    have F:=ai chAV.eq_1<|ai k0<|ai hs<|ai stAV.eq_1<|ai hm<|ai h1'<|h3
    repeat refine st ?_
    exact aR
  ·rw [show zaR c i s=false by unfold zaR; rw [h1]; simp [h2]]
   have F:=ai chAV.eq_1<|ai k0<|ai hs<|ai stAV.eq_1<|ai h1<|h2
   repeat refine st ?_
   exact aR
 ·rw [show zaR c i s=true by unfold zaR; rw [h1]; rfl]
  have F:=ai chAV.eq_1<|ai k0<|ai hs<|ai stAV.eq_1<|h1
  repeat refine st ?_
  exact aR
theorem zoo (env:Env) (c:ChD) (s:StD) (hp:s.parent<c.states.length):Con Tryz.prog env 290 [.agg (chAV c), .agg (stAV s)] (B (zaQ c s)):=by
 refine zaa Tryz.func290 rfl Tryz.call290 (by rw [Tryz.ntmps290]; simp) ?_
 rw [Tryz.ntmps290,Tryz.results290]
 by_cases h2:0<=s.parent
 ·obtain⟨m,hm⟩:=zcU h2
  have hml:m<c.states.length:=by omega
  obtain⟨q,hq,_⟩:=zat hml
  have k3:=nlt hml
  rw [show zaQ c s=(q.kind==1) by unfold zaQ; rw [hm,zbV,hq]]
  have F:=ai chAV.eq_1<|ai stAV.eq_1<|ai hm<|ai k3<|hq
  repeat refine st ?_
  exact aR
 ·rw [show zaQ c s=false by unfold zaQ at_; rw [if_neg h2]]
  have F:=ai chAV.eq_1<|ai stAV.eq_1<|h2
  repeat refine st ?_
  exact aR
theorem zpe {a b:Nat} (ha:a<=9223372036854775807) (hb:b<=9223372036854775807):IntKind.i64.wrap ((a:Int)+(b:Int))=0↔a+b=0:=by
 by_cases h:a+b<9223372036854775808
 ·rw [zaC (by omega) (by omega)]
  omega
 ·have:IntKind.i64.wrap ((a:Int)+(b:Int))=(a:Int)+(b:Int)-18446744073709551616:=by
   simp [IntKind.wrap,IntKind.bits,IntKind.signed]
   omega
  omega
theorem zb3 {α:Type} [DecidableEq α] (l:List α):((l.length:Int)==0)=(l == []):=by
 rw [Bool.eq_iff_iff]
 simp
theorem zp7 {c:ChD} {i:Nat} {s:StD} (hi:i<c.states.length) (h:zaR c i s=true):s.parent<c.states.length:=by
 unfold zaR at h
 simp only [Bool.or_eq_true,beq_iff_eq,Bool.and_eq_true,decide_eq_true_eq] at h
 omega
theorem ztY {c:ChD} {i:Int} {real:Bool} {j k:Nat} (h:(kidsL c i real)[j]? =some k): ∃q,c.states[k]? =some q/\k<c.states.length:=by
 have hk:=zfd (List.mem_of_getElem? h)
 obtain⟨q,hq,_⟩:=zat hk.1
 exact⟨q,hq,hk.1⟩
theorem zon (env:Env) (c:ChD) (i:Nat) (s:StD) (hs:c.states[i]? =some s) (hn:c.states.length<=1000000) (hp:s.parent<c.states.length) (h1l:s.inn.length<=9223372036854775807) (h2l:s.out.length<=9223372036854775807):Con Tryz.prog env 252 [.agg (chAV c),I i] (B (zav c i s)):=by
 have hi:i<c.states.length:=(List.getElem?_eq_some_iff.1 hs).1
 have k0:=nlt hi
 have hreal:=zc9 env c i hn
 have hreal2:=zc9 env c s.parent hn
 have hkids:=zgX env c i hn
 have hplain:=zoo env c s hp
 have hKl:(kidsL c i true).length<=1000000:=Nat.le_trans (za9 c i true _) hn
 have hKl2:(kidsL c s.parent true).length<=1000000:=Nat.le_trans (za9 c s.parent true _) hn
 have hcon:=zd6 env (kidsL c i true) s.initial hKl
 have hcon2:=zd6 env (kidsL c s.parent true) s.initial hKl2
 have z1:=zb3 (kidsL c i true)
 have z2:=zb3 (kidsL c i false)
 have z3:=zb3 s.out
 refine zaa Tryz.func252 rfl Tryz.call252 (by rw [Tryz.ntmps252]; simp) ?_
 rw [Tryz.ntmps252,Tryz.results252]
 by_cases hk1:s.kind=1
 ·have hr:zav c i s=(if kidsL c i true=[] then s.initial == -1 else inL (kidsL c i true) s.initial):=by unfold zav; rw [if_pos hk1]
  rw [hr]
  cases e1:(kidsL c i true == [])
  ·rw [if_neg (by simpa using e1)]
   have F:=ai chAV.eq_1<|ai k0<|ai hs<|ai stAV.eq_1<|ai hk1<|ai z1<|e1
   repeat (first | refine st ?_ | refine cC hreal ?_ | refine cC hcon ?_)
   exact aR
  ·have e1':kidsL c i true=[]:=by simpa using e1
   rw [if_pos e1']
   cases e2:(s.initial == -1)
   ·have F:=ai chAV.eq_1<|ai k0<|ai hs<|ai stAV.eq_1<|ai hk1<|ai z1<|ai e1<|e2
    repeat (first | refine st ?_ | refine cC hreal ?_ | refine cC hcon ?_)
    (refine zaf ?_; show (zao _ _ _).run _=some _; simp only [go_sem,F])
    rw [e1']
    rfl
   ·have F:=ai chAV.eq_1<|ai k0<|ai hs<|ai stAV.eq_1<|ai hk1<|ai z1<|ai e1<|e2
    repeat (first | refine st ?_ | refine cC hreal ?_ | refine cC hcon ?_)
    exact aR
 have b1:=zbh hk1
 by_cases hk2:s.kind=2
 ·have hr:zav c i s=(((kidsL c i true).all fun k=>zaA c k)&&decide (0< (kidsL c i true).length)&&(s.initial == -1)):=by unfold zav; rw [if_neg hk1,if_pos hk2]
  rw [hr]
  have F:=ai chAV.eq_1<|ai k0<|ai hs<|ai stAV.eq_1<|hk2
  repeat (first | refine st ?_ | refine cC hreal ?_)
  refine zac (D:=Nat) (fun j vs=>[(1,I i),(2, .loc 2 (vs 2) 0 0),(5, .loc 5 (vs 5) 0 0),(6, .row 16 (vs 16)),(18,I 2),(37, .row 16 (vs 16)),(38,I (kidsL c i true).length),(39,I j)]) (fun _ _=>[(2,⟨5,[chAV c],26,false⟩),(5,⟨6,[stAV s],123,false⟩),(16,⟨1,(kidsL c i true).map zad,3,true⟩)]) (fun j _ _=>j<=(kidsL c i true).length/\((kidsL c i true).take j).all (fun k=>zaA c k)=true) (fun j=>(kidsL c i true).length-j) 0 ?_ ?_ ?_ ?_
  ·exact⟨Nat.zero_le _,rfl⟩
  ·(simp only [go_sem,F])
  ·(simp only [go_sem,F])
  rintro j ws esc ⟨hj,hall⟩
  by_cases hlt:j< (kidsL c i true).length
  ·obtain⟨k,hk,_⟩:=zat hlt
   obtain⟨q,hq,hkl⟩:=ztY hk
   have k1:=nlt hlt
   have k2:=zab hlt (by omega)
   have k3:=nlt hkl
   have hnorm:=zdo env q
   cases e1:zcc q
   ·rw [show ((kidsL c i true).all fun k=>zaA c k)=false from zfS hk (by rw [zel hq]; exact e1),Bool.false_and,Bool.false_and]
    have F:=ai chAV.eq_1<|ai k1<|ai k2<|ai k3<|ai hk<|ai hq<|ai zad.eq_1<|ai stAV.eq_1<|e1
    repeat (first | refine st ?_ | refine cC hnorm ?_)
    exact aR
   ·have F:=ai chAV.eq_1<|ai k1<|ai k2<|ai k3<|ai hk<|ai hq<|ai zad.eq_1<|ai stAV.eq_1<|e1
    repeat (first | refine st ?_ | refine cC hnorm ?_)
    refine⟨j+1,⟨hlt,zbW hall hk (by rw [zel hq]; exact e1)⟩, ?_, ?_, ?_⟩
    ·(simp only [go_sem,F])
    ·(simp only [go_sem,F])
    ·omega
  ·have k1: ¬(j:Int)< ((kidsL c i true).length:Int):=by omega
   rw [zjB hall (by omega),Bool.true_and]
   have z4:decide ((0:Int)< ((kidsL c i true).length:Int))=decide (0< (kidsL c i true).length):=by rw [Bool.eq_iff_iff]; simp
   cases e1:decide (0< (kidsL c i true).length)
   ·have e1': ¬(0:Int)< ((kidsL c i true).length:Int):=by simpa using e1
    have F:=ai chAV.eq_1<|ai k1<|ai stAV.eq_1<|e1'
    repeat refine st ?_
    exact aR
   ·have e1':(0:Int)< ((kidsL c i true).length:Int):=by simpa using e1
    have F:=ai chAV.eq_1<|ai k1<|ai stAV.eq_1<|e1'
    repeat refine st ?_
    exact aR
 have b2:=zbh hk2
 by_cases hk3:s.kind=3
 ·have hr:zav c i s=((kidsL c i false == [])&&((s.parent == -1)||zaQ c s)&&(s.initial == -1)&&(s.out == [])):=by unfold zav; rw [if_neg hk1,if_neg hk2,if_pos hk3]
  rw [hr]
  cases e1:(kidsL c i false == [])
  ·have F:=ai chAV.eq_1<|ai k0<|ai hs<|ai stAV.eq_1<|ai hk3<|ai z2<|e1
   repeat (first | refine st ?_ | refine cC hreal ?_ | refine cC hkids ?_ | refine cC hplain ?_)
   exact aR
  ·cases e2:(s.parent == -1)
   ·cases e3:zaQ c s
    ·have F:=ai chAV.eq_1<|ai k0<|ai hs<|ai stAV.eq_1<|ai hk3<|ai z2<|ai e1<|ai e2<|e3
     repeat (first | refine st ?_ | refine cC hreal ?_ | refine cC hkids ?_ | refine cC hplain ?_)
     exact aR
    ·cases e4:(s.initial == -1)
     ·have F:=ai chAV.eq_1<|ai k0<|ai hs<|ai stAV.eq_1<|ai hk3<|ai z2<|ai e1<|ai e2<|ai e3<|e4
      repeat (first | refine st ?_ | refine cC hreal ?_ | refine cC hkids ?_ | refine cC hplain ?_)
      exact aR
     ·have F:=ai chAV.eq_1<|ai k0<|ai hs<|ai stAV.eq_1<|ai hk3<|ai z2<|ai e1<|ai e2<|ai e3<|ai e4<|z3
      repeat (first | refine st ?_ | refine cC hreal ?_ | refine cC hkids ?_ | refine cC hplain ?_)
      exact aR
   ·cases e4:(s.initial == -1)
    ·have F:=ai chAV.eq_1<|ai k0<|ai hs<|ai stAV.eq_1<|ai hk3<|ai z2<|ai e1<|ai e2<|e4
     repeat (first | refine st ?_ | refine cC hreal ?_ | refine cC hkids ?_ | refine cC hplain ?_)
     exact aR
    ·have F:=ai chAV.eq_1<|ai k0<|ai hs<|ai stAV.eq_1<|ai hk3<|ai z2<|ai e1<|ai e2<|ai e4<|z3
     repeat (first | refine st ?_ | refine cC hreal ?_ | refine cC hkids ?_ | refine cC hplain ?_)
     exact aR
 have b3:=zbh hk3
 by_cases hk45:s.kind=4\/s.kind=5
 ·have hr:zav c i s=((kidsL c i false == [])&&zaQ c s&&inL (kidsL c s.parent true) s.initial&&(s.inn == [])&&(s.out == [])):=by unfold zav; rw [if_neg hk1,if_neg hk2,if_neg hk3,if_pos hk45]
  rw [hr]
  have z5:(IntKind.i64.wrap ((s.inn.length:Int)+(s.out.length:Int))==0)=((s.inn == [])&&(s.out == [])):=by
   rw [Bool.eq_iff_iff]
   simp only [beq_iff_eq,Bool.and_eq_true, <-List.length_eq_zero_iff,zpe h1l h2l]
   omega
  rw [Bool.and_assoc _ (s.inn == []), <-z5]
  rcases hk45 with hk | hk
  ·cases e1:(kidsL c i false == [])
   ·have F:=ai chAV.eq_1<|ai k0<|ai hs<|ai stAV.eq_1<|ai hk<|ai z2<|e1
    repeat (first | refine st ?_ | refine cC hreal ?_ | refine cC hkids ?_ | refine cC hplain ?_ | refine cC hreal2 ?_ | refine cC hcon2 ?_)
    exact aR
   ·cases e2:zaQ c s
    ·have F:=ai chAV.eq_1<|ai k0<|ai hs<|ai stAV.eq_1<|ai hk<|ai z2<|ai e1<|e2
     repeat (first | refine st ?_ | refine cC hreal ?_ | refine cC hkids ?_ | refine cC hplain ?_ | refine cC hreal2 ?_ | refine cC hcon2 ?_)
     exact aR
    ·cases e3:inL (kidsL c s.parent true) s.initial
     ·have F:=ai chAV.eq_1<|ai k0<|ai hs<|ai stAV.eq_1<|ai hk<|ai z2<|ai e1<|ai e2<|e3
      repeat (first | refine st ?_ | refine cC hreal ?_ | refine cC hkids ?_ | refine cC hplain ?_ | refine cC hreal2 ?_ | refine cC hcon2 ?_)
      exact aR
     ·have F:=ai chAV.eq_1<|ai k0<|ai hs<|ai stAV.eq_1<|ai hk<|ai z2<|ai e1<|ai e2<|e3
      repeat (first | refine st ?_ | refine cC hreal ?_ | refine cC hkids ?_ | refine cC hplain ?_ | refine cC hreal2 ?_ | refine cC hcon2 ?_)
      exact aR
  ·cases e1:(kidsL c i false == [])
   ·have F:=ai chAV.eq_1<|ai k0<|ai hs<|ai stAV.eq_1<|ai hk<|ai z2<|e1
    repeat (first | refine st ?_ | refine cC hreal ?_ | refine cC hkids ?_ | refine cC hplain ?_ | refine cC hreal2 ?_ | refine cC hcon2 ?_)
    exact aR
   ·cases e2:zaQ c s
    ·have F:=ai chAV.eq_1<|ai k0<|ai hs<|ai stAV.eq_1<|ai hk<|ai z2<|ai e1<|e2
     repeat (first | refine st ?_ | refine cC hreal ?_ | refine cC hkids ?_ | refine cC hplain ?_ | refine cC hreal2 ?_ | refine cC hcon2 ?_)
     exact aR
    ·cases e3:inL (kidsL c s.parent true) s.initial
     ·have F:=ai chAV.eq_1<|ai k0<|ai hs<|ai stAV.eq_1<|ai hk<|ai z2<|ai e1<|ai e2<|e3
      repeat (first | refine st ?_ | refine cC hreal ?_ | refine cC hkids ?_ | refine cC hplain ?_ | refine cC hreal2 ?_ | refine cC hcon2 ?_)
      exact aR
     ·have F:=ai chAV.eq_1<|ai k0<|ai hs<|ai stAV.eq_1<|ai hk<|ai z2<|ai e1<|ai e2<|e3
      repeat (first | refine st ?_ | refine cC hreal ?_ | refine cC hkids ?_ | refine cC hplain ?_ | refine cC hreal2 ?_ | refine cC hcon2 ?_)
      exact aR
 have b4:=zbh (fun h=>hk45 (.inl h))
 have b5:=zbh (fun h=>hk45 (.inr h))
 rw [show zav c i s=false by unfold zav; rw [if_neg hk1,if_neg hk2,if_neg hk3,if_neg hk45]]
 have F:=ai chAV.eq_1<|ai k0<|ai hs<|ai stAV.eq_1<|ai b1<|ai b2<|ai b3<|ai b4<|b5
 repeat (first | refine st ?_ | refine cC hreal ?_)
 exact aR
end
section
def zjt (a1 a8:Addr) (c:ChD):AV:=if (chk c).1=0 then nilE else if (chk c).1=8 then errV (chk c).2 (sentV a8) else errV (chk c).2 (sentV a1)
theorem zle {a1 a8:Addr} {c:ChD} {p:Int} (h:chk c=(0,p)):zjt a1 a8 c=nilE:=by unfold zjt; rw [h]; rfl
theorem zfM {a1 a8:Addr} {c:ChD} {p:Int} (h:chk c=(8,p)):zjt a1 a8 c=errV p (sentV a8):=by unfold zjt; rw [h]; rfl
theorem zbn {a1 a8:Addr} {c:ChD} {p:Int} (h:chk c=(1,p)):zjt a1 a8 c=errV p (sentV a1):=by unfold zjt; rw [h]; rfl
theorem zfn {c:ChD} {i:Nat} {v:VarD} (h:c.vars[i]? =some v):zfo c i=varB c i v:=by unfold zfo; rw [h]
theorem zgv {c:ChD} {i:Nat} {s:StD} (h:c.states[i]? =some s):zgh c i=zay c i s:=by unfold zgh; rw [h]
theorem zgu {c:ChD} {i:Nat} {t:TrD} (h:c.trans[i]? =some t):zju c i=zcx c t:=by unfold zju; rw [h]
theorem zc2 {p:Nat->Bool} {i:Nat} (h: ∀j,j<i->p j=true) (hi:p i=true): ∀j,j<i+1->p j=true:=fun j hj=>by
 by_cases e:j=i
 ·rw [e]; exact hi
 ·exact h j (by omega)
theorem zqb (env:Env) (a1 a8:Addr) (he:ChEnv env a1 a8) (c:ChD) (hc:zeA c)
 (hV:c.vars.length<=8-> ∀(i:Nat) (v:VarD),c.vars[i]? =some v->Con Tryz.prog env 199 [.agg (chAV c),I i] (B (varB c i v)))
 (hS:c.states.length<=32-> ∀(i:Nat) (s:StD),c.states[i]? =some s->Con Tryz.prog env 200 [.agg (chAV c),I i] (B (zay c i s)))
 (hT: ∀t,t∈c.trans->Con Tryz.prog env 203 [.agg (chAV c), .agg (trAV t)] (B (zcx c t))):Con Tryz.prog env 123 [.agg (chAV c)] (zjt a1 a8 c):=by
 have g8:=zhf he.e8
 have fname:=zb1 env c.name (by have:=hc.1; unfold maxLen at this; omega)
 have fbad:=zgm env a1 a8 he (-1) (by omega)
 have fat:=zlW env c c.initial
 have z1:=zb3 c.states
 refine zaa Tryz.func123 rfl Tryz.call123 (by rw [Tryz.ntmps123]; simp) ?_
 rw [Tryz.ntmps123,Tryz.results123]
 by_cases l1:32<c.states.length
 ·have k1:(32:Int)< (c.states.length:Int):=by omega
  rw [zfM (show chk c=(8, -1) by unfold chk; rw [if_pos (.inl l1)])]
  have F:=ai chAV.eq_1<|ai k1<|g8
  repeat (first | refine st ?_ | refine cC (zb4 env _ a8) ?_)
  exact aR
 have k1: ¬(32:Int)< (c.states.length:Int):=by omega
 by_cases l2:64<c.trans.length
 ·have k2:(64:Int)< (c.trans.length:Int):=by omega
  rw [zfM (show chk c=(8, -1) by unfold chk; rw [if_pos (.inr (.inl l2))])]
  have F:=ai chAV.eq_1<|ai k1<|ai k2<|g8
  repeat (first | refine st ?_ | refine cC (zb4 env _ a8) ?_)
  exact aR
 have k2: ¬(64:Int)< (c.trans.length:Int):=by omega
 by_cases l3:8<c.vars.length
 ·have k3:(8:Int)< (c.vars.length:Int):=by omega
  rw [zfM (show chk c=(8, -1) by unfold chk; rw [if_pos (.inr (.inr l3))])]
  have F:=ai chAV.eq_1<|ai k1<|ai k2<|ai k3<|g8
  repeat (first | refine st ?_ | refine cC (zb4 env _ a8) ?_)
  exact aR
 have k3: ¬(8:Int)< (c.vars.length:Int):=by omega
 have hl: ¬(32<c.states.length\/64<c.trans.length\/8<c.vars.length):=by omega
 cases e1:zaJ c.name
 ·rw [zbn (show chk c=(1, -1) by unfold chk; rw [if_neg hl,if_pos (.inr e1)])]
  have F:=ai chAV.eq_1<|ai k1<|ai k2<|ai k3<|e1
  repeat (first | refine st ?_ | refine cC fname ?_ | refine cC fbad ?_)
  exact aR
 cases e2:(c.states == [])
 case true=>
  rw [zbn (show chk c=(1, -1) by unfold chk; rw [if_neg hl,if_pos (.inl (by simpa using e2))])]
  have F:=ai chAV.eq_1<|ai k1<|ai k2<|ai k3<|ai e1<|ai z1<|e2
  repeat (first | refine st ?_ | refine cC fname ?_ | refine cC fbad ?_)
  exact aR
 have hne: ¬(c.states=[]\/zaJ c.name=false):=by
  rw [e1]
  simpa using e2
 have hc1:chk c=(match zaG (zfo c) c.vars.length with
  | some i=>(1,2000+(i:Int))
  | none=>match zaG (zgh c) c.states.length with
    | some i=>(1,(i:Int))
    | none=>if topB c=false then(1, -1) else match zaG (zju c) c.trans.length with
      | some i=>(1,1000+(i:Int))
      | none=>(0, -1)):=by
  unfold chk
  rw [if_neg hl,if_neg hne]
  rfl
 have F:=ai chAV.eq_1<|ai k1<|ai k2<|ai k3<|ai e1<|ai z1<|e2
 repeat (first | refine st ?_ | refine cC fname ?_ | refine cC fbad ?_)
 refine zac (D:=Nat) (fun i vs=>[(1, .loc 1 (vs 1) 0 0),(38,I c.vars.length),(39,I i)]) (fun _ _=>[(1,⟨5,[chAV c],26,false⟩)]) (fun i _ _=>i<=c.vars.length/\ ∀j,j<i->zfo c j=true) (fun i=>c.vars.length-i) 0 ?_ ?_ ?_ ?_
 ·exact⟨Nat.zero_le _,fun j hj=>by omega⟩
 ·(simp only [go_sem,F])
 ·(simp only [go_sem,F])
 rintro i ws esc ⟨hi,hall⟩
 by_cases hlt:i<c.vars.length
 ·obtain⟨v,hv,_⟩:=zat hlt
  have q1:=nlt hlt
  have q2:=zab hlt (by omega)
  have hcon:=hV (by omega) i v hv
  cases e:varB c i v
  ·have q3:IntKind.i64.wrap (2000+(i:Int))=2000+(i:Int):=zaC (by omega) (by omega)
   have hb:=zgm env a1 a8 he (2000+(i:Int)) (by omega)
   rw [zbn (show chk c=(1,2000+(i:Int)) by rw [hc1,zbC hlt hall (by rw [zfn hv]; exact e)])]
   have F:=ai chAV.eq_1<|ai q1<|ai q2<|ai q3<|e
   repeat (first | refine st ?_ | refine cC hcon ?_ | refine cC hb ?_)
   exact aR
  ·have F:=ai chAV.eq_1<|ai q1<|ai q2<|e
   repeat (first | refine st ?_ | refine cC hcon ?_)
   refine⟨i+1,⟨hlt,zc2 hall (by rw [zfn hv]; exact e)⟩, ?_, ?_, ?_⟩
   ·(simp only [go_sem,F])
   ·(simp only [go_sem,F])
   ·omega
 have q1: ¬(i:Int)< (c.vars.length:Int):=by omega
 have hvn:zaG (zfo c) c.vars.length=none:=zaF fun j hj=>hall j (by omega)
 rw [hvn] at hc1
 have F:=ai chAV.eq_1<|q1
 repeat refine st ?_
 refine zac (D:=Nat) (fun i vs=>[(1, .loc 1 (vs 1) 0 0),(52,I c.states.length),(53,I i)]) (fun _ _=>[(1,⟨5,[chAV c],26,false⟩)]) (fun i _ _=>i<=c.states.length/\ ∀j,j<i->zgh c j=true) (fun i=>c.states.length-i) 0 ?_ ?_ ?_ ?_
 ·exact⟨Nat.zero_le _,fun j hj=>by omega⟩
 ·(simp only [go_sem,F])
 ·(simp only [go_sem,F])
 try clear ws esc hi hall q1 hlt i
 rintro i ws esc ⟨hi,hall⟩
 by_cases hlt:i<c.states.length
 ·obtain⟨s,hs,_⟩:=zat hlt
  have q1:=nlt hlt
  have q2:=zab hlt (by omega)
  have hcon:=hS (by omega) i s hs
  cases e:zay c i s
  ·have hb:=zgm env a1 a8 he (i:Int) (by omega)
   rw [zbn (show chk c=(1,(i:Int)) by rw [hc1,zbC hlt hall (by rw [zgv hs]; exact e)])]
   have F:=ai chAV.eq_1<|ai q1<|ai q2<|e
   repeat (first | refine st ?_ | refine cC hcon ?_ | refine cC hb ?_)
   exact aR
  ·have F:=ai chAV.eq_1<|ai q1<|ai q2<|e
   repeat (first | refine st ?_ | refine cC hcon ?_)
   refine⟨i+1,⟨hlt,zc2 hall (by rw [zgv hs]; exact e)⟩, ?_, ?_, ?_⟩
   ·(simp only [go_sem,F])
   ·(simp only [go_sem,F])
   ·omega
 have q1: ¬(i:Int)< (c.states.length:Int):=by omega
 have hsn:zaG (zgh c) c.states.length=none:=zaF fun j hj=>hall j (by omega)
 rw [hsn] at hc1
 by_cases p1:0<=c.initial
 case neg=>
  have ht:topB c=false:=by unfold topB at_; rw [if_neg p1]
  rw [zbn (show chk c=(1, -1) by rw [hc1,if_pos ht])]
  have F:=ai chAV.eq_1<|ai q1<|p1
  repeat (first | refine st ?_ | refine cC fat ?_ | refine cC fbad ?_)
  exact aR
 obtain⟨m,hm⟩:=zcU p1
 by_cases p2:(m:Int)< (c.states.length:Int)
 case neg=>
  have ht:topB c=false:=by unfold topB; rw [hm,zbV,List.getElem?_eq_none (by omega)]
  have p2':(c.initial< (c.states.length:Int))=False:=by rw [hm]; simpa using p2
  rw [zbn (show chk c=(1, -1) by rw [hc1,if_pos ht])]
  have F:=ai chAV.eq_1<|ai q1<|ai p1<|p2'
  repeat (first | refine st ?_ | refine cC fat ?_ | refine cC fbad ?_)
  exact aR
 obtain⟨q,hq,_⟩:=zat (show m<c.states.length by omega)
 have fnorm:=zdo env q
 have htop:topB c=((q.parent == -1)&&zcc q):=by unfold topB; rw [hm,zbV,hq]
 rw [hm] at fat
 cases e3:(q.parent == -1)
 ·rw [zbn (show chk c=(1, -1) by rw [hc1,if_pos (by rw [htop,e3]; rfl)])]
  have F:=ai chAV.eq_1<|ai stAV.eq_1<|ai q1<|ai hm<|ai p2<|ai hq<|ai e3<|bneA
  repeat (first | refine st ?_ | refine cC fat ?_ | refine cC fbad ?_ | refine cC fnorm ?_)
  exact aR
 cases e4:zcc q
 ·rw [zbn (show chk c=(1, -1) by rw [hc1,if_pos (by rw [htop,e3,e4]; rfl)])]
  have F:=ai chAV.eq_1<|ai stAV.eq_1<|ai q1<|ai hm<|ai p2<|ai hq<|ai e3<|ai e4<|bneA
  repeat (first | refine st ?_ | refine cC fat ?_ | refine cC fbad ?_ | refine cC fnorm ?_)
  exact aR
 rw [if_neg (by rw [htop,e3,e4]; simp)] at hc1
 have F:=ai chAV.eq_1<|ai stAV.eq_1<|ai q1<|ai hm<|ai p2<|ai hq<|ai e3<|ai e4<|bneA
 repeat (first | refine st ?_ | refine cC fat ?_ | refine cC fbad ?_ | refine cC fnorm ?_)
 refine zac (D:=Nat) (fun i vs=>[(1, .loc 1 (vs 1) 0 0),(90,trsAV c.trans),(91,I c.trans.length),(92,I i)]) (fun _ _=>[(1,⟨5,[chAV c],26,false⟩)]) (fun i _ _=>i<=c.trans.length/\ ∀j,j<i->zju c j=true) (fun i=>c.trans.length-i) 0 ?_ ?_ ?_ ?_
 ·exact⟨Nat.zero_le _,fun j hj=>by omega⟩
 ·have F:=ai chAV.eq_1<|hm
  (simp only [go_sem,F])
 ·have F:=ai chAV.eq_1<|hm
  (simp only [go_sem,F])
 try clear ws esc hi hall q1 hlt i
 rintro i ws esc ⟨hi,hall⟩
 by_cases hlt:i<c.trans.length
 ·obtain⟨t,ht,htm⟩:=zat hlt
  have q1:=nlt hlt
  have q2:=zab hlt (by omega)
  have hcon:=hT t htm
  cases e:zcx c t
  ·have q3:IntKind.i64.wrap (1000+(i:Int))=1000+(i:Int):=zaC (by omega) (by omega)
   have hb:=zgm env a1 a8 he (1000+(i:Int)) (by omega)
   rw [zbn (show chk c=(1,1000+(i:Int)) by rw [hc1,zbC hlt hall (by rw [zgu ht]; exact e)])]
   have F:=ai chAV.eq_1<|ai trAV.eq_1<|ai q1<|ai q2<|ai q3<|ai ht<|e
   repeat (first | refine st ?_ | refine cC hcon ?_ | refine cC hb ?_)
   exact aR
  ·have F:=ai chAV.eq_1<|ai trAV.eq_1<|ai q1<|ai q2<|ai ht<|e
   repeat (first | refine st ?_ | refine cC hcon ?_)
   refine⟨i+1,⟨hlt,zc2 hall (by rw [zgu ht]; exact e)⟩, ?_, ?_, ?_⟩
   ·(simp only [go_sem,F])
   ·(simp only [go_sem,F])
   ·omega
 have q1: ¬(i:Int)< (c.trans.length:Int):=by omega
 rw [zle (show chk c=(0, -1) by rw [hc1,zaF fun j hj=>hall j (by omega)])]
 have F:=ai chAV.eq_1<|q1
 repeat refine st ?_
 exact aR
end

end Go.Proofs.YtnbjaghjdeicmaaGreatDoor