/- The contract of chart.Check, by those of its parts: by the walk without memory. -/
import Derived.Test.YtbpmkofnfgdegaaGreatDoorM6
import Derived.Test.YtbpmkofnfgdegaaGreatDoorM11
set_option maxRecDepth 100000
set_option maxHeartbeats 8000000
set_option linter.unusedSimpArgs false
namespace Go.Proofs.YtbpmkofnfgdegaaGreatDoor
open Go.Proofs.Tryz
open Go.RowKit
section
def zae (k:Nat):List AV:=[I k]
abbrev nsAV (l:List Nat):AV:= .seq 1 (l.map zae)
def idxFrom:List Nat->Int->Nat->Int
 | [],_,_=> -1
 | x::l,v,k=>if (x:Int)=v then k else idxFrom l v (k+1)
def idxI (l:List Nat) (v:Int):Int:=idxFrom l v 0
theorem zme {l:List Nat} {v:Int} {k x:Nat} (h:l[k]? =some x) (hn:idxI l v=idxFrom (l.drop k) v k):((x:Int)=v->idxI l v=k)/\((x:Int)≠v->idxI l v=idxFrom (l.drop (k+1)) v (k+1)):=by
 have hk:k<l.length:=(List.getElem?_eq_some_iff.1 h).1
 have he:l.drop k=x::l.drop (k+1):=by
  rw [List.drop_eq_getElem_cons hk]
  congr 1
  rw [List.getElem?_eq_getElem hk] at h;exact Option.some.inj h
 rw [he] at hn;simp only [idxFrom] at hn;exact⟨fun e=>by rw [hn,if_pos e],fun e=>by rw [hn,if_neg e]⟩
theorem zpt {l:List Nat} {v:Int} {k:Nat} (h:l.length<=k) (hn:idxI l v=idxFrom (l.drop k) v k):idxI l v= -1:=by
 rw [hn,List.drop_eq_nil_of_le h];rfl
theorem zps (v:Int): ∀(l:List Nat) (k:Nat),decide (0<=idxFrom l v k)=inL l v
 | [],k=>rfl
 | x::l,k=>by
   have ih:=zps v l (k+1);have e0:inL (x::l) v=(((x:Int)==v)||inL l v):=rfl;rw [e0, <-ih];by_cases e:(x:Int)=v
   ·have e1:idxFrom (x::l) v k=k:=if_pos e;rw [Bool.eq_iff_iff];simp [e1,e]
   ·have e1:idxFrom (x::l) v k=idxFrom l v (k+1):=if_neg e;rw [Bool.eq_iff_iff];simp [e1,e]
theorem zpq (env:Env) (l:List Nat) (v:Int) (hl:l.length<=1000000):Con prog env 84 [nsAV l,I v] (I (idxI l v)):=by
 refine qf func84 call84 ntmps84 results84 ?_;repeat refine st0 ?_
 refine zab (D:=Nat) (fun k _=>[(0,nsAV l),(1,I v),(7,I l.length),(8,I k)]) (fun _ _=>[]) (fun k _ _=>k<=l.length/\idxI l v=idxFrom (l.drop k) v k) (fun k=>l.length-k) 0 ?_ ?_ ?_ ?_
 ·exact⟨Nat.zero_le _,rfl⟩
 ·exact qe0
 ·exact qe0
 rintro k ws esc ⟨hk,hi⟩;by_cases hlt:k<l.length
 ·obtain⟨x,hx,_⟩:=zal hlt;obtain⟨yes,no⟩:=zme hx hi;have k1:=nlt hlt;have k2:=zaa hlt (by omega);by_cases e:(x:Int)=v
  ·rw [yes e];have k3:(v==(x:Int))=true:=by simp [e]
   have F:=ai5 k1 k2 k3 hx zae.eq_1;repeat refine st ?_
   exact aR
  ·have k3:(v==(x:Int))=false:=by simpa using fun h=>e h.symm
   have F:=ai5 k1 k2 k3 hx zae.eq_1;repeat refine st ?_
   refine⟨k+1,⟨hlt,no e⟩, ?_, ?_, ?_⟩
   ·exact qe
   ·exact qe
   ·omega
 ·have k1: ¬(k:Int)< (l.length:Int):=by omega
  rw [zpt (by omega) hi];have F:=k1;repeat refine st ?_
  exact aR
theorem zdE (env:Env) (l:List Nat) (v:Int) (hl:l.length<=1000000):Con prog env 40 [nsAV l,I v] (B (inL l v)):=by
 have h:=zps v l 0;refine qf func40 call40 ntmps40 results40 ?_;repeat (first | refine st0 ?_ | refine cC0 (zpq env l v hl) ?_)
 (refine zak ?_; show (zaz _ _ _).run _=some _; simp only [go_sem])
 exact congrArg B h
theorem zgg (env:Env) (l:List Nat) (v:Int) (hl:l.length<=1000000):Con prog env 15 [nsAV l,I v] (B (inL l v)):=by
 rw [<-zps v l 0,show idxFrom l v 0=idxI l v from rfl];refine qf func15 call15 ntmps15 results15 ?_;repeat refine st0 ?_
 refine zab (D:=Nat) (fun k _=>[(0,nsAV l),(1,I v),(5,I k)]) (fun _ _=>[]) (fun k _ _=>k<=l.length/\idxI l v=idxFrom (l.drop k) v k) (fun k=>l.length-k) 0 ?_ ?_ ?_ ?_
 ·exact⟨Nat.zero_le _,rfl⟩
 ·exact qe0
 ·exact qe0
 rintro k ws esc ⟨hk,hi⟩;by_cases hlt:k<l.length
 ·obtain⟨x,hx,_⟩:=zal hlt;obtain⟨yes,no⟩:=zme hx hi;have k1:=nlt hlt;have k2:=zaa hlt (by omega);by_cases e:(x:Int)=v
  ·rw [yes e,decide_eq_true (Int.natCast_nonneg k)];have k3:((x:Int)==v)=true:=by simp [e]
   have F:=ai5 k1 k2 k3 hx zae.eq_1;repeat refine st ?_
   exact aR
  ·have k3:((x:Int)==v)=false:=by simpa using e
   have F:=ai5 k1 k2 k3 hx zae.eq_1;repeat refine st ?_
   refine⟨k+1,⟨hlt,no e⟩, ?_, ?_, ?_⟩
   ·exact qe
   ·exact qe
   ·omega
 ·have k1: ¬(k:Int)< (l.length:Int):=by omega
  rw [zpt (by omega) hi];have F:=k1;repeat refine st ?_
  exact aR
/-! Kids -/
theorem zil {c:ChD} {k:Nat} {s:StD} (hs:c.states[k]? =some s) (i:Int) (real:Bool):zbN c i real k=((s.parent==i)&&(!real|| !zaI s)):=by unfold zbN; rw [hs]
theorem zeC {c:ChD} {i:Int} {real:Bool} {k:Nat} (h:zbN c i real k=true):(zaY c i real (k+1)).map zae=(zaY c i real k).map zae++[[I k]]:=by
 rw [zgr,h,if_pos rfl,List.map_append];rfl
theorem zdw {c:ChD} {i:Int} {real:Bool} {k:Nat} (h:zbN c i real k=false):(zaY c i real (k+1)).map zae=(zaY c i real k).map zae:=by
 rw [zgr,h];simp
theorem zcQ (env:Env) (c:ChD) (i:Int) (hc:c.states.length<=1000000):Con prog env 118 [.agg (chAV c),I i] (.own 3 1 ((kidsL c i true).map zae)):=by
 refine qf func118 call118 ntmps118 results118 ?_;have F:=chAV.eq_1;repeat refine st ?_
 refine zaT 5 5 3 1 ?_;refine zab (D:=Nat) (fun k vs=>[(1,I i),(5, .row 5 (vs 5)),(9,stsAV c.states),(10,I c.states.length),(11,I k)]) (fun k _=>[(5,⟨1,(zaY c i true k).map zae,3,true⟩)]) (fun k _ esc=>k<=c.states.length/\esc 5=false) (fun k=>c.states.length-k) 0 ?_ ?_ ?_ ?_
 ·exact⟨Nat.zero_le _,rfl⟩
 ·exact qe
 ·(simp only [go_sem,F])
  simp [zaY]
 rintro k ws esc ⟨hk,he⟩;by_cases hlt:k<c.states.length
 ·obtain⟨s,hs,_⟩:=zal hlt;have k1:=nlt hlt;have k2:=zaa hlt (by omega);have hkid:=zil hs i true;have hlen:=za4 c i true k;have hf:Fits ((zaY c i true k).length+1) 8:=⟨by omega,by omega⟩;cases h1:(s.parent==i) with
  | false=>
    have hsame:=zdw (show zbN c i true k=false by rw [hkid,h1]; rfl);have F:=ai5 k1 k2 hs stAV.eq_1 h1;repeat (first | refine st ?_ | refine cC (zdt env s) ?_)
    refine⟨k+1,⟨hlt,by simp only [go_sem,he]⟩, ?_, ?_, ?_⟩
    ·exact qe
    ·have F:=ai6 k1 k2 hs stAV.eq_1 h1 hsame;exact qe
    ·omega
  | true=>
    cases h2:zaI s with
    | true=>
      have hsame:=zdw (show zbN c i true k=false by rw [hkid,h1,h2]; rfl);have F:=ai6 k1 k2 hs stAV.eq_1 h1 h2;repeat (first | refine st ?_ | refine cC (zdt env s) ?_)
      refine⟨k+1,⟨hlt,by simp only [go_sem,he]⟩, ?_, ?_, ?_⟩
      ·exact qe
      ·have F:=ai7 k1 k2 hs stAV.eq_1 h1 h2 hsame;exact qe
      ·omega
    | false=>
      have hmore:=zeC (show zbN c i true k=true by rw [hkid,h1,h2]; rfl);have F:=ai7 k1 k2 hs stAV.eq_1 h1 h2 hf;repeat (first | refine st ?_ | refine cC (zdt env s) ?_)
      refine⟨k+1,⟨hlt,by simp only [go_sem,he]⟩, ?_, ?_, ?_⟩
      ·exact qe
      ·have F:=ai7 k1 k2 hs stAV.eq_1 h1 h2 hmore;exact qe
      ·omega
 ·have k1: ¬(k:Int)< (c.states.length:Int):=by omega
  obtain rfl:k=c.states.length:=by omega
  have F:=ai k1 he;repeat refine st ?_
  (refine zak ?_; show (zaz _ _ _).run _=some _; simp only [go_sem,F])
  rfl
theorem zgj (env:Env) (c:ChD) (i:Int) (hc:c.states.length<=1000000):Con prog env 178 [.agg (chAV c),I i] (.own 3 1 ((kidsL c i false).map zae)):=by
 refine qf func178 call178 ntmps178 results178 ?_;have F:=chAV.eq_1;repeat refine st ?_
 refine zaT 5 5 3 1 ?_;refine zab (D:=Nat) (fun k vs=>[(1,I i),(5, .row 5 (vs 5)),(9,stsAV c.states),(10,I c.states.length),(11,I k)]) (fun k _=>[(5,⟨1,(zaY c i false k).map zae,3,true⟩)]) (fun k _ esc=>k<=c.states.length/\esc 5=false) (fun k=>c.states.length-k) 0 ?_ ?_ ?_ ?_
 ·exact⟨Nat.zero_le _,rfl⟩
 ·exact qe
 ·(simp only [go_sem,F])
  simp [zaY]
 rintro k ws esc ⟨hk,he⟩;by_cases hlt:k<c.states.length
 ·obtain⟨s,hs,_⟩:=zal hlt;have k1:=nlt hlt;have k2:=zaa hlt (by omega);have hkid:=zil hs i false;have hlen:=za4 c i false k;have hf:Fits ((zaY c i false k).length+1) 8:=⟨by omega,by omega⟩;cases h1:(s.parent==i) with
  | false=>
    have hsame:=zdw (show zbN c i false k=false by rw [hkid,h1]; rfl);have F:=ai5 k1 k2 hs stAV.eq_1 h1;repeat refine st ?_
    refine⟨k+1,⟨hlt,by simp only [go_sem,he]⟩, ?_, ?_, ?_⟩
    ·exact qe
    ·have F:=ai6 k1 k2 hs stAV.eq_1 h1 hsame;exact qe
    ·omega
  | true=>
    have hmore:=zeC (show zbN c i false k=true by rw [hkid,h1]; rfl);have F:=ai6 k1 k2 hs stAV.eq_1 h1 hf;repeat refine st ?_
    refine⟨k+1,⟨hlt,by simp only [go_sem,he]⟩, ?_, ?_, ?_⟩
    ·exact qe
    ·have F:=ai6 k1 k2 hs stAV.eq_1 h1 hmore;exact qe
    ·omega
 ·have k1: ¬(k:Int)< (c.states.length:Int):=by omega
  obtain rfl:k=c.states.length:=by omega
  have F:=ai k1 he;repeat refine st ?_
  (refine zak ?_; show (zaz _ _ _).run _=some _; simp only [go_sem,F])
  rfl
theorem zbo (env:Env) (c:ChD) (i:Int) (real:Bool) (hc:c.states.length<=1000000):Con prog env 89 [.agg (chAV c),I i,B real] (.own 3 1 ((kidsL c i real).map zae)):=by
 refine qf func89 call89 ntmps89 results89 ?_;have F:=chAV.eq_1;repeat refine st ?_
 refine zab (D:=Nat) (fun k vs=>[(1,I i),(2,B real),(3, .loc 3 (vs 3) 0 0),(7, .row 9 (vs 9)),(8,I k)]) (fun k _=>[(3,⟨5,[chAV c],26,false⟩),(9,⟨1,(zaY c i real k).map zae,3,true⟩)]) (fun k _ esc=>k<=c.states.length/\esc 9=false) (fun k=>c.states.length-k) 0 ?_ ?_ ?_ ?_
 ·exact⟨Nat.zero_le _,rfl⟩
 ·exact qe
 ·(simp only [go_sem,F])
  simp [zaY]
 rintro k ws esc ⟨hk,he⟩;by_cases hlt:k<c.states.length
 ·obtain⟨s,hs,_⟩:=zal hlt;have k1:=nlt hlt;have k2:=zaa hlt (by omega);have hkid:=zil hs i real;have hlen:=za4 c i real k;have hf:Fits ((zaY c i real k).length+1) 8:=⟨by omega,by omega⟩;cases h1:(s.parent==i) with
  | false=>
    have hsame:=zdw (show zbN c i real k=false by rw [hkid,h1]; rfl);have F:=ai6 chAV.eq_1 k1 k2 hs stAV.eq_1 h1;repeat (first | refine st ?_ | refine cC (za9 env s) ?_)
    refine⟨k+1,⟨hlt,by simp only [go_sem,he]⟩, ?_, ?_, ?_⟩
    ·exact qe
    ·have F:=ai7 chAV.eq_1 k1 k2 hs stAV.eq_1 h1 hsame;exact qe
    ·omega
  | true=>
    cases real with
    | false=>
      have hmore:=zeC (show zbN c i false k=true by rw [hkid,h1]; rfl);have F:=ai7 chAV.eq_1 k1 k2 hs stAV.eq_1 h1 hf;repeat (first | refine st ?_ | refine cC (za9 env s) ?_)
      refine⟨k+1,⟨hlt,by simp only [go_sem,he]⟩, ?_, ?_, ?_⟩
      ·exact qe
      ·have F:=ai7 chAV.eq_1 k1 k2 hs stAV.eq_1 h1 hmore;exact qe
      ·omega
    | true=>
      cases h2:zaI s with
      | true=>
        have hsame:=zdw (show zbN c i true k=false by rw [hkid,h1,h2]; rfl);have F:=ai7 chAV.eq_1 k1 k2 hs stAV.eq_1 h1 h2;repeat (first | refine st ?_ | refine cC (za9 env s) ?_)
        refine⟨k+1,⟨hlt,by simp only [go_sem,he]⟩, ?_, ?_, ?_⟩
        ·exact qe
        ·have F:=ai8 chAV.eq_1 k1 k2 hs stAV.eq_1 h1 h2 hsame;exact qe
        ·omega
      | false=>
        have hmore:=zeC (show zbN c i true k=true by rw [hkid,h1,h2]; rfl);have F:=ai8 chAV.eq_1 k1 k2 hs stAV.eq_1 h1 h2 hf;repeat (first | refine st ?_ | refine cC (za9 env s) ?_)
        refine⟨k+1,⟨hlt,by simp only [go_sem,he]⟩, ?_, ?_, ?_⟩
        ·exact qe
        ·have F:=ai8 chAV.eq_1 k1 k2 hs stAV.eq_1 h1 h2 hmore;exact qe
        ·omega
 ·have k1: ¬(k:Int)< (c.states.length:Int):=by omega
  obtain rfl:k=c.states.length:=by omega
  have F:=ai3 chAV.eq_1 k1 he;repeat refine st ?_
  (refine zak ?_; show (zaz _ _ _).run _=some _; simp only [go_sem,F])
  rfl
/-! The state of a name -/
theorem zoZ (env:Env) (c:ChD) (name:List UInt8) (hc:c.states.length<=1000000):Con prog env 208 [.agg (chAV c),Sg name] (I (zg6 c name)):=by
 refine qf func208 call208 ntmps208 results208 ?_;have F:=chAV.eq_1;repeat refine st ?_
 refine zab (D:=Nat) (fun k _=>[(1,Sg name),(8,stsAV c.states),(9,I c.states.length),(10,I k)]) (fun _ _=>[]) (fun k _ _=>k<=c.states.length/\zcr c name k= -1) (fun k=>c.states.length-k) 0 ?_ ?_ ?_ ?_
 ·exact⟨Nat.zero_le _,rfl⟩
 ·exact qe
 ·exact qe
 rintro k ws esc ⟨hk,hf⟩;by_cases hlt:k<c.states.length
 ·obtain⟨s,hs,_⟩:=zal hlt;have k1:=nlt hlt;have k2:=zaa hlt (by omega);cases h1:(s.name==name) with
  | true=>
    rw [zjN c name hlt hf s hs (by simpa using h1)];have F:=ai5 k1 k2 hs stAV.eq_1 h1;repeat refine st ?_
    exact aR
  | false=>
    have F:=ai5 k1 k2 hs stAV.eq_1 h1;repeat refine st ?_
    refine⟨k+1,⟨hlt,zgD c name hf s hs (by simpa using h1)⟩, ?_, ?_, ?_⟩
    ·exact qe
    ·exact qe
    ·omega
 ·have k1: ¬(k:Int)< (c.states.length:Int):=by omega
  obtain rfl:k=c.states.length:=by omega
  rw [show zg6 c name= -1 from hf];have F:=k1;repeat refine st ?_
  exact aR
theorem zjg (env:Env) (c:ChD) (name:List UInt8) (hc:c.states.length<=1000000):Con prog env 164 [.agg (chAV c),Sg name] (I (zg6 c name)):=by
 refine qf func164 call164 ntmps164 results164 ?_;have F:=chAV.eq_1;repeat refine st ?_
 refine zab (D:=Nat) (fun k vs=>[(1,Sg name),(2, .loc 2 (vs 2) 0 0),(5,I k)]) (fun _ _=>[(2,⟨5,[chAV c],26,false⟩)]) (fun k _ _=>k<=c.states.length/\zcr c name k= -1) (fun k=>c.states.length-k) 0 ?_ ?_ ?_ ?_
 ·exact⟨Nat.zero_le _,rfl⟩
 ·exact qe
 ·exact qe
 rintro k ws esc ⟨hk,hf⟩;by_cases hlt:k<c.states.length
 ·obtain⟨s,hs,_⟩:=zal hlt;have k1:=nlt hlt;have k2:=zaa hlt (by omega);cases h1:(s.name==name) with
  | true=>
    rw [zjN c name hlt hf s hs (by simpa using h1)];have F:=ai6 chAV.eq_1 k1 k2 hs stAV.eq_1 h1;repeat refine st ?_
    exact aR
  | false=>
    have F:=ai6 chAV.eq_1 k1 k2 hs stAV.eq_1 h1;repeat refine st ?_
    refine⟨k+1,⟨hlt,zgD c name hf s hs (by simpa using h1)⟩, ?_, ?_, ?_⟩
    ·exact qe
    ·exact qe
    ·omega
 ·have k1: ¬(k:Int)< (c.states.length:Int):=by omega
  obtain rfl:k=c.states.length:=by omega
  rw [show zg6 c name= -1 from hf];have F:=ai chAV.eq_1 k1;repeat refine st ?_
  exact aR
end
section
theorem zjl (env:Env) (a1 a8:Addr) (he:ChEnv env a1 a8) (c:ChD) (l:List OpD):Con prog env 212 [.agg (chAV c),opsAV l] (B (zaF l c.vars.length c.states.length)):=by
 have hx:=zdX env a1 a8 he l c.vars.length c.states.length;unfold zdB at hx;refine qf func212 call212 ntmps212 results212 ?_;by_cases h0:zdU l c.vars.length c.states.length=0
 ·rw [if_pos h0] at hx;rw [show zaF l c.vars.length c.states.length=true by simp [zaF,h0]];have F:=chAV.eq_1;repeat (first | refine st ?_ | refine cC hx ?_)
  exact aR
 ·rw [if_neg h0] at hx;rw [show zaF l c.vars.length c.states.length=false by simp [zaF,h0]];by_cases h8:zdU l c.vars.length c.states.length=8
  ·rw [if_pos h8] at hx;have F:=chAV.eq_1;repeat (first | refine st ?_ | refine cC hx ?_)
   exact aR
  ·rw [if_neg h8] at hx;have F:=chAV.eq_1;repeat (first | refine st ?_ | refine cC hx ?_)
   exact aR
theorem zba {a b:Int} (h:a≠b):(a==b)=false:=by simpa using h
theorem zq7 (env:Env) (a1 a8:Addr) (he:ChEnv env a1 a8) (c:ChD) (a:ActD) (ha:a.name.length<=9223372036854775807):Con prog env 253 [.agg (chAV c), .agg (zam a)] (B (actB c.vars.length c.states.length a)):=by
 obtain⟨k,n,m,co⟩:=a;have hcode:=zjl env a1 a8 he c co;have hname:=zbK env m ha;refine qf func253 call253 ntmps253 results253 ?_;by_cases hk1:k=1
 ·subst hk1;have hr:actB c.vars.length c.states.length ⟨1,n,m,co⟩=(decide (0<=n/\n<c.vars.length)&&(m == [])&&zaF co c.vars.length c.states.length):=rfl;by_cases h1:0<=n
  ·by_cases h2:n< (c.vars.length:Int)
   ·cases h3:(m == [])
    ·rw [show actB c.vars.length c.states.length ⟨1,n,m,co⟩=false by rw [hr,h3]; simp];have F:=ai5 chAV.eq_1 zam.eq_1 h1 h2 h3;repeat (first | refine st ?_ | refine cC hcode ?_)
     exact aR
    ·rw [show actB c.vars.length c.states.length ⟨1,n,m,co⟩=zaF co c.vars.length c.states.length by rw [hr,h3]; simp [h1,h2]];have F:=ai5 chAV.eq_1 zam.eq_1 h1 h2 h3;repeat (first | refine st ?_ | refine cC hcode ?_)
     exact aR
   ·rw [show actB c.vars.length c.states.length ⟨1,n,m,co⟩=false by rw [hr]; simp [h2]];have F:=ai4 chAV.eq_1 zam.eq_1 h1 h2;repeat (first | refine st ?_ | refine cC hcode ?_)
    exact aR
  ·rw [show actB c.vars.length c.states.length ⟨1,n,m,co⟩=false by rw [hr]; simp [h1]];have F:=ai3 chAV.eq_1 zam.eq_1 h1;repeat (first | refine st ?_ | refine cC hcode ?_)
   exact aR
 by_cases hk24:k=2\/k=4
 ·have hr:actB c.vars.length c.states.length ⟨k,n,m,co⟩=((n==0)&&zax m&&zaF co c.vars.length c.states.length):=by unfold actB; rw [if_neg hk1,if_pos hk24]
  rw [hr];rcases hk24 with rfl | rfl
  ·cases h1:(n==0)
   ·have F:=ai3 chAV.eq_1 zam.eq_1 h1;repeat (first | refine st ?_ | refine cC hcode ?_ | refine cC hname ?_)
    exact aR
   ·cases h2:zax m
    ·have F:=ai4 chAV.eq_1 zam.eq_1 h1 h2;repeat (first | refine st ?_ | refine cC hcode ?_ | refine cC hname ?_)
     exact aR
    ·have F:=ai4 chAV.eq_1 zam.eq_1 h1 h2;repeat (first | refine st ?_ | refine cC hcode ?_ | refine cC hname ?_)
     exact aR
  ·cases h1:(n==0)
   ·have F:=ai3 chAV.eq_1 zam.eq_1 h1;repeat (first | refine st ?_ | refine cC hcode ?_ | refine cC hname ?_)
    exact aR
   ·cases h2:zax m
    ·have F:=ai4 chAV.eq_1 zam.eq_1 h1 h2;repeat (first | refine st ?_ | refine cC hcode ?_ | refine cC hname ?_)
     exact aR
    ·have F:=ai4 chAV.eq_1 zam.eq_1 h1 h2;repeat (first | refine st ?_ | refine cC hcode ?_ | refine cC hname ?_)
     exact aR
 by_cases hk3:k=3
 ·subst hk3;have hr:actB c.vars.length c.states.length ⟨3,n,m,co⟩=((n==0)&&(m == [])&&zaF co c.vars.length c.states.length):=rfl;rw [hr];cases h1:(n==0)
  ·have F:=ai3 chAV.eq_1 zam.eq_1 h1;repeat (first | refine st ?_ | refine cC hcode ?_ | refine cC hname ?_)
   exact aR
  ·cases h2:(m == [])
   ·have F:=ai4 chAV.eq_1 zam.eq_1 h1 h2;repeat (first | refine st ?_ | refine cC hcode ?_ | refine cC hname ?_)
    exact aR
   ·have F:=ai4 chAV.eq_1 zam.eq_1 h1 h2;repeat (first | refine st ?_ | refine cC hcode ?_ | refine cC hname ?_)
    exact aR
 by_cases hk5:k=5
 ·subst hk5;have hr:actB c.vars.length c.states.length ⟨5,n,m,co⟩=((n==0)&&zax m&&(co == [])):=rfl;rw [hr]
  have h3:((co.length:Int)==0)=(co == []):=by
   rw [Bool.eq_iff_iff];simp
  cases h1:(n==0)
  ·have F:=ai3 chAV.eq_1 zam.eq_1 h1;repeat (first | refine st ?_ | refine cC hcode ?_ | refine cC hname ?_)
   exact aR
  ·cases h2:zax m
   ·have F:=ai4 chAV.eq_1 zam.eq_1 h1 h2;repeat (first | refine st ?_ | refine cC hcode ?_ | refine cC hname ?_)
    exact aR
   ·have F:=ai5 chAV.eq_1 zam.eq_1 h1 h2 h3;repeat (first | refine st ?_ | refine cC hcode ?_ | refine cC hname ?_)
    exact aR
 have hr:actB c.vars.length c.states.length ⟨k,n,m,co⟩=false:=by unfold actB; rw [if_neg hk1,if_neg hk24,if_neg hk3,if_neg hk5]
 have b1:=zba hk1;have b2:=zba (fun h=>hk24 (.inl h));have b4:=zba (fun h=>hk24 (.inr h));have b3:=zba hk3;have b5:=zba hk5;rw [hr];have F:=ai7 chAV.eq_1 zam.eq_1 b1 b2 b3 b4 b5;repeat refine st ?_
 exact aR
theorem zbH {α:Type} {l:List α} {p:α->Bool} {i:Nat} {x:α} (h:(l.take i).all p=true) (hx:l[i]? =some x) (hp:p x=true):(l.take (i+1)).all p=true:=by
 obtain⟨h1,h2⟩:=List.getElem?_eq_some_iff.1 hx;rw [List.take_succ_eq_append_getElem h1,List.all_append,h,h2];simp [hp]
theorem zfa {α:Type} {l:List α} {p:α->Bool} {i:Nat} {x:α} (hx:l[i]? =some x) (hp:p x=false):l.all p=false:=by
 rw [Bool.eq_false_iff];intro h;rw [List.all_eq_true] at h;rw [h _ (List.mem_of_getElem? hx)] at hp;cases hp
theorem ziM {α:Type} {l:List α} {p:α->Bool} {i:Nat} (h:(l.take i).all p=true) (hi:l.length<=i):l.all p=true:=by
 rwa [List.take_of_length_le hi] at h
theorem zgk (env:Env) (a1 a8:Addr) (he:ChEnv env a1 a8) (c:ChD) (l:List ActD) (hl:l.length<=9223372036854775807) (ha: ∀a∈l,a.name.length<=9223372036854775807):Con prog env 211 [.agg (chAV c),actsAV l] (B (zbq c.vars.length c.states.length l)):=by
 refine qf func211 call211 ntmps211 results211 ?_;have F:=chAV.eq_1;repeat refine st ?_
 refine zab (D:=Nat) (fun k vs=>[(1,actsAV l),(2, .loc 2 (vs 2) 0 0),(7,actsAV l),(8,I l.length),(9,I k)]) (fun _ _=>[(2,⟨5,[chAV c],26,false⟩)]) (fun k _ _=>k<=l.length/\(l.take k).all (actB c.vars.length c.states.length)=true) (fun k=>l.length-k) 0 ?_ ?_ ?_ ?_
 ·exact⟨Nat.zero_le _,rfl⟩
 ·exact qe
 ·exact qe
 rintro k ws esc ⟨hk,hall⟩;by_cases hlt:k<l.length
 ·obtain⟨a,hx,hm⟩:=zal hlt;have k1:=nlt hlt;have k2:=zaa hlt hl;have hact:=zq7 env a1 a8 he c a (ha a hm);cases h1:actB c.vars.length c.states.length a with
  | true=>
    have F:=ai6 chAV.eq_1 k1 k2 hx zam.eq_1 h1;repeat (first | refine st ?_ | refine cC hact ?_)
    refine⟨k+1,⟨hlt,zbH hall hx h1⟩, ?_, ?_, ?_⟩
    ·exact qe
    ·exact qe
    ·omega
  | false=>
    rw [show zbq c.vars.length c.states.length l=false by unfold zbq; rw [zfa hx h1]; simp];have F:=ai6 chAV.eq_1 k1 k2 hx zam.eq_1 h1;repeat (first | refine st ?_ | refine cC hact ?_)
    exact aR
 ·have k1: ¬(k:Int)< (l.length:Int):=by omega
  have h3:decide ((l.length:Int)<=32)=decide (l.length<=32):=by rw [Bool.eq_iff_iff]; simp; omega
  rw [show zbq c.vars.length c.states.length l=decide (l.length<=32) by unfold zbq; rw [ziM hall (by omega)]; simp];have F:=ai chAV.eq_1 k1;repeat refine st ?_
  (refine zak ?_; show (zaz _ _ _).run _=some _; simp only [go_sem,F])
  exact congrArg B h3
end
section
theorem zk0 (env:Env) (c:ChD) (i:Int):Con prog env 173 [.agg (chAV c),I i] (B (decide (0<=i)&&decide (i<c.states.length))):=by
 refine qf func173 call173 ntmps173 results173 ?_;by_cases h1:0<=i<;>by_cases h2:i< (c.states.length:Int)<;>
 ·have F:=ai3 chAV.eq_1 h1 h2;repeat refine st ?_
  exact aR
theorem Str.ifl (t:TypeId) (v:Value):Str (.lit (.iface t v)) (.iface t (.lit v)):=fun S w u h=>by
 obtain rfl:=h.lit_inv;exact .iface t v (.lit v) (.lit v)
theorem Str.lfi (t:TypeId) (v:Value):Str (.iface t (.lit v)) (.lit (.iface t v)):=fun S w u h=>by
 cases h with
 | iface _ v' _ h=>
   obtain rfl:=h.lit_inv;exact .lit _
theorem zeI (s p:AV) (q:Int) (hp:p=I q) (e e':AV) (he:Str e' e):RStr (.iface 138 (.ref 3 [[s,p,e']] 0 0)) (errV q e):=by
 subst hp;exact .of (.iface (.ref1 (cs:=[.any,I q,e]) (.cons (.any _) (.cons (.refl _) (.cons he .nil))))) (fun _ _ _ h=>by cases h) (fun _ _ _ h=>by cases h)
theorem zpT (env:Env) (s:List UInt8) (p:Int) (a:Addr) (hp: -1<=p):Con prog env 148 [Sg s,I p,sentV a] (errV p (sentV a)):=by
 refine Con.args (cs:=[Sg s,I p, .iface 309 (.lit (.pointer (some a)))]) ?_ (.cons (.refl _) (.cons (.refl _) (.cons (.ifl _ _) .nil)));have h1: ¬p< -1:=by omega
 refine qw func148 call148 ntmps148 results148 ?_;have F:=h1;repeat refine st ?_
 (refine zak ?_; refine⟨_,(by show (zaz _ _ _).run _=some _; simp only [go_sem,F]; rfl), ?_⟩)
 exact zeI _ _ _ rfl _ _ (.lfi _ _)
theorem zfE (env:Env) (a1 a8:Addr) (he:ChEnv env a1 a8) (p:Int) (hp: -1<=p):Con prog env 170 [I p] (errV p (sentV a1)):=by
 have g1:=zgx he.e1;refine qf func170 call170 ntmps170 results170 ?_;have F:=g1;repeat (first | refine st ?_ | refine cC (zpT env _ p a1 hp) ?_)
 exact aR
theorem zdO {c:ChD} {m:Nat} {q:StD} (h:c.states[m]? =some q):zaU c (m:Int)=zco q:=by unfold zaU; rw [zbd,h]
theorem zcB {n:Int} (h:0<=n): ∃m:Nat,n=m:=⟨n.toNat,by omega⟩
theorem zkZ (env:Env) (c:ChD) (i:Nat) (s:StD) (hs:c.states[i]? =some s):Con prog env 209 [.agg (chAV c),I i] (B (zaH c i s)):=by
 have hi:i<c.states.length:=(List.getElem?_eq_some_iff.1 hs).1;have k0:=nlt hi;refine qf func209 call209 ntmps209 results209 ?_;cases h1:(s.parent == -1)
 ·by_cases h2:0<=s.parent
  ·obtain⟨m,hm⟩:=zcB h2;by_cases h3:(m:Int)< (i:Int)
   ·have hml:m<c.states.length:=by omega
    obtain⟨q,hq,_⟩:=zal hml;have k3:=nlt hml;have h1':((m:Int) == -1)=false:=by rw [<-hm]; exact h1
    rw [show zaH c i s=zco q by unfold zaH; rw [hm,zdO hq,h1']; simp [h3]];have F:=ai9 chAV.eq_1 k0 hs stAV.eq_1 hm h1' h3 k3 hq;repeat (first | refine st ?_ | refine cC (zc2 env q) ?_)
    exact aR
   ·have h1':((m:Int) == -1)=false:=by rw [<-hm]; exact h1
    rw [show zaH c i s=false by unfold zaH; rw [hm,h1']; simp [h3]];have F:=ai7 chAV.eq_1 k0 hs stAV.eq_1 hm h1' h3;repeat refine st ?_
    exact aR
  ·rw [show zaH c i s=false by unfold zaH; rw [h1]; simp [h2]];have F:=ai6 chAV.eq_1 k0 hs stAV.eq_1 h1 h2;repeat refine st ?_
   exact aR
 ·rw [show zaH c i s=true by unfold zaH; rw [h1]; rfl];have F:=ai5 chAV.eq_1 k0 hs stAV.eq_1 h1;repeat refine st ?_
  exact aR
theorem znh (env:Env) (c:ChD) (s:StD) (hp:s.parent<c.states.length):Con prog env 252 [.agg (chAV c), .agg (stAV s)] (B (zaO c s)):=by
 refine qf func252 call252 ntmps252 results252 ?_;by_cases h2:0<=s.parent
 ·obtain⟨m,hm⟩:=zcB h2;have hml:m<c.states.length:=by omega
  obtain⟨q,hq,_⟩:=zal hml;have k3:=nlt hml;rw [show zaO c s=(q.kind==1) by unfold zaO; rw [hm,zbd,hq]];have F:=ai5 chAV.eq_1 stAV.eq_1 hm k3 hq;repeat refine st ?_
  exact aR
 ·rw [show zaO c s=false by unfold zaO at_; rw [if_neg h2]];have F:=ai3 chAV.eq_1 stAV.eq_1 h2;repeat refine st ?_
  exact aR
theorem zn4 {a b:Nat} (ha:a<=9223372036854775807) (hb:b<=9223372036854775807):IntKind.i64.wrap ((a:Int)+(b:Int))=0↔a+b=0:=by
 by_cases h:a+b<9223372036854775808
 ·rw [zaw (by omega) (by omega)];omega
 ·have:IntKind.i64.wrap ((a:Int)+(b:Int))=(a:Int)+(b:Int)-18446744073709551616:=by
   simp [IntKind.wrap,IntKind.bits,IntKind.signed];omega
  omega
theorem zbM {α:Type} [DecidableEq α] (l:List α):((l.length:Int)==0)=(l == []):=by
 rw [Bool.eq_iff_iff];simp
theorem zoV {c:ChD} {i:Nat} {s:StD} (hi:i<c.states.length) (h:zaH c i s=true):s.parent<c.states.length:=by
 unfold zaH at h;simp only [Bool.or_eq_true,beq_iff_eq,Bool.and_eq_true,decide_eq_true_eq] at h;omega
theorem zsT {c:ChD} {i:Int} {real:Bool} {j k:Nat} (h:(kidsL c i real)[j]? =some k): ∃q,c.states[k]? =some q/\k<c.states.length:=by
 have hk:=zeD (List.mem_of_getElem? h);obtain⟨q,hq,_⟩:=zal hk.1;exact⟨q,hq,hk.1⟩
theorem zng (env:Env) (c:ChD) (i:Nat) (s:StD) (hs:c.states[i]? =some s) (hn:c.states.length<=1000000) (hp:s.parent<c.states.length) (h1l:s.inn.length<=9223372036854775807) (h2l:s.out.length<=9223372036854775807):Con prog env 210 [.agg (chAV c),I i] (B (zap c i s)):=by
 have hi:i<c.states.length:=(List.getElem?_eq_some_iff.1 hs).1;have k0:=nlt hi;have hreal:=zcQ env c i hn;have hreal2:=zcQ env c s.parent hn;have hkids:=zgj env c i hn;have hplain:=znh env c s hp;have hKl:(kidsL c i true).length<=1000000:=Nat.le_trans (za4 c i true _) hn;have hKl2:(kidsL c s.parent true).length<=1000000:=Nat.le_trans (za4 c s.parent true _) hn;have hcon:=zdE env (kidsL c i true) s.initial hKl;have hcon2:=zdE env (kidsL c s.parent true) s.initial hKl2;have z1:=zbM (kidsL c i true);have z2:=zbM (kidsL c i false);have z3:=zbM s.out;refine qf func210 call210 ntmps210 results210 ?_;by_cases hk1:s.kind=1
 ·have hr:zap c i s=(if kidsL c i true=[] then s.initial == -1 else inL (kidsL c i true) s.initial):=by unfold zap; rw [if_pos hk1]
  rw [hr];cases e1:(kidsL c i true == [])
  ·rw [if_neg (by simpa using e1)];have F:=ai7 chAV.eq_1 k0 hs stAV.eq_1 hk1 z1 e1;repeat (first | refine st ?_ | refine cC hreal ?_ | refine cC hcon ?_)
   exact aR
  ·have e1':kidsL c i true=[]:=by simpa using e1
   rw [if_pos e1'];cases e2:(s.initial == -1)
   ·have F:=ai8 chAV.eq_1 k0 hs stAV.eq_1 hk1 z1 e1 e2;repeat (first | refine st ?_ | refine cC hreal ?_ | refine cC hcon ?_)
    (refine zak ?_; show (zaz _ _ _).run _=some _; simp only [go_sem,F])
    rw [e1'];rfl
   ·have F:=ai8 chAV.eq_1 k0 hs stAV.eq_1 hk1 z1 e1 e2;repeat (first | refine st ?_ | refine cC hreal ?_ | refine cC hcon ?_)
    exact aR
 have b1:=zba hk1;by_cases hk2:s.kind=2
 ·have hr:zap c i s=(((kidsL c i true).all fun k=>zaU c k)&&decide (0< (kidsL c i true).length)&&(s.initial == -1)):=by unfold zap; rw [if_neg hk1,if_pos hk2]
  rw [hr];have F:=ai5 chAV.eq_1 k0 hs stAV.eq_1 hk2;repeat (first | refine st ?_ | refine cC hreal ?_)
  refine zab (D:=Nat) (fun j vs=>[(1,I i),(2, .loc 2 (vs 2) 0 0),(5, .loc 5 (vs 5) 0 0),(6, .row 16 (vs 16)),(18,I 2),(37, .row 16 (vs 16)),(38,I (kidsL c i true).length),(39,I j)]) (fun _ _=>[(2,⟨5,[chAV c],26,false⟩),(5,⟨6,[stAV s],72,false⟩),(16,⟨1,(kidsL c i true).map zae,3,true⟩)]) (fun j _ _=>j<=(kidsL c i true).length/\((kidsL c i true).take j).all (fun k=>zaU c k)=true) (fun j=>(kidsL c i true).length-j) 0 ?_ ?_ ?_ ?_
  ·exact⟨Nat.zero_le _,rfl⟩
  ·exact qe
  ·exact qe
  rintro j ws esc ⟨hj,hall⟩;by_cases hlt:j< (kidsL c i true).length
  ·obtain⟨k,hk,_⟩:=zal hlt;obtain⟨q,hq,hkl⟩:=zsT hk;have k1:=nlt hlt;have k2:=zaa hlt (by omega);have k3:=nlt hkl;have hnorm:=zc2 env q;cases e1:zco q
   ·rw [show ((kidsL c i true).all fun k=>zaU c k)=false from zfa hk (by rw [zdO hq]; exact e1),Bool.false_and,Bool.false_and];have F:=ai9 chAV.eq_1 k1 k2 k3 hk hq zae.eq_1 stAV.eq_1 e1;repeat (first | refine st ?_ | refine cC hnorm ?_)
    exact aR
   ·have F:=ai9 chAV.eq_1 k1 k2 k3 hk hq zae.eq_1 stAV.eq_1 e1;repeat (first | refine st ?_ | refine cC hnorm ?_)
    refine⟨j+1,⟨hlt,zbH hall hk (by rw [zdO hq]; exact e1)⟩, ?_, ?_, ?_⟩
    ·exact qe
    ·exact qe
    ·omega
  ·have k1: ¬(j:Int)< ((kidsL c i true).length:Int):=by omega
   rw [ziM hall (by omega),Bool.true_and];have z4:decide ((0:Int)< ((kidsL c i true).length:Int))=decide (0< (kidsL c i true).length):=by rw [Bool.eq_iff_iff]; simp
   cases e1:decide (0< (kidsL c i true).length)
   ·have e1': ¬(0:Int)< ((kidsL c i true).length:Int):=by simpa using e1
    have F:=ai4 chAV.eq_1 k1 stAV.eq_1 e1';repeat refine st ?_
    exact aR
   ·have e1':(0:Int)< ((kidsL c i true).length:Int):=by simpa using e1
    have F:=ai4 chAV.eq_1 k1 stAV.eq_1 e1';repeat refine st ?_
    exact aR
 have b2:=zba hk2;by_cases hk3:s.kind=3
 ·have hr:zap c i s=((kidsL c i false == [])&&((s.parent == -1)||zaO c s)&&(s.initial == -1)&&(s.out == [])):=by unfold zap; rw [if_neg hk1,if_neg hk2,if_pos hk3]
  rw [hr];cases e1:(kidsL c i false == [])
  ·have F:=ai7 chAV.eq_1 k0 hs stAV.eq_1 hk3 z2 e1;repeat (first | refine st ?_ | refine cC hreal ?_ | refine cC hkids ?_ | refine cC hplain ?_)
   exact aR
  ·cases e2:(s.parent == -1)
   ·cases e3:zaO c s
    ·have F:=ai9 chAV.eq_1 k0 hs stAV.eq_1 hk3 z2 e1 e2 e3;repeat (first | refine st ?_ | refine cC hreal ?_ | refine cC hkids ?_ | refine cC hplain ?_)
     exact aR
    ·cases e4:(s.initial == -1)
     ·have F:=ai10 chAV.eq_1 k0 hs stAV.eq_1 hk3 z2 e1 e2 e3 e4;repeat (first | refine st ?_ | refine cC hreal ?_ | refine cC hkids ?_ | refine cC hplain ?_)
      exact aR
     ·have F:=ai11 chAV.eq_1 k0 hs stAV.eq_1 hk3 z2 e1 e2 e3 e4 z3;repeat (first | refine st ?_ | refine cC hreal ?_ | refine cC hkids ?_ | refine cC hplain ?_)
      exact aR
   ·cases e4:(s.initial == -1)
    ·have F:=ai9 chAV.eq_1 k0 hs stAV.eq_1 hk3 z2 e1 e2 e4;repeat (first | refine st ?_ | refine cC hreal ?_ | refine cC hkids ?_ | refine cC hplain ?_)
     exact aR
    ·have F:=ai10 chAV.eq_1 k0 hs stAV.eq_1 hk3 z2 e1 e2 e4 z3;repeat (first | refine st ?_ | refine cC hreal ?_ | refine cC hkids ?_ | refine cC hplain ?_)
     exact aR
 have b3:=zba hk3;by_cases hk45:s.kind=4\/s.kind=5
 ·have hr:zap c i s=((kidsL c i false == [])&&zaO c s&&inL (kidsL c s.parent true) s.initial&&(s.inn == [])&&(s.out == [])):=by unfold zap; rw [if_neg hk1,if_neg hk2,if_neg hk3,if_pos hk45]
  rw [hr]
  have z5:(IntKind.i64.wrap ((s.inn.length:Int)+(s.out.length:Int))==0)=((s.inn == [])&&(s.out == [])):=by
   rw [Bool.eq_iff_iff];simp only [beq_iff_eq,Bool.and_eq_true, <-List.length_eq_zero_iff,zn4 h1l h2l];omega
  rw [Bool.and_assoc _ (s.inn == []), <-z5];rcases hk45 with hk | hk
  ·cases e1:(kidsL c i false == [])
   ·have F:=ai7 chAV.eq_1 k0 hs stAV.eq_1 hk z2 e1;repeat (first | refine st ?_ | refine cC hreal ?_ | refine cC hkids ?_ | refine cC hplain ?_ | refine cC hreal2 ?_ | refine cC hcon2 ?_)
    exact aR
   ·cases e2:zaO c s
    ·have F:=ai8 chAV.eq_1 k0 hs stAV.eq_1 hk z2 e1 e2;repeat (first | refine st ?_ | refine cC hreal ?_ | refine cC hkids ?_ | refine cC hplain ?_ | refine cC hreal2 ?_ | refine cC hcon2 ?_)
     exact aR
    ·cases e3:inL (kidsL c s.parent true) s.initial
     ·have F:=ai9 chAV.eq_1 k0 hs stAV.eq_1 hk z2 e1 e2 e3;repeat (first | refine st ?_ | refine cC hreal ?_ | refine cC hkids ?_ | refine cC hplain ?_ | refine cC hreal2 ?_ | refine cC hcon2 ?_)
      exact aR
     ·have F:=ai9 chAV.eq_1 k0 hs stAV.eq_1 hk z2 e1 e2 e3;repeat (first | refine st ?_ | refine cC hreal ?_ | refine cC hkids ?_ | refine cC hplain ?_ | refine cC hreal2 ?_ | refine cC hcon2 ?_)
      exact aR
  ·cases e1:(kidsL c i false == [])
   ·have F:=ai7 chAV.eq_1 k0 hs stAV.eq_1 hk z2 e1;repeat (first | refine st ?_ | refine cC hreal ?_ | refine cC hkids ?_ | refine cC hplain ?_ | refine cC hreal2 ?_ | refine cC hcon2 ?_)
    exact aR
   ·cases e2:zaO c s
    ·have F:=ai8 chAV.eq_1 k0 hs stAV.eq_1 hk z2 e1 e2;repeat (first | refine st ?_ | refine cC hreal ?_ | refine cC hkids ?_ | refine cC hplain ?_ | refine cC hreal2 ?_ | refine cC hcon2 ?_)
     exact aR
    ·cases e3:inL (kidsL c s.parent true) s.initial
     ·have F:=ai9 chAV.eq_1 k0 hs stAV.eq_1 hk z2 e1 e2 e3;repeat (first | refine st ?_ | refine cC hreal ?_ | refine cC hkids ?_ | refine cC hplain ?_ | refine cC hreal2 ?_ | refine cC hcon2 ?_)
      exact aR
     ·have F:=ai9 chAV.eq_1 k0 hs stAV.eq_1 hk z2 e1 e2 e3;repeat (first | refine st ?_ | refine cC hreal ?_ | refine cC hkids ?_ | refine cC hplain ?_ | refine cC hreal2 ?_ | refine cC hcon2 ?_)
      exact aR
 have b4:=zba (fun h=>hk45 (.inl h));have b5:=zba (fun h=>hk45 (.inr h));rw [show zap c i s=false by unfold zap; rw [if_neg hk1,if_neg hk2,if_neg hk3,if_neg hk45]];have F:=ai9 chAV.eq_1 k0 hs stAV.eq_1 b1 b2 b3 b4 b5;repeat (first | refine st ?_ | refine cC hreal ?_)
 exact aR
end
section
def ziF (a1 a8:Addr) (c:ChD):AV:=if (chk c).1=0 then nilE else if (chk c).1=8 then errV (chk c).2 (sentV a8) else errV (chk c).2 (sentV a1)
theorem zkk {a1 a8:Addr} {c:ChD} {p:Int} (h:chk c=(0,p)):ziF a1 a8 c=nilE:=by unfold ziF; rw [h]; rfl
theorem ze4 {a1 a8:Addr} {c:ChD} {p:Int} (h:chk c=(8,p)):ziF a1 a8 c=errV p (sentV a8):=by unfold ziF; rw [h]; rfl
theorem zbh {a1 a8:Addr} {c:ChD} {p:Int} (h:chk c=(1,p)):ziF a1 a8 c=errV p (sentV a1):=by unfold ziF; rw [h]; rfl
theorem zeM {c:ChD} {i:Nat} {v:VarD} (h:c.vars[i]? =some v):zd0 c i=varB c i v:=by unfold zd0; rw [h]
theorem zfK {c:ChD} {i:Nat} {s:StD} (h:c.states[i]? =some s):zfy c i=zaq c i s:=by unfold zfy; rw [h]
theorem zfJ {c:ChD} {i:Nat} {t:TrD} (h:c.trans[i]? =some t):ziG c i=zck c t:=by unfold ziG; rw [h]
theorem zcI {p:Nat->Bool} {i:Nat} (h: ∀j,j<i->p j=true) (hi:p i=true): ∀j,j<i+1->p j=true:=fun j hj=>by
 by_cases e:j=i
 ·rw [e]; exact hi
 ·exact h j (by omega)
theorem zo0 (env:Env) (a1 a8:Addr) (he:ChEnv env a1 a8) (c:ChD) (hc:zdZ c)
 (hV:c.vars.length<=8-> ∀(i:Nat) (v:VarD),c.vars[i]? =some v->Con prog env 171 [.agg (chAV c),I i] (B (varB c i v)))
 (hS:c.states.length<=32-> ∀(i:Nat) (s:StD),c.states[i]? =some s->Con prog env 172 [.agg (chAV c),I i] (B (zaq c i s)))
 (hT: ∀t,t∈c.trans->Con prog env 175 [.agg (chAV c), .agg (trAV t)] (B (zck c t))):Con prog env 117 [.agg (chAV c)] (ziF a1 a8 c):=by
 have g8:=zgx he.e8;have fname:=zbK env c.name (by have:=hc.1; unfold maxLen at this; omega);have fbad:=zfE env a1 a8 he (-1) (by omega);have fat:=zk0 env c c.initial;have z1:=zbM c.states;refine qf func117 call117 ntmps117 results117 ?_;by_cases l1:32<c.states.length
 ·have k1:(32:Int)< (c.states.length:Int):=by omega
  rw [ze4 (show chk c=(8, -1) by unfold chk; rw [if_pos (.inl l1)])];have F:=ai3 chAV.eq_1 k1 g8;repeat (first | refine st ?_ | refine cC (zbD env _ a8) ?_)
  exact aR
 have k1: ¬(32:Int)< (c.states.length:Int):=by omega
 by_cases l2:64<c.trans.length
 ·have k2:(64:Int)< (c.trans.length:Int):=by omega
  rw [ze4 (show chk c=(8, -1) by unfold chk; rw [if_pos (.inr (.inl l2))])];have F:=ai4 chAV.eq_1 k1 k2 g8;repeat (first | refine st ?_ | refine cC (zbD env _ a8) ?_)
  exact aR
 have k2: ¬(64:Int)< (c.trans.length:Int):=by omega
 by_cases l3:8<c.vars.length
 ·have k3:(8:Int)< (c.vars.length:Int):=by omega
  rw [ze4 (show chk c=(8, -1) by unfold chk; rw [if_pos (.inr (.inr l3))])];have F:=ai5 chAV.eq_1 k1 k2 k3 g8;repeat (first | refine st ?_ | refine cC (zbD env _ a8) ?_)
  exact aR
 have k3: ¬(8:Int)< (c.vars.length:Int):=by omega
 have hl: ¬(32<c.states.length\/64<c.trans.length\/8<c.vars.length):=by omega
 cases e1:zax c.name
 ·rw [zbh (show chk c=(1, -1) by unfold chk; rw [if_neg hl,if_pos (.inr e1)])];have F:=ai5 chAV.eq_1 k1 k2 k3 e1;repeat (first | refine st ?_ | refine cC fname ?_ | refine cC fbad ?_)
  exact aR
 cases e2:(c.states == [])
 case true=>
  rw [zbh (show chk c=(1, -1) by unfold chk; rw [if_neg hl,if_pos (.inl (by simpa using e2))])];have F:=ai7 chAV.eq_1 k1 k2 k3 e1 z1 e2;repeat (first | refine st ?_ | refine cC fname ?_ | refine cC fbad ?_)
  exact aR
 have hne: ¬(c.states=[]\/zax c.name=false):=by
  rw [e1];simpa using e2
 have hc1:chk c=(match zaD (zd0 c) c.vars.length with
  | some i=>(1,2000+(i:Int))
  | none=>match zaD (zfy c) c.states.length with
    | some i=>(1,(i:Int))
    | none=>if topB c=false then(1, -1) else match zaD (ziG c) c.trans.length with
      | some i=>(1,1000+(i:Int))
      | none=>(0, -1)):=by
  unfold chk;rw [if_neg hl,if_neg hne];rfl
 have F:=ai7 chAV.eq_1 k1 k2 k3 e1 z1 e2;repeat (first | refine st ?_ | refine cC fname ?_ | refine cC fbad ?_)
 refine zab (D:=Nat) (fun i vs=>[(1, .loc 1 (vs 1) 0 0),(38,I c.vars.length),(39,I i)]) (fun _ _=>[(1,⟨5,[chAV c],26,false⟩)]) (fun i _ _=>i<=c.vars.length/\ ∀j,j<i->zd0 c j=true) (fun i=>c.vars.length-i) 0 ?_ ?_ ?_ ?_
 ·exact⟨Nat.zero_le _,fun j hj=>by omega⟩
 ·exact qe
 ·exact qe
 rintro i ws esc ⟨hi,hall⟩;by_cases hlt:i<c.vars.length
 ·obtain⟨v,hv,_⟩:=zal hlt;have q1:=nlt hlt;have q2:=zaa hlt (by omega);have hcon:=hV (by omega) i v hv;cases e:varB c i v
  ·have q3:IntKind.i64.wrap (2000+(i:Int))=2000+(i:Int):=zaw (by omega) (by omega);have hb:=zfE env a1 a8 he (2000+(i:Int)) (by omega);rw [zbh (show chk c=(1,2000+(i:Int)) by rw [hc1,zbt hlt hall (by rw [zeM hv]; exact e)])];have F:=ai5 chAV.eq_1 q1 q2 q3 e;repeat (first | refine st ?_ | refine cC hcon ?_ | refine cC hb ?_)
   exact aR
  ·have F:=ai4 chAV.eq_1 q1 q2 e;repeat (first | refine st ?_ | refine cC hcon ?_)
   refine⟨i+1,⟨hlt,zcI hall (by rw [zeM hv]; exact e)⟩, ?_, ?_, ?_⟩
   ·exact qe
   ·exact qe
   ·omega
 have q1: ¬(i:Int)< (c.vars.length:Int):=by omega
 have hvn:zaD (zd0 c) c.vars.length=none:=zaC fun j hj=>hall j (by omega);rw [hvn] at hc1;have F:=ai chAV.eq_1 q1;repeat refine st ?_
 refine zab (D:=Nat) (fun i vs=>[(1, .loc 1 (vs 1) 0 0),(52,I c.states.length),(53,I i)]) (fun _ _=>[(1,⟨5,[chAV c],26,false⟩)]) (fun i _ _=>i<=c.states.length/\ ∀j,j<i->zfy c j=true) (fun i=>c.states.length-i) 0 ?_ ?_ ?_ ?_
 ·exact⟨Nat.zero_le _,fun j hj=>by omega⟩
 ·exact qe
 ·exact qe
 try clear ws esc hi hall q1 hlt i
 rintro i ws esc ⟨hi,hall⟩;by_cases hlt:i<c.states.length
 ·obtain⟨s,hs,_⟩:=zal hlt;have q1:=nlt hlt;have q2:=zaa hlt (by omega);have hcon:=hS (by omega) i s hs;cases e:zaq c i s
  ·have hb:=zfE env a1 a8 he (i:Int) (by omega);rw [zbh (show chk c=(1,(i:Int)) by rw [hc1,zbt hlt hall (by rw [zfK hs]; exact e)])];have F:=ai4 chAV.eq_1 q1 q2 e;repeat (first | refine st ?_ | refine cC hcon ?_ | refine cC hb ?_)
   exact aR
  ·have F:=ai4 chAV.eq_1 q1 q2 e;repeat (first | refine st ?_ | refine cC hcon ?_)
   refine⟨i+1,⟨hlt,zcI hall (by rw [zfK hs]; exact e)⟩, ?_, ?_, ?_⟩
   ·exact qe
   ·exact qe
   ·omega
 have q1: ¬(i:Int)< (c.states.length:Int):=by omega
 have hsn:zaD (zfy c) c.states.length=none:=zaC fun j hj=>hall j (by omega);rw [hsn] at hc1;by_cases p1:0<=c.initial
 case neg=>
  have ht:topB c=false:=by unfold topB at_; rw [if_neg p1]
  rw [zbh (show chk c=(1, -1) by rw [hc1,if_pos ht])];have F:=ai3 chAV.eq_1 q1 p1;repeat (first | refine st ?_ | refine cC fat ?_ | refine cC fbad ?_)
  exact aR
 obtain⟨m,hm⟩:=zcB p1;by_cases p2:(m:Int)< (c.states.length:Int)
 case neg=>
  have ht:topB c=false:=by unfold topB; rw [hm,zbd,List.getElem?_eq_none (by omega)]
  have p2':(c.initial< (c.states.length:Int))=False:=by rw [hm]; simpa using p2
  rw [zbh (show chk c=(1, -1) by rw [hc1,if_pos ht])];have F:=ai4 chAV.eq_1 q1 p1 p2';repeat (first | refine st ?_ | refine cC fat ?_ | refine cC fbad ?_)
  exact aR
 obtain⟨q,hq,_⟩:=zal (show m<c.states.length by omega);have fnorm:=zc2 env q;have htop:topB c=((q.parent == -1)&&zco q):=by unfold topB; rw [hm,zbd,hq]
 rw [hm] at fat;cases e3:(q.parent == -1)
 ·rw [zbh (show chk c=(1, -1) by rw [hc1,if_pos (by rw [htop,e3]; rfl)])];have F:=ai8 chAV.eq_1 stAV.eq_1 q1 hm p2 hq e3 bneA;repeat (first | refine st ?_ | refine cC fat ?_ | refine cC fbad ?_ | refine cC fnorm ?_)
  exact aR
 cases e4:zco q
 ·rw [zbh (show chk c=(1, -1) by rw [hc1,if_pos (by rw [htop,e3,e4]; rfl)])];have F:=ai9 chAV.eq_1 stAV.eq_1 q1 hm p2 hq e3 e4 bneA;repeat (first | refine st ?_ | refine cC fat ?_ | refine cC fbad ?_ | refine cC fnorm ?_)
  exact aR
 rw [if_neg (by rw [htop,e3,e4]; simp)] at hc1;have F:=ai9 chAV.eq_1 stAV.eq_1 q1 hm p2 hq e3 e4 bneA;repeat (first | refine st ?_ | refine cC fat ?_ | refine cC fbad ?_ | refine cC fnorm ?_)
 refine zab (D:=Nat) (fun i vs=>[(1, .loc 1 (vs 1) 0 0),(90,trsAV c.trans),(91,I c.trans.length),(92,I i)]) (fun _ _=>[(1,⟨5,[chAV c],26,false⟩)]) (fun i _ _=>i<=c.trans.length/\ ∀j,j<i->ziG c j=true) (fun i=>c.trans.length-i) 0 ?_ ?_ ?_ ?_
 ·exact⟨Nat.zero_le _,fun j hj=>by omega⟩
 ·have F:=ai chAV.eq_1 hm;exact qe
 ·have F:=ai chAV.eq_1 hm;exact qe
 try clear ws esc hi hall q1 hlt i
 rintro i ws esc ⟨hi,hall⟩;by_cases hlt:i<c.trans.length
 ·obtain⟨t,ht,htm⟩:=zal hlt;have q1:=nlt hlt;have q2:=zaa hlt (by omega);have hcon:=hT t htm;cases e:zck c t
  ·have q3:IntKind.i64.wrap (1000+(i:Int))=1000+(i:Int):=zaw (by omega) (by omega);have hb:=zfE env a1 a8 he (1000+(i:Int)) (by omega);rw [zbh (show chk c=(1,1000+(i:Int)) by rw [hc1,zbt hlt hall (by rw [zfJ ht]; exact e)])];have F:=ai7 chAV.eq_1 trAV.eq_1 q1 q2 q3 ht e;repeat (first | refine st ?_ | refine cC hcon ?_ | refine cC hb ?_)
   exact aR
  ·have F:=ai6 chAV.eq_1 trAV.eq_1 q1 q2 ht e;repeat (first | refine st ?_ | refine cC hcon ?_)
   refine⟨i+1,⟨hlt,zcI hall (by rw [zfJ ht]; exact e)⟩, ?_, ?_, ?_⟩
   ·exact qe
   ·exact qe
   ·omega
 have q1: ¬(i:Int)< (c.trans.length:Int):=by omega
 rw [zkk (show chk c=(0, -1) by rw [hc1,zaC fun j hj=>hall j (by omega)])];have F:=ai chAV.eq_1 q1;repeat refine st ?_
 exact aR
end

end Go.Proofs.YtbpmkofnfgdegaaGreatDoor