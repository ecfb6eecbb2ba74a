/- A tree as rows of a call's own; the walk. -/
import Derived.Test.YtbjldjekgepopaaGreatDoorT11
set_option maxRecDepth 100000
set_option maxHeartbeats 8000000
set_option linter.unusedSimpArgs false
namespace Go.Proofs.YtbjldjekgepopaaGreatDoor
open Go.Proofs.Tryz
section
open Go.RowKit
def aB (k:Nat):List AV:=[I k]
abbrev nsAV (l:List Nat):AV:= .seq 1 (l.map aB)
def idxFrom:List Nat->Int->Nat->Int
 |[],_,_=> -1
 |x::l,v,k=>if (x:Int)=v then k else idxFrom l v (k+1)
def Bg (l:List Nat) (v:Int):Int:=idxFrom l v 0
theorem zi {l:List Nat} {v:Int} {k x:Nat} (h:l[k]? =some x) (hn:Bg l v=idxFrom (l.drop k) v k):((x:Int)=v->Bg l v=k)/\((x:Int)≠v->Bg l v=idxFrom (l.drop (k+1)) v (k+1)):=by
 have hk:k<l.length:=(KW.1 h).1
 have he:l.drop k=x::l.drop (k+1):=by
  rw[M6 hk]
  congr 1
  rw[KV hk]at h;exact Lo h
 rw[he]at hn;simp only[idxFrom]at hn;exact⟨fun e=>by rw[hn,K0 e],fun e=>by rw[hn,KZ e]⟩
theorem DO {l:List Nat} {v:Int} {k:Nat} (h:l.length<=k) (hn:Bg l v=idxFrom (l.drop k) v k):Bg l v= -1:=by
 rw[hn,List.drop_eq_nil_of_le h];rfl
theorem C8 (v:Int): ∀(l:List Nat) (k:Nat),decide (0<=idxFrom l v k)=inL l v
 |[],k=>rfl
 | x::l,k=>by
   have ih:=C8 v l (k+1);have e0:inL (x::l) v=(((x:Int)==v)||inL l v):=rfl;rw[e0, <-ih];by_cases e:(x:Int)=v
   ·have e1:idxFrom (x::l) v k=k:=K0 e;rw[LD];simp[e1,e]
   ·have e1:idxFrom (x::l) v k=idxFrom l v (k+1):=KZ e;rw[LD];simp[e1,e]
theorem FF (env:Env) (l:List Nat) (v:Int) (hl:l.length<=1000000):Con prog env 156 [nsAV l,I v] (I (Bg l v)):=by
 refine qf func156 call156 ntmps156 results156 ?_;repeat refine st0 ?_
 refine lq0 l.length (by omega) (fun k _=>[(0,nsAV l),(1,I v),(7,I l.length),(8,I k)]) (fun _ _=>[]) (fun k _ _=>Bg l v=idxFrom (l.drop k) v k) rfl ?_ ?_
 ·rintro k ws esc hlt k1 k2 hi;obtain⟨x,hx,_⟩:=aQ hlt;obtain⟨yes,no⟩:=zi hx hi;by_cases e:(x:Int)=v
  ·rw[yes e];have k3:(v==(x:Int))=true:=by simp[e]
   have F:=ai5 k1 k2 k3 hx aB.eq_1;repeat refine st ?_
   exact aR
  ·have k3:(v==(x:Int))=false:=by simpa using fun h=>e h.symm
   have F:=ai5 k1 k2 k3 hx aB.eq_1;repeat refine st ?_
   exact qn (k+1) ⟨hlt,no e⟩
 ·rintro ws esc k1 hi;rw[DO (by omega) hi];have F:=k1;repeat refine st ?_
  exact aR
theorem jU (env:Env) (l:List Nat) (v:Int) (hl:l.length<=1000000):Con prog env 96 [nsAV l,I v] (B (inL l v)):=by
 have h:=C8 v l 0;refine qf func96 call96 ntmps96 results96 ?_;repeat refine lZ (FF env l v hl) ?_
 (refine aN ?_;show (an _ _ _).run _=some _;simp only[go_sem])
 exact Kx B h
theorem Cu (env:Env) (l:List Nat) (v:Int) (hl:l.length<=1000000):Con prog env 163 [nsAV l,I v] (B (inL l v)):=by
 rw[<-C8 v l 0,show idxFrom l v 0=Bg l v from rfl];refine qf func163 call163 ntmps163 results163 ?_;repeat refine st0 ?_
 refine lq0 l.length (by omega) (fun k _=>[(0,nsAV l),(1,I v),(5,I k)]) (fun _ _=>[]) (fun k _ _=>Bg l v=idxFrom (l.drop k) v k) rfl ?_ ?_
 ·rintro k ws esc hlt k1 k2 hi;obtain⟨x,hx,_⟩:=aQ hlt;obtain⟨yes,no⟩:=zi hx hi;by_cases e:(x:Int)=v
  ·rw[yes e,LC (Int.natCast_nonneg k)];have k3:((x:Int)==v)=true:=by simp[e]
   have F:=ai5 k1 k2 k3 hx aB.eq_1;repeat refine st ?_
   exact aR
  ·have k3:((x:Int)==v)=false:=by simpa using e
   have F:=ai5 k1 k2 k3 hx aB.eq_1;repeat refine st ?_
   exact qn (k+1) ⟨hlt,no e⟩
 ·rintro ws esc k1 hi;rw[DO (by omega) hi];have F:=k1;repeat refine st ?_
  exact aR
/-! Kids -/
theorem sn {c:ChD} {k:Nat} {s:StD} (hs:c.states[k]? =some s) (i:Int) (real:Bool):cn c i real k=((s.parent==i)&&(!real|| !aS s)):=by unfold cn;rw[hs]
theorem k8 {c:ChD} {i:Int} {real:Bool} {k:Nat} (h:cn c i real k=true):(bR c i real (k+1)).map aB=(bR c i real k).map aB++[[I k]]:=by
 rw[pO,h,K0 rfl,Ki];rfl
theorem jA {c:ChD} {i:Int} {real:Bool} {k:Nat} (h:cn c i real k=false):(bR c i real (k+1)).map aB=(bR c i real k).map aB:=by
 rw[pO,h];simp
theorem gI (env:Env) (c:ChD) (i:Int) (hc:c.states.length<=1000000):Con prog env 117 [.agg (aA c),I i] (.own 3 1 ((kidsL c i true).map aB)):=by
 refine qf func117 call117 ntmps117 results117 ?_;have F:=aA.eq_1;repeat refine st ?_
 refine aZ 5 5 3 1 ?_;refine aK (D:=Nat) (fun k vs=>[(1,I i),(5, .row 5 (vs 5)),(9,stsAV c.states),(10,I c.states.length),(11,I k)]) (fun k _=>[(5,⟨1,(bR c i true k).map aB,3,true⟩)]) (fun k _ esc=>k<=c.states.length/\esc 5=false) (fun k=>c.states.length-k) 0 ?_ ?_ ?_ ?_
 ·exact⟨Ke _,rfl⟩
 ·exact qe
 ·(simp only[go_sem,F])
  simp[bR]
 rintro k ws esc ⟨hk,he⟩;by_cases hlt:k<c.states.length
 ·obtain⟨s,hs,_⟩:=aQ hlt;have k1:=nlt hlt;have k2:=aD hlt (by omega);have hkid:=sn hs i true;have hlen:=dB c i true k;have hf:Fits ((bR c i true k).length+1) 8:=⟨by omega,by omega⟩;cases h1:(s.parent==i) with
  | false=>
    have hsame:=jA (show cn c i true k=false by rw[hkid,h1];rfl);have F:=ai5 k1 k2 hs aL.eq_1 h1;repeat refine tz1 (jR env s) ?_
    refine⟨k+1,⟨hlt,by simp only[go_sem,he]⟩,?_,?_,?_⟩
    ·exact qe
    ·have F:=ai6 k1 k2 hs aL.eq_1 h1 hsame;exact qe
    ·omega
  | true=>
    cases h2:aS s with
    | true=>
      have hsame:=jA (show cn c i true k=false by rw[hkid,h1,h2];rfl);have F:=ai6 k1 k2 hs aL.eq_1 h1 h2;repeat refine tz1 (jR env s) ?_
      refine⟨k+1,⟨hlt,by simp only[go_sem,he]⟩,?_,?_,?_⟩
      ·exact qe
      ·have F:=ai7 k1 k2 hs aL.eq_1 h1 h2 hsame;exact qe
      ·omega
    | false=>
      have hmore:=k8 (show cn c i true k=true by rw[hkid,h1,h2];rfl);have F:=ai7 k1 k2 hs aL.eq_1 h1 h2 hf;repeat refine tz1 (jR env s) ?_
      refine⟨k+1,⟨hlt,by simp only[go_sem,he]⟩,?_,?_,?_⟩
      ·exact qe
      ·have F:=ai7 k1 k2 hs aL.eq_1 h1 h2 hmore;exact qe
      ·omega
 ·have k1: ¬(k:Int)< (c.states.length:Int):=by omega
  obtain rfl:k=c.states.length:=by omega
  have F:=ai k1 he;repeat refine st ?_
  (refine aN ?_;show (an _ _ _).run _=some _;simp only[go_sem,F])
  rfl
theorem oT (env:Env) (c:ChD) (i:Int) (hc:c.states.length<=1000000):Con prog env 205 [.agg (aA c),I i] (.own 3 1 ((kidsL c i false).map aB)):=by
 refine qf func205 call205 ntmps205 results205 ?_;have F:=aA.eq_1;repeat refine st ?_
 refine aZ 5 5 3 1 ?_;refine aK (D:=Nat) (fun k vs=>[(1,I i),(5, .row 5 (vs 5)),(9,stsAV c.states),(10,I c.states.length),(11,I k)]) (fun k _=>[(5,⟨1,(bR c i false k).map aB,3,true⟩)]) (fun k _ esc=>k<=c.states.length/\esc 5=false) (fun k=>c.states.length-k) 0 ?_ ?_ ?_ ?_
 ·exact⟨Ke _,rfl⟩
 ·exact qe
 ·(simp only[go_sem,F])
  simp[bR]
 rintro k ws esc ⟨hk,he⟩;by_cases hlt:k<c.states.length
 ·obtain⟨s,hs,_⟩:=aQ hlt;have k1:=nlt hlt;have k2:=aD hlt (by omega);have hkid:=sn hs i false;have hlen:=dB c i false k;have hf:Fits ((bR c i false k).length+1) 8:=⟨by omega,by omega⟩;cases h1:(s.parent==i) with
  | false=>
    have hsame:=jA (show cn c i false k=false by rw[hkid,h1];rfl);have F:=ai5 k1 k2 hs aL.eq_1 h1;repeat refine st ?_
    refine⟨k+1,⟨hlt,by simp only[go_sem,he]⟩,?_,?_,?_⟩
    ·exact qe
    ·have F:=ai6 k1 k2 hs aL.eq_1 h1 hsame;exact qe
    ·omega
  | true=>
    have hmore:=k8 (show cn c i false k=true by rw[hkid,h1];rfl);have F:=ai6 k1 k2 hs aL.eq_1 h1 hf;repeat refine st ?_
    refine⟨k+1,⟨hlt,by simp only[go_sem,he]⟩,?_,?_,?_⟩
    ·exact qe
    ·have F:=ai6 k1 k2 hs aL.eq_1 h1 hmore;exact qe
    ·omega
 ·have k1: ¬(k:Int)< (c.states.length:Int):=by omega
  obtain rfl:k=c.states.length:=by omega
  have F:=ai k1 he;repeat refine st ?_
  (refine aN ?_;show (an _ _ _).run _=some _;simp only[go_sem,F])
  rfl
theorem fF (env:Env) (c:ChD) (i:Int) (real:Bool) (hc:c.states.length<=1000000):Con prog env 162 [.agg (aA c),I i,B real] (.own 3 1 ((kidsL c i real).map aB)):=by
 refine qf func162 call162 ntmps162 results162 ?_;have F:=aA.eq_1;repeat refine st ?_
 refine aK (D:=Nat) (fun k vs=>[(1,I i),(2,B real),(3, .loc 3 (vs 3) 0 0),(7, .row 9 (vs 9)),(8,I k)]) (fun k _=>[(3,⟨5,[aA c],26,false⟩),(9,⟨1,(bR c i real k).map aB,3,true⟩)]) (fun k _ esc=>k<=c.states.length/\esc 9=false) (fun k=>c.states.length-k) 0 ?_ ?_ ?_ ?_
 ·exact⟨Ke _,rfl⟩
 ·exact qe
 ·(simp only[go_sem,F])
  simp[bR]
 rintro k ws esc ⟨hk,he⟩;by_cases hlt:k<c.states.length
 ·obtain⟨s,hs,_⟩:=aQ hlt;have k1:=nlt hlt;have k2:=aD hlt (by omega);have hkid:=sn hs i real;have hlen:=dB c i real k;have hf:Fits ((bR c i real k).length+1) 8:=⟨by omega,by omega⟩;cases h1:(s.parent==i) with
  | false=>
    have hsame:=jA (show cn c i real k=false by rw[hkid,h1];rfl);have F:=ai6 aA.eq_1 k1 k2 hs aL.eq_1 h1;repeat refine tz1 (cu env s) ?_
    refine⟨k+1,⟨hlt,by simp only[go_sem,he]⟩,?_,?_,?_⟩
    ·exact qe
    ·have F:=ai7 aA.eq_1 k1 k2 hs aL.eq_1 h1 hsame;exact qe
    ·omega
  | true=>
    cases real with
    | false=>
      have hmore:=k8 (show cn c i false k=true by rw[hkid,h1];rfl);have F:=ai7 aA.eq_1 k1 k2 hs aL.eq_1 h1 hf;repeat refine tz1 (cu env s) ?_
      refine⟨k+1,⟨hlt,by simp only[go_sem,he]⟩,?_,?_,?_⟩
      ·exact qe
      ·have F:=ai7 aA.eq_1 k1 k2 hs aL.eq_1 h1 hmore;exact qe
      ·omega
    | true=>
      cases h2:aS s with
      | true=>
        have hsame:=jA (show cn c i true k=false by rw[hkid,h1,h2];rfl);have F:=ai7 aA.eq_1 k1 k2 hs aL.eq_1 h1 h2;repeat refine tz1 (cu env s) ?_
        refine⟨k+1,⟨hlt,by simp only[go_sem,he]⟩,?_,?_,?_⟩
        ·exact qe
        ·have F:=ai8 aA.eq_1 k1 k2 hs aL.eq_1 h1 h2 hsame;exact qe
        ·omega
      | false=>
        have hmore:=k8 (show cn c i true k=true by rw[hkid,h1,h2];rfl);have F:=ai8 aA.eq_1 k1 k2 hs aL.eq_1 h1 h2 hf;repeat refine tz1 (cu env s) ?_
        refine⟨k+1,⟨hlt,by simp only[go_sem,he]⟩,?_,?_,?_⟩
        ·exact qe
        ·have F:=ai8 aA.eq_1 k1 k2 hs aL.eq_1 h1 h2 hmore;exact qe
        ·omega
 ·have k1: ¬(k:Int)< (c.states.length:Int):=by omega
  obtain rfl:k=c.states.length:=by omega
  have F:=ai3 aA.eq_1 k1 he;repeat refine st ?_
  (refine aN ?_;show (an _ _ _).run _=some _;simp only[go_sem,F])
  rfl
/-! The state of a name -/
theorem Ed (env:Env) (c:ChD) (name:List UInt8) (hc:c.states.length<=1000000):Con prog env 252 [.agg (aA c),Sg name] (I (uK c name)):=by
 refine qf func252 call252 ntmps252 results252 ?_;have F:=aA.eq_1;repeat refine st ?_
 refine lq c.states.length (by omega) (fun k _=>[(1,Sg name),(8,stsAV c.states),(9,I c.states.length),(10,I k)]) (fun _ _=>[]) (fun k _ _=>eF c name k= -1) rfl ?_ ?_
 ·rintro k ws esc hlt k1 k2 hf;obtain⟨s,hs,_⟩:=aQ hlt;cases h1:(s.name==name) with
  | true=>
    rw[vK c name hlt hf s hs (by simpa using h1)];have F:=ai5 k1 k2 hs aL.eq_1 h1;repeat refine st ?_
    exact aR
  | false=>
    have F:=ai5 k1 k2 hs aL.eq_1 h1;repeat refine st ?_
    exact qn (k+1) ⟨hlt,pV c name hf s hs (by simpa using h1)⟩
 ·rintro ws esc k1 hf;rw[show uK c name= -1 from hf];have F:=k1;repeat refine st ?_
  exact aR
theorem E6 (env:Env) (c:ChD) (name:List UInt8) (hc:c.states.length<=1000000):Con prog env 165 [.agg (aA c),Sg name] (I (uK c name)):=by
 refine qf func165 call165 ntmps165 results165 ?_;have F:=aA.eq_1;repeat refine st ?_
 refine lq c.states.length (by omega) (fun k vs=>[(1,Sg name),(2, .loc 2 (vs 2) 0 0),(5,I k)]) (fun _ _=>[(2,⟨5,[aA c],26,false⟩)]) (fun k _ _=>eF c name k= -1) rfl ?_ ?_
 ·rintro k ws esc hlt k1 k2 hf;obtain⟨s,hs,_⟩:=aQ hlt;cases h1:(s.name==name) with
  | true=>
    rw[vK c name hlt hf s hs (by simpa using h1)];have F:=ai6 aA.eq_1 k1 k2 hs aL.eq_1 h1;repeat refine st ?_
    exact aR
  | false=>
    have F:=ai6 aA.eq_1 k1 k2 hs aL.eq_1 h1;repeat refine st ?_
    exact qn (k+1) ⟨hlt,pV c name hf s hs (by simpa using h1)⟩
 ·rintro ws esc k1 hf;rw[show uK c name= -1 from hf];have F:=ai aA.eq_1 k1;repeat refine st ?_
  exact aR
end
section
open Go.RowKit
theorem ub (env:Env) (a1 a8:Addr) (he:ChEnv env a1 a8) (c:ChD) (l:List OpD):Con prog env 256 [.agg (aA c),opsAV l] (B (cB l c.vars.length c.states.length)):=by
 have hx:=gC env a1 a8 he l c.vars.length c.states.length;unfold gP at hx;refine qf func256 call256 ntmps256 results256 ?_;by_cases h0:iQ l c.vars.length c.states.length=0
 ·rw[K0 h0]at hx;rw[show cB l c.vars.length c.states.length=true by simp[cB,h0]];have F:=aA.eq_1;repeat refine tz1 hx ?_
  exact aR
 ·rw[KZ h0]at hx;rw[show cB l c.vars.length c.states.length=false by simp[cB,h0]];by_cases h8:iQ l c.vars.length c.states.length=8
  ·rw[K0 h8]at hx;have F:=aA.eq_1;repeat refine tz1 hx ?_
   exact aR
  ·rw[KZ h8]at hx;have F:=aA.eq_1;repeat refine tz1 hx ?_
   exact aR
theorem dI {a b:Int} (h:a≠b):(a==b)=false:=by simpa using h
theorem GW (env:Env) (a1 a8:Addr) (he:ChEnv env a1 a8) (c:ChD) (a:ActD) (ha:a.name.length<=9223372036854775807):Con prog env 295 [.agg (aA c), .agg (bP a)] (B (gd c.vars.length c.states.length a)):=by
 obtain⟨k,n,m,co⟩:=a;have hcode:=ub env a1 a8 he c co;have hname:=d8 env m ha;refine qf func295 call295 ntmps295 results295 ?_
 have hco:((co.length:Int)==0)=(co == []):=by
  rw[LD];simp
 have w1: ∀p q:Prop,[Decidable p]->[Decidable q]->decide (p/\q)=(decide p&&decide q):=fun p q=>PC p q;by_cases hk:k=1\/k=2\/k=3\/k=4\/k=5
 ·rcases hk with rfl|rfl|rfl|rfl|rfl
  all_goals
   have F:=ai5 aA.eq_1 bP.eq_1 gd.eq_1 hco w1;exact gz2 hcode hname
 simp only[O1]at hk;obtain⟨h1,h2,h3,h4,h5⟩:=hk;rw[show gd c.vars.length c.states.length ⟨k,n,m,co⟩=false by unfold gd;rw[KZ h1,KZ (fun h=>h.elim h2 h4),KZ h3,KZ h5]];have b1:=dI h1;have b2:=dI h2;have b3:=dI h3;have b4:=dI h4;have b5:=dI h5;have F:=ai7 aA.eq_1 bP.eq_1 b1 b2 b3 b4 b5;repeat refine st ?_
 exact aR
theorem dZ {α:Type} {l:List α} {p:α->Bool} {i:Nat} {x:α} (h:(l.take i).all p=true) (hx:l[i]? =some x) (hp:p x=true):(l.take (i+1)).all p=true:=by
 obtain⟨h1,h2⟩:=KW.1 hx;rw[MY h1,Nt,h,h2];simp[hp]
theorem lX {α:Type} {l:List α} {p:α->Bool} {i:Nat} {x:α} (hx:l[i]? =some x) (hp:p x=false):l.all p=false:=by
 rw[Ml];intro h;rw[K2]at h;rw[h _ (K1 hx)]at hp;cases hp
theorem sL {α:Type} {l:List α} {p:α->Bool} {i:Nat} (h:(l.take i).all p=true) (hi:l.length<=i):l.all p=true:=by
 rwa [LP hi]at h
theorem oV (env:Env) (a1 a8:Addr) (he:ChEnv env a1 a8) (c:ChD) (l:List ActD) (hl:l.length<=9223372036854775807) (ha: ∀a∈l,a.name.length<=9223372036854775807):Con prog env 255 [.agg (aA c),actsAV l] (B (dy c.vars.length c.states.length l)):=by
 refine qf func255 call255 ntmps255 results255 ?_;have F:=aA.eq_1;repeat refine st ?_
 refine lp (D:=Nat) (fun k vs=>[(1,actsAV l),(2, .loc 2 (vs 2) 0 0),(7,actsAV l),(8,I l.length),(9,I k)]) (fun _ _=>[(2,⟨5,[aA c],26,false⟩)]) (fun k _ _=>k<=l.length/\(l.take k).all (gd c.vars.length c.states.length)=true) (fun k=>l.length-k) 0 ⟨Ke _,rfl⟩ ?_;rintro k ws esc ⟨hk,hall⟩;by_cases hlt:k<l.length
 ·obtain⟨a,hx,hm⟩:=aQ hlt;have k1:=nlt hlt;have k2:=aD hlt hl;have hact:=GW env a1 a8 he c a (ha a hm);cases h1:gd c.vars.length c.states.length a with
  | true=>
    have F:=ai6 aA.eq_1 k1 k2 hx bP.eq_1 h1;repeat refine tz1 hact ?_
    exact qn (k+1) ⟨hlt,dZ hall hx h1⟩
  | false=>
    rw[show dy c.vars.length c.states.length l=false by unfold dy;rw[lX hx h1];simp];have F:=ai6 aA.eq_1 k1 k2 hx bP.eq_1 h1;repeat refine tz1 hact ?_
    exact aR
 ·have k1: ¬(k:Int)< (l.length:Int):=by omega
  have h3:decide ((l.length:Int)<=32)=decide (l.length<=32):=by rw[LD];simp;omega
  rw[show dy c.vars.length c.states.length l=decide (l.length<=32) by unfold dy;rw[sL hall (by omega)];simp];have F:=ai aA.eq_1 k1;repeat refine st ?_
  (refine aN ?_;show (an _ _ _).run _=some _;simp only[go_sem,F])
  exact Kx B h3
end
section
open Go.RowKit
theorem w8 (env:Env) (c:ChD) (i:Int):Con prog env 200 [.agg (aA c),I i] (B (decide (0<=i)&&decide (i<c.states.length))):=by
 refine qf func200 call200 ntmps200 results200 ?_;by_cases h1:0<=i<;>by_cases h2:i< (c.states.length:Int)<;>
 ·have F:=ai3 aA.eq_1 h1 h2;repeat refine st ?_
  exact aR
theorem Str.ifl (t:TypeId) (v:Value):Str (.lit (.iface t v)) (.iface t (.lit v)):=fun S w u h=>by
 obtain rfl:=h.lit_inv;exact .iface t v (.lit v) (.lit v)
theorem Str.lfi (t:TypeId) (v:Value):Str (.iface t (.lit v)) (.lit (.iface t v)):=fun S w u h=>by
 cases h with
 | iface _ v' _ h=>
   obtain rfl:=h.lit_inv;exact .lit _
theorem ki (s p:AV) (q:Int) (hp:p=I q) (e e':AV) (he:Str e' e):ge (.iface 179 (.ref 3 [[s,p,e']] 0 0)) (errV q e):=by
 subst hp;exact .of (.iface (.ref1 (cs:=[.any,I q,e]) (.cons (.any _) (.cons (.refl _) (.cons he .nil))))) (fun _ _ _ h=>by cases h) (fun _ _ _ h=>by cases h)
theorem xF (env:Env) (s:List UInt8) (p:Int) (a:Addr) (hp: -1<=p):Con prog env 217 [Sg s,I p,sentV a] (errV p (sentV a)):=by
 refine Con.args (cs:=[Sg s,I p, .iface 410 (.lit (.pointer (some a)))]) ?_ (.cons (.refl _) (.cons (.refl _) (.cons (.ifl _ _) .nil)));have h1: ¬p< -1:=by omega
 refine qw func217 call217 ntmps217 results217 ?_;have F:=h1;repeat refine st ?_
 (refine aN ?_;refine⟨_,(by show (an _ _ _).run _=some _;simp only[go_sem,F];rfl),?_⟩)
 exact ki _ _ _ rfl _ _ (.lfi _ _)
theorem nH (env:Env) (a1 a8:Addr) (he:ChEnv env a1 a8) (p:Int) (hp: -1<=p):Con prog env 197 [I p] (errV p (sentV a1)):=by
 have g1:=gX he.e1;refine qf func197 call197 ntmps197 results197 ?_;have F:=g1;repeat (first|refine st ?_|refine cC (xF env _ p a1 hp) ?_)
 exact aR
theorem j7 {c:ChD} {m:Nat} {q:StD} (h:c.states[m]? =some q):al c (m:Int)=dw q:=by unfold al;rw[bH,h]
theorem gL {n:Int} (h:0<=n): ∃m:Nat,n=m:=⟨n.toNat,by omega⟩
theorem yV (env:Env) (c:ChD) (i:Nat) (s:StD) (hs:c.states[i]? =some s):Con prog env 253 [.agg (aA c),I i] (B (cc c i s)):=by
 have hi:i<c.states.length:=(KW.1 hs).1;have k0:=nlt hi;refine qf func253 call253 ntmps253 results253 ?_;by_cases h2:0<=s.parent/\s.parent<i
 ·obtain⟨m,hm⟩:=gL h2.1;obtain⟨q,hq,_⟩:=aQ (show m<c.states.length by omega);have k1:(0:Int)<=m:=by omega
  have k2:(m:Int)<i:=by omega
  have k3:=nlt (show m<c.states.length by omega);have k4:=j7 hq;have b0:((m:Int) == -1)=false:=dI (by omega);have fn:=iM env q;have F:=ai12 aA.eq_1 k0 hs aL.eq_1 hm b0 k1 k2 k3 k4 hq cc.eq_1;exact gz1 fn
 ·by_cases h3:0<=s.parent
  ·have h4: ¬s.parent<i:=fun h=>h2 ⟨h3,h⟩;have F:=ai7 aA.eq_1 k0 hs aL.eq_1 h3 h4 cc.eq_1;exact gz0
  ·have F:=ai6 aA.eq_1 k0 hs aL.eq_1 h3 cc.eq_1;exact gz0
theorem BJ (env:Env) (c:ChD) (s:StD) (hp:s.parent<c.states.length):Con prog env 294 [.agg (aA c), .agg (aL s)] (B (cS c s)):=by
 refine qf func294 call294 ntmps294 results294 ?_;by_cases h2:0<=s.parent
 ·obtain⟨m,hm⟩:=gL h2;have hml:m<c.states.length:=by omega
  obtain⟨q,hq,_⟩:=aQ hml;have k3:=nlt hml;rw[show cS c s=(q.kind==1) by unfold cS;rw[hm,bH,hq]];have F:=ai5 aA.eq_1 aL.eq_1 hm k3 hq;repeat refine st ?_
  exact aR
 ·rw[show cS c s=false by unfold cS at_;rw[KZ h2]];have F:=ai3 aA.eq_1 aL.eq_1 h2;repeat refine st ?_
  exact aR
theorem Du {a b:Nat} (ha:a<=9223372036854775807) (hb:b<=9223372036854775807):IntKind.i64.wrap ((a:Int)+(b:Int))=0↔a+b=0:=by
 by_cases h:a+b<9223372036854775808
 ·rw[ae (by omega) (by omega)];omega
 ·have:IntKind.i64.wrap ((a:Int)+(b:Int))=(a:Int)+(b:Int)-18446744073709551616:=by
   simp[IntKind.wrap,IntKind.bits,IntKind.signed];omega
  omega
theorem eR {α:Type} [DecidableEq α] (l:List α):((l.length:Int)==0)=(l == []):=by
 rw[LD];simp
theorem E9 {c:ChD} {i:Nat} {s:StD} (hi:i<c.states.length) (h:cc c i s=true):s.parent<c.states.length:=by
 unfold cc at h;simp only[Lb,LW,KY,K6]at h;omega
theorem Ia {c:ChD} {i:Int} {real:Bool} {j k:Nat} (h:(kidsL c i real)[j]? =some k): ∃q,c.states[k]? =some q/\k<c.states.length:=by
 have hk:=o7 (K1 h);obtain⟨q,hq,_⟩:=aQ hk.1;exact⟨q,hq,hk.1⟩
theorem BI (env:Env) (c:ChD) (i:Nat) (s:StD) (hs:c.states[i]? =some s) (hn:c.states.length<=1000000) (hp:s.parent<c.states.length) (h1l:s.inn.length<=9223372036854775807) (h2l:s.out.length<=9223372036854775807):Con prog env 254 [.agg (aA c),I i] (B (dG c i s)):=by
 have hi:i<c.states.length:=(KW.1 hs).1;have k0:=nlt hi;have hreal:=gI env c i hn;have hreal2:=gI env c s.parent hn;have hkids:=oT env c i hn;have hplain:=BJ env c s hp;have hKl:(kidsL c i true).length<=1000000:=Kh (dB c i true _) hn;have hKl2:(kidsL c s.parent true).length<=1000000:=Kh (dB c s.parent true _) hn;have hcon:=jU env (kidsL c i true) s.initial hKl;have hcon2:=jU env (kidsL c s.parent true) s.initial hKl2;have z1:=eR (kidsL c i true);have z2:=eR (kidsL c i false);have z3:=eR s.out;refine qf func254 call254 ntmps254 results254 ?_;by_cases hk1:s.kind=1
 ·have hr:dG c i s=(if kidsL c i true=[] then s.initial == -1 else inL (kidsL c i true) s.initial):=by unfold dG;rw[K0 hk1]
  rw[hr];have w1:(kidsL c i true=[])=((kidsL c i true == [])=true):=by simp
  have w2:(kidsL c i true == [])=true->inL (kidsL c i true) s.initial=false:=fun h=>by rw[show kidsL c i true=[] by simpa using h];rfl
  have F:=ai8 aA.eq_1 k0 hs aL.eq_1 hk1 z1 w1 w2;exact gz2 hreal hcon
 have b1:=dI hk1;by_cases hk2:s.kind=2
 ·have hr:dG c i s=(((kidsL c i true).all fun k=>al c k)&&decide (0< (kidsL c i true).length)&&(s.initial == -1)):=by unfold dG;rw[KZ hk1,K0 hk2]
  rw[hr];have F:=ai5 aA.eq_1 k0 hs aL.eq_1 hk2;repeat refine tz1 hreal ?_
  refine lp (D:=Nat) (fun j vs=>[(1,I i),(2, .loc 2 (vs 2) 0 0),(5, .loc 5 (vs 5) 0 0),(6, .row 16 (vs 16)),(18,I 2),(37, .row 16 (vs 16)),(38,I (kidsL c i true).length),(39,I j)]) (fun _ _=>[(2,⟨5,[aA c],26,false⟩),(5,⟨6,[aL s],89,false⟩),(16,⟨1,(kidsL c i true).map aB,3,true⟩)]) (fun j _ _=>j<=(kidsL c i true).length/\((kidsL c i true).take j).all (fun k=>al c k)=true) (fun j=>(kidsL c i true).length-j) 0 ⟨Ke _,rfl⟩ ?_;rintro j ws esc ⟨hj,hall⟩;by_cases hlt:j< (kidsL c i true).length
  ·obtain⟨k,hk,_⟩:=aQ hlt;obtain⟨q,hq,hkl⟩:=Ia hk;have k1:=nlt hlt;have k2:=aD hlt (by omega);have k3:=nlt hkl;have hnorm:=iM env q;cases e1:dw q
   ·rw[show ((kidsL c i true).all fun k=>al c k)=false from lX hk (by rw[j7 hq];exact e1),LF,LF];have F:=ai9 aA.eq_1 k1 k2 k3 hk hq aB.eq_1 aL.eq_1 e1;repeat refine tz1 hnorm ?_
    exact aR
   ·have F:=ai9 aA.eq_1 k1 k2 k3 hk hq aB.eq_1 aL.eq_1 e1;repeat refine tz1 hnorm ?_
    exact qn (j+1) ⟨hlt,dZ hall hk (by rw[j7 hq];exact e1)⟩
  ·have k1: ¬(j:Int)< ((kidsL c i true).length:Int):=by omega
   rw[sL hall (by omega),LK];have z4:decide ((0:Int)< ((kidsL c i true).length:Int))=decide (0< (kidsL c i true).length):=by rw[LD];simp
   cases e1:decide (0< (kidsL c i true).length)
   ·have e1': ¬(0:Int)< ((kidsL c i true).length:Int):=by simpa using e1
    have F:=ai4 aA.eq_1 k1 aL.eq_1 e1';repeat refine st ?_
    exact aR
   ·have e1':(0:Int)< ((kidsL c i true).length:Int):=by simpa using e1
    have F:=ai4 aA.eq_1 k1 aL.eq_1 e1';repeat refine st ?_
    exact aR
 have b2:=dI hk2;by_cases hk3:s.kind=3
 ·have hr:dG c i s=((kidsL c i false == [])&&((s.parent == -1)||cS c s)&&(s.initial == -1)&&(s.out == [])):=by unfold dG;rw[KZ hk1,KZ hk2,K0 hk3]
  rw[hr];have F:=ai7 aA.eq_1 k0 hs aL.eq_1 hk3 z2 z3;exact gz3 hreal hkids hplain
 have b3:=dI hk3;by_cases hk45:s.kind=4\/s.kind=5
 ·have hr:dG c i s=((kidsL c i false == [])&&cS c s&&inL (kidsL c s.parent true) s.initial&&(s.inn == [])&&(s.out == [])):=by unfold dG;rw[KZ hk1,KZ hk2,KZ hk3,K0 hk45]
  rw[hr]
  have z5:(IntKind.i64.wrap ((s.inn.length:Int)+(s.out.length:Int))==0)=((s.inn == [])&&(s.out == [])):=by
   rw[LD];simp only[LW,KY, <-M0,Du h1l h2l];omega
  rw[Od _ (s.inn == []), <-z5];rcases hk45 with hk|hk
  all_goals
   have F:=ai6 aA.eq_1 k0 hs aL.eq_1 hk z2;exact gz5 hreal hkids hplain hreal2 hcon2
 have b4:=dI (fun h=>hk45 (.inl h));have b5:=dI (fun h=>hk45 (.inr h));rw[show dG c i s=false by unfold dG;rw[KZ hk1,KZ hk2,KZ hk3,KZ hk45]];have F:=ai9 aA.eq_1 k0 hs aL.eq_1 b1 b2 b3 b4 b5;repeat refine tz1 hreal ?_
 exact aR
end
section
open Go.RowKit
def pu (a1 a8:Addr) (c:ChD):AV:=if (chk c).1=0 then nilE else if (chk c).1=8 then errV (chk c).2 (sentV a8) else errV (chk c).2 (sentV a1)
theorem vf {a1 a8:Addr} {c:ChD} {p:Int} (h:chk c=(0,p)):pu a1 a8 c=nilE:=by unfold pu;rw[h];rfl
theorem mD {a1 a8:Addr} {c:ChD} {p:Int} (h:chk c=(8,p)):pu a1 a8 c=errV p (sentV a8):=by unfold pu;rw[h];rfl
theorem cO {a1 a8:Addr} {c:ChD} {p:Int} (h:chk c=(1,p)):pu a1 a8 c=errV p (sentV a1):=by unfold pu;rw[h];rfl
theorem kj {c:ChD} {i:Nat} {v:VarD} (h:c.vars[i]? =some v):jo c i=qK c i v:=by unfold jo;rw[h]
theorem nX {c:ChD} {i:Nat} {s:StD} (h:c.states[i]? =some s):km c i=bq c i s:=by unfold km;rw[h]
theorem nV {c:ChD} {i:Nat} {t:TrD} (h:c.trans[i]? =some t):pw c i=dP c t:=by unfold pw;rw[h]
theorem gF {p:Nat->Bool} {i:Nat} (h: ∀j,j<i->p j=true) (hi:p i=true): ∀j,j<i+1->p j=true:=fun j hj=>by
 by_cases e:j=i
 ·rw[e];exact hi
 ·exact h j (by omega)
theorem Ee (env:Env) (a1 a8:Addr) (he:ChEnv env a1 a8) (c:ChD) (hc:i6 c)
 (hV:c.vars.length<=8-> ∀(i:Nat) (v:VarD),c.vars[i]? =some v->Con prog env 198 [.agg (aA c),I i] (B (qK c i v)))
 (hS:c.states.length<=32-> ∀(i:Nat) (s:StD),c.states[i]? =some s->Con prog env 199 [.agg (aA c),I i] (B (bq c i s)))
 (hT: ∀t,t∈c.trans->Con prog env 202 [.agg (aA c), .agg (bi t)] (B (dP c t))):Con prog env 116 [.agg (aA c)] (pu a1 a8 c):=by
 have g8:=gX he.e8;have fname:=d8 env c.name (by have:=hc.1;unfold maxLen at this;omega);have fbad:=nH env a1 a8 he (-1) (by omega);have fat:=w8 env c c.initial;have z1:=eR c.states;refine qf func116 call116 ntmps116 results116 ?_;by_cases l1:32<c.states.length
 ·have k1:(32:Int)< (c.states.length:Int):=by omega
  rw[mD (show chk c=(8, -1) by unfold chk;rw[K0 (.inl l1)])];have F:=ai3 aA.eq_1 k1 g8;repeat (first|refine st ?_|refine cC (bT env _ a8) ?_)
  exact aR
 have k1: ¬(32:Int)< (c.states.length:Int):=by omega
 by_cases l2:64<c.trans.length
 ·have k2:(64:Int)< (c.trans.length:Int):=by omega
  rw[mD (show chk c=(8, -1) by unfold chk;rw[K0 (.inr (.inl l2))])];have F:=ai4 aA.eq_1 k1 k2 g8;repeat (first|refine st ?_|refine cC (bT env _ a8) ?_)
  exact aR
 have k2: ¬(64:Int)< (c.trans.length:Int):=by omega
 by_cases l3:8<c.vars.length
 ·have k3:(8:Int)< (c.vars.length:Int):=by omega
  rw[mD (show chk c=(8, -1) by unfold chk;rw[K0 (.inr (.inr l3))])];have F:=ai5 aA.eq_1 k1 k2 k3 g8;repeat (first|refine st ?_|refine cC (bT env _ a8) ?_)
  exact aR
 have k3: ¬(8:Int)< (c.vars.length:Int):=by omega
 have hl: ¬(32<c.states.length\/64<c.trans.length\/8<c.vars.length):=by omega
 cases e1:bX c.name
 ·rw[cO (show chk c=(1, -1) by unfold chk;rw[KZ hl,K0 (.inr e1)])];have F:=ai5 aA.eq_1 k1 k2 k3 e1;repeat refine tz2 fname fbad ?_
  exact aR
 cases e2:(c.states == [])
 case true=>
  rw[cO (show chk c=(1, -1) by unfold chk;rw[KZ hl,K0 (.inl (by simpa using e2))])];have F:=ai7 aA.eq_1 k1 k2 k3 e1 z1 e2;repeat refine tz2 fname fbad ?_
  exact aR
 have hne: ¬(c.states=[]\/bX c.name=false):=by
  rw[e1];simpa using e2
 have hc1:chk c=(match au (jo c) c.vars.length with
  |some i=>(1,2000+(i:Int))
  | none=>match au (km c) c.states.length with
    |some i=>(1,(i:Int))
    | none=>if l7 c=false then(1, -1) else match au (pw c) c.trans.length with
      |some i=>(1,1000+(i:Int))
      |none=>(0, -1)):=by
  unfold chk;rw[KZ hl,KZ hne];rfl
 have F:=ai7 aA.eq_1 k1 k2 k3 e1 z1 e2;repeat refine tz2 fname fbad ?_
 refine lp (D:=Nat) (fun i vs=>[(1, .loc 1 (vs 1) 0 0),(38,I c.vars.length),(39,I i)]) (fun _ _=>[(1,⟨5,[aA c],26,false⟩)]) (fun i _ _=>i<=c.vars.length/\ ∀j,j<i->jo c j=true) (fun i=>c.vars.length-i) 0 ⟨Ke _,fun j hj=>by omega⟩ ?_;rintro i ws esc ⟨hi,hall⟩;by_cases hlt:i<c.vars.length
 ·obtain⟨v,hv,_⟩:=aQ hlt;have q1:=nlt hlt;have q2:=aD hlt (by omega);have hcon:=hV (by omega) i v hv;cases e:qK c i v
  ·have q3:IntKind.i64.wrap (2000+(i:Int))=2000+(i:Int):=ae (by omega) (by omega);have hb:=nH env a1 a8 he (2000+(i:Int)) (by omega);rw[cO (show chk c=(1,2000+(i:Int)) by rw[hc1,cv hlt hall (by rw[kj hv];exact e)])];have F:=ai5 aA.eq_1 q1 q2 q3 e;repeat refine tz2 hcon hb ?_
   exact aR
  ·have F:=ai4 aA.eq_1 q1 q2 e;repeat refine tz1 hcon ?_
   exact qn (i+1) ⟨hlt,gF hall (by rw[kj hv];exact e)⟩
 have q1: ¬(i:Int)< (c.vars.length:Int):=by omega
 have hvn:au (jo c) c.vars.length=none:=az fun j hj=>hall j (by omega);rw[hvn]at hc1;have F:=ai aA.eq_1 q1;repeat refine st ?_
 refine lp (D:=Nat) (fun i vs=>[(1, .loc 1 (vs 1) 0 0),(52,I c.states.length),(53,I i)]) (fun _ _=>[(1,⟨5,[aA c],26,false⟩)]) (fun i _ _=>i<=c.states.length/\ ∀j,j<i->km c j=true) (fun i=>c.states.length-i) 0 ⟨Ke _,fun j hj=>by omega⟩ ?_;try clear ws esc hi hall q1 hlt i
 rintro i ws esc ⟨hi,hall⟩;by_cases hlt:i<c.states.length
 ·obtain⟨s,hs,_⟩:=aQ hlt;have q1:=nlt hlt;have q2:=aD hlt (by omega);have hcon:=hS (by omega) i s hs;cases e:bq c i s
  ·have hb:=nH env a1 a8 he (i:Int) (by omega);rw[cO (show chk c=(1,(i:Int)) by rw[hc1,cv hlt hall (by rw[nX hs];exact e)])];have F:=ai4 aA.eq_1 q1 q2 e;repeat refine tz2 hcon hb ?_
   exact aR
  ·have F:=ai4 aA.eq_1 q1 q2 e;repeat refine tz1 hcon ?_
   exact qn (i+1) ⟨hlt,gF hall (by rw[nX hs];exact e)⟩
 have q1: ¬(i:Int)< (c.states.length:Int):=by omega
 have hsn:au (km c) c.states.length=none:=az fun j hj=>hall j (by omega);rw[hsn]at hc1;by_cases p1:0<=c.initial
 case neg=>
  have ht:l7 c=false:=by unfold l7 at_;rw[KZ p1]
  rw[cO (show chk c=(1, -1) by rw[hc1,K0 ht])];have F:=ai3 aA.eq_1 q1 p1;repeat refine tz2 fat fbad ?_
  exact aR
 obtain⟨m,hm⟩:=gL p1;by_cases p2:(m:Int)< (c.states.length:Int)
 case neg=>
  have ht:l7 c=false:=by unfold l7;rw[hm,bH,K7 (by omega)]
  have p2':(c.initial< (c.states.length:Int))=False:=by rw[hm];simpa using p2
  rw[cO (show chk c=(1, -1) by rw[hc1,K0 ht])];have F:=ai4 aA.eq_1 q1 p1 p2';repeat refine tz2 fat fbad ?_
  exact aR
 obtain⟨q,hq,_⟩:=aQ (show m<c.states.length by omega);have fnorm:=iM env q;have htop:l7 c=((q.parent == -1)&&dw q):=by unfold l7;rw[hm,bH,hq]
 rw[hm]at fat;cases e3:(q.parent == -1)
 ·rw[cO (show chk c=(1, -1) by rw[hc1,K0 (by rw[htop,e3];rfl)])];have F:=ai8 aA.eq_1 aL.eq_1 q1 hm p2 hq e3 i7;repeat refine tz3 fat fbad fnorm ?_
  exact aR
 cases e4:dw q
 ·rw[cO (show chk c=(1, -1) by rw[hc1,K0 (by rw[htop,e3,e4];rfl)])];have F:=ai9 aA.eq_1 aL.eq_1 q1 hm p2 hq e3 e4 i7;repeat refine tz3 fat fbad fnorm ?_
  exact aR
 rw[KZ (by rw[htop,e3,e4];simp)]at hc1;have F:=ai9 aA.eq_1 aL.eq_1 q1 hm p2 hq e3 e4 i7;repeat refine tz3 fat fbad fnorm ?_
 have F:=ai aA.eq_1 hm;refine lq c.trans.length (by omega) (fun i vs=>[(1, .loc 1 (vs 1) 0 0),(90,trsAV c.trans),(91,I c.trans.length),(92,I i)]) (fun _ _=>[(1,⟨5,[aA c],26,false⟩)]) (fun i _ _=> ∀j,j<i->pw c j=true) (fun j hj=>by omega) ?_ ?_
 ·try clear ws esc hi hall q1 hlt i
  rintro i ws esc hlt q1 q2 hall;obtain⟨t,ht,htm⟩:=aQ hlt;have hcon:=hT t htm;cases e:dP c t
  ·have q3:IntKind.i64.wrap (1000+(i:Int))=1000+(i:Int):=ae (by omega) (by omega);have hb:=nH env a1 a8 he (1000+(i:Int)) (by omega);rw[cO (show chk c=(1,1000+(i:Int)) by rw[hc1,cv hlt hall (by rw[nV ht];exact e)])];have F:=ai7 aA.eq_1 bi.eq_1 q1 q2 q3 ht e;repeat refine tz2 hcon hb ?_
   exact aR
  ·have F:=ai6 aA.eq_1 bi.eq_1 q1 q2 ht e;repeat refine tz1 hcon ?_
   exact qn (i+1) ⟨hlt,gF hall (by rw[nV ht];exact e)⟩
 try clear ws esc hi hall q1 hlt i
 rintro ws esc q1 hall;rw[vf (show chk c=(0, -1) by rw[hc1,az fun j hj=>hall j (by omega)])];have F:=ai aA.eq_1 q1;repeat refine st ?_
 exact aR
end
section
open Go.RowKit
theorem lm {n:Nat} (h:n<=maxLen):n<=9223372036854775807:=by unfold maxLen at h;omega
theorem jO {l:List ActD} (h:l.length<=maxLen/\ ∀y∈l,gZ y):l.length<=9223372036854775807/\ ∀a∈l,a.name.length<=9223372036854775807:=⟨lm h.1,fun a ha=>lm (h.2 a ha).1⟩
theorem BH (env:Env) (a1 a8:Addr) (he:ChEnv env a1 a8) (c:ChD) (hn:c.states.length<=1000000) (i:Nat) (s:StD) (hs:c.states[i]? =some s) (hf:tu s):Con prog env 199 [.agg (aA c),I i] (B (bq c i s)):=by
 have hi:i<c.states.length:=(KW.1 hs).1;have k0:=nlt hi;have f1:=d8 env s.name (lm hf.1);have f2:=Ed env c s.name hn;have f3:=yV env c i s hs;have f5:=oV env a1 a8 he c s.inn (jO hf.2.1).1 (jO hf.2.1).2;have f6:=oV env a1 a8 he c s.out (jO hf.2.2).1 (jO hf.2.2).2;unfold bq;refine qf func199 call199 ntmps199 results199 ?_;cases e3:cc c i s
 ·have F:=ai5 aA.eq_1 k0 hs aL.eq_1 e3;exact gz3 f1 f2 f3
 ·have f4:=BI env c i s hs hn (E9 hi e3) (lm hf.2.1.1) (lm hf.2.2.1);have F:=ai5 aA.eq_1 k0 hs aL.eq_1 e3;exact gz6 f1 f2 f3 f4 f5 f6
theorem pH {c:ChD} {nm:List UInt8} {j:Nat} {x:VarD} (h:newVar c nm j=true) (hx:c.vars[j]? =some x) (e:(x.name==nm)=false):newVar c nm (j+1)=true:=by
 unfold newVar at h |-;exact dZ h hx (by rw[e];rfl)
theorem GV (env:Env) (c:ChD) (hn:c.vars.length<=1000000) (i:Nat) (v:VarD) (hv:c.vars[i]? =some v) (hf:oA v):Con prog env 198 [.agg (aA c),I i] (B (qK c i v)):=by
 have hi:i<c.vars.length:=(KW.1 hv).1;have k0:=nlt hi;have k9:(i:Int)<=(c.vars.length:Int):=by omega
 have f1:=d8 env v.name (lm hf);have f2:=bw env v.start;have hlen:(c.vars.take i).length=i:=by rw[Kf];omega
 refine qf func198 call198 ntmps198 results198 ?_;have F:=ai7 aA.eq_1 k0 k9 hv gQ.eq_1 hlen OD;repeat refine st ?_
 refine lp (D:=Nat) (fun j vs=>[(5, .loc 5 (vs 5) 0 0),(16,varsAV (c.vars.take i)),(17,I i),(18,I j)]) (fun _ _=>[(5,⟨2,[gQ v],199,false⟩)]) (fun j _ _=>j<=i/\newVar c v.name j=true) (fun j=>i-j) 0 ⟨Ke _,rfl⟩ ?_;rintro j ws esc ⟨hj,hall⟩;by_cases hlt:j<i
 ·obtain⟨x,hx,_⟩:=aQ (show j<c.vars.length by omega);have hx':(c.vars.take i)[j]? =some x:=by rw[Kz,K0 hlt];exact hx
  have k1:=nlt hlt;have k2:=aD hlt (by omega);cases e:(x.name==v.name)
  ·have F:=ai6 k1 k2 hx' hlen gQ.eq_1 e;repeat refine st ?_
   exact qn (j+1) ⟨hlt,pH hall hx e⟩
  ·rw[show qK c i v=false by unfold qK newVar;rw[lX (p:=fun x:VarD=> !(x.name==v.name)) hx' (by rw[e];rfl)];rfl];have F:=ai6 k1 k2 hx' hlen gQ.eq_1 e;repeat refine st ?_
   exact aR
 ·have k1: ¬(j:Int)< (i:Int):=by omega
  obtain rfl:j=i:=by omega
  have hr:qK c j v=(bX v.name&& !(v.name == [100,97,116,97])&& !(v.name == [105,110])&&aJ v.start):=by
   unfold qK aJ;rw[hall];simp only[LK,Od]
  rw[hr];have F:=ai3 k1 gQ.eq_1 i7;exact gz2 f1 f2
end
section
open Go.RowKit
theorem Eb (env:Env) (a1 a8:Addr) (he:ChEnv env a1 a8) (c:ChD) (t:TrD) (hf:tt t):Con prog env 202 [.agg (aA c), .agg (bi t)] (B (dP c t)):=by
 have f1:=w8 env c t.src;have f3:=d8 env t.event (lm hf.1);have f4:=ub env a1 a8 he c t.guard;have f5:=oV env a1 a8 he c t.acts (jO hf.2.2).1 (jO hf.2.2).2;have f6:=w8 env c t.target;have z1:=eR t.guard;by_cases h1:0<=t.src
 case neg=>
  rw[show dP c t=false by unfold dP al at_;rw[KZ h1];rfl];refine qf func202 call202 ntmps202 results202 ?_;have F:=ai3 aA.eq_1 bi.eq_1 h1;repeat refine tz1 f1 ?_
  exact aR
 obtain⟨m,hm⟩:=gL h1;by_cases h2:(m:Int)< (c.states.length:Int)
 case neg=>
  rw[show dP c t=false by unfold dP al;rw[hm,bH,K7 (by omega)];rfl];have hm':(t.src< (c.states.length:Int))=False:=by rw[hm];simpa using h2
  refine qf func202 call202 ntmps202 results202 ?_;have F:=ai4 aA.eq_1 bi.eq_1 h1 hm';repeat refine tz1 f1 ?_
  exact aR
 obtain⟨q,hq,_⟩:=aQ (show m<c.states.length by omega);have f2:=iM env q;have hr:dP c t=(dw q&&((t.event == [])||bX t.event)&&((t.guard == [])||cB t.guard c.vars.length c.states.length)&&dy c.vars.length c.states.length t.acts&&((t.target == -1)||(decide (0<=t.target)&&decide (t.target<c.states.length)))):=by unfold dP;rw[hm,j7 hq]
 rw[hr];rw[hm]at f1;refine qf func202 call202 ntmps202 results202 ?_;have F:=ai7 aA.eq_1 bi.eq_1 aL.eq_1 hm h2 hq z1;exact gz6 f1 f2 f3 f4 f5 f6
end
section
open Go.RowKit
end
section
open Go.RowKit Go.ChangeShapes
theorem BK (env:Env) (a1 a8:Addr) (he:ChEnv env a1 a8) (c:ChD) (hc:i6 c):Con prog env 116 [.agg (aA c)] (pu a1 a8 c):=
 Ee env a1 a8 he c hc (fun hn i v hv=>GV env c (by omega) i v hv (hc.2.1.2 v (K1 hv))) (fun hn i s hs=>BH env a1 a8 he c (by omega) i s hs (hc.2.2.1.2 s (K1 hs))) (fun t ht=>Eb env a1 a8 he c t (hc.2.2.2.2 t ht))
end
section
open Go.RowKit
def rankAll:List Nat->Nat->List Nat->List Nat
 |[],_,rk=>rk
 |k::l,n,rk=>rankAll l (n+1) (rk.set k n)
theorem pE: ∀(l:List Nat) (n:Nat) (rk:List Nat),(rankAll l n rk).length=rk.length
 |[],_,_=>rfl
 |k::l,n,rk=>by unfold rankAll;rw[pE,MV]
theorem pF: ∀(l1 l2:List Nat) (n:Nat) (rk:List Nat),rankAll (l1++l2) n rk=rankAll l2 (n+l1.length) (rankAll l1 n rk)
 |[],_,_,_=>rfl
 | k::l1,l2,n,rk=>by
   show rankAll (l1++l2) (n+1) (rk.set k n)=rankAll l2 (n+(l1.length+1)) (rankAll l1 (n+1) (rk.set k n));rw[pF,N1,Ov 1]
def TR (ps ks ms bs:List (List AV)) (lf:Value) (g:Nat->Nat) (rk l:List Nat):List (Nat×Row):=
 [(1000,⟨7,[[.seq 1 ps, .seq 1 ks, .seq 1 ms, .seq 1 bs, .row 1001 (g 1001), .row 1002 (g 1002), .lit lf]],212,false⟩),(1001,⟨1,rk.map aB,3,true⟩),(1002,⟨1,l.map aB,3,true⟩)]
def wkTo (c:ChD) (K:List Nat) (j:Nat):List Nat:=(K.take j).flatMap fun k=>k::walkL c k
theorem Dw {c:ChD} {K:List Nat} {j k:Nat} (h:K[j]? =some k):wkTo c K (j+1)=wkTo c K j++k::walkL c k:=by
 unfold wkTo;rw[Kv,h,M7];simp
theorem Fv {c:ChD} (K:List Nat):wkTo c K K.length=K.flatMap fun k=>k::walkL c k:=by
 unfold wkTo;rw[Kp]
theorem IF {c:ChD} (K:List Nat) (j:Nat):(wkTo c K j).length<=(K.flatMap fun k=>k::walkL c k).length:=by
 conv=>rhs;rw[<-Mq j K,M7,K4]
 exact Om _ _
def xt (P:Program) (env:Env) (f:FuncId) (c:ChD) (ps ks ms bs:List (List AV)) (lf:Value) (i:Int) (l rk:List Nat):Prop:=
 ConI P env f [1000,1001,1002] (fun k=>k==1002) (fun g=>[.loc 1000 (g 1000) 0 0, .agg (aA c),I i]) (fun g=>TR ps ks ms bs lf g rk l) (fun g=>TR ps ks ms bs lf g (rankAll (walkL c i) l.length rk) (l++walkL c i)) (fun _=> .lit (.tuple #[]))
theorem uN (env:Env) (c:ChD) (hc:Right c) (ps ks ms bs:List (List AV)) (lf:Value) (i:Int) (l rk:List Nat) (hi: -1<=i) (hrk:rk.length=c.states.length) (hfew:l.length+(walkL c i).length<=1000000)
 (ih: ∀k∈kidsL c i false,∀l rk,rk.length=c.states.length->l.length+(walkL c k).length<=1000000->xt prog env 119 c ps ks ms bs lf k l rk):xt prog env 119 c ps ks ms bs lf i l rk:=by
 unfold xt at*
 ·have hlen:=hc.few;have f0:=oT env c i (by omega);rw[walk_eq hc hi]at hfew |-;have hK32:(kidsL c i false).length<=32:=Kh (dB c i false _) hlen;generalize hK:kidsL c i false=K at*;refine qi func119 call119 ntmps119 results119 ?_;intro vs esc hesc;have e0:=hesc 1000 (by simp);have e1:=hesc 1001 (by simp);have e2:=hesc 1002 (by simp);have F:=ai5 TR.eq_1 e0 e1 e2 aA.eq_1;repeat refine tz1 f0 ?_
  refine aK (D:=Nat) (fun j vs'=>[(0, .loc 1000 (vs' 1000) 0 0),(4, .loc 4 (vs' 4) 0 0),(10, .row 10 (vs' 10)),(11,I K.length),(12,I j)]) (fun j vs'=>TR ps ks ms bs lf vs' (rankAll (wkTo c K j) l.length rk) (l++wkTo c K j)++[(4,⟨5,[aA c],26,false⟩),(10,⟨1,K.map aB,3,true⟩)]) (fun j vs' esc'=>(j<=K.length/\vs' 1000=vs 1000/\vs' 1001=vs 1001)/\esc' 1000=false/\esc' 1001=false/\esc' 1002=false) (fun j=>K.length-j) 0 ?_ ?_ ?_ ?_
  ·exact⟨⟨Ke _,by simp only[go_sem],by simp only[go_sem]⟩,by simp only[go_sem,e0],by simp only[go_sem,e1],by simp only[go_sem,e2]⟩
  ·exact qe
  ·have F:=ai TR.eq_1 aA.eq_1
   (simp only[go_sem,F])
   refine⟨rfl,?_⟩;show _=(⟨1,List.map aB (l++[]),3,true⟩:Row);rw[Lm]
  try clear e0 e1 e2
  rintro j ws esc' ⟨⟨hj,v0,v1⟩,e0,e1,e2⟩;by_cases hlt:j<K.length
  ·obtain⟨k,hk⟩:=gE hlt;have hkm:k∈kidsL c i false:=by rw[hK];exact K1 hk
   have hg:=bF hc hkm;have hnext:=Dw (c:=c) hk;have hle:=IF (c:=c) K (j+1);have hrl:=pE (wkTo c K j) l.length rk;have hra:=pF (wkTo c K j) (k::walkL c k) l.length rk;rw[hnext]at hle;rw[K4,Kj]at hle;generalize rankAll (wkTo c K j) l.length rk=rk1 at*;have f1:=ih k (K1 hk) (l++wkTo c K j++[k]) (rk1.set k (l++wkTo c K j).length) (by rw[MV,hrl,hrk]) (by simp only[K4,Kj,NH];omega);have k1:=nlt hlt;have k2:=aD hlt (by omega);have k3:((k:Nat):Int)< (rk1.length:Int):=by rw[hrl,hrk];omega
   obtain⟨r0,hr0⟩: ∃r0,rk1[k]? =some r0:=⟨rk1[k]'(by omega),KV _⟩;have hf:Fits (l.length+(wkTo c K j).length+1) 8:=⟨by omega,by omega⟩;have F:=ai12 TR.eq_1 e0 e1 e2 aA.eq_1 k1 k2 k3 hk hf aB.eq_1<|ai3 @Ki.{0,0} hr0 @NX.{0,0};have hra2:rankAll (wkTo c K (j+1)) l.length rk=rankAll (walkL c k) (l.length+(wkTo c K j).length+1) (rk1.set k (l.length+(wkTo c K j).length)):=by rw[hnext,hra];rfl
   repeat refine st ?_
   refine iL [(1000,1000),(1001,1001),(1002,1002)] f1 ?_;repeat refine st ?_
   refine⟨j+1,⟨⟨hlt,?_,?_⟩,?_,?_,?_⟩,?_,?_,by omega⟩
   ·simp only[go_sem];exact v0
   ·simp only[go_sem];exact v1
   ·simp only[go_sem,e0]
   ·simp only[go_sem,e1]
   ·simp only[go_sem,e2]
   ·exact qe
   ·have F:=ai8 TR.eq_1 aA.eq_1 aB.eq_1 @Ki.{0,0} @NX.{0,0} hra2 hnext @LV.{0}
    (simp only[go_sem,F])
    rw[hra];rfl
  ·obtain rfl:j=K.length:=by omega
   have k1:=nl K.length;have hall:=Fv (c:=c) K;have F:=ai9 TR.eq_1 e0 e1 e2 aA.eq_1 k1 hall v0 v1;repeat refine st ?_
   exact rN
theorem yq (env:Env) (c:ChD) (hc:Right c) (ps ks ms bs:List (List AV)) (lf:Value): ∀(n:Nat) (i:Int) (l rk:List Nat), -1<=i->(c.states.length:Int)<=i+n->rk.length=c.states.length->l.length+(walkL c i).length<=1000000->xt prog env 119 c ps ks ms bs lf i l rk
 |0,i,l,rk,hi,hn,hrk,hfew=>uN env c hc ps ks ms bs lf i l rk hi hrk hfew fun k hk=>by have:=bF hc hk;omega
 |n+1,i,l,rk,hi,hn,hrk,hfew=>uN env c hc ps ks ms bs lf i l rk hi hrk hfew fun k hk l rk h1 h2=>by have:=bF hc hk;exact yq env c hc ps ks ms bs lf n k l rk (by omega) (by omega) h1 h2
end

end Go.Proofs.YtbjldjekgepopaaGreatDoor