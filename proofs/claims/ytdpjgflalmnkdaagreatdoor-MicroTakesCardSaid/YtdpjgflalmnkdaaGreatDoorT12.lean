/- A tree as rows of a call's own; the walk. -/
import Derived.Test.YtdpjgflalmnkdaaGreatDoorT11
set_option maxRecDepth 100000
set_option maxHeartbeats 8000000
set_option linter.unusedSimpArgs false
namespace Go.Proofs.YtdpjgflalmnkdaaGreatDoor
open Go.Proofs.Tryz
section
open Go.RowKit
def aB (k:Nat):List AV:=[I k]
abbrev nsAV (l:List Nat):AV:= .seq 1 (l.map aB)
def idxFrom:List Nat->Int->Nat->Int
 |[],_,_=> -1
 |x::l,v,k=>if (x:Int)=v then k else idxFrom l v (k+1)
def Bc (l:List Nat) (v:Int):Int:=idxFrom l v 0
theorem zj {l:List Nat} {v:Int} {k x:Nat} (h:l[k]? =some x) (hn:Bc l v=idxFrom (l.drop k) v k):((x:Int)=v->Bc l v=k)/\((x:Int)≠v->Bc l v=idxFrom (l.drop (k+1)) v (k+1)):=by
 have hk:k<l.length:=(K0.1 h).1
 have he:l.drop k=x::l.drop (k+1):=by
  rw[MP hk]
  congr 1
  rw[KZ hk]at h;exact MF h
 rw[he]at hn;simp only[idxFrom]at hn;exact⟨fun e=>by rw[hn,K5 e],fun e=>by rw[hn,K2 e]⟩
theorem DK {l:List Nat} {v:Int} {k:Nat} (h:l.length<=k) (hn:Bc l v=idxFrom (l.drop k) v k):Bc l v= -1:=by
 rw[hn,List.drop_eq_nil_of_le h];rfl
theorem C1 (v:Int): ∀(l:List Nat) (k:Nat),decide (0<=idxFrom l v k)=inL l v
 |[],k=>rfl
 | x::l,k=>by
   have ih:=C1 v l (k+1);have e0:inL (x::l) v=(((x:Int)==v)||inL l v):=rfl;rw[e0, <-ih];by_cases e:(x:Int)=v
   ·have e1:idxFrom (x::l) v k=k:=K5 e;rw[LC];simp[e1,e]
   ·have e1:idxFrom (x::l) v k=idxFrom l v (k+1):=K2 e;rw[LC];simp[e1,e]
theorem FM (env:Env) (l:List Nat) (v:Int) (hl:l.length<=1000000):Con prog env 66 [nsAV l,I v] (I (Bc l v)):=by
 refine qf func66 call66 ntmps66 results66 ?_;repeat refine st0 ?_
 refine lq0 l.length (by omega) (fun k _=>[(0,nsAV l),(1,I v),(7,I l.length),(8,I k)]) (fun _ _=>[]) (fun k _ _=>Bc l v=idxFrom (l.drop k) v k) rfl ?_ ?_
 ·rintro k ws esc hlt k1 k2 hi;obtain⟨x,hx,_⟩:=aQ hlt;obtain⟨yes,no⟩:=zj hx hi;by_cases e:(x:Int)=v
  ·rw[yes e];have k3:(v==(x:Int))=true:=by simp[e]
   have F:=ai5 k1 k2 k3 hx aB.eq_1;repeat refine st ?_
   exact aR
  ·have k3:(v==(x:Int))=false:=by simpa using fun h=>e h.symm
   have F:=ai5 k1 k2 k3 hx aB.eq_1;repeat refine st ?_
   exact qn (k+1) ⟨hlt,no e⟩
 ·rintro ws esc k1 hi;rw[DK (by omega) hi];have F:=k1;repeat refine st ?_
  exact aR
theorem j8 (env:Env) (l:List Nat) (v:Int) (hl:l.length<=1000000):Con prog env 26 [nsAV l,I v] (B (inL l v)):=by
 have h:=C1 v l 0;refine qf func26 call26 ntmps26 results26 ?_;repeat refine kB (FM env l v hl) ?_
 (refine aM ?_;show (ae _ _ _).run _=some _;simp only[go_sem])
 exact LF B h
theorem rB (env:Env) (l:List Nat) (v:Int) (hl:l.length<=1000000):Con prog env 81 [nsAV l,I v] (B (inL l v)):=by
 rw[<-C1 v l 0,show idxFrom l v 0=Bc l v from rfl];refine qf func81 call81 ntmps81 results81 ?_;repeat refine st0 ?_
 refine lq0 l.length (by omega) (fun k _=>[(0,nsAV l),(1,I v),(5,I k)]) (fun _ _=>[]) (fun k _ _=>Bc l v=idxFrom (l.drop k) v k) rfl ?_ ?_
 ·rintro k ws esc hlt k1 k2 hi;obtain⟨x,hx,_⟩:=aQ hlt;obtain⟨yes,no⟩:=zj hx hi;by_cases e:(x:Int)=v
  ·rw[yes e,LK (Int.natCast_nonneg k)];have k3:((x:Int)==v)=true:=by simp[e]
   have F:=ai5 k1 k2 k3 hx aB.eq_1;repeat refine st ?_
   exact aR
  ·have k3:((x:Int)==v)=false:=by simpa using e
   have F:=ai5 k1 k2 k3 hx aB.eq_1;repeat refine st ?_
   exact qn (k+1) ⟨hlt,no e⟩
 ·rintro ws esc k1 hi;rw[DK (by omega) hi];have F:=k1;repeat refine st ?_
  exact aR
/-! Kids -/
theorem tB {c:ChD} {k:Nat} {s:StD} (hs:c.states[k]? =some s) (i:Int) (real:Bool):dB c i real k=((s.parent==i)&&(!real|| !aT s)):=by unfold dB;rw[hs]
theorem ky {c:ChD} {i:Int} {real:Bool} {k:Nat} (h:dB c i real k=true):(bY c i real (k+1)).map aB=(bY c i real k).map aB++[[I k]]:=by
 rw[pT,h,K5 rfl,Ka];rfl
theorem jH {c:ChD} {i:Int} {real:Bool} {k:Nat} (h:dB c i real k=false):(bY c i real (k+1)).map aB=(bY c i real k).map aB:=by
 rw[pT,h];simp
theorem gX (env:Env) (c:ChD) (i:Int) (hc:c.states.length<=1000000):Con prog env 102 [.agg (aA c),I i] (.own 3 1 ((kidsL c i true).map aB)):=by
 refine qf func102 call102 ntmps102 results102 ?_;have F:=aA.eq_1;repeat refine st ?_
 refine aj 5 5 3 1 ?_;refine aI (D:=Nat) (fun k vs=>[(1,I i),(5, .row 5 (vs 5)),(9,stsAV c.states),(10,I c.states.length),(11,I k)]) (fun k _=>[(5,⟨1,(bY c i true k).map aB,3,true⟩)]) (fun k _ esc=>k<=c.states.length/\esc 5=false) (fun k=>c.states.length-k) 0 ?_ ?_ ?_ ?_
 ·exact⟨Kj _,rfl⟩
 ·exact qe
 ·(simp only[go_sem,F])
  simp[bY]
 rintro k ws esc ⟨hk,he⟩;by_cases hlt:k<c.states.length
 ·obtain⟨s,hs,_⟩:=aQ hlt;have k1:=nlt hlt;have k2:=aD hlt (by omega);have hkid:=tB hs i true;have hlen:=dI c i true k;have hf:Fits ((bY c i true k).length+1) 8:=⟨by omega,by omega⟩;cases h1:(s.parent==i) with
  | false=>
    have hsame:=jH (show dB c i true k=false by rw[hkid,h1];rfl);have F:=ai5 k1 k2 hs aK.eq_1 h1;repeat refine tz1 (j4 env s) ?_
    refine⟨k+1,⟨hlt,by simp only[go_sem,he]⟩,?_,?_,?_⟩
    ·exact qe
    ·have F:=ai6 k1 k2 hs aK.eq_1 h1 hsame;exact qe
    ·omega
  | true=>
    cases h2:aT s with
    | true=>
      have hsame:=jH (show dB c i true k=false by rw[hkid,h1,h2];rfl);have F:=ai6 k1 k2 hs aK.eq_1 h1 h2;repeat refine tz1 (j4 env s) ?_
      refine⟨k+1,⟨hlt,by simp only[go_sem,he]⟩,?_,?_,?_⟩
      ·exact qe
      ·have F:=ai7 k1 k2 hs aK.eq_1 h1 h2 hsame;exact qe
      ·omega
    | false=>
      have hmore:=ky (show dB c i true k=true by rw[hkid,h1,h2];rfl);have F:=ai7 k1 k2 hs aK.eq_1 h1 h2 hf;repeat refine tz1 (j4 env s) ?_
      refine⟨k+1,⟨hlt,by simp only[go_sem,he]⟩,?_,?_,?_⟩
      ·exact qe
      ·have F:=ai7 k1 k2 hs aK.eq_1 h1 h2 hmore;exact qe
      ·omega
 ·have k1: ¬(k:Int)< (c.states.length:Int):=by omega
  obtain rfl:k=c.states.length:=by omega
  have F:=ai k1 he;repeat refine st ?_
  (refine aM ?_;show (ae _ _ _).run _=some _;simp only[go_sem,F])
  rfl
theorem od (env:Env) (c:ChD) (i:Int) (hc:c.states.length<=1000000):Con prog env 169 [.agg (aA c),I i] (.own 3 1 ((kidsL c i false).map aB)):=by
 refine qf func169 call169 ntmps169 results169 ?_;have F:=aA.eq_1;repeat refine st ?_
 refine aj 5 5 3 1 ?_;refine aI (D:=Nat) (fun k vs=>[(1,I i),(5, .row 5 (vs 5)),(9,stsAV c.states),(10,I c.states.length),(11,I k)]) (fun k _=>[(5,⟨1,(bY c i false k).map aB,3,true⟩)]) (fun k _ esc=>k<=c.states.length/\esc 5=false) (fun k=>c.states.length-k) 0 ?_ ?_ ?_ ?_
 ·exact⟨Kj _,rfl⟩
 ·exact qe
 ·(simp only[go_sem,F])
  simp[bY]
 rintro k ws esc ⟨hk,he⟩;by_cases hlt:k<c.states.length
 ·obtain⟨s,hs,_⟩:=aQ hlt;have k1:=nlt hlt;have k2:=aD hlt (by omega);have hkid:=tB hs i false;have hlen:=dI c i false k;have hf:Fits ((bY c i false k).length+1) 8:=⟨by omega,by omega⟩;cases h1:(s.parent==i) with
  | false=>
    have hsame:=jH (show dB c i false k=false by rw[hkid,h1];rfl);have F:=ai5 k1 k2 hs aK.eq_1 h1;repeat refine st ?_
    refine⟨k+1,⟨hlt,by simp only[go_sem,he]⟩,?_,?_,?_⟩
    ·exact qe
    ·have F:=ai6 k1 k2 hs aK.eq_1 h1 hsame;exact qe
    ·omega
  | true=>
    have hmore:=ky (show dB c i false k=true by rw[hkid,h1];rfl);have F:=ai6 k1 k2 hs aK.eq_1 h1 hf;repeat refine st ?_
    refine⟨k+1,⟨hlt,by simp only[go_sem,he]⟩,?_,?_,?_⟩
    ·exact qe
    ·have F:=ai6 k1 k2 hs aK.eq_1 h1 hmore;exact qe
    ·omega
 ·have k1: ¬(k:Int)< (c.states.length:Int):=by omega
  obtain rfl:k=c.states.length:=by omega
  have F:=ai k1 he;repeat refine st ?_
  (refine aM ?_;show (ae _ _ _).run _=some _;simp only[go_sem,F])
  rfl
theorem bj (env:Env) (c:ChD) (i:Int) (real:Bool) (hc:c.states.length<=1000000):Con prog env 85 [.agg (aA c),I i,B real] (.own 3 1 ((kidsL c i real).map aB)):=by
 refine qf func85 call85 ntmps85 results85 ?_;have F:=aA.eq_1;repeat refine st ?_
 refine aI (D:=Nat) (fun k vs=>[(1,I i),(2,B real),(3, .loc 3 (vs 3) 0 0),(7, .row 9 (vs 9)),(8,I k)]) (fun k _=>[(3,⟨5,[aA c],26,false⟩),(9,⟨1,(bY c i real k).map aB,3,true⟩)]) (fun k _ esc=>k<=c.states.length/\esc 9=false) (fun k=>c.states.length-k) 0 ?_ ?_ ?_ ?_
 ·exact⟨Kj _,rfl⟩
 ·exact qe
 ·(simp only[go_sem,F])
  simp[bY]
 rintro k ws esc ⟨hk,he⟩;by_cases hlt:k<c.states.length
 ·obtain⟨s,hs,_⟩:=aQ hlt;have k1:=nlt hlt;have k2:=aD hlt (by omega);have hkid:=tB hs i real;have hlen:=dI c i real k;have hf:Fits ((bY c i real k).length+1) 8:=⟨by omega,by omega⟩;cases h1:(s.parent==i) with
  | false=>
    have hsame:=jH (show dB c i real k=false by rw[hkid,h1];rfl);have F:=ai6 aA.eq_1 k1 k2 hs aK.eq_1 h1;repeat refine tz1 (bf env s) ?_
    refine⟨k+1,⟨hlt,by simp only[go_sem,he]⟩,?_,?_,?_⟩
    ·exact qe
    ·have F:=ai7 aA.eq_1 k1 k2 hs aK.eq_1 h1 hsame;exact qe
    ·omega
  | true=>
    cases real with
    | false=>
      have hmore:=ky (show dB c i false k=true by rw[hkid,h1];rfl);have F:=ai7 aA.eq_1 k1 k2 hs aK.eq_1 h1 hf;repeat refine tz1 (bf env s) ?_
      refine⟨k+1,⟨hlt,by simp only[go_sem,he]⟩,?_,?_,?_⟩
      ·exact qe
      ·have F:=ai7 aA.eq_1 k1 k2 hs aK.eq_1 h1 hmore;exact qe
      ·omega
    | true=>
      cases h2:aT s with
      | true=>
        have hsame:=jH (show dB c i true k=false by rw[hkid,h1,h2];rfl);have F:=ai7 aA.eq_1 k1 k2 hs aK.eq_1 h1 h2;repeat refine tz1 (bf env s) ?_
        refine⟨k+1,⟨hlt,by simp only[go_sem,he]⟩,?_,?_,?_⟩
        ·exact qe
        ·have F:=ai8 aA.eq_1 k1 k2 hs aK.eq_1 h1 h2 hsame;exact qe
        ·omega
      | false=>
        have hmore:=ky (show dB c i true k=true by rw[hkid,h1,h2];rfl);have F:=ai8 aA.eq_1 k1 k2 hs aK.eq_1 h1 h2 hf;repeat refine tz1 (bf env s) ?_
        refine⟨k+1,⟨hlt,by simp only[go_sem,he]⟩,?_,?_,?_⟩
        ·exact qe
        ·have F:=ai8 aA.eq_1 k1 k2 hs aK.eq_1 h1 h2 hmore;exact qe
        ·omega
 ·have k1: ¬(k:Int)< (c.states.length:Int):=by omega
  obtain rfl:k=c.states.length:=by omega
  have F:=ai3 aA.eq_1 k1 he;repeat refine st ?_
  (refine aM ?_;show (ae _ _ _).run _=some _;simp only[go_sem,F])
  rfl
/-! The state of a name -/
theorem Ed (env:Env) (c:ChD) (name:List UInt8) (hc:c.states.length<=1000000):Con prog env 200 [.agg (aA c),Sg name] (I (uY c name)):=by
 refine qf func200 call200 ntmps200 results200 ?_;have F:=aA.eq_1;repeat refine st ?_
 refine lq c.states.length (by omega) (fun k _=>[(1,Sg name),(8,stsAV c.states),(9,I c.states.length),(10,I k)]) (fun _ _=>[]) (fun k _ _=>eP c name k= -1) rfl ?_ ?_
 ·rintro k ws esc hlt k1 k2 hf;obtain⟨s,hs,_⟩:=aQ hlt;cases h1:(s.name==name) with
  | true=>
    rw[vT c name hlt hf s hs (by simpa using h1)];have F:=ai5 k1 k2 hs aK.eq_1 h1;repeat refine st ?_
    exact aR
  | false=>
    have F:=ai5 k1 k2 hs aK.eq_1 h1;repeat refine st ?_
    exact qn (k+1) ⟨hlt,pZ c name hf s hs (by simpa using h1)⟩
 ·rintro ws esc k1 hf;rw[show uY c name= -1 from hf];have F:=k1;repeat refine st ?_
  exact aR
theorem E5 (env:Env) (c:ChD) (name:List UInt8) (hc:c.states.length<=1000000):Con prog env 155 [.agg (aA c),Sg name] (I (uY c name)):=by
 refine qf func155 call155 ntmps155 results155 ?_;have F:=aA.eq_1;repeat refine st ?_
 refine lq c.states.length (by omega) (fun k vs=>[(1,Sg name),(2, .loc 2 (vs 2) 0 0),(5,I k)]) (fun _ _=>[(2,⟨5,[aA c],26,false⟩)]) (fun k _ _=>eP c name k= -1) rfl ?_ ?_
 ·rintro k ws esc hlt k1 k2 hf;obtain⟨s,hs,_⟩:=aQ hlt;cases h1:(s.name==name) with
  | true=>
    rw[vT c name hlt hf s hs (by simpa using h1)];have F:=ai6 aA.eq_1 k1 k2 hs aK.eq_1 h1;repeat refine st ?_
    exact aR
  | false=>
    have F:=ai6 aA.eq_1 k1 k2 hs aK.eq_1 h1;repeat refine st ?_
    exact qn (k+1) ⟨hlt,pZ c name hf s hs (by simpa using h1)⟩
 ·rintro ws esc k1 hf;rw[show uY c name= -1 from hf];have F:=ai aA.eq_1 k1;repeat refine st ?_
  exact aR
end
section
open Go.RowKit
theorem ut (env:Env) (a1 a8:Addr) (he:ChEnv env a1 a8) (c:ChD) (l:List OpD):Con prog env 204 [.agg (aA c),opsAV l] (B (bg l c.vars.length c.states.length)):=by
 have hx:=gS env a1 a8 he l c.vars.length c.states.length;unfold gg at hx;refine qf func204 call204 ntmps204 results204 ?_;by_cases h0:iA l c.vars.length c.states.length=0
 ·rw[K5 h0]at hx;rw[show bg l c.vars.length c.states.length=true by simp[bg,h0]];have F:=aA.eq_1;repeat refine tz1 hx ?_
  exact aR
 ·rw[K2 h0]at hx;rw[show bg l c.vars.length c.states.length=false by simp[bg,h0]];by_cases h8:iA l c.vars.length c.states.length=8
  ·rw[K5 h8]at hx;have F:=aA.eq_1;repeat refine tz1 hx ?_
   exact aR
  ·rw[K2 h8]at hx;have F:=aA.eq_1;repeat refine tz1 hx ?_
   exact aR
theorem dN {a b:Int} (h:a≠b):(a==b)=false:=by simpa using h
theorem G5 (env:Env) (a1 a8:Addr) (he:ChEnv env a1 a8) (c:ChD) (a:ActD) (ha:a.name.length<=9223372036854775807):Con prog env 238 [.agg (aA c), .agg (au a)] (B (fh c.vars.length c.states.length a)):=by
 obtain⟨k,n,m,co⟩:=a;have hcode:=ut env a1 a8 he c co;have hname:=dp env m ha;refine qf func238 call238 ntmps238 results238 ?_
 have hco:((co.length:Int)==0)=(co == []):=by
  rw[LC];simp
 have w1: ∀p q:Prop,[Decidable p]->[Decidable q]->decide (p/\q)=(decide p&&decide q):=fun p q=>PG p q;by_cases hk:k=1\/k=2\/k=3\/k=4\/k=5
 ·rcases hk with rfl|rfl|rfl|rfl|rfl
  all_goals
   have F:=ai5 aA.eq_1 au.eq_1 fh.eq_1 hco w1;exact gz2 hcode hname
 simp only[Oi]at hk;obtain⟨h1,h2,h3,h4,h5⟩:=hk;rw[show fh c.vars.length c.states.length ⟨k,n,m,co⟩=false by unfold fh;rw[K2 h1,K2 (fun h=>h.elim h2 h4),K2 h3,K2 h5]];have b1:=dN h1;have b2:=dN h2;have b3:=dN h3;have b4:=dN h4;have b5:=dN h5;have F:=ai7 aA.eq_1 au.eq_1 b1 b2 b3 b4 b5;repeat refine st ?_
 exact aR
theorem d8 {α:Type} {l:List α} {p:α->Bool} {i:Nat} {x:α} (h:(l.take i).all p=true) (hx:l[i]? =some x) (hp:p x=true):(l.take (i+1)).all p=true:=by
 obtain⟨h1,h2⟩:=K0.1 hx;rw[M8 h1,OH,h,h2];simp[hp]
theorem lr {α:Type} {l:List α} {p:α->Bool} {i:Nat} {x:α} (hx:l[i]? =some x) (hp:p x=false):l.all p=false:=by
 rw[Mt];intro h;rw[K7]at h;rw[h _ (K4 hx)]at hp;cases hp
theorem sP {α:Type} {l:List α} {p:α->Bool} {i:Nat} (h:(l.take i).all p=true) (hi:l.length<=i):l.all p=true:=by
 rwa [LU hi]at h
theorem og (env:Env) (a1 a8:Addr) (he:ChEnv env a1 a8) (c:ChD) (l:List ActD) (hl:l.length<=9223372036854775807) (ha: ∀a∈l,a.name.length<=9223372036854775807):Con prog env 203 [.agg (aA c),actsAV l] (B (eI c.vars.length c.states.length l)):=by
 refine qf func203 call203 ntmps203 results203 ?_;have F:=aA.eq_1;repeat refine st ?_
 refine lp (D:=Nat) (fun k vs=>[(1,actsAV l),(2, .loc 2 (vs 2) 0 0),(7,actsAV l),(8,I l.length),(9,I k)]) (fun _ _=>[(2,⟨5,[aA c],26,false⟩)]) (fun k _ _=>k<=l.length/\(l.take k).all (fh c.vars.length c.states.length)=true) (fun k=>l.length-k) 0 ⟨Kj _,rfl⟩ ?_;rintro k ws esc ⟨hk,hall⟩;by_cases hlt:k<l.length
 ·obtain⟨a,hx,hm⟩:=aQ hlt;have k1:=nlt hlt;have k2:=aD hlt hl;have hact:=G5 env a1 a8 he c a (ha a hm);cases h1:fh c.vars.length c.states.length a with
  | true=>
    have F:=ai6 aA.eq_1 k1 k2 hx au.eq_1 h1;repeat refine tz1 hact ?_
    exact qn (k+1) ⟨hlt,d8 hall hx h1⟩
  | false=>
    rw[show eI c.vars.length c.states.length l=false by unfold eI;rw[lr hx h1];simp];have F:=ai6 aA.eq_1 k1 k2 hx au.eq_1 h1;repeat refine tz1 hact ?_
    exact aR
 ·have k1: ¬(k:Int)< (l.length:Int):=by omega
  have h3:decide ((l.length:Int)<=32)=decide (l.length<=32):=by rw[LC];simp;omega
  rw[show eI c.vars.length c.states.length l=decide (l.length<=32) by unfold eI;rw[sP hall (by omega)];simp];have F:=ai aA.eq_1 k1;repeat refine st ?_
  (refine aM ?_;show (ae _ _ _).run _=some _;simp only[go_sem,F])
  exact LF B h3
end
section
open Go.RowKit
theorem wu (env:Env) (c:ChD) (i:Int):Con prog env 164 [.agg (aA c),I i] (B (decide (0<=i)&&decide (i<c.states.length))):=by
 refine qf func164 call164 ntmps164 results164 ?_;by_cases h1:0<=i<;>by_cases h2:i< (c.states.length:Int)<;>
 ·have F:=ai3 aA.eq_1 h1 h2;repeat refine st ?_
  exact aR
theorem Str.ifl (t:TypeId) (v:Value):Str (.lit (.iface t v)) (.iface t (.lit v)):=fun S w u h=>by
 obtain rfl:=h.lit_inv;exact .iface t v (.lit v) (.lit v)
theorem Str.lfi (t:TypeId) (v:Value):Str (.iface t (.lit v)) (.lit (.iface t v)):=fun S w u h=>by
 cases h with
 | iface _ v' _ h=>
   obtain rfl:=h.lit_inv;exact .lit _
theorem lF (s p:AV) (q:Int) (hp:p=I q) (e e':AV) (he:Str e' e):fo (.iface 122 (.ref 3 [[s,p,e']] 0 0)) (errV q e):=by
 subst hp;exact .of (.iface (.ref1 (cs:=[.any,I q,e]) (.cons (.any _) (.cons (.refl _) (.cons he .nil))))) (fun _ _ _ h=>by cases h) (fun _ _ _ h=>by cases h)
theorem xJ (env:Env) (s:List UInt8) (p:Int) (a:Addr) (hp: -1<=p):Con prog env 126 [Sg s,I p,sentV a] (errV p (sentV a)):=by
 refine Con.args (cs:=[Sg s,I p, .iface 307 (.lit (.pointer (some a)))]) ?_ (.cons (.refl _) (.cons (.refl _) (.cons (.ifl _ _) .nil)));have h1: ¬p< -1:=by omega
 refine qw func126 call126 ntmps126 results126 ?_;have F:=h1;repeat refine st ?_
 (refine aM ?_;refine⟨_,(by show (ae _ _ _).run _=some _;simp only[go_sem,F];rfl),?_⟩)
 exact lF _ _ _ rfl _ _ (.lfi _ _)
theorem nT (env:Env) (a1 a8:Addr) (he:ChEnv env a1 a8) (p:Int) (hp: -1<=p):Con prog env 161 [I p] (errV p (sentV a1)):=by
 have g1:=jz he.e1;refine qf func161 call161 ntmps161 results161 ?_;have F:=g1;repeat (first|refine st ?_|refine cC (xJ env _ p a1 hp) ?_)
 exact aR
theorem ji {c:ChD} {m:Nat} {q:StD} (h:c.states[m]? =some q):ap c (m:Int)=eG q:=by unfold ap;rw[bI,h]
theorem fJ {n:Int} (h:0<=n): ∃m:Nat,n=m:=⟨n.toNat,by omega⟩
theorem y7 (env:Env) (c:ChD) (i:Nat) (s:StD) (hs:c.states[i]? =some s):Con prog env 201 [.agg (aA c),I i] (B (cm c i s)):=by
 have hi:i<c.states.length:=(K0.1 hs).1;have k0:=nlt hi;refine qf func201 call201 ntmps201 results201 ?_;by_cases h2:0<=s.parent/\s.parent<i
 ·obtain⟨m,hm⟩:=fJ h2.1;obtain⟨q,hq,_⟩:=aQ (show m<c.states.length by omega);have k1:(0:Int)<=m:=by omega
  have k2:(m:Int)<i:=by omega
  have k3:=nlt (show m<c.states.length by omega);have k4:=ji hq;have b0:((m:Int) == -1)=false:=dN (by omega);have fn:=iY env q;have F:=ai12 aA.eq_1 k0 hs aK.eq_1 hm b0 k1 k2 k3 k4 hq cm.eq_1;exact gz1 fn
 ·by_cases h3:0<=s.parent
  ·have h4: ¬s.parent<i:=fun h=>h2 ⟨h3,h⟩;have F:=ai7 aA.eq_1 k0 hs aK.eq_1 h3 h4 cm.eq_1;exact gz0
  ·have F:=ai6 aA.eq_1 k0 hs aK.eq_1 h3 cm.eq_1;exact gz0
theorem BI (env:Env) (c:ChD) (s:StD) (hp:s.parent<c.states.length):Con prog env 237 [.agg (aA c), .agg (aK s)] (B (cc c s)):=by
 refine qf func237 call237 ntmps237 results237 ?_;by_cases h2:0<=s.parent
 ·obtain⟨m,hm⟩:=fJ h2;have hml:m<c.states.length:=by omega
  obtain⟨q,hq,_⟩:=aQ hml;have k3:=nlt hml;rw[show cc c s=(q.kind==1) by unfold cc;rw[hm,bI,hq]];have F:=ai5 aA.eq_1 aK.eq_1 hm k3 hq;repeat refine st ?_
  exact aR
 ·rw[show cc c s=false by unfold cc at_;rw[K2 h2]];have F:=ai3 aA.eq_1 aK.eq_1 h2;repeat refine st ?_
  exact aR
theorem Dq {a b:Nat} (ha:a<=9223372036854775807) (hb:b<=9223372036854775807):IntKind.i64.wrap ((a:Int)+(b:Int))=0↔a+b=0:=by
 by_cases h:a+b<9223372036854775808
 ·rw[aU (by omega) (by omega)];omega
 ·have:IntKind.i64.wrap ((a:Int)+(b:Int))=(a:Int)+(b:Int)-18446744073709551616:=by
   simp[IntKind.wrap,IntKind.bits,IntKind.signed];omega
  omega
theorem e9 {α:Type} [DecidableEq α] (l:List α):((l.length:Int)==0)=(l == []):=by
 rw[LC];simp
theorem E9 {c:ChD} {i:Nat} {s:StD} (hi:i<c.states.length) (h:cm c i s=true):s.parent<c.states.length:=by
 unfold cm at h;simp only[Ll,L5,K3,Kh]at h;omega
theorem Iq {c:ChD} {i:Int} {real:Bool} {j k:Nat} (h:(kidsL c i real)[j]? =some k): ∃q,c.states[k]? =some q/\k<c.states.length:=by
 have hk:=oo (K4 h);obtain⟨q,hq,_⟩:=aQ hk.1;exact⟨q,hq,hk.1⟩
theorem BH (env:Env) (c:ChD) (i:Nat) (s:StD) (hs:c.states[i]? =some s) (hn:c.states.length<=1000000) (hp:s.parent<c.states.length) (h1l:s.inn.length<=9223372036854775807) (h2l:s.out.length<=9223372036854775807):Con prog env 202 [.agg (aA c),I i] (B (cw c i s)):=by
 have hi:i<c.states.length:=(K0.1 hs).1;have k0:=nlt hi;have hreal:=gX env c i hn;have hreal2:=gX env c s.parent hn;have hkids:=od env c i hn;have hplain:=BI env c s hp;have hKl:(kidsL c i true).length<=1000000:=Km (dI c i true _) hn;have hKl2:(kidsL c s.parent true).length<=1000000:=Km (dI c s.parent true _) hn;have hcon:=j8 env (kidsL c i true) s.initial hKl;have hcon2:=j8 env (kidsL c s.parent true) s.initial hKl2;have z1:=e9 (kidsL c i true);have z2:=e9 (kidsL c i false);have z3:=e9 s.out;refine qf func202 call202 ntmps202 results202 ?_;by_cases hk1:s.kind=1
 ·have hr:cw c i s=(if kidsL c i true=[] then s.initial == -1 else inL (kidsL c i true) s.initial):=by unfold cw;rw[K5 hk1]
  rw[hr];have w1:(kidsL c i true=[])=((kidsL c i true == [])=true):=by simp
  have w2:(kidsL c i true == [])=true->inL (kidsL c i true) s.initial=false:=fun h=>by rw[show kidsL c i true=[] by simpa using h];rfl
  have F:=ai8 aA.eq_1 k0 hs aK.eq_1 hk1 z1 w1 w2;exact gz2 hreal hcon
 have b1:=dN hk1;by_cases hk2:s.kind=2
 ·have hr:cw c i s=(((kidsL c i true).all fun k=>ap c k)&&decide (0< (kidsL c i true).length)&&(s.initial == -1)):=by unfold cw;rw[K2 hk1,K5 hk2]
  rw[hr];have F:=ai5 aA.eq_1 k0 hs aK.eq_1 hk2;repeat refine tz1 hreal ?_
  refine lp (D:=Nat) (fun j vs=>[(1,I i),(2, .loc 2 (vs 2) 0 0),(5, .loc 5 (vs 5) 0 0),(6, .row 16 (vs 16)),(18,I 2),(37, .row 16 (vs 16)),(38,I (kidsL c i true).length),(39,I j)]) (fun _ _=>[(2,⟨5,[aA c],26,false⟩),(5,⟨6,[aK s],61,false⟩),(16,⟨1,(kidsL c i true).map aB,3,true⟩)]) (fun j _ _=>j<=(kidsL c i true).length/\((kidsL c i true).take j).all (fun k=>ap c k)=true) (fun j=>(kidsL c i true).length-j) 0 ⟨Kj _,rfl⟩ ?_;rintro j ws esc ⟨hj,hall⟩;by_cases hlt:j< (kidsL c i true).length
  ·obtain⟨k,hk,_⟩:=aQ hlt;obtain⟨q,hq,hkl⟩:=Iq hk;have k1:=nlt hlt;have k2:=aD hlt (by omega);have k3:=nlt hkl;have hnorm:=iY env q;cases e1:eG q
   ·rw[show ((kidsL c i true).all fun k=>ap c k)=false from lr hk (by rw[ji hq];exact e1),LJ,LJ];have F:=ai9 aA.eq_1 k1 k2 k3 hk hq aB.eq_1 aK.eq_1 e1;repeat refine tz1 hnorm ?_
    exact aR
   ·have F:=ai9 aA.eq_1 k1 k2 k3 hk hq aB.eq_1 aK.eq_1 e1;repeat refine tz1 hnorm ?_
    exact qn (j+1) ⟨hlt,d8 hall hk (by rw[ji hq];exact e1)⟩
  ·have k1: ¬(j:Int)< ((kidsL c i true).length:Int):=by omega
   rw[sP hall (by omega),LN];have z4:decide ((0:Int)< ((kidsL c i true).length:Int))=decide (0< (kidsL c i true).length):=by rw[LC];simp
   cases e1:decide (0< (kidsL c i true).length)
   ·have e1': ¬(0:Int)< ((kidsL c i true).length:Int):=by simpa using e1
    have F:=ai4 aA.eq_1 k1 aK.eq_1 e1';repeat refine st ?_
    exact aR
   ·have e1':(0:Int)< ((kidsL c i true).length:Int):=by simpa using e1
    have F:=ai4 aA.eq_1 k1 aK.eq_1 e1';repeat refine st ?_
    exact aR
 have b2:=dN hk2;by_cases hk3:s.kind=3
 ·have hr:cw c i s=((kidsL c i false == [])&&((s.parent == -1)||cc c s)&&(s.initial == -1)&&(s.out == [])):=by unfold cw;rw[K2 hk1,K2 hk2,K5 hk3]
  rw[hr];have F:=ai7 aA.eq_1 k0 hs aK.eq_1 hk3 z2 z3;exact gz3 hreal hkids hplain
 have b3:=dN hk3;by_cases hk45:s.kind=4\/s.kind=5
 ·have hr:cw c i s=((kidsL c i false == [])&&cc c s&&inL (kidsL c s.parent true) s.initial&&(s.inn == [])&&(s.out == [])):=by unfold cw;rw[K2 hk1,K2 hk2,K2 hk3,K5 hk45]
  rw[hr]
  have z5:(IntKind.i64.wrap ((s.inn.length:Int)+(s.out.length:Int))==0)=((s.inn == [])&&(s.out == [])):=by
   rw[LC];simp only[L5,K3, <-Lz,Dq h1l h2l];omega
  rw[Ol _ (s.inn == []), <-z5];rcases hk45 with hk|hk
  all_goals
   have F:=ai6 aA.eq_1 k0 hs aK.eq_1 hk z2;exact gz5 hreal hkids hplain hreal2 hcon2
 have b4:=dN (fun h=>hk45 (.inl h));have b5:=dN (fun h=>hk45 (.inr h));rw[show cw c i s=false by unfold cw;rw[K2 hk1,K2 hk2,K2 hk3,K2 hk45]];have F:=ai9 aA.eq_1 k0 hs aK.eq_1 b1 b2 b3 b4 b5;repeat refine tz1 hreal ?_
 exact aR
end
section
open Go.RowKit
def qC (a1 a8:Addr) (c:ChD):AV:=if (chk c).1=0 then nilE else if (chk c).1=8 then errV (chk c).2 (sentV a8) else errV (chk c).2 (sentV a1)
theorem vo {a1 a8:Addr} {c:ChD} {p:Int} (h:chk c=(0,p)):qC a1 a8 c=nilE:=by unfold qC;rw[h];rfl
theorem mS {a1 a8:Addr} {c:ChD} {p:Int} (h:chk c=(8,p)):qC a1 a8 c=errV p (sentV a8):=by unfold qC;rw[h];rfl
theorem cY {a1 a8:Addr} {c:ChD} {p:Int} (h:chk c=(1,p)):qC a1 a8 c=errV p (sentV a1):=by unfold qC;rw[h];rfl
theorem lG {c:ChD} {i:Nat} {v:VarD} (h:c.vars[i]? =some v):jW c i=pH c i v:=by unfold jW;rw[h]
theorem oA {c:ChD} {i:Nat} {s:StD} (h:c.states[i]? =some s):lH c i=bz c i s:=by unfold lH;rw[h]
theorem nz {c:ChD} {i:Nat} {t:TrD} (h:c.trans[i]? =some t):qD c i=dU c t:=by unfold qD;rw[h]
theorem gU {p:Nat->Bool} {i:Nat} (h: ∀j,j<i->p j=true) (hi:p i=true): ∀j,j<i+1->p j=true:=fun j hj=>by
 by_cases e:j=i
 ·rw[e];exact hi
 ·exact h j (by omega)
theorem Ee (env:Env) (a1 a8:Addr) (he:ChEnv env a1 a8) (c:ChD) (hc:jS c)
 (hV:c.vars.length<=8-> ∀(i:Nat) (v:VarD),c.vars[i]? =some v->Con prog env 162 [.agg (aA c),I i] (B (pH c i v)))
 (hS:c.states.length<=32-> ∀(i:Nat) (s:StD),c.states[i]? =some s->Con prog env 163 [.agg (aA c),I i] (B (bz c i s)))
 (hT: ∀t,t∈c.trans->Con prog env 166 [.agg (aA c), .agg (az t)] (B (dU c t))):Con prog env 101 [.agg (aA c)] (qC a1 a8 c):=by
 have g8:=jz he.e8;have fname:=dp env c.name (by have:=hc.1;unfold maxLen at this;omega);have fbad:=nT env a1 a8 he (-1) (by omega);have fat:=wu env c c.initial;have z1:=e9 c.states;refine qf func101 call101 ntmps101 results101 ?_;by_cases l1:32<c.states.length
 ·have k1:(32:Int)< (c.states.length:Int):=by omega
  rw[mS (show chk c=(8, -1) by unfold chk;rw[K5 (.inl l1)])];have F:=ai3 aA.eq_1 k1 g8;repeat (first|refine st ?_|refine cC (cn env _ a8) ?_)
  exact aR
 have k1: ¬(32:Int)< (c.states.length:Int):=by omega
 by_cases l2:64<c.trans.length
 ·have k2:(64:Int)< (c.trans.length:Int):=by omega
  rw[mS (show chk c=(8, -1) by unfold chk;rw[K5 (.inr (.inl l2))])];have F:=ai4 aA.eq_1 k1 k2 g8;repeat (first|refine st ?_|refine cC (cn env _ a8) ?_)
  exact aR
 have k2: ¬(64:Int)< (c.trans.length:Int):=by omega
 by_cases l3:8<c.vars.length
 ·have k3:(8:Int)< (c.vars.length:Int):=by omega
  rw[mS (show chk c=(8, -1) by unfold chk;rw[K5 (.inr (.inr l3))])];have F:=ai5 aA.eq_1 k1 k2 k3 g8;repeat (first|refine st ?_|refine cC (cn env _ a8) ?_)
  exact aR
 have k3: ¬(8:Int)< (c.vars.length:Int):=by omega
 have hl: ¬(32<c.states.length\/64<c.trans.length\/8<c.vars.length):=by omega
 cases e1:bd c.name
 ·rw[cY (show chk c=(1, -1) by unfold chk;rw[K2 hl,K5 (.inr e1)])];have F:=ai5 aA.eq_1 k1 k2 k3 e1;repeat refine tz2 fname fbad ?_
  exact aR
 cases e2:(c.states == [])
 case true=>
  rw[cY (show chk c=(1, -1) by unfold chk;rw[K2 hl,K5 (.inl (by simpa using e2))])];have F:=ai7 aA.eq_1 k1 k2 k3 e1 z1 e2;repeat refine tz2 fname fbad ?_
  exact aR
 have hne: ¬(c.states=[]\/bd c.name=false):=by
  rw[e1];simpa using e2
 have hc1:chk c=(match ay (jW c) c.vars.length with
  |some i=>(1,2000+(i:Int))
  | none=>match ay (lH c) c.states.length with
    |some i=>(1,(i:Int))
    | none=>if lw c=false then(1, -1) else match ay (qD c) c.trans.length with
      |some i=>(1,1000+(i:Int))
      |none=>(0, -1)):=by
  unfold chk;rw[K2 hl,K2 hne];rfl
 have F:=ai7 aA.eq_1 k1 k2 k3 e1 z1 e2;repeat refine tz2 fname fbad ?_
 refine lp (D:=Nat) (fun i vs=>[(1, .loc 1 (vs 1) 0 0),(38,I c.vars.length),(39,I i)]) (fun _ _=>[(1,⟨5,[aA c],26,false⟩)]) (fun i _ _=>i<=c.vars.length/\ ∀j,j<i->jW c j=true) (fun i=>c.vars.length-i) 0 ⟨Kj _,fun j hj=>by omega⟩ ?_;rintro i ws esc ⟨hi,hall⟩;by_cases hlt:i<c.vars.length
 ·obtain⟨v,hv,_⟩:=aQ hlt;have q1:=nlt hlt;have q2:=aD hlt (by omega);have hcon:=hV (by omega) i v hv;cases e:pH c i v
  ·have q3:IntKind.i64.wrap (2000+(i:Int))=2000+(i:Int):=aU (by omega) (by omega);have hb:=nT env a1 a8 he (2000+(i:Int)) (by omega);rw[cY (show chk c=(1,2000+(i:Int)) by rw[hc1,dE hlt hall (by rw[lG hv];exact e)])];have F:=ai5 aA.eq_1 q1 q2 q3 e;repeat refine tz2 hcon hb ?_
   exact aR
  ·have F:=ai4 aA.eq_1 q1 q2 e;repeat refine tz1 hcon ?_
   exact qn (i+1) ⟨hlt,gU hall (by rw[lG hv];exact e)⟩
 have q1: ¬(i:Int)< (c.vars.length:Int):=by omega
 have hvn:ay (jW c) c.vars.length=none:=bF fun j hj=>hall j (by omega);rw[hvn]at hc1;have F:=ai aA.eq_1 q1;repeat refine st ?_
 refine lp (D:=Nat) (fun i vs=>[(1, .loc 1 (vs 1) 0 0),(52,I c.states.length),(53,I i)]) (fun _ _=>[(1,⟨5,[aA c],26,false⟩)]) (fun i _ _=>i<=c.states.length/\ ∀j,j<i->lH c j=true) (fun i=>c.states.length-i) 0 ⟨Kj _,fun j hj=>by omega⟩ ?_;try clear ws esc hi hall q1 hlt i
 rintro i ws esc ⟨hi,hall⟩;by_cases hlt:i<c.states.length
 ·obtain⟨s,hs,_⟩:=aQ hlt;have q1:=nlt hlt;have q2:=aD hlt (by omega);have hcon:=hS (by omega) i s hs;cases e:bz c i s
  ·have hb:=nT env a1 a8 he (i:Int) (by omega);rw[cY (show chk c=(1,(i:Int)) by rw[hc1,dE hlt hall (by rw[oA hs];exact e)])];have F:=ai4 aA.eq_1 q1 q2 e;repeat refine tz2 hcon hb ?_
   exact aR
  ·have F:=ai4 aA.eq_1 q1 q2 e;repeat refine tz1 hcon ?_
   exact qn (i+1) ⟨hlt,gU hall (by rw[oA hs];exact e)⟩
 have q1: ¬(i:Int)< (c.states.length:Int):=by omega
 have hsn:ay (lH c) c.states.length=none:=bF fun j hj=>hall j (by omega);rw[hsn]at hc1;by_cases p1:0<=c.initial
 case neg=>
  have ht:lw c=false:=by unfold lw at_;rw[K2 p1]
  rw[cY (show chk c=(1, -1) by rw[hc1,K5 ht])];have F:=ai3 aA.eq_1 q1 p1;repeat refine tz2 fat fbad ?_
  exact aR
 obtain⟨m,hm⟩:=fJ p1;by_cases p2:(m:Int)< (c.states.length:Int)
 case neg=>
  have ht:lw c=false:=by unfold lw;rw[hm,bI,Kf (by omega)]
  have p2':(c.initial< (c.states.length:Int))=False:=by rw[hm];simpa using p2
  rw[cY (show chk c=(1, -1) by rw[hc1,K5 ht])];have F:=ai4 aA.eq_1 q1 p1 p2';repeat refine tz2 fat fbad ?_
  exact aR
 obtain⟨q,hq,_⟩:=aQ (show m<c.states.length by omega);have fnorm:=iY env q;have htop:lw c=((q.parent == -1)&&eG q):=by unfold lw;rw[hm,bI,hq]
 rw[hm]at fat;cases e3:(q.parent == -1)
 ·rw[cY (show chk c=(1, -1) by rw[hc1,K5 (by rw[htop,e3];rfl)])];have F:=ai8 aA.eq_1 aK.eq_1 q1 hm p2 hq e3 im;repeat refine tz3 fat fbad fnorm ?_
  exact aR
 cases e4:eG q
 ·rw[cY (show chk c=(1, -1) by rw[hc1,K5 (by rw[htop,e3,e4];rfl)])];have F:=ai9 aA.eq_1 aK.eq_1 q1 hm p2 hq e3 e4 im;repeat refine tz3 fat fbad fnorm ?_
  exact aR
 rw[K2 (by rw[htop,e3,e4];simp)]at hc1;have F:=ai9 aA.eq_1 aK.eq_1 q1 hm p2 hq e3 e4 im;repeat refine tz3 fat fbad fnorm ?_
 have F:=ai aA.eq_1 hm;refine lq c.trans.length (by omega) (fun i vs=>[(1, .loc 1 (vs 1) 0 0),(90,trsAV c.trans),(91,I c.trans.length),(92,I i)]) (fun _ _=>[(1,⟨5,[aA c],26,false⟩)]) (fun i _ _=> ∀j,j<i->qD c j=true) (fun j hj=>by omega) ?_ ?_
 ·try clear ws esc hi hall q1 hlt i
  rintro i ws esc hlt q1 q2 hall;obtain⟨t,ht,htm⟩:=aQ hlt;have hcon:=hT t htm;cases e:dU c t
  ·have q3:IntKind.i64.wrap (1000+(i:Int))=1000+(i:Int):=aU (by omega) (by omega);have hb:=nT env a1 a8 he (1000+(i:Int)) (by omega);rw[cY (show chk c=(1,1000+(i:Int)) by rw[hc1,dE hlt hall (by rw[nz ht];exact e)])];have F:=ai7 aA.eq_1 az.eq_1 q1 q2 q3 ht e;repeat refine tz2 hcon hb ?_
   exact aR
  ·have F:=ai6 aA.eq_1 az.eq_1 q1 q2 ht e;repeat refine tz1 hcon ?_
   exact qn (i+1) ⟨hlt,gU hall (by rw[nz ht];exact e)⟩
 try clear ws esc hi hall q1 hlt i
 rintro ws esc q1 hall;rw[vo (show chk c=(0, -1) by rw[hc1,bF fun j hj=>hall j (by omega)])];have F:=ai aA.eq_1 q1;repeat refine st ?_
 exact aR
end
section
open Go.RowKit
theorem nZ {n:Nat} (h:n<=maxLen):n<=9223372036854775807:=by unfold maxLen at h;omega
theorem jY {l:List ActD} (h:l.length<=maxLen/\ ∀y∈l,iw y):l.length<=9223372036854775807/\ ∀a∈l,a.name.length<=9223372036854775807:=⟨nZ h.1,fun a ha=>nZ (h.2 a ha).1⟩
theorem BG (env:Env) (a1 a8:Addr) (he:ChEnv env a1 a8) (c:ChD) (hn:c.states.length<=1000000) (i:Nat) (s:StD) (hs:c.states[i]? =some s) (hf:uF s):Con prog env 163 [.agg (aA c),I i] (B (bz c i s)):=by
 have hi:i<c.states.length:=(K0.1 hs).1;have k0:=nlt hi;have f1:=dp env s.name (nZ hf.1);have f2:=Ed env c s.name hn;have f3:=y7 env c i s hs;have f5:=og env a1 a8 he c s.inn (jY hf.2.1).1 (jY hf.2.1).2;have f6:=og env a1 a8 he c s.out (jY hf.2.2).1 (jY hf.2.2).2;unfold bz;refine qf func163 call163 ntmps163 results163 ?_;cases e3:cm c i s
 ·have F:=ai5 aA.eq_1 k0 hs aK.eq_1 e3;exact gz3 f1 f2 f3
 ·have f4:=BH env c i s hs hn (E9 hi e3) (nZ hf.2.1.1) (nZ hf.2.2.1);have F:=ai5 aA.eq_1 k0 hs aK.eq_1 e3;exact gz6 f1 f2 f3 f4 f5 f6
theorem pQ {c:ChD} {nm:List UInt8} {j:Nat} {x:VarD} (h:newVar c nm j=true) (hx:c.vars[j]? =some x) (e:(x.name==nm)=false):newVar c nm (j+1)=true:=by
 unfold newVar at h |-;exact d8 h hx (by rw[e];rfl)
theorem G4 (env:Env) (c:ChD) (hn:c.vars.length<=1000000) (i:Nat) (v:VarD) (hv:c.vars[i]? =some v) (hf:oV v):Con prog env 162 [.agg (aA c),I i] (B (pH c i v)):=by
 have hi:i<c.vars.length:=(K0.1 hv).1;have k0:=nlt hi;have k9:(i:Int)<=(c.vars.length:Int):=by omega
 have f1:=dp env v.name (nZ hf);have f2:=dS env v.start;have hlen:(c.vars.take i).length=i:=by rw[Kg];omega
 refine qf func162 call162 ntmps162 results162 ?_;have F:=ai7 aA.eq_1 k0 k9 hv gh.eq_1 hlen Mq;repeat refine st ?_
 refine lp (D:=Nat) (fun j vs=>[(5, .loc 5 (vs 5) 0 0),(16,varsAV (c.vars.take i)),(17,I i),(18,I j)]) (fun _ _=>[(5,⟨2,[gh v],117,false⟩)]) (fun j _ _=>j<=i/\newVar c v.name j=true) (fun j=>i-j) 0 ⟨Kj _,rfl⟩ ?_;rintro j ws esc ⟨hj,hall⟩;by_cases hlt:j<i
 ·obtain⟨x,hx,_⟩:=aQ (show j<c.vars.length by omega);have hx':(c.vars.take i)[j]? =some x:=by rw[LG,K5 hlt];exact hx
  have k1:=nlt hlt;have k2:=aD hlt (by omega);cases e:(x.name==v.name)
  ·have F:=ai6 k1 k2 hx' hlen gh.eq_1 e;repeat refine st ?_
   exact qn (j+1) ⟨hlt,pQ hall hx e⟩
  ·rw[show pH c i v=false by unfold pH newVar;rw[lr (p:=fun x:VarD=> !(x.name==v.name)) hx' (by rw[e];rfl)];rfl];have F:=ai6 k1 k2 hx' hlen gh.eq_1 e;repeat refine st ?_
   exact aR
 ·have k1: ¬(j:Int)< (i:Int):=by omega
  obtain rfl:j=i:=by omega
  have hr:pH c j v=(bd v.name&& !(v.name == [100,97,116,97])&& !(v.name == [105,110])&&aL v.start):=by
   unfold pH aL;rw[hall];simp only[LN,Ol]
  rw[hr];have F:=ai3 k1 gh.eq_1 im;exact gz2 f1 f2
end
section
open Go.RowKit
theorem Eb (env:Env) (a1 a8:Addr) (he:ChEnv env a1 a8) (c:ChD) (t:TrD) (hf:uC t):Con prog env 166 [.agg (aA c), .agg (az t)] (B (dU c t)):=by
 have f1:=wu env c t.src;have f3:=dp env t.event (nZ hf.1);have f4:=ut env a1 a8 he c t.guard;have f5:=og env a1 a8 he c t.acts (jY hf.2.2).1 (jY hf.2.2).2;have f6:=wu env c t.target;have z1:=e9 t.guard;by_cases h1:0<=t.src
 case neg=>
  rw[show dU c t=false by unfold dU ap at_;rw[K2 h1];rfl];refine qf func166 call166 ntmps166 results166 ?_;have F:=ai3 aA.eq_1 az.eq_1 h1;repeat refine tz1 f1 ?_
  exact aR
 obtain⟨m,hm⟩:=fJ h1;by_cases h2:(m:Int)< (c.states.length:Int)
 case neg=>
  rw[show dU c t=false by unfold dU ap;rw[hm,bI,Kf (by omega)];rfl];have hm':(t.src< (c.states.length:Int))=False:=by rw[hm];simpa using h2
  refine qf func166 call166 ntmps166 results166 ?_;have F:=ai4 aA.eq_1 az.eq_1 h1 hm';repeat refine tz1 f1 ?_
  exact aR
 obtain⟨q,hq,_⟩:=aQ (show m<c.states.length by omega);have f2:=iY env q;have hr:dU c t=(eG q&&((t.event == [])||bd t.event)&&((t.guard == [])||bg t.guard c.vars.length c.states.length)&&eI c.vars.length c.states.length t.acts&&((t.target == -1)||(decide (0<=t.target)&&decide (t.target<c.states.length)))):=by unfold dU;rw[hm,ji hq]
 rw[hr];rw[hm]at f1;refine qf func166 call166 ntmps166 results166 ?_;have F:=ai7 aA.eq_1 az.eq_1 aK.eq_1 hm h2 hq z1;exact gz6 f1 f2 f3 f4 f5 f6
end
section
open Go.RowKit
end
section
open Go.RowKit Go.ChangeShapes
theorem BJ (env:Env) (a1 a8:Addr) (he:ChEnv env a1 a8) (c:ChD) (hc:jS c):Con prog env 101 [.agg (aA c)] (qC a1 a8 c):=
 Ee env a1 a8 he c hc (fun hn i v hv=>G4 env c (by omega) i v hv (hc.2.1.2 v (K4 hv))) (fun hn i s hs=>BG env a1 a8 he c (by omega) i s hs (hc.2.2.1.2 s (K4 hs))) (fun t ht=>Eb env a1 a8 he c t (hc.2.2.2.2 t ht))
end
section
open Go.RowKit
def rankAll:List Nat->Nat->List Nat->List Nat
 |[],_,rk=>rk
 |k::l,n,rk=>rankAll l (n+1) (rk.set k n)
theorem pO: ∀(l:List Nat) (n:Nat) (rk:List Nat),(rankAll l n rk).length=rk.length
 |[],_,_=>rfl
 |k::l,n,rk=>by unfold rankAll;rw[pO,M4]
theorem pP: ∀(l1 l2:List Nat) (n:Nat) (rk:List Nat),rankAll (l1++l2) n rk=rankAll l2 (n+l1.length) (rankAll l1 n rk)
 |[],_,_,_=>rfl
 | k::l1,l2,n,rk=>by
   show rankAll (l1++l2) (n+1) (rk.set k n)=rankAll l2 (n+(l1.length+1)) (rankAll l1 (n+1) (rk.set k n));rw[pP,N9,Oz 1]
def TR (ps ks ms bs:List (List AV)) (lf:Value) (g:Nat->Nat) (rk l:List Nat):List (Nat×Row):=
 [(1000,⟨7,[[.seq 1 ps, .seq 1 ks, .seq 1 ms, .seq 1 bs, .row 1001 (g 1001), .row 1002 (g 1002), .lit lf]],161,false⟩),(1001,⟨1,rk.map aB,3,true⟩),(1002,⟨1,l.map aB,3,true⟩)]
def wkTo (c:ChD) (K:List Nat) (j:Nat):List Nat:=(K.take j).flatMap fun k=>k::walkL c k
theorem Dt {c:ChD} {K:List Nat} {j k:Nat} (h:K[j]? =some k):wkTo c K (j+1)=wkTo c K j++k::walkL c k:=by
 unfold wkTo;rw[Ky,h,MY];simp
theorem GH {c:ChD} (K:List Nat):wkTo c K K.length=K.flatMap fun k=>k::walkL c k:=by
 unfold wkTo;rw[Kt]
theorem IZ {c:ChD} (K:List Nat) (j:Nat):(wkTo c K j).length<=(K.flatMap fun k=>k::walkL c k).length:=by
 conv=>rhs;rw[<-Mh j K,MY,K8]
 exact Ov _ _
def xo (P:Program) (env:Env) (f:FuncId) (c:ChD) (ps ks ms bs:List (List AV)) (lf:Value) (i:Int) (l rk:List Nat):Prop:=
 ConI P env f [1000,1001,1002] (fun k=>k==1002) (fun g=>[.loc 1000 (g 1000) 0 0, .agg (aA c),I i]) (fun g=>TR ps ks ms bs lf g rk l) (fun g=>TR ps ks ms bs lf g (rankAll (walkL c i) l.length rk) (l++walkL c i)) (fun _=> .lit (.tuple #[]))
theorem u4 (env:Env) (c:ChD) (hc:Right c) (ps ks ms bs:List (List AV)) (lf:Value) (i:Int) (l rk:List Nat) (hi: -1<=i) (hrk:rk.length=c.states.length) (hfew:l.length+(walkL c i).length<=1000000)
 (ih: ∀k∈kidsL c i false,∀l rk,rk.length=c.states.length->l.length+(walkL c k).length<=1000000->xo prog env 104 c ps ks ms bs lf k l rk):xo prog env 104 c ps ks ms bs lf i l rk:=by
 unfold xo at*
 ·have hlen:=hc.few;have f0:=od env c i (by omega);rw[walk_eq hc hi]at hfew |-;have hK32:(kidsL c i false).length<=32:=Km (dI c i false _) hlen;generalize hK:kidsL c i false=K at*;refine qi func104 call104 ntmps104 results104 ?_;intro vs esc hesc;have e0:=hesc 1000 (by simp);have e1:=hesc 1001 (by simp);have e2:=hesc 1002 (by simp);have F:=ai5 TR.eq_1 e0 e1 e2 aA.eq_1;repeat refine tz1 f0 ?_
  refine aI (D:=Nat) (fun j vs'=>[(0, .loc 1000 (vs' 1000) 0 0),(4, .loc 4 (vs' 4) 0 0),(10, .row 10 (vs' 10)),(11,I K.length),(12,I j)]) (fun j vs'=>TR ps ks ms bs lf vs' (rankAll (wkTo c K j) l.length rk) (l++wkTo c K j)++[(4,⟨5,[aA c],26,false⟩),(10,⟨1,K.map aB,3,true⟩)]) (fun j vs' esc'=>(j<=K.length/\vs' 1000=vs 1000/\vs' 1001=vs 1001)/\esc' 1000=false/\esc' 1001=false/\esc' 1002=false) (fun j=>K.length-j) 0 ?_ ?_ ?_ ?_
  ·exact⟨⟨Kj _,by simp only[go_sem],by simp only[go_sem]⟩,by simp only[go_sem,e0],by simp only[go_sem,e1],by simp only[go_sem,e2]⟩
  ·exact qe
  ·have F:=ai TR.eq_1 aA.eq_1
   (simp only[go_sem,F])
   refine⟨rfl,?_⟩;show _=(⟨1,List.map aB (l++[]),3,true⟩:Row);rw[Lo]
  try clear e0 e1 e2
  rintro j ws esc' ⟨⟨hj,v0,v1⟩,e0,e1,e2⟩;by_cases hlt:j<K.length
  ·obtain⟨k,hk⟩:=gE hlt;have hkm:k∈kidsL c i false:=by rw[hK];exact K4 hk
   have hg:=bE hc hkm;have hnext:=Dt (c:=c) hk;have hle:=IZ (c:=c) K (j+1);have hrl:=pO (wkTo c K j) l.length rk;have hra:=pP (wkTo c K j) (k::walkL c k) l.length rk;rw[hnext]at hle;rw[K8,Ks]at hle;generalize rankAll (wkTo c K j) l.length rk=rk1 at*;have f1:=ih k (K4 hk) (l++wkTo c K j++[k]) (rk1.set k (l++wkTo c K j).length) (by rw[M4,hrl,hrk]) (by simp only[K8,Ks,NG];omega);have k1:=nlt hlt;have k2:=aD hlt (by omega);have k3:((k:Nat):Int)< (rk1.length:Int):=by rw[hrl,hrk];omega
   obtain⟨r0,hr0⟩: ∃r0,rk1[k]? =some r0:=⟨rk1[k]'(by omega),KZ _⟩;have hf:Fits (l.length+(wkTo c K j).length+1) 8:=⟨by omega,by omega⟩;have F:=ai12 TR.eq_1 e0 e1 e2 aA.eq_1 k1 k2 k3 hk hf aB.eq_1<|ai3 @Ka.{0,0} hr0 @NT.{0,0};have hra2:rankAll (wkTo c K (j+1)) l.length rk=rankAll (walkL c k) (l.length+(wkTo c K j).length+1) (rk1.set k (l.length+(wkTo c K j).length)):=by rw[hnext,hra];rfl
   repeat refine st ?_
   refine iL [(1000,1000),(1001,1001),(1002,1002)] f1 ?_;repeat refine st ?_
   refine⟨j+1,⟨⟨hlt,?_,?_⟩,?_,?_,?_⟩,?_,?_,by omega⟩
   ·simp only[go_sem];exact v0
   ·simp only[go_sem];exact v1
   ·simp only[go_sem,e0]
   ·simp only[go_sem,e1]
   ·simp only[go_sem,e2]
   ·exact qe
   ·have F:=ai8 TR.eq_1 aA.eq_1 aB.eq_1 @Ka.{0,0} @NT.{0,0} hra2 hnext @LM.{0}
    (simp only[go_sem,F])
    rw[hra];rfl
  ·obtain rfl:j=K.length:=by omega
   have k1:=nl K.length;have hall:=GH (c:=c) K;have F:=ai9 TR.eq_1 e0 e1 e2 aA.eq_1 k1 hall v0 v1;repeat refine st ?_
   exact rN
theorem yv (env:Env) (c:ChD) (hc:Right c) (ps ks ms bs:List (List AV)) (lf:Value): ∀(n:Nat) (i:Int) (l rk:List Nat), -1<=i->(c.states.length:Int)<=i+n->rk.length=c.states.length->l.length+(walkL c i).length<=1000000->xo prog env 104 c ps ks ms bs lf i l rk
 |0,i,l,rk,hi,hn,hrk,hfew=>u4 env c hc ps ks ms bs lf i l rk hi hrk hfew fun k hk=>by have:=bE hc hk;omega
 |n+1,i,l,rk,hi,hn,hrk,hfew=>u4 env c hc ps ks ms bs lf i l rk hi hrk hfew fun k hk l rk h1 h2=>by have:=bE hc hk;exact yv env c hc ps ks ms bs lf n k l rk (by omega) (by omega) h1 h2
end

end Go.Proofs.YtdpjgflalmnkdaaGreatDoor