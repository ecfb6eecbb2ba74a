/- Charts' laws: what their variables hold; chart.Check, awake. -/
import Derived.Test.YtbpmkofnfgdegaaGreatDoorQ6
import Derived.Test.YtbpmkofnfgdegaaGreatDoorQ5
import Derived.Test.YtbpmkofnfgdegaaGreatDoorQ11
import Derived.Test.YtbpmkofnfgdegaaGreatDoorQ10
import Derived.LaidHandle
set_option maxRecDepth 100000
set_option maxHeartbeats 8000000
set_option linter.unusedSimpArgs false
namespace Go.Proofs.YtbpmkofnfgdegaaGreatDoor
open Go.Proofs.Tryz
section
open Go.RowKit
def zac (k:Nat):List AV:=[I k]
abbrev nsAV (l:List Nat):AV:= .seq 1 (l.map zac)
def idxFrom:List Nat->Int->Nat->Int
 |[],_,_=> -1
 |x::l,v,k=>if (x:Int)=v then k else idxFrom l v (k+1)
def idxI (l:List Nat) (v:Int):Int:=idxFrom l v 0
theorem zoj {l:List Nat} {v:Int} {k x:Nat} (h:l[k]? =some x) (hn:idxI l v=idxFrom (l.drop k) v k):((x:Int)=v->idxI l v=k)/\((x:Int)≠v->idxI l v=idxFrom (l.drop (k+1)) v (k+1)):=by
 have hk:k<l.length:=(List.getElem?_eq_some_iff.1 h).1
 have he:l.drop k=x::l.drop (k+1):=by
  rw[List.drop_eq_getElem_cons hk]
  congr 1
  rw[List.getElem?_eq_getElem hk]at h;exact Option.some.inj h
 rw[he]at hn;simp only[idxFrom]at hn;exact⟨fun e=>by rw[hn,if_pos e],fun e=>by rw[hn,if_neg e]⟩
theorem zsa {l:List Nat} {v:Int} {k:Nat} (h:l.length<=k) (hn:idxI l v=idxFrom (l.drop k) v k):idxI l v= -1:=by
 rw[hn,List.drop_eq_nil_of_le h];rfl
theorem zr9 (v:Int): ∀(l:List Nat) (k:Nat),decide (0<=idxFrom l v k)=inL l v
 |[],k=>rfl
 | x::l,k=>by
   have ih:=zr9 v l (k+1);have e0:inL (x::l) v=(((x:Int)==v)||inL l v):=rfl;rw[e0, <-ih];by_cases e:(x:Int)=v
   ·have e1:idxFrom (x::l) v k=k:=if_pos e;rw[Bool.eq_iff_iff];simp[e1,e]
   ·have e1:idxFrom (x::l) v k=idxFrom l v (k+1):=if_neg e;rw[Bool.eq_iff_iff];simp[e1,e]
theorem zr7 (env:Env) (l:List Nat) (v:Int) (hl:l.length<=1000000):Con prog env 84 [nsAV l,I v] (I (idxI l v)):=by
 refine qf func84 call84 ntmps84 results84 ?_;repeat refine st0 ?_
 refine zab (D:=Nat) (fun k _=>[(0,nsAV l),(1,I v),(7,I l.length),(8,I k)]) (fun _ _=>[]) (fun k _ _=>k<=l.length/\idxI l v=idxFrom (l.drop k) v k) (fun k=>l.length-k) 0 ?_ ?_ ?_ ?_
 ·exact⟨Nat.zero_le _,rfl⟩
 ·exact qe0
 ·exact qe0
 rintro k ws esc ⟨hk,hi⟩;by_cases hlt:k<l.length
 ·obtain⟨x,hx,_⟩:=zak hlt;obtain⟨yes,no⟩:=zoj hx hi;have k1:=nlt hlt;have k2:=zaa hlt (by omega);by_cases e:(x:Int)=v
  ·rw[yes e];have k3:(v==(x:Int))=true:=by simp[e]
   have F:=ai5 k1 k2 k3 hx zac.eq_1;repeat refine st ?_
   exact aR
  ·have k3:(v==(x:Int))=false:=by simpa using fun h=>e h.symm
   have F:=ai5 k1 k2 k3 hx zac.eq_1;repeat refine st ?_
   refine⟨k+1,⟨hlt,no e⟩,?_,?_,?_⟩
   ·exact qe
   ·exact qe
   ·omega
 ·have k1: ¬(k:Int)< (l.length:Int):=by omega
  rw[zsa (by omega) hi];have F:=k1;repeat refine st ?_
  exact aR
theorem zeo (env:Env) (l:List Nat) (v:Int) (hl:l.length<=1000000):Con prog env 40 [nsAV l,I v] (B (inL l v)):=by
 have h:=zr9 v l 0;refine qf func40 call40 ntmps40 results40 ?_;repeat refine tz01 (zr7 env l v hl) ?_
 (refine zal ?_;show (zaG _ _ _).run _=some _;simp only[go_sem])
 exact congrArg B h
theorem zrg (env:Env) (l:List Nat) (v:Int) (hl:l.length<=1000000):Con prog env 15 [nsAV l,I v] (B (inL l v)):=by
 rw[<-zr9 v l 0,show idxFrom l v 0=idxI l v from rfl];refine qf func15 call15 ntmps15 results15 ?_;repeat refine st0 ?_
 refine zab (D:=Nat) (fun k _=>[(0,nsAV l),(1,I v),(5,I k)]) (fun _ _=>[]) (fun k _ _=>k<=l.length/\idxI l v=idxFrom (l.drop k) v k) (fun k=>l.length-k) 0 ?_ ?_ ?_ ?_
 ·exact⟨Nat.zero_le _,rfl⟩
 ·exact qe0
 ·exact qe0
 rintro k ws esc ⟨hk,hi⟩;by_cases hlt:k<l.length
 ·obtain⟨x,hx,_⟩:=zak hlt;obtain⟨yes,no⟩:=zoj hx hi;have k1:=nlt hlt;have k2:=zaa hlt (by omega);by_cases e:(x:Int)=v
  ·rw[yes e,decide_eq_true (Int.natCast_nonneg k)];have k3:((x:Int)==v)=true:=by simp[e]
   have F:=ai5 k1 k2 k3 hx zac.eq_1;repeat refine st ?_
   exact aR
  ·have k3:((x:Int)==v)=false:=by simpa using e
   have F:=ai5 k1 k2 k3 hx zac.eq_1;repeat refine st ?_
   refine⟨k+1,⟨hlt,no e⟩,?_,?_,?_⟩
   ·exact qe
   ·exact qe
   ·omega
 ·have k1: ¬(k:Int)< (l.length:Int):=by omega
  rw[zsa (by omega) hi];have F:=k1;repeat refine st ?_
  exact aR
/-! Kids -/
theorem zjR {c:ChD} {k:Nat} {s:StD} (hs:c.states[k]? =some s) (i:Int) (real:Bool):zb6 c i real k=((s.parent==i)&&(!real|| !zaq s)):=by unfold zb6;rw[hs]
theorem zfq {c:ChD} {i:Int} {real:Bool} {k:Nat} (h:zb6 c i real k=true):(zaX c i real (k+1)).map zac=(zaX c i real k).map zac++[[I k]]:=by
 rw[zhw,h,if_pos rfl,List.map_append];rfl
theorem zef {c:ChD} {i:Int} {real:Bool} {k:Nat} (h:zb6 c i real k=false):(zaX c i real (k+1)).map zac=(zaX c i real k).map zac:=by
 rw[zhw,h];simp
theorem zdl (env:Env) (c:ChD) (i:Int) (hc:c.states.length<=1000000):Con prog env 118 [.agg (chAV c),I i] (.own 3 1 ((kidsL c i true).map zac)):=by
 refine qf func118 call118 ntmps118 results118 ?_;have F:=chAV.eq_1;repeat refine st ?_
 refine zap 5 5 3 1 ?_;refine zab (D:=Nat) (fun k vs=>[(1,I i),(5, .row 5 (vs 5)),(9,stsAV c.states),(10,I c.states.length),(11,I k)]) (fun k _=>[(5,⟨1,(zaX c i true k).map zac,3,true⟩)]) (fun k _ esc=>k<=c.states.length/\esc 5=false) (fun k=>c.states.length-k) 0 ?_ ?_ ?_ ?_
 ·exact⟨Nat.zero_le _,rfl⟩
 ·exact qe
 ·(simp only[go_sem,F])
  simp[zaX]
 rintro k ws esc ⟨hk,he⟩;by_cases hlt:k<c.states.length
 ·obtain⟨s,hs,_⟩:=zak hlt;have k1:=nlt hlt;have k2:=zaa hlt (by omega);have hkid:=zjR hs i true;have hlen:=zbM c i true k;have hf:Fits ((zaX c i true k).length+1) 8:=⟨by omega,by omega⟩;cases h1:(s.parent==i) with
  | false=>
    have hsame:=zef (show zb6 c i true k=false by rw[hkid,h1];rfl);have F:=ai5 k1 k2 hs stAV.eq_1 h1;repeat refine tz1 (zeb env s) ?_
    refine⟨k+1,⟨hlt,by simp only[go_sem,he]⟩,?_,?_,?_⟩
    ·exact qe
    ·have F:=ai6 k1 k2 hs stAV.eq_1 h1 hsame;exact qe
    ·omega
  | true=>
    cases h2:zaq s with
    | true=>
      have hsame:=zef (show zb6 c i true k=false by rw[hkid,h1,h2];rfl);have F:=ai6 k1 k2 hs stAV.eq_1 h1 h2;repeat refine tz1 (zeb env s) ?_
      refine⟨k+1,⟨hlt,by simp only[go_sem,he]⟩,?_,?_,?_⟩
      ·exact qe
      ·have F:=ai7 k1 k2 hs stAV.eq_1 h1 h2 hsame;exact qe
      ·omega
    | false=>
      have hmore:=zfq (show zb6 c i true k=true by rw[hkid,h1,h2];rfl);have F:=ai7 k1 k2 hs stAV.eq_1 h1 h2 hf;repeat refine tz1 (zeb env s) ?_
      refine⟨k+1,⟨hlt,by simp only[go_sem,he]⟩,?_,?_,?_⟩
      ·exact qe
      ·have F:=ai7 k1 k2 hs stAV.eq_1 h1 h2 hmore;exact qe
      ·omega
 ·have k1: ¬(k:Int)< (c.states.length:Int):=by omega
  obtain rfl:k=c.states.length:=by omega
  have F:=ai k1 he;repeat refine st ?_
  (refine zal ?_;show (zaG _ _ _).run _=some _;simp only[go_sem,F])
  rfl
theorem zhk (env:Env) (c:ChD) (i:Int) (hc:c.states.length<=1000000):Con prog env 178 [.agg (chAV c),I i] (.own 3 1 ((kidsL c i false).map zac)):=by
 refine qf func178 call178 ntmps178 results178 ?_;have F:=chAV.eq_1;repeat refine st ?_
 refine zap 5 5 3 1 ?_;refine zab (D:=Nat) (fun k vs=>[(1,I i),(5, .row 5 (vs 5)),(9,stsAV c.states),(10,I c.states.length),(11,I k)]) (fun k _=>[(5,⟨1,(zaX c i false k).map zac,3,true⟩)]) (fun k _ esc=>k<=c.states.length/\esc 5=false) (fun k=>c.states.length-k) 0 ?_ ?_ ?_ ?_
 ·exact⟨Nat.zero_le _,rfl⟩
 ·exact qe
 ·(simp only[go_sem,F])
  simp[zaX]
 rintro k ws esc ⟨hk,he⟩;by_cases hlt:k<c.states.length
 ·obtain⟨s,hs,_⟩:=zak hlt;have k1:=nlt hlt;have k2:=zaa hlt (by omega);have hkid:=zjR hs i false;have hlen:=zbM c i false k;have hf:Fits ((zaX c i false k).length+1) 8:=⟨by omega,by omega⟩;cases h1:(s.parent==i) with
  | false=>
    have hsame:=zef (show zb6 c i false k=false by rw[hkid,h1];rfl);have F:=ai5 k1 k2 hs stAV.eq_1 h1;repeat refine st ?_
    refine⟨k+1,⟨hlt,by simp only[go_sem,he]⟩,?_,?_,?_⟩
    ·exact qe
    ·have F:=ai6 k1 k2 hs stAV.eq_1 h1 hsame;exact qe
    ·omega
  | true=>
    have hmore:=zfq (show zb6 c i false k=true by rw[hkid,h1];rfl);have F:=ai6 k1 k2 hs stAV.eq_1 h1 hf;repeat refine st ?_
    refine⟨k+1,⟨hlt,by simp only[go_sem,he]⟩,?_,?_,?_⟩
    ·exact qe
    ·have F:=ai6 k1 k2 hs stAV.eq_1 h1 hmore;exact qe
    ·omega
 ·have k1: ¬(k:Int)< (c.states.length:Int):=by omega
  obtain rfl:k=c.states.length:=by omega
  have F:=ai k1 he;repeat refine st ?_
  (refine zal ?_;show (zaG _ _ _).run _=some _;simp only[go_sem,F])
  rfl
theorem zcK (env:Env) (c:ChD) (i:Int) (real:Bool) (hc:c.states.length<=1000000):Con prog env 89 [.agg (chAV c),I i,B real] (.own 3 1 ((kidsL c i real).map zac)):=by
 refine qf func89 call89 ntmps89 results89 ?_;have F:=chAV.eq_1;repeat refine st ?_
 refine zab (D:=Nat) (fun k vs=>[(1,I i),(2,B real),(3, .loc 3 (vs 3) 0 0),(7, .row 9 (vs 9)),(8,I k)]) (fun k _=>[(3,⟨5,[chAV c],26,false⟩),(9,⟨1,(zaX c i real k).map zac,3,true⟩)]) (fun k _ esc=>k<=c.states.length/\esc 9=false) (fun k=>c.states.length-k) 0 ?_ ?_ ?_ ?_
 ·exact⟨Nat.zero_le _,rfl⟩
 ·exact qe
 ·(simp only[go_sem,F])
  simp[zaX]
 rintro k ws esc ⟨hk,he⟩;by_cases hlt:k<c.states.length
 ·obtain⟨s,hs,_⟩:=zak hlt;have k1:=nlt hlt;have k2:=zaa hlt (by omega);have hkid:=zjR hs i real;have hlen:=zbM c i real k;have hf:Fits ((zaX c i real k).length+1) 8:=⟨by omega,by omega⟩;cases h1:(s.parent==i) with
  | false=>
    have hsame:=zef (show zb6 c i real k=false by rw[hkid,h1];rfl);have F:=ai6 chAV.eq_1 k1 k2 hs stAV.eq_1 h1;repeat refine tz1 (zby env s) ?_
    refine⟨k+1,⟨hlt,by simp only[go_sem,he]⟩,?_,?_,?_⟩
    ·exact qe
    ·have F:=ai7 chAV.eq_1 k1 k2 hs stAV.eq_1 h1 hsame;exact qe
    ·omega
  | true=>
    cases real with
    | false=>
      have hmore:=zfq (show zb6 c i false k=true by rw[hkid,h1];rfl);have F:=ai7 chAV.eq_1 k1 k2 hs stAV.eq_1 h1 hf;repeat refine tz1 (zby env s) ?_
      refine⟨k+1,⟨hlt,by simp only[go_sem,he]⟩,?_,?_,?_⟩
      ·exact qe
      ·have F:=ai7 chAV.eq_1 k1 k2 hs stAV.eq_1 h1 hmore;exact qe
      ·omega
    | true=>
      cases h2:zaq s with
      | true=>
        have hsame:=zef (show zb6 c i true k=false by rw[hkid,h1,h2];rfl);have F:=ai7 chAV.eq_1 k1 k2 hs stAV.eq_1 h1 h2;repeat refine tz1 (zby env s) ?_
        refine⟨k+1,⟨hlt,by simp only[go_sem,he]⟩,?_,?_,?_⟩
        ·exact qe
        ·have F:=ai8 chAV.eq_1 k1 k2 hs stAV.eq_1 h1 h2 hsame;exact qe
        ·omega
      | false=>
        have hmore:=zfq (show zb6 c i true k=true by rw[hkid,h1,h2];rfl);have F:=ai8 chAV.eq_1 k1 k2 hs stAV.eq_1 h1 h2 hf;repeat refine tz1 (zby env s) ?_
        refine⟨k+1,⟨hlt,by simp only[go_sem,he]⟩,?_,?_,?_⟩
        ·exact qe
        ·have F:=ai8 chAV.eq_1 k1 k2 hs stAV.eq_1 h1 h2 hmore;exact qe
        ·omega
 ·have k1: ¬(k:Int)< (c.states.length:Int):=by omega
  obtain rfl:k=c.states.length:=by omega
  have F:=ai3 chAV.eq_1 k1 he;repeat refine st ?_
  (refine zal ?_;show (zaG _ _ _).run _=some _;simp only[go_sem,F])
  rfl
/-! The state of a name -/
theorem zru (env:Env) (c:ChD) (name:List UInt8) (hc:c.states.length<=1000000):Con prog env 208 [.agg (chAV c),Sg name] (I (zm8 c name)):=by
 refine qf func208 call208 ntmps208 results208 ?_;have F:=chAV.eq_1;repeat refine st ?_
 refine zab (D:=Nat) (fun k _=>[(1,Sg name),(8,stsAV c.states),(9,I c.states.length),(10,I k)]) (fun _ _=>[]) (fun k _ _=>k<=c.states.length/\zcO c name k= -1) (fun k=>c.states.length-k) 0 ?_ ?_ ?_ ?_
 ·exact⟨Nat.zero_le _,rfl⟩
 ·exact qe
 ·exact qe
 rintro k ws esc ⟨hk,hf⟩;by_cases hlt:k<c.states.length
 ·obtain⟨s,hs,_⟩:=zak hlt;have k1:=nlt hlt;have k2:=zaa hlt (by omega);cases h1:(s.name==name) with
  | true=>
    rw[zlr c name hlt hf s hs (by simpa using h1)];have F:=ai5 k1 k2 hs stAV.eq_1 h1;repeat refine st ?_
    exact aR
  | false=>
    have F:=ai5 k1 k2 hs stAV.eq_1 h1;repeat refine st ?_
    refine⟨k+1,⟨hlt,zhP c name hf s hs (by simpa using h1)⟩,?_,?_,?_⟩
    ·exact qe
    ·exact qe
    ·omega
 ·have k1: ¬(k:Int)< (c.states.length:Int):=by omega
  obtain rfl:k=c.states.length:=by omega
  rw[show zm8 c name= -1 from hf];have F:=k1;repeat refine st ?_
  exact aR
theorem zrh (env:Env) (c:ChD) (name:List UInt8) (hc:c.states.length<=1000000):Con prog env 164 [.agg (chAV c),Sg name] (I (zm8 c name)):=by
 refine qf func164 call164 ntmps164 results164 ?_;have F:=chAV.eq_1;repeat refine st ?_
 refine zab (D:=Nat) (fun k vs=>[(1,Sg name),(2, .loc 2 (vs 2) 0 0),(5,I k)]) (fun _ _=>[(2,⟨5,[chAV c],26,false⟩)]) (fun k _ _=>k<=c.states.length/\zcO c name k= -1) (fun k=>c.states.length-k) 0 ?_ ?_ ?_ ?_
 ·exact⟨Nat.zero_le _,rfl⟩
 ·exact qe
 ·exact qe
 rintro k ws esc ⟨hk,hf⟩;by_cases hlt:k<c.states.length
 ·obtain⟨s,hs,_⟩:=zak hlt;have k1:=nlt hlt;have k2:=zaa hlt (by omega);cases h1:(s.name==name) with
  | true=>
    rw[zlr c name hlt hf s hs (by simpa using h1)];have F:=ai6 chAV.eq_1 k1 k2 hs stAV.eq_1 h1;repeat refine st ?_
    exact aR
  | false=>
    have F:=ai6 chAV.eq_1 k1 k2 hs stAV.eq_1 h1;repeat refine st ?_
    refine⟨k+1,⟨hlt,zhP c name hf s hs (by simpa using h1)⟩,?_,?_,?_⟩
    ·exact qe
    ·exact qe
    ·omega
 ·have k1: ¬(k:Int)< (c.states.length:Int):=by omega
  obtain rfl:k=c.states.length:=by omega
  rw[show zm8 c name= -1 from hf];have F:=ai chAV.eq_1 k1;repeat refine st ?_
  exact aR
end
section
open Go.RowKit
theorem zkX (env:Env) (a1 a8:Addr) (he:ChEnv env a1 a8) (c:ChD) (l:List OpD):Con prog env 212 [.agg (chAV c),opsAV l] (B (zbQ l c.vars.length c.states.length)):=by
 have hx:=zda env a1 a8 he l c.vars.length c.states.length;unfold zdT at hx;refine qf func212 call212 ntmps212 results212 ?_;by_cases h0:zeM l c.vars.length c.states.length=0
 ·rw[if_pos h0]at hx;rw[show zbQ l c.vars.length c.states.length=true by simp[zbQ,h0]];have F:=chAV.eq_1;repeat refine tz1 hx ?_
  exact aR
 ·rw[if_neg h0]at hx;rw[show zbQ l c.vars.length c.states.length=false by simp[zbQ,h0]];by_cases h8:zeM l c.vars.length c.states.length=8
  ·rw[if_pos h8]at hx;have F:=chAV.eq_1;repeat refine tz1 hx ?_
   exact aR
  ·rw[if_neg h8]at hx;have F:=chAV.eq_1;repeat refine tz1 hx ?_
   exact aR
theorem zb1 {a b:Int} (h:a≠b):(a==b)=false:=by simpa using h
theorem zt4 (env:Env) (a1 a8:Addr) (he:ChEnv env a1 a8) (c:ChD) (a:ActD) (ha:a.name.length<=9223372036854775807):Con prog env 253 [.agg (chAV c), .agg (zbl a)] (B (actB c.vars.length c.states.length a)):=by
 obtain⟨k,n,m,co⟩:=a;have hcode:=zkX env a1 a8 he c co;have hname:=zb2 env m ha;refine qf func253 call253 ntmps253 results253 ?_
 have hco:((co.length:Int)==0)=(co == []):=by
  rw[Bool.eq_iff_iff];simp
 have w1: ∀p q:Prop,[Decidable p]->[Decidable q]->decide (p/\q)=(decide p&&decide q):=fun p q=>Bool.decide_and p q;by_cases hk:k=1\/k=2\/k=3\/k=4\/k=5
 ·rcases hk with rfl|rfl|rfl|rfl|rfl
  all_goals
   have F:=ai5 chAV.eq_1 zbl.eq_1 actB.eq_1 hco w1;exact gz2 hcode hname
 simp only[not_or]at hk;obtain⟨h1,h2,h3,h4,h5⟩:=hk;rw[show actB c.vars.length c.states.length ⟨k,n,m,co⟩=false by unfold actB;rw[if_neg h1,if_neg (fun h=>h.elim h2 h4),if_neg h3,if_neg h5]];have b1:=zb1 h1;have b2:=zb1 h2;have b3:=zb1 h3;have b4:=zb1 h4;have b5:=zb1 h5;have F:=ai7 chAV.eq_1 zbl.eq_1 b1 b2 b3 b4 b5;repeat refine st ?_
 exact aR
theorem zbX {α:Type} {l:List α} {p:α->Bool} {i:Nat} {x:α} (h:(l.take i).all p=true) (hx:l[i]? =some x) (hp:p x=true):(l.take (i+1)).all p=true:=by
 obtain⟨h1,h2⟩:=List.getElem?_eq_some_iff.1 hx;rw[List.take_succ_eq_append_getElem h1,List.all_append,h,h2];simp[hp]
theorem zf7 {α:Type} {l:List α} {p:α->Bool} {i:Nat} {x:α} (hx:l[i]? =some x) (hp:p x=false):l.all p=false:=by
 rw[Bool.eq_false_iff];intro h;rw[List.all_eq_true]at h;rw[h _ (List.mem_of_getElem? hx)]at hp;cases hp
theorem zkl {α:Type} {l:List α} {p:α->Bool} {i:Nat} (h:(l.take i).all p=true) (hi:l.length<=i):l.all p=true:=by
 rwa [List.take_of_length_le hi]at h
theorem zhm (env:Env) (a1 a8:Addr) (he:ChEnv env a1 a8) (c:ChD) (l:List ActD) (hl:l.length<=9223372036854775807) (ha: ∀a∈l,a.name.length<=9223372036854775807):Con prog env 211 [.agg (chAV c),actsAV l] (B (zcZ c.vars.length c.states.length l)):=by
 refine qf func211 call211 ntmps211 results211 ?_;have F:=chAV.eq_1;repeat refine st ?_
 refine zab (D:=Nat) (fun k vs=>[(1,actsAV l),(2, .loc 2 (vs 2) 0 0),(7,actsAV l),(8,I l.length),(9,I k)]) (fun _ _=>[(2,⟨5,[chAV c],26,false⟩)]) (fun k _ _=>k<=l.length/\(l.take k).all (actB c.vars.length c.states.length)=true) (fun k=>l.length-k) 0 ?_ ?_ ?_ ?_
 ·exact⟨Nat.zero_le _,rfl⟩
 ·exact qe
 ·exact qe
 rintro k ws esc ⟨hk,hall⟩;by_cases hlt:k<l.length
 ·obtain⟨a,hx,hm⟩:=zak hlt;have k1:=nlt hlt;have k2:=zaa hlt hl;have hact:=zt4 env a1 a8 he c a (ha a hm);cases h1:actB c.vars.length c.states.length a with
  | true=>
    have F:=ai6 chAV.eq_1 k1 k2 hx zbl.eq_1 h1;repeat refine tz1 hact ?_
    refine⟨k+1,⟨hlt,zbX hall hx h1⟩,?_,?_,?_⟩
    ·exact qe
    ·exact qe
    ·omega
  | false=>
    rw[show zcZ c.vars.length c.states.length l=false by unfold zcZ;rw[zf7 hx h1];simp];have F:=ai6 chAV.eq_1 k1 k2 hx zbl.eq_1 h1;repeat refine tz1 hact ?_
    exact aR
 ·have k1: ¬(k:Int)< (l.length:Int):=by omega
  have h3:decide ((l.length:Int)<=32)=decide (l.length<=32):=by rw[Bool.eq_iff_iff];simp;omega
  rw[show zcZ c.vars.length c.states.length l=decide (l.length<=32) by unfold zcZ;rw[zkl hall (by omega)];simp];have F:=ai chAV.eq_1 k1;repeat refine st ?_
  (refine zal ?_;show (zaG _ _ _).run _=some _;simp only[go_sem,F])
  exact congrArg B h3
end
section
open Go.RowKit
theorem zmJ (env:Env) (c:ChD) (i:Int):Con prog env 173 [.agg (chAV c),I i] (B (decide (0<=i)&&decide (i<c.states.length))):=by
 refine qf func173 call173 ntmps173 results173 ?_;by_cases h1:0<=i<;>by_cases h2:i< (c.states.length:Int)<;>
 ·have F:=ai3 chAV.eq_1 h1 h2;repeat refine st ?_
  exact aR
theorem Str.ifl (t:TypeId) (v:Value):Str (.lit (.iface t v)) (.iface t (.lit v)):=fun S w u h=>by
 obtain rfl:=h.lit_inv;exact .iface t v (.lit v) (.lit v)
theorem Str.lfi (t:TypeId) (v:Value):Str (.iface t (.lit v)) (.lit (.iface t v)):=fun S w u h=>by
 cases h with
 | iface _ v' _ h=>
   obtain rfl:=h.lit_inv;exact .lit _
theorem zfy (s p:AV) (q:Int) (hp:p=I q) (e e':AV) (he:Str e' e):RStr (.iface 138 (.ref 3 [[s,p,e']] 0 0)) (errV q e):=by
 subst hp;exact .of (.iface (.ref1 (cs:=[.any,I q,e]) (.cons (.any _) (.cons (.refl _) (.cons he .nil))))) (fun _ _ _ h=>by cases h) (fun _ _ _ h=>by cases h)
theorem znb (env:Env) (s:List UInt8) (p:Int) (a:Addr) (hp: -1<=p):Con prog env 148 [Sg s,I p,sentV a] (errV p (sentV a)):=by
 refine Con.args (cs:=[Sg s,I p, .iface 309 (.lit (.pointer (some a)))]) ?_ (.cons (.refl _) (.cons (.refl _) (.cons (.ifl _ _) .nil)));have h1: ¬p< -1:=by omega
 refine qw func148 call148 ntmps148 results148 ?_;have F:=h1;repeat refine st ?_
 (refine zal ?_;refine⟨_,(by show (zaG _ _ _).run _=some _;simp only[go_sem,F];rfl),?_⟩)
 exact zfy _ _ _ rfl _ _ (.lfi _ _)
theorem zgH (env:Env) (a1 a8:Addr) (he:ChEnv env a1 a8) (p:Int) (hp: -1<=p):Con prog env 170 [I p] (errV p (sentV a1)):=by
 have g1:=zfW he.e1;refine qf func170 call170 ntmps170 results170 ?_;have F:=g1;repeat (first|refine st ?_|refine cC (znb env _ p a1 hp) ?_)
 exact aR
theorem zeD {c:ChD} {m:Nat} {q:StD} (h:c.states[m]? =some q):zav c (m:Int)=zcW q:=by unfold zav;rw[zaM,h]
theorem zdR {n:Int} (h:0<=n): ∃m:Nat,n=m:=⟨n.toNat,by omega⟩
theorem zmI (env:Env) (c:ChD) (i:Nat) (s:StD) (hs:c.states[i]? =some s):Con prog env 209 [.agg (chAV c),I i] (B (zbz c i s)):=by
 have hi:i<c.states.length:=(List.getElem?_eq_some_iff.1 hs).1;have k0:=nlt hi;refine qf func209 call209 ntmps209 results209 ?_;by_cases h2:0<=s.parent/\s.parent<i
 ·obtain⟨m,hm⟩:=zdR h2.1;obtain⟨q,hq,_⟩:=zak (show m<c.states.length by omega);have k1:(0:Int)<=m:=by omega
  have k2:(m:Int)<i:=by omega
  have k3:=nlt (show m<c.states.length by omega);have k4:=zeD hq;have b0:((m:Int) == -1)=false:=zb1 (by omega);have fn:=zdE env q;have F:=ai12 chAV.eq_1 k0 hs stAV.eq_1 hm b0 k1 k2 k3 k4 hq zbz.eq_1;exact gz1 fn
 ·by_cases h3:0<=s.parent
  ·have h4: ¬s.parent<i:=fun h=>h2 ⟨h3,h⟩;have F:=ai7 chAV.eq_1 k0 hs stAV.eq_1 h3 h4 zbz.eq_1;exact gz0
  ·have F:=ai6 chAV.eq_1 k0 hs stAV.eq_1 h3 zbz.eq_1;exact gz0
theorem zpq (env:Env) (c:ChD) (s:StD) (hp:s.parent<c.states.length):Con prog env 252 [.agg (chAV c), .agg (stAV s)] (B (zbJ c s)):=by
 refine qf func252 call252 ntmps252 results252 ?_;by_cases h2:0<=s.parent
 ·obtain⟨m,hm⟩:=zdR h2;have hml:m<c.states.length:=by omega
  obtain⟨q,hq,_⟩:=zak hml;have k3:=nlt hml;rw[show zbJ c s=(q.kind==1) by unfold zbJ;rw[hm,zaM,hq]];have F:=ai5 chAV.eq_1 stAV.eq_1 hm k3 hq;repeat refine st ?_
  exact aR
 ·rw[show zbJ c s=false by unfold zbJ at_;rw[if_neg h2]];have F:=ai3 chAV.eq_1 stAV.eq_1 h2;repeat refine st ?_
  exact aR
theorem zqs {a b:Nat} (ha:a<=9223372036854775807) (hb:b<=9223372036854775807):IntKind.i64.wrap ((a:Int)+(b:Int))=0↔a+b=0:=by
 by_cases h:a+b<9223372036854775808
 ·rw[zaw (by omega) (by omega)];omega
 ·have:IntKind.i64.wrap ((a:Int)+(b:Int))=(a:Int)+(b:Int)-18446744073709551616:=by
   simp[IntKind.wrap,IntKind.bits,IntKind.signed];omega
  omega
theorem zcM {α:Type} [DecidableEq α] (l:List α):((l.length:Int)==0)=(l == []):=by
 rw[Bool.eq_iff_iff];simp
theorem zrp {c:ChD} {i:Nat} {s:StD} (hi:i<c.states.length) (h:zbz c i s=true):s.parent<c.states.length:=by
 unfold zbz at h;simp only[Bool.or_eq_true,beq_iff_eq,Bool.and_eq_true,decide_eq_true_eq]at h;omega
theorem zv0 {c:ChD} {i:Int} {real:Bool} {j k:Nat} (h:(kidsL c i real)[j]? =some k): ∃q,c.states[k]? =some q/\k<c.states.length:=by
 have hk:=zhx (List.mem_of_getElem? h);obtain⟨q,hq,_⟩:=zak hk.1;exact⟨q,hq,hk.1⟩
theorem zpp (env:Env) (c:ChD) (i:Nat) (s:StD) (hs:c.states[i]? =some s) (hn:c.states.length<=1000000) (hp:s.parent<c.states.length) (h1l:s.inn.length<=9223372036854775807) (h2l:s.out.length<=9223372036854775807):Con prog env 210 [.agg (chAV c),I i] (B (zbZ c i s)):=by
 have hi:i<c.states.length:=(List.getElem?_eq_some_iff.1 hs).1;have k0:=nlt hi;have hreal:=zdl env c i hn;have hreal2:=zdl env c s.parent hn;have hkids:=zhk env c i hn;have hplain:=zpq env c s hp;have hKl:(kidsL c i true).length<=1000000:=Nat.le_trans (zbM c i true _) hn;have hKl2:(kidsL c s.parent true).length<=1000000:=Nat.le_trans (zbM c s.parent true _) hn;have hcon:=zeo env (kidsL c i true) s.initial hKl;have hcon2:=zeo env (kidsL c s.parent true) s.initial hKl2;have z1:=zcM (kidsL c i true);have z2:=zcM (kidsL c i false);have z3:=zcM s.out;refine qf func210 call210 ntmps210 results210 ?_;by_cases hk1:s.kind=1
 ·have hr:zbZ c i s=(if kidsL c i true=[] then s.initial == -1 else inL (kidsL c i true) s.initial):=by unfold zbZ;rw[if_pos hk1]
  rw[hr];have w1:(kidsL c i true=[])=((kidsL c i true == [])=true):=by simp
  have w2:(kidsL c i true == [])=true->inL (kidsL c i true) s.initial=false:=fun h=>by rw[show kidsL c i true=[] by simpa using h];rfl
  have F:=ai8 chAV.eq_1 k0 hs stAV.eq_1 hk1 z1 w1 w2;exact gz2 hreal hcon
 have b1:=zb1 hk1;by_cases hk2:s.kind=2
 ·have hr:zbZ c i s=(((kidsL c i true).all fun k=>zav c k)&&decide (0< (kidsL c i true).length)&&(s.initial == -1)):=by unfold zbZ;rw[if_neg hk1,if_pos hk2]
  rw[hr];have F:=ai5 chAV.eq_1 k0 hs stAV.eq_1 hk2;repeat refine tz1 hreal ?_
  refine zab (D:=Nat) (fun j vs=>[(1,I i),(2, .loc 2 (vs 2) 0 0),(5, .loc 5 (vs 5) 0 0),(6, .row 16 (vs 16)),(18,I 2),(37, .row 16 (vs 16)),(38,I (kidsL c i true).length),(39,I j)]) (fun _ _=>[(2,⟨5,[chAV c],26,false⟩),(5,⟨6,[stAV s],72,false⟩),(16,⟨1,(kidsL c i true).map zac,3,true⟩)]) (fun j _ _=>j<=(kidsL c i true).length/\((kidsL c i true).take j).all (fun k=>zav c k)=true) (fun j=>(kidsL c i true).length-j) 0 ?_ ?_ ?_ ?_
  ·exact⟨Nat.zero_le _,rfl⟩
  ·exact qe
  ·exact qe
  rintro j ws esc ⟨hj,hall⟩;by_cases hlt:j< (kidsL c i true).length
  ·obtain⟨k,hk,_⟩:=zak hlt;obtain⟨q,hq,hkl⟩:=zv0 hk;have k1:=nlt hlt;have k2:=zaa hlt (by omega);have k3:=nlt hkl;have hnorm:=zdE env q;cases e1:zcW q
   ·rw[show ((kidsL c i true).all fun k=>zav c k)=false from zf7 hk (by rw[zeD hq];exact e1),Bool.false_and,Bool.false_and];have F:=ai9 chAV.eq_1 k1 k2 k3 hk hq zac.eq_1 stAV.eq_1 e1;repeat refine tz1 hnorm ?_
    exact aR
   ·have F:=ai9 chAV.eq_1 k1 k2 k3 hk hq zac.eq_1 stAV.eq_1 e1;repeat refine tz1 hnorm ?_
    refine⟨j+1,⟨hlt,zbX hall hk (by rw[zeD hq];exact e1)⟩,?_,?_,?_⟩
    ·exact qe
    ·exact qe
    ·omega
  ·have k1: ¬(j:Int)< ((kidsL c i true).length:Int):=by omega
   rw[zkl hall (by omega),Bool.true_and];have z4:decide ((0:Int)< ((kidsL c i true).length:Int))=decide (0< (kidsL c i true).length):=by rw[Bool.eq_iff_iff];simp
   cases e1:decide (0< (kidsL c i true).length)
   ·have e1': ¬(0:Int)< ((kidsL c i true).length:Int):=by simpa using e1
    have F:=ai4 chAV.eq_1 k1 stAV.eq_1 e1';repeat refine st ?_
    exact aR
   ·have e1':(0:Int)< ((kidsL c i true).length:Int):=by simpa using e1
    have F:=ai4 chAV.eq_1 k1 stAV.eq_1 e1';repeat refine st ?_
    exact aR
 have b2:=zb1 hk2;by_cases hk3:s.kind=3
 ·have hr:zbZ c i s=((kidsL c i false == [])&&((s.parent == -1)||zbJ c s)&&(s.initial == -1)&&(s.out == [])):=by unfold zbZ;rw[if_neg hk1,if_neg hk2,if_pos hk3]
  rw[hr];have F:=ai7 chAV.eq_1 k0 hs stAV.eq_1 hk3 z2 z3;exact gz3 hreal hkids hplain
 have b3:=zb1 hk3;by_cases hk45:s.kind=4\/s.kind=5
 ·have hr:zbZ c i s=((kidsL c i false == [])&&zbJ c s&&inL (kidsL c s.parent true) s.initial&&(s.inn == [])&&(s.out == [])):=by unfold zbZ;rw[if_neg hk1,if_neg hk2,if_neg hk3,if_pos hk45]
  rw[hr]
  have z5:(IntKind.i64.wrap ((s.inn.length:Int)+(s.out.length:Int))==0)=((s.inn == [])&&(s.out == [])):=by
   rw[Bool.eq_iff_iff];simp only[beq_iff_eq,Bool.and_eq_true, <-List.length_eq_zero_iff,zqs h1l h2l];omega
  rw[Bool.and_assoc _ (s.inn == []), <-z5];rcases hk45 with hk|hk
  all_goals
   have F:=ai6 chAV.eq_1 k0 hs stAV.eq_1 hk z2;exact gz5 hreal hkids hplain hreal2 hcon2
 have b4:=zb1 (fun h=>hk45 (.inl h));have b5:=zb1 (fun h=>hk45 (.inr h));rw[show zbZ c i s=false by unfold zbZ;rw[if_neg hk1,if_neg hk2,if_neg hk3,if_neg hk45]];have F:=ai9 chAV.eq_1 k0 hs stAV.eq_1 b1 b2 b3 b4 b5;repeat refine tz1 hreal ?_
 exact aR
end
section
open Go.RowKit
def zkb (a1 a8:Addr) (c:ChD):AV:=if (chk c).1=0 then nilE else if (chk c).1=8 then errV (chk c).2 (sentV a8) else errV (chk c).2 (sentV a1)
theorem zlW {a1 a8:Addr} {c:ChD} {p:Int} (h:chk c=(0,p)):zkb a1 a8 c=nilE:=by unfold zkb;rw[h];rfl
theorem zf2 {a1 a8:Addr} {c:ChD} {p:Int} (h:chk c=(8,p)):zkb a1 a8 c=errV p (sentV a8):=by unfold zkb;rw[h];rfl
theorem zbk {a1 a8:Addr} {c:ChD} {p:Int} (h:chk c=(1,p)):zkb a1 a8 c=errV p (sentV a1):=by unfold zkb;rw[h];rfl
theorem zfB {c:ChD} {i:Nat} {v:VarD} (h:c.vars[i]? =some v):zeS c i=varB c i v:=by unfold zeS;rw[h]
theorem zgR {c:ChD} {i:Nat} {s:StD} (h:c.states[i]? =some s):zgx c i=zbm c i s:=by unfold zgx;rw[h]
theorem zgQ {c:ChD} {i:Nat} {t:TrD} (h:c.trans[i]? =some t):zkd c i=zch c t:=by unfold zkd;rw[h]
theorem zdd {p:Nat->Bool} {i:Nat} (h: ∀j,j<i->p j=true) (hi:p i=true): ∀j,j<i+1->p j=true:=fun j hj=>by
 by_cases e:j=i
 ·rw[e];exact hi
 ·exact h j (by omega)
theorem zrv (env:Env) (a1 a8:Addr) (he:ChEnv env a1 a8) (c:ChD) (hc:zeP c)
 (hV:c.vars.length<=8-> ∀(i:Nat) (v:VarD),c.vars[i]? =some v->Con prog env 171 [.agg (chAV c),I i] (B (varB c i v)))
 (hS:c.states.length<=32-> ∀(i:Nat) (s:StD),c.states[i]? =some s->Con prog env 172 [.agg (chAV c),I i] (B (zbm c i s)))
 (hT: ∀t,t∈c.trans->Con prog env 175 [.agg (chAV c), .agg (trAV t)] (B (zch c t))):Con prog env 117 [.agg (chAV c)] (zkb a1 a8 c):=by
 have g8:=zfW he.e8;have fname:=zb2 env c.name (by have:=hc.1;unfold maxLen at this;omega);have fbad:=zgH env a1 a8 he (-1) (by omega);have fat:=zmJ env c c.initial;have z1:=zcM c.states;refine qf func117 call117 ntmps117 results117 ?_;by_cases l1:32<c.states.length
 ·have k1:(32:Int)< (c.states.length:Int):=by omega
  rw[zf2 (show chk c=(8, -1) by unfold chk;rw[if_pos (.inl l1)])];have F:=ai3 chAV.eq_1 k1 g8;repeat (first|refine st ?_|refine cC (zbA env _ a8) ?_)
  exact aR
 have k1: ¬(32:Int)< (c.states.length:Int):=by omega
 by_cases l2:64<c.trans.length
 ·have k2:(64:Int)< (c.trans.length:Int):=by omega
  rw[zf2 (show chk c=(8, -1) by unfold chk;rw[if_pos (.inr (.inl l2))])];have F:=ai4 chAV.eq_1 k1 k2 g8;repeat (first|refine st ?_|refine cC (zbA env _ a8) ?_)
  exact aR
 have k2: ¬(64:Int)< (c.trans.length:Int):=by omega
 by_cases l3:8<c.vars.length
 ·have k3:(8:Int)< (c.vars.length:Int):=by omega
  rw[zf2 (show chk c=(8, -1) by unfold chk;rw[if_pos (.inr (.inr l3))])];have F:=ai5 chAV.eq_1 k1 k2 k3 g8;repeat (first|refine st ?_|refine cC (zbA env _ a8) ?_)
  exact aR
 have k3: ¬(8:Int)< (c.vars.length:Int):=by omega
 have hl: ¬(32<c.states.length\/64<c.trans.length\/8<c.vars.length):=by omega
 cases e1:zbi c.name
 ·rw[zbk (show chk c=(1, -1) by unfold chk;rw[if_neg hl,if_pos (.inr e1)])];have F:=ai5 chAV.eq_1 k1 k2 k3 e1;repeat refine tz2 fname fbad ?_
  exact aR
 cases e2:(c.states == [])
 case true=>
  rw[zbk (show chk c=(1, -1) by unfold chk;rw[if_neg hl,if_pos (.inl (by simpa using e2))])];have F:=ai7 chAV.eq_1 k1 k2 k3 e1 z1 e2;repeat refine tz2 fname fbad ?_
  exact aR
 have hne: ¬(c.states=[]\/zbi c.name=false):=by
  rw[e1];simpa using e2
 have hc1:chk c=(match zaA (zeS c) c.vars.length with
  |some i=>(1,2000+(i:Int))
  | none=>match zaA (zgx c) c.states.length with
    |some i=>(1,(i:Int))
    | none=>if topB c=false then(1, -1) else match zaA (zkd c) c.trans.length with
      |some i=>(1,1000+(i:Int))
      |none=>(0, -1)):=by
  unfold chk;rw[if_neg hl,if_neg hne];rfl
 have F:=ai7 chAV.eq_1 k1 k2 k3 e1 z1 e2;repeat refine tz2 fname fbad ?_
 refine zab (D:=Nat) (fun i vs=>[(1, .loc 1 (vs 1) 0 0),(38,I c.vars.length),(39,I i)]) (fun _ _=>[(1,⟨5,[chAV c],26,false⟩)]) (fun i _ _=>i<=c.vars.length/\ ∀j,j<i->zeS c j=true) (fun i=>c.vars.length-i) 0 ?_ ?_ ?_ ?_
 ·exact⟨Nat.zero_le _,fun j hj=>by omega⟩
 ·exact qe
 ·exact qe
 rintro i ws esc ⟨hi,hall⟩;by_cases hlt:i<c.vars.length
 ·obtain⟨v,hv,_⟩:=zak hlt;have q1:=nlt hlt;have q2:=zaa hlt (by omega);have hcon:=hV (by omega) i v hv;cases e:varB c i v
  ·have q3:IntKind.i64.wrap (2000+(i:Int))=2000+(i:Int):=zaw (by omega) (by omega);have hb:=zgH env a1 a8 he (2000+(i:Int)) (by omega);rw[zbk (show chk c=(1,2000+(i:Int)) by rw[hc1,zbC hlt hall (by rw[zfB hv];exact e)])];have F:=ai5 chAV.eq_1 q1 q2 q3 e;repeat refine tz2 hcon hb ?_
   exact aR
  ·have F:=ai4 chAV.eq_1 q1 q2 e;repeat refine tz1 hcon ?_
   refine⟨i+1,⟨hlt,zdd hall (by rw[zfB hv];exact e)⟩,?_,?_,?_⟩
   ·exact qe
   ·exact qe
   ·omega
 have q1: ¬(i:Int)< (c.vars.length:Int):=by omega
 have hvn:zaA (zeS c) c.vars.length=none:=zaz fun j hj=>hall j (by omega);rw[hvn]at hc1;have F:=ai chAV.eq_1 q1;repeat refine st ?_
 refine zab (D:=Nat) (fun i vs=>[(1, .loc 1 (vs 1) 0 0),(52,I c.states.length),(53,I i)]) (fun _ _=>[(1,⟨5,[chAV c],26,false⟩)]) (fun i _ _=>i<=c.states.length/\ ∀j,j<i->zgx c j=true) (fun i=>c.states.length-i) 0 ?_ ?_ ?_ ?_
 ·exact⟨Nat.zero_le _,fun j hj=>by omega⟩
 ·exact qe
 ·exact qe
 try clear ws esc hi hall q1 hlt i
 rintro i ws esc ⟨hi,hall⟩;by_cases hlt:i<c.states.length
 ·obtain⟨s,hs,_⟩:=zak hlt;have q1:=nlt hlt;have q2:=zaa hlt (by omega);have hcon:=hS (by omega) i s hs;cases e:zbm c i s
  ·have hb:=zgH env a1 a8 he (i:Int) (by omega);rw[zbk (show chk c=(1,(i:Int)) by rw[hc1,zbC hlt hall (by rw[zgR hs];exact e)])];have F:=ai4 chAV.eq_1 q1 q2 e;repeat refine tz2 hcon hb ?_
   exact aR
  ·have F:=ai4 chAV.eq_1 q1 q2 e;repeat refine tz1 hcon ?_
   refine⟨i+1,⟨hlt,zdd hall (by rw[zgR hs];exact e)⟩,?_,?_,?_⟩
   ·exact qe
   ·exact qe
   ·omega
 have q1: ¬(i:Int)< (c.states.length:Int):=by omega
 have hsn:zaA (zgx c) c.states.length=none:=zaz fun j hj=>hall j (by omega);rw[hsn]at hc1;by_cases p1:0<=c.initial
 case neg=>
  have ht:topB c=false:=by unfold topB at_;rw[if_neg p1]
  rw[zbk (show chk c=(1, -1) by rw[hc1,if_pos ht])];have F:=ai3 chAV.eq_1 q1 p1;repeat refine tz2 fat fbad ?_
  exact aR
 obtain⟨m,hm⟩:=zdR p1;by_cases p2:(m:Int)< (c.states.length:Int)
 case neg=>
  have ht:topB c=false:=by unfold topB;rw[hm,zaM,List.getElem?_eq_none (by omega)]
  have p2':(c.initial< (c.states.length:Int))=False:=by rw[hm];simpa using p2
  rw[zbk (show chk c=(1, -1) by rw[hc1,if_pos ht])];have F:=ai4 chAV.eq_1 q1 p1 p2';repeat refine tz2 fat fbad ?_
  exact aR
 obtain⟨q,hq,_⟩:=zak (show m<c.states.length by omega);have fnorm:=zdE env q;have htop:topB c=((q.parent == -1)&&zcW q):=by unfold topB;rw[hm,zaM,hq]
 rw[hm]at fat;cases e3:(q.parent == -1)
 ·rw[zbk (show chk c=(1, -1) by rw[hc1,if_pos (by rw[htop,e3];rfl)])];have F:=ai8 chAV.eq_1 stAV.eq_1 q1 hm p2 hq e3 bneA;repeat refine tz3 fat fbad fnorm ?_
  exact aR
 cases e4:zcW q
 ·rw[zbk (show chk c=(1, -1) by rw[hc1,if_pos (by rw[htop,e3,e4];rfl)])];have F:=ai9 chAV.eq_1 stAV.eq_1 q1 hm p2 hq e3 e4 bneA;repeat refine tz3 fat fbad fnorm ?_
  exact aR
 rw[if_neg (by rw[htop,e3,e4];simp)]at hc1;have F:=ai9 chAV.eq_1 stAV.eq_1 q1 hm p2 hq e3 e4 bneA;repeat refine tz3 fat fbad fnorm ?_
 refine zab (D:=Nat) (fun i vs=>[(1, .loc 1 (vs 1) 0 0),(90,trsAV c.trans),(91,I c.trans.length),(92,I i)]) (fun _ _=>[(1,⟨5,[chAV c],26,false⟩)]) (fun i _ _=>i<=c.trans.length/\ ∀j,j<i->zkd c j=true) (fun i=>c.trans.length-i) 0 ?_ ?_ ?_ ?_
 ·exact⟨Nat.zero_le _,fun j hj=>by omega⟩
 ·have F:=ai chAV.eq_1 hm;exact qe
 ·have F:=ai chAV.eq_1 hm;exact qe
 try clear ws esc hi hall q1 hlt i
 rintro i ws esc ⟨hi,hall⟩;by_cases hlt:i<c.trans.length
 ·obtain⟨t,ht,htm⟩:=zak hlt;have q1:=nlt hlt;have q2:=zaa hlt (by omega);have hcon:=hT t htm;cases e:zch c t
  ·have q3:IntKind.i64.wrap (1000+(i:Int))=1000+(i:Int):=zaw (by omega) (by omega);have hb:=zgH env a1 a8 he (1000+(i:Int)) (by omega);rw[zbk (show chk c=(1,1000+(i:Int)) by rw[hc1,zbC hlt hall (by rw[zgQ ht];exact e)])];have F:=ai7 chAV.eq_1 trAV.eq_1 q1 q2 q3 ht e;repeat refine tz2 hcon hb ?_
   exact aR
  ·have F:=ai6 chAV.eq_1 trAV.eq_1 q1 q2 ht e;repeat refine tz1 hcon ?_
   refine⟨i+1,⟨hlt,zdd hall (by rw[zgQ ht];exact e)⟩,?_,?_,?_⟩
   ·exact qe
   ·exact qe
   ·omega
 have q1: ¬(i:Int)< (c.trans.length:Int):=by omega
 rw[zlW (show chk c=(0, -1) by rw[hc1,zaz fun j hj=>hall j (by omega)])];have F:=ai chAV.eq_1 q1;repeat refine st ?_
 exact aR
end
section
open Go.RowKit
theorem zil {n:Nat} (h:n<=maxLen):n<=9223372036854775807:=by unfold maxLen at h;omega
theorem zeH {l:List ActD} (h:l.length<=maxLen/\ ∀y∈l,zel y):l.length<=9223372036854775807/\ ∀a∈l,a.name.length<=9223372036854775807:=⟨zil h.1,fun a ha=>zil (h.2 a ha).1⟩
theorem zpo (env:Env) (a1 a8:Addr) (he:ChEnv env a1 a8) (c:ChD) (hn:c.states.length<=1000000) (i:Nat) (s:StD) (hs:c.states[i]? =some s) (hf:zlw s):Con prog env 172 [.agg (chAV c),I i] (B (zbm c i s)):=by
 have hi:i<c.states.length:=(List.getElem?_eq_some_iff.1 hs).1;have k0:=nlt hi;have f1:=zb2 env s.name (zil hf.1);have f2:=zru env c s.name hn;have f3:=zmI env c i s hs;have f5:=zhm env a1 a8 he c s.inn (zeH hf.2.1).1 (zeH hf.2.1).2;have f6:=zhm env a1 a8 he c s.out (zeH hf.2.2).1 (zeH hf.2.2).2;unfold zbm;refine qf func172 call172 ntmps172 results172 ?_;cases e3:zbz c i s
 ·have F:=ai5 chAV.eq_1 k0 hs stAV.eq_1 e3;exact gz3 f1 f2 f3
 ·have f4:=zpp env c i s hs hn (zrp hi e3) (zil hf.2.1.1) (zil hf.2.2.1);have F:=ai5 chAV.eq_1 k0 hs stAV.eq_1 e3;exact gz6 f1 f2 f3 f4 f5 f6
theorem zhn {c:ChD} {nm:List UInt8} {j:Nat} {x:VarD} (h:newVar c nm j=true) (hx:c.vars[j]? =some x) (e:(x.name==nm)=false):newVar c nm (j+1)=true:=by
 unfold newVar at h |-;exact zbX h hx (by rw[e];rfl)
theorem zt3 (env:Env) (c:ChD) (hn:c.vars.length<=1000000) (i:Nat) (v:VarD) (hv:c.vars[i]? =some v) (hf:zhQ v):Con prog env 171 [.agg (chAV c),I i] (B (varB c i v)):=by
 have hi:i<c.vars.length:=(List.getElem?_eq_some_iff.1 hv).1;have k0:=nlt hi;have k9:(i:Int)<=(c.vars.length:Int):=by omega
 have f1:=zb2 env v.name (zil hf);have f2:=zbR env v.start;have hlen:(c.vars.take i).length=i:=by rw[List.length_take];omega
 refine qf func171 call171 ntmps171 results171 ?_;have F:=ai7 chAV.eq_1 k0 k9 hv zdW.eq_1 hlen Nat.sub_zero;repeat refine st ?_
 refine zab (D:=Nat) (fun j vs=>[(5, .loc 5 (vs 5) 0 0),(16,varsAV (c.vars.take i)),(17,I i),(18,I j)]) (fun _ _=>[(5,⟨2,[zdW v],110,false⟩)]) (fun j _ _=>j<=i/\newVar c v.name j=true) (fun j=>i-j) 0 ?_ ?_ ?_ ?_
 ·exact⟨Nat.zero_le _,rfl⟩
 ·exact qe
 ·exact qe
 rintro j ws esc ⟨hj,hall⟩;by_cases hlt:j<i
 ·obtain⟨x,hx,_⟩:=zak (show j<c.vars.length by omega);have hx':(c.vars.take i)[j]? =some x:=by rw[List.getElem?_take,if_pos hlt];exact hx
  have k1:=nlt hlt;have k2:=zaa hlt (by omega);cases e:(x.name==v.name)
  ·have F:=ai6 k1 k2 hx' hlen zdW.eq_1 e;repeat refine st ?_
   refine⟨j+1,⟨hlt,zhn hall hx e⟩,?_,?_,?_⟩
   ·exact qe
   ·exact qe
   ·omega
  ·rw[show varB c i v=false by unfold varB newVar;rw[zf7 (p:=fun x:VarD=> !(x.name==v.name)) hx' (by rw[e];rfl)];rfl];have F:=ai6 k1 k2 hx' hlen zdW.eq_1 e;repeat refine st ?_
   exact aR
 ·have k1: ¬(j:Int)< (i:Int):=by omega
  obtain rfl:j=i:=by omega
  have hr:varB c j v=(zbi v.name&& !(v.name == [100,97,116,97])&& !(v.name == [105,110])&&zai v.start):=by
   unfold varB zai;rw[hall];simp only[Bool.true_and,Bool.and_assoc]
  rw[hr];have F:=ai3 k1 zdW.eq_1 bneA;exact gz2 f1 f2
end
section
open Go.RowKit
theorem zrs (env:Env) (a1 a8:Addr) (he:ChEnv env a1 a8) (c:ChD) (t:TrD) (hf:zlv t):Con prog env 175 [.agg (chAV c), .agg (trAV t)] (B (zch c t)):=by
 have f1:=zmJ env c t.src;have f3:=zb2 env t.event (zil hf.1);have f4:=zkX env a1 a8 he c t.guard;have f5:=zhm env a1 a8 he c t.acts (zeH hf.2.2).1 (zeH hf.2.2).2;have f6:=zmJ env c t.target;have z1:=zcM t.guard;by_cases h1:0<=t.src
 case neg=>
  rw[show zch c t=false by unfold zch zav at_;rw[if_neg h1];rfl];refine qf func175 call175 ntmps175 results175 ?_;have F:=ai3 chAV.eq_1 trAV.eq_1 h1;repeat refine tz1 f1 ?_
  exact aR
 obtain⟨m,hm⟩:=zdR h1;by_cases h2:(m:Int)< (c.states.length:Int)
 case neg=>
  rw[show zch c t=false by unfold zch zav;rw[hm,zaM,List.getElem?_eq_none (by omega)];rfl];have hm':(t.src< (c.states.length:Int))=False:=by rw[hm];simpa using h2
  refine qf func175 call175 ntmps175 results175 ?_;have F:=ai4 chAV.eq_1 trAV.eq_1 h1 hm';repeat refine tz1 f1 ?_
  exact aR
 obtain⟨q,hq,_⟩:=zak (show m<c.states.length by omega);have f2:=zdE env q;have hr:zch c t=(zcW q&&((t.event == [])||zbi t.event)&&((t.guard == [])||zbQ t.guard c.vars.length c.states.length)&&zcZ c.vars.length c.states.length t.acts&&((t.target == -1)||(decide (0<=t.target)&&decide (t.target<c.states.length)))):=by unfold zch;rw[hm,zeD hq]
 rw[hr];rw[hm]at f1;refine qf func175 call175 ntmps175 results175 ?_;have F:=ai7 chAV.eq_1 trAV.eq_1 stAV.eq_1 hm h2 hq z1;exact gz6 f1 f2 f3 f4 f5 f6
end
section
open Go.RowKit
end
section
open Go.RowKit Go.ChangeShapes
theorem zpr (env:Env) (a1 a8:Addr) (he:ChEnv env a1 a8) (c:ChD) (hc:zeP c):Con prog env 117 [.agg (chAV c)] (zkb a1 a8 c):=
 zrv env a1 a8 he c hc (fun hn i v hv=>zt3 env c (by omega) i v hv (hc.2.1.2 v (List.mem_of_getElem? hv))) (fun hn i s hs=>zpo env a1 a8 he c (by omega) i s hs (hc.2.2.1.2 s (List.mem_of_getElem? hs))) (fun t ht=>zrs env a1 a8 he c t (hc.2.2.2.2 t ht))
end

end Go.Proofs.YtbpmkofnfgdegaaGreatDoor