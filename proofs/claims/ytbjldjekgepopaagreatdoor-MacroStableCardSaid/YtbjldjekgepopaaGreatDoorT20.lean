/- Memories, as the document checks them: the whole. -/
import Derived.Test.YtbjldjekgepopaaGreatDoorT19
set_option maxRecDepth 100000
set_option maxHeartbeats 16000000
set_option linter.unusedSimpArgs false
namespace Go.Proofs.YtbjldjekgepopaaGreatDoor
open Go.Proofs.Tryz
open Go.RowKit
section
theorem rZ (env:Env) (x:Int):Con prog env 330 [I x] (B false):=by
 have e1:(x==x)=true:=by simp
 refine qf func330 call330 ntmps330 results330 ?_;have F:=ai e1 i7;repeat refine st ?_
 exact aR
theorem Ev (env:Env) (x y:Int):Con prog env 307 [I x,I y] (B (decide (x<y))):=by
 have f0:=rZ env x;have f1:=rZ env y;by_cases h:x<y
 ·rw[LC h];refine qf func307 call307 ntmps307 results307 ?_;have F:=h;repeat refine tz2 f0 f1 ?_
  exact aR
 ·rw[Ky h];refine qf func307 call307 ntmps307 results307 ?_;have F:=h;repeat refine tz2 f0 f1 ?_
  exact aR
theorem yH {l:List Int} {n:Nat} (h: ∀j,n<=j->j<l.length->ij l j=true) (hn:n<=1):ia l=true:=by
 unfold ia;rw[K2];intro j hj;have hj:=Kr.1 hj;by_cases h0:n<=j
 ·exact h j h0 hj
 ·obtain rfl:j=0:=by omega
  rfl
theorem Ap {l:List Int} {j:Nat} (hj:j<l.length) (h:ij l j=false):ia l=false:=by
 unfold ia;rw[M9];exact⟨j,Kr.2 hj,by rw[h];simp⟩
theorem wH (env:Env) (l:List Int) (hl:l.length<=9223372036854775807):Con prog env 271 [.seq 1 (l.map intAV)] (B (ia l)):=by
 have w0:IntKind.i64.wrap ((l.length:Int)-1)=(l.length:Int)-1:=NG _ (by omega);refine qf func271 call271 ntmps271 results271 ?_;have F:=w0;repeat refine st ?_
 refine aK (D:=Nat) (fun j vs=>[(0, .seq 1 (l.map intAV)),(3,I ((l.length:Int)-1-(j:Int)))]) (fun _ _=>[]) (fun j _ _=>j<=l.length/\ ∀m,l.length-j<=m->m<l.length->ij l m=true) (fun j=>l.length-j) 0 ?_ ?_ ?_ ?_
 ·exact⟨Ke _,fun m h1 h2=>absurd h2 (by omega)⟩
 ·have F:=Int.sub_zero
  (simp only[go_sem,F])
  try rfl
 ·(simp only[go_sem,Int.sub_zero])
  try rfl
 rintro j ws esc ⟨hj,hall⟩;by_cases hlt:0< (l.length:Int)-1-(j:Int)
 ·have hi: ∃i:Nat,(l.length:Int)-1-(j:Int)=(i:Int)/\i+j+1=l.length:=⟨l.length-1-j,by omega,by omega⟩;obtain⟨i,e1,e2⟩:=hi;have h1:i<l.length:=by omega
  have h2:i-1<l.length:=by omega
  have x1:l[i]? =some (l.getD i 0):=by rw[Ko,KV h1];rfl
  have x2:l[i-1]? =some (l.getD (i-1) 0):=by rw[Ko,KV h2];rfl
  have e3:IntKind.i64.wrap ((i:Int)-1)=((i-1:Nat):Int):=by rw[NG _ (by omega)];omega
  have q1:(0:Int)< (i:Int):=by omega
  have q2:(i:Int)< (l.length:Int):=by omega
  have q3:((i-1:Nat):Int)< (l.length:Int):=by omega
  have hd:ij l i=decide (¬l.getD i 0<l.getD (i-1) 0):=by
   unfold ij;rw[show (i==0)=false by simp;omega,Lu]
  rw[e1];generalize hX:l.getD i 0=X at*;generalize hY:l.getD (i-1) 0=Y at*;have f0:=Ev env X Y;by_cases hb:X<Y
  ·rw[LC hb]at f0;rw[Ap h1 (by rw[hd,Ky (by simpa using hb)])];have F:=ai6 q1 q2 q3 x1 x2 e3;repeat refine tz1 f0 ?_
   exact aR
  ·rw[Ky hb]at f0;have e4:(l.length:Int)-1-((j+1:Nat):Int)=((i-1:Nat):Int):=by omega
   have F:=ai6 q1 q2 q3 x1 x2 e3;repeat refine tz1 f0 ?_
   refine⟨j+1,⟨by omega,fun m g1 g2=> ?_⟩,?_,?_,by omega⟩
   ·by_cases hm:m=i
    ·rw[hm,hd,LC hb]
    ·exact hall m (by omega) g2
   ·have F:=e4;exact qe
   ·(simp only[go_sem,e4])
 ·rw[yH (n:=l.length-j) hall (by omega)];have F:=hlt;repeat refine st ?_
  exact aR
theorem CF (env:Env) (c:ChD) (h:Full c) (hs:Small c) (parent:Int) (l:List Int) (hl:l.length<=1000000) (hz: ∀x∈l,inZ c x=true):Con prog env 275 [aC c,I parent, .seq 1 (l.map intAV)] (B (l.all (cH c l))):=by
 have f0:=ak env c hs;unfold aC at f0 |-;refine qf func275 call275 ntmps275 results275 ?_;have F:=aA.eq_1;repeat refine tz1 f0 ?_
 have F:=aA.eq_1;refine lq l.length (by omega) (fun j vs=>[(0, .ref 9 [tabCells c] 0 0),(2, .seq 1 (l.map intAV)),(7, .loc 7 (vs 7) 0 0),(16, .seq 1 (l.map intAV)),(17,I l.length),(18,I j)]) (fun _ _=>[(7,⟨5,[aA c],26,false⟩)]) (fun j _ _=> ∀m (y:Int),m<j->l[m]? =some y->cH c l y=true) (fun m y hm=>absurd hm (by omega)) ?_ ?_
 ·rintro j ws esc hlt q1 q2 hall;obtain⟨x,hx⟩:=gE hlt;have hxl:=K1 hx;obtain⟨k,s,rfl,hsk,hat⟩:=dD (hz x hxl);have hk:=(KW.1 hsk).1;have q3:((k:Nat):Int)< (c.states.length:Int):=by omega
  have f1:=bN env c h k;rw[K0 (.inr (hz _ hxl))]at f1;have hcv:cH c l (k:Int)= !(((s.kind==1)&&decide (1<manyI l (kidsL c k true)))||((s.kind==4)||(s.kind==5))):=by unfold cH;rw[hat]
  have hK:=bV h.toRight k true;have hlen:=h.few;unfold aC at f1;generalize kidsL c (k:Int) true=K at*;have F:=ai3 hx q1 q2;repeat refine tz1 f1 ?_
  refine aK (D:=Nat) (fun m vs=>[(0, .ref 9 [tabCells c] 0 0),(2, .seq 1 (l.map intAV)),(7, .loc 7 (vs 7) 0 0),(9,I k),(10,I (manyI l (K.take m):Nat)),(16, .seq 1 (l.map intAV)),(17,I l.length),(18,I j),(24, .row 24 (vs 24)),(25,I K.length),(26,I m)]) (fun _ _=>[(7,⟨5,[aA c],26,false⟩),(24,⟨1,K.map aB,3,true⟩)]) (fun m _ _=>m<=K.length) (fun m=>K.length-m) 0 ?_ ?_ ?_ ?_
  ·exact Ke _
  ·(simp only[go_sem,F])
   try rfl
  ·have F:=aA.eq_1
   (simp only[go_sem,F])
   try rfl
  rintro m us es hm;by_cases hml:m<K.length
  ·obtain⟨y,hy⟩:=gE hml;have p1:=nlt hml;have p2:=aD hml (by omega);have f2:=bA env l (y:Int) hl;have hmt:=wo (act:=l) hy;have hle:=wq l (K.take m);rw[Kf]at hle;have p3:=aD (show manyI l (K.take m)<K.length by omega) (by omega);cases hb:l.contains (y:Int) with
   | true=>
     rw[hb]at f2 hmt;rw[K0 rfl]at hmt;have F:=ai5 aB.eq_1 hy p1 p2 p3;repeat refine tz1 f2 ?_
     refine⟨m+1,hml,?_,?_,by omega⟩
     ·have F:=hmt;exact qe
     ·have F:=aA.eq_1;exact qe
   | false=>
     rw[hb]at f2 hmt;rw[KZ LY,Md]at hmt;have F:=ai4 aB.eq_1 hy p1 p2;repeat refine tz1 f2 ?_
     refine⟨m+1,hml,?_,?_,by omega⟩
     ·have F:=hmt;exact qe
     ·have F:=aA.eq_1;exact qe
  ·obtain rfl:m=K.length:=by omega
   have p1:=nl K.length;rw[Kp];generalize manyI l K=N at*;cases hC:cH c l (k:Int) with
   | false=>
     rw[show l.all (cH c l)=false from M9.2 ⟨_,hxl,by rw[hC];simp⟩];cases h1:(s.kind==1)<;>cases h4:(s.kind==4)<;>cases h5:(s.kind==5)<;>by_cases hn:(1:Int)< (N:Int)
     all_goals first
      |(exfalso;have hn':(1<N)=((1:Int)< (N:Int)):=(by simp;omega);simp[hcv,h1,h4,h5,hn',hn]at hC;done)
      |skip
     all_goals
      have F:=ai9 aA.eq_1 aL.eq_1 hsk p1 q3 h1 h4 h5 hn;repeat refine st ?_
      exact aR
   | true=>
     cases h1:(s.kind==1)<;>cases h4:(s.kind==4)<;>cases h5:(s.kind==5)<;>by_cases hn:(1:Int)< (N:Int)
     all_goals first
      |(exfalso;have hn':(1<N)=((1:Int)< (N:Int)):=(by simp;omega);simp[hcv,h1,h4,h5,hn',hn]at hC;done)
      |skip
     all_goals
      have F:=ai10 aA.eq_1 aL.eq_1 hsk p1 q2 q3 h1 h4 h5 hn;repeat refine st ?_
      refine⟨j+1,⟨hlt,fun m y hm hy=> ?_⟩,?_,?_,by omega⟩
      ·rcases Lh.1 hm with e|e
       ·exact hall m y e hy
       ·rw[e,hx]at hy;cases hy;exact hC
      ·exact qe
      ·have F:=aA.eq_1;exact qe
 ·rintro ws esc q1 hall
  rw[show l.all (cH c l)=true from K2.2 fun y hy=>by
   obtain⟨m,hm⟩:=Lw.1 hy
   exact hall m y (KW.1 hm).1 hm]
  have F:=q1;repeat refine st ?_
  exact aR
end
section
theorem CI (env:Env) (es:List (List AV)) (hl:Fits es.length 8):Con prog env 82 [.seq 1 es] (.own 3 1 es):=by
 cases es with
 |nil=>exact dC env [] (by simp)
 | cons d l=>
   have g1:Fits ((l.length+1)) 8:=by simpa using hl
   refine qf func82 call82 ntmps82 results82 ?_;have F:=g1;repeat refine st ?_
   exact aR
theorem HJ {c:ChD} (h:Full c) {parent:Int} (hp:al c parent=true) {l:List Int} (hr:fP l=true) (hz: ∀x∈l,aboveB c parent x=true):(∀x∈l,inZ c x=true)/\(deepA c parent l).Nodup/\(∀x∈deepA c parent l,inZ c x=true)/\l.length<=32:=by
 have hin: ∀x∈l,inZ c x=true:=fun x hx=>aU (hz x hx);obtain⟨un,um⟩:=iV (c:=c) (d:=parent) (l:=l);obtain⟨sp,hsp,_⟩:=gK hp
 have hpz:inZ c parent=true:=by
  unfold at_ at hsp;split at hsp
  ·rename_i h0;have:=(KW.1 hsp).1;exact aI.2 ⟨h0,by omega⟩
  ·cases hsp
 have habove: ∀x∈upsL c l parent,aboveB c parent x=true:=fun x hx=>by
  rcases (um x).1 hx with hx|⟨_,_,_,_,hx⟩
  ·exact hz x hx
  ·exact hx
 have hnp:parent∉upsL c l parent:=fun hh=>by
  have:=habove _ hh;unfold aboveB at this;have:=(jg h.toRight 40 parent parent (K3.1 this)).2;omega
 refine⟨hin,?_,fun x hx=> ?_,?_⟩
 ·unfold deepA;rw[ML];refine⟨un,by simp,fun x hx y hy e=> ?_⟩;rw[Km.1 hy]at e;rw[e]at hx;exact hnp hx
 ·unfold deepA at hx;rcases Kt.1 hx with hx|hx
  ·exact aU (habove x hx)
  ·rw[Km.1 hx];exact hpz
 ·have:=gN (j5 hr) hin;have:=h.toRight.few;omega
theorem HH (env:Env) (c:ChD) (h:Full c) (hs:Small c) (parent:Int) (hp:al c parent=true) (l:List Int) (hF:Fits l.length 8):Con prog env 218 [aC c,I parent, .seq 1 (l.map intAV)] (B (deepB c parent l)):=by
 have hl63:l.length<=9223372036854775807:=hF.2;have f0:=wH env l hl63;have f1:=CI env (l.map intAV) (by rw[Kl];exact hF);have g1:=CB l hl63;have hro:=IQ l;unfold deepB;cases he:l with
 | nil=>
   rw[show fP []=false from rfl,LF,LF,LF];unfold aC;refine qf func218 call218 ntmps218 results218 ?_;repeat refine st0 ?_
   exact aR0
 |cons d0 l0=>
 rw[<-he];have hemp:l.isEmpty=false:=by rw[he];rfl
 have b0:((l.length:Int)==0)=false:=by rw[he];simp;omega
 rw[hemp,Li,LK]at hro;cases hso:ia l with
 | false=>
   rw[hso,LF]at hro;rw[hso]at f0;rw[<-hro,LF,LF,LF];unfold aC;refine qf func218 call218 ntmps218 results218 ?_;have F:=b0;repeat refine tz1 f0 ?_
   exact aR
 |true=>
 rw[hso,LK]at hro;rw[hso]at f0;by_cases hcl:(Lib.compact l).length=l.length
 ·rw[LC hcl]at hro;have b1:(((Lib.compact l).length:Int)==(l.length:Int))=true:=by simp[hcl]
  rw[<-hro,LK];have f2:=fun k:Int=>eX env c h.toRight parent k;have f3:=bD env c;unfold aP at f2 f3;have fr:=fun(k:Int)=>bN env c h k;unfold aC at f3 fr |-;refine qf func218 call218 ntmps218 results218 ?_;have F:=b0;repeat refine tz2 f0 f1 ?_
  refine tN 21 rfl (row:=⟨1,l.map intAV,3,true⟩) g1 (LG 0) rfl (bd _).symm (by simp only[go_sem];exact iR) (by simp only[go_sem];exact iR) (by simp only[go_sem];exact iR) (by simp only[go_sem];exact iR) iR ?_;rw[bd];have F:=ai3 b0 b1 i7;repeat refine st ?_
  refine lq l.length (by omega) (fun j vs=>[(0, .ref 9 [tabCells c] 0 0),(1,I parent),(2, .seq 1 (l.map intAV)),(28, .seq 1 (l.map intAV)),(29,I l.length),(30,I j)]) (fun _ _=>[]) (fun j _ _=> ∀m (y:Int),m<j->l[m]? =some y->d9 c parent y=true) (fun m y hm=>absurd hm (by omega)) ?_ ?_
  ·rintro j ws esc hlt q1 q2 hall;obtain⟨x,hx⟩:=gE hlt;have hxl:=K1 hx;have e2:=f2 x;have e4:=fr x;have bad:d9 c parent x=false->(l.all (d9 c parent))=false:=fun hb=>M9.2 ⟨_,hxl,by rw[hb];simp⟩;cases ha:aboveB c parent x with
   | false=>
     rw[bad (by unfold d9;rw[ha];rfl),LF,LF];rw[ha]at e2;have F:=ai hx q1;repeat refine tz2 f3 e2 ?_
     exact aR
   | true=>
     rw[ha]at e2;rw[K0 (.inr (aU ha))]at e4;cases hk:(kidsL c x true).isEmpty with
     | false=>
       rw[bad (by unfold d9;rw[ha,hk];rfl),LF,LF]
       have q3:(0:Int)< ((kidsL c x true).length:Int):=by
        cases hkk:kidsL c x true with
        |nil=>rw[hkk]at hk;cases hk
        |cons a b=>simp
       generalize kidsL c x true=K at*;have F:=ai3 hx q1 q3;repeat refine tz3 f3 e2 e4 ?_
       exact aR
     | true=>
       have q3: ¬(0:Int)< ((kidsL c x true).length:Int):=by
        rw[List.isEmpty_iff.1 hk];simp
       have hlf:d9 c parent x=true:=by unfold d9;rw[ha,hk];rfl
       generalize kidsL c x true=K at*;have F:=ai4 hx q1 q2 q3;repeat refine tz3 f3 e2 e4 ?_
       refine⟨j+1,⟨hlt,fun m y hm hy=> ?_⟩,?_,?_,by omega⟩
       ·rcases Lh.1 hm with e|e
        ·exact hall m y e hy
        ·rw[e,hx]at hy;cases hy;exact hlf
       ·exact qe
       ·exact qe
  ·rintro ws esc q1 hall
   have hleaf:l.all (d9 c parent)=true:=K2.2 fun y hy=>by
    obtain⟨m,hm⟩:=Lw.1 hy;exact hall m y (KW.1 hm).1 hm
   have hz: ∀x∈l,aboveB c parent x=true:=fun x hx=>by
    have:=K2.1 hleaf x hx;unfold d9 at this;rw[KY]at this;exact this.1
   obtain⟨k1,k2,k3,k4⟩:=HJ h hp hro.symm hz;have f5:=H4 env c h.toRight l (by omega) k1 parent;have f6:=zm env c h hs (deepA c parent l) k2 k3;have hgl:=zl h k2 k3;have f7:=CF env c h hs parent (growL c (deepA c parent l)) (by omega) fun x hx=>((fX h k2).1 hx).in h k3
   have hul:(upsL c l parent).length<=32:=by
    have:=gN k2 k3;unfold deepA at this;rw[K4]at this;have:=h.toRight.few;omega
   have hf:Fits ((upsL c l parent).length+1) 8:=aG (by omega) (by omega);have hA:(deepA c parent l).map intAV=(upsL c l parent).map intAV++[[I parent]]:=by unfold deepA;rw[Ki];rfl
   have hAl:(deepA c parent l).length=(upsL c l parent).length+1:=by unfold deepA;simp
   rw[hleaf,LK];rw[hA]at f6;rw[hAl];unfold aC at f5 f6 f7;generalize growL c (deepA c parent l)=G at*;generalize upsL c l parent=U at*;by_cases hg:G.length=U.length+1
   ·have b2:((G.length:Int)==((U.length+1:Nat):Int))=true:=by simp[hg]
    rw[LC hg,LK];have F:=ai3 q1 hf b2;repeat refine tz3 f5 f6 f7 ?_
    exact aR
   ·have b2:((G.length:Int)==((U.length+1:Nat):Int))=false:=by simp;omega
    rw[Ky hg,LF];have F:=ai3 q1 hf b2;repeat refine tz2 f5 f6 ?_
    exact aR
 ·rw[Ky hcl]at hro;have b1:(((Lib.compact l).length:Int)==(l.length:Int))=false:=by simp;omega
  rw[<-hro,LF,LF,LF];unfold aC;refine qf func218 call218 ntmps218 results218 ?_;have F:=b0;repeat refine tz2 f0 f1 ?_
  refine tN 21 rfl (row:=⟨1,l.map intAV,3,true⟩) g1 (LG 0) rfl (bd _).symm (by simp only[go_sem];exact iR) (by simp only[go_sem];exact iR) (by simp only[go_sem];exact iR) (by simp only[go_sem];exact iR) iR ?_;rw[bd];have F:=ai3 b0 b1 i7;repeat refine st ?_
  exact aR
end
section
theorem rL {c:ChD} (h:Full c) {k:Nat} {s:StD} (hs:c.states[k]? =some s) (h45:s.kind=4\/s.kind=5):al c s.parent=true/\inZ c s.parent=true:=by
 have hpl:cS c s=true:=by
  rcases h.cases hs with⟨e,_⟩|⟨e,_⟩|⟨e,_⟩|⟨_,_,e,_⟩
  ·omega
  ·omega
  ·omega
  ·exact e
 unfold cS at hpl;cases ha:at_ c s.parent with
 |none=>rw[ha]at hpl;cases hpl
 | some p=>
   rw[ha]at hpl;refine⟨?_,?_⟩
   ·unfold al;rw[ha];unfold dw;simp only at hpl |-;rw[hpl];rfl
   ·unfold at_ at ha;split at ha
    ·rename_i h0;have:=(KW.1 ha).1;exact aI.2 ⟨h0,by omega⟩
    ·cases ha
theorem Hx {c:ChD} {i:Int} (h:inZ c i=false):at_ c i=none:=by
 unfold at_;split
 ·rename_i h0;refine K7 ?_;have: ¬(0<=i/\i< (c.states.length:Int)):=fun q=>by rw[aI.2 q]at h;cases h
  omega
 ·rfl
theorem BV (env:Env) (c:ChD) (h:Full c) (hs:Small c) (m:MemD) (hF:Fits m.2.length 8):Con prog env 148 [aC c, .agg (mmAV m)] (B (kP c m)):=by
 obtain⟨i,l⟩:=m;have hF:Fits l.length 8:=hF;have f0:=ak env c hs;unfold kP mmAV;simp only;cases hz:inZ c i with
 | false=>
   rw[Hx hz];simp only;unfold aC at f0 |-;by_cases h0:i<0
   ·refine qf func148 call148 ntmps148 results148 ?_;have F:=ai aA.eq_1 h0;repeat refine tz1 f0 ?_
    exact aR
   ·have h1:(c.states.length:Int)<=i:=by
     have: ¬(0<=i/\i< (c.states.length:Int)):=fun q=>by rw[aI.2 q]at hz;cases hz
     omega
    refine qf func148 call148 ntmps148 results148 ?_;have F:=ai3 aA.eq_1 h0 h1;repeat refine tz1 f0 ?_
    exact aR
 |true=>
 obtain⟨k,s,rfl,hsk,hat⟩:=dD hz;have hk:=(KW.1 hsk).1;have q1: ¬(k:Int)<0:=by omega
 have q2: ¬(c.states.length:Int)<=(k:Int):=by omega
 have q3:((k:Nat):Int)< (c.states.length:Int):=by omega
 rw[hat];simp only;have hlen:=h.few;by_cases h4:s.kind=4
 ·rw[K0 h4];have b4:(s.kind==4)=true:=by simp[h4]
  obtain⟨p1,p2⟩:=rL h hsk (.inl h4);have f2:=bN env c h s.parent;rw[K0 (.inr p2), <-eB]at f2;have hK:=bV h.toRight s.parent true;by_cases h1:l.length=1
  ·obtain⟨y,rfl⟩: ∃y,l=[y]:=NY.1 h1;have f3:=bA env (zL (kidsL c s.parent true)) y (by rw[bg];omega);show Con _ _ _ _ (B ((zL (kidsL c s.parent true)).contains y));generalize zL (kidsL c s.parent true)=Z at*;unfold aC at f0 f2 |-;refine qf func148 call148 ntmps148 results148 ?_;have F:=ai7 aA.eq_1 aL.eq_1 hsk q1 q2 q3 b4;repeat refine tz3 f0 f2 f3 ?_
   exact aR
  ·have b1:((l.length:Int)==1)=false:=by simp;omega
   rw[Ky h1,LF];unfold aC at f0 |-;refine qf func148 call148 ntmps148 results148 ?_;have F:=ai8 aA.eq_1 aL.eq_1 hsk q1 q2 q3 b4 b1;repeat refine tz1 f0 ?_
   exact aR
 ·rw[KZ h4];have b4:(s.kind==4)=false:=by simpa using h4
  cases b5:(s.kind==5) with
  | false=>
    rw[LF];unfold aC at f0 |-;refine qf func148 call148 ntmps148 results148 ?_;have F:=ai8 aA.eq_1 aL.eq_1 hsk q1 q2 q3 b4 b5;repeat refine tz1 f0 ?_
    exact aR
  | true=>
    rw[LK];obtain⟨p1,p2⟩:=rL h hsk (.inr (by simpa using b5));have f2:=HH env c h hs s.parent p1 l hF;unfold aC at f0 f2 |-;generalize deepB c s.parent l=D at*;refine qf func148 call148 ntmps148 results148 ?_;have F:=ai8 aA.eq_1 aL.eq_1 hsk q1 q2 q3 b4 b5;repeat refine tz2 f0 f2 ?_
    exact aR
def Hr (a1:Addr) (c:ChD) (mem:List MemD):AV:=if bY c mem=true then nilE else errV (-1) (sentV a1)
theorem nK {c:ChD} {mem:List MemD} {j:Nat} (hj:j<mem.length) (h:ll c mem j=false):bY c mem=false:=by
 unfold bY;rw[M9];exact⟨j,Kr.2 hj,by rw[h];simp⟩
theorem uh {c:ChD} {mem:List MemD} (h: ∀j,j<mem.length->ll c mem j=true):bY c mem=true:=by
 unfold bY;rw[K2];exact fun j hj=>h j (Kr.1 hj)
theorem ot (env:Env) (a1 a8:Addr) (he:ChEnv env a1 a8) (c:ChD) (h:Full c) (hs:Small c) (mem:List MemD) (hl:mem.length<=1000000) (hF: ∀m∈mem,Fits m.2.length 8):Con prog env 89 [aC c,memsAV mem] (Hr a1 c mem):=by
 have ff:=Bi env a1 a8 he [101,110,116,101,114,46,67,104,101,99,107];unfold Hr;generalize sentV a1=E at*;unfold aC;refine qf func89 call89 ntmps89 results89 ?_;repeat refine st0 ?_
 refine lq0 mem.length (by omega) (fun j vs=>[(0, .ref 9 [tabCells c] 0 0),(1,memsAV mem),(11,memsAV mem),(12,I mem.length),(13,I j)]) (fun _ _=>[]) (fun j _ _=> ∀m,m<j->ll c mem m=true) (fun m hm=>absurd hm (by omega)) ?_ ?_
 ·rintro j ws esc hlt q1 q2 hall;obtain⟨x,hx⟩:=gE hlt;have f1:=BV env c h hs x (hF x (K1 hx));have hat:ll c mem j=(kP c x&&((j==0)||decide ((mem.getD (j-1) (0,[])).1<x.1))):=by unfold ll;rw[hx]
  unfold aC mmAV at f1;cases hb:kP c x with
  | false=>
    rw[hb]at f1;rw[KZ (by rw[nK hlt (by rw[hat,hb];rfl)];simp)];have F:=ai3 mmAV.eq_1 hx q1;repeat refine tz2 f1 ff ?_
    exact aR
  | true=>
    rw[hb]at f1;rw[hb,LK]at hat;by_cases h0:j=0
    ·have g0: ¬(0:Int)< (j:Int):=by omega
     have F:=ai5 mmAV.eq_1 hx q1 q2 g0;repeat refine tz1 f1 ?_
     refine⟨j+1,⟨hlt,fun m hm=> ?_⟩,?_,?_,by omega⟩
     ·obtain rfl:m=j:=by omega
      rw[hat,h0];rfl
     ·exact qe
     ·exact qe
    ·obtain⟨i,rfl⟩: ∃i,j=i+1:=⟨j-1,by omega⟩;obtain⟨p,hp⟩: ∃p,mem[i]? =some p:=⟨mem[i]'(by omega),KV (by omega)⟩;have g0:(0:Int)< ((i+1:Nat):Int):=by omega
     have g1:IntKind.i64.wrap (((i+1:Nat):Int)-1)=(i:Int):=by rw[NG _ (by omega)];omega
     have g2:((i:Nat):Int)< (mem.length:Int):=by omega
     have hgd:mem.getD (i+1-1) (0,[])=p:=by rw[Ms,Ko,hp];rfl
     rw[hgd]at hat;by_cases hlt2:x.1<=p.1
     ·rw[KZ (by rw[nK hlt (by rw[hat,Ky (by omega)];rfl)];simp)];have F:=ai8 mmAV.eq_1 hx hp q1 g0 g1 g2 hlt2;repeat refine tz2 f1 ff ?_
      exact aR
     ·have F:=ai9 mmAV.eq_1 hx hp q1 q2 g0 g1 g2 hlt2;repeat refine tz1 f1 ?_
      refine⟨i+1+1,⟨hlt,fun m hm=> ?_⟩,?_,?_,by omega⟩
      ·rcases Lh.1 hm with e|e
       ·exact hall m e
       ·rw[e,hat,LC (by omega)];simp
      ·exact qe
      ·exact qe
 ·rintro ws esc q1 hall;rw[K0 (uh hall)];have F:=q1;repeat refine st ?_
  exact aR
end
section
theorem GL {l:List Int} {j:Nat} (hj:j<l.length) (h:upB l j=false):fP l=false:=by
 unfold fP;rw[Bool.and_eq_false_iff];right;rw[M9];exact⟨j,Kr.2 hj,by rw[h];simp⟩
theorem GK {l:List Int} (h: ∀j,j<l.length->upB l j=true):fP l=decide ((0:Int)< (l.length:Int)):=by
 unfold fP;rw[K2.2 fun j hj=>h j (Kr.1 hj),Oj];cases l with
 |nil=>rfl
 |cons a b=>rw[LC (by simp only[Kj];omega)];rfl
theorem yP (env:Env) (l:List Int) (hl:l.length<=9223372036854775807):Con prog env 229 [.seq 1 (l.map intAV)] (B (fP l)):=by
 refine qf func229 call229 ntmps229 results229 ?_;repeat refine st0 ?_
 refine aK (D:=Nat) (fun j vs=>[(0, .seq 1 (l.map intAV)),(3,I ((j+1:Nat):Int))]) (fun _ _=>[]) (fun j _ _=>j<=l.length/\ ∀m,m<=j->m<l.length->upB l m=true) (fun j=>l.length-j) 0 ?_ ?_ ?_ ?_
 ·refine⟨Ke _,fun m h1 _=> ?_⟩;obtain rfl:m=0:=by omega
  rfl
 ·(simp only[go_sem])
  try rfl
 ·(simp only[go_sem])
  try rfl
 rintro j ws esc ⟨hj,hall⟩;by_cases hlt:j+1<l.length
 ·have h1:j<l.length:=by omega
  have x1:l[j+1]? =some (l.getD (j+1) 0):=by rw[Ko,KV hlt];rfl
  have x2:l[j]? =some (l.getD j 0):=by rw[Ko,KV h1];rfl
  have e3:IntKind.i64.wrap (((j+1:Nat):Int)-1)=(j:Int):=by rw[NG _ (by omega)];omega
  have q1:((j+1:Nat):Int)< (l.length:Int):=by omega
  have q2:((j:Nat):Int)< (l.length:Int):=by omega
  have q3:=aD hlt (by omega)
  have hd:upB l (j+1)=decide (l.getD j 0<l.getD (j+1) 0):=by
   unfold upB;rw[show (j+1==0)=false by simp,Lu,Ms]
  generalize hX:l.getD (j+1) 0=X at*;generalize hY:l.getD j 0=Y at*;by_cases hb:X<=Y
  ·rw[GL hlt (by rw[hd,Ky (by omega)])];have F:=ai6 q1 q2 x1 x2 e3 hb;repeat refine st ?_
   exact aR
  ·have F:=ai7 q1 q2 q3 x1 x2 e3 hb;repeat refine st ?_
   refine⟨j+1,⟨by omega,fun m g1 g2=> ?_⟩,?_,?_,by omega⟩
   ·by_cases hm:m=j+1
    ·rw[hm,hd,LC (by omega)]
    ·exact hall m (by omega) g2
   ·exact qe
   ·exact qe
 ·have q1: ¬((j+1:Nat):Int)< (l.length:Int):=by omega
  rw[GK fun m hm=>hall m (by omega) hm];have F:=q1;repeat refine st ?_
  exact aR
def jh (c:ChD) (l:List Int) (d:Int) (j:Nat):List Nat:=(List.range j).filter (pr c l d)
theorem yT (c:ChD) (l:List Int) (d:Int) (j:Nat):jh c l d (j+1)=if pr c l d j then jh c l d j++[j] else jh c l d j:=by
 unfold jh;rw[NB,LL];cases hb:pr c l d j<;>simp[hb]
def pathIn (c:ChD) (l:List Int) (d:Int) (i:Nat) (m:Nat):Bool:=l.contains (i:Int)||(l.take m).any fun k=>aboveB c i k&&aboveB c d i
theorem yU {c:ChD} {l:List Int} {d:Int} {i m:Nat} {y:Int} (h:l[m]? =some y):pathIn c l d i (m+1)=(pathIn c l d i m||(aboveB c i y&&aboveB c d i)):=by
 unfold pathIn;rw[Kv,h,List.any_append];simp only[Nx,Mv,OJ,Bool.or_false,Bool.or_assoc]
theorem E4 (env:Env) (c:ChD) (hc:Right c) (l:List Int) (hl:l.length<=1000000) (d:Int):Con prog env 231 [.agg (aA c), .seq 1 (l.map intAV),I d] (.own 3 1 ((pathL c l d).map aB)):=by
 have hlen:=hc.few;have fA:=fun(k i:Int)=>mO env c hc k i;unfold aA at fA;refine qf func231 call231 ntmps231 results231 ?_;have F:=aA.eq_1;repeat refine st ?_
 have F:=aA.eq_1;refine lq c.states.length (by omega) (fun j vs=>[(1, .seq 1 (l.map intAV)),(2,I d),(3, .loc 3 (vs 3) 0 0),(7, .row 11 (vs 11)),(8,I j)]) (fun j _=>[(3,⟨5,[aA c],26,false⟩),(11,⟨1,(jh c l d j).map aB,3,true⟩)]) (fun j _ esc=>esc 11=false) rfl ?_ ?_
 ·rintro j ws esc hlt q1 q2 e0;have f0:=kN env l (j:Int) hl;have hp:=yT c l d j;have hpl:(jh c l d j).length<=32:=Kh (Kw ..) (by simp;omega);have hf:Fits ((jh c l d j).length+1) 8:=aG (by omega) (by omega);have hpb:pr c l d j=pathIn c l d j l.length:=by unfold pr pathIn;rw[Kp]
  have z0:pathIn c l d j 0=l.contains (j:Int):=by unfold pathIn;simp
  generalize hPT:jh c l d j=PT at*;rw[<-z0]at f0;have F:=ai3 aA.eq_1 q1 e0;repeat refine tz1 f0 ?_
  have F:=aA.eq_1;refine lq l.length (by omega) (fun m vs=>[(1, .seq 1 (l.map intAV)),(2,I d),(3, .loc 3 (vs 3) 0 0),(7, .row 11 (vs 11)),(8,I j),(9,B (pathIn c l d j m)),(10,I m)]) (fun m _=>[(3,⟨5,[aA c],26,false⟩),(11,⟨1,PT.map aB,3,true⟩)]) (fun m _ esc=>esc 11=false) (by simp only[go_sem,e0]) ?_ ?_
  ·try clear e0
   rintro m us es hml p1 p2 e0;obtain⟨y,hy⟩:=gE hml;have hn:=yU (c:=c) (d:=d) (i:=j) hy;have g1:=fA (j:Int) y;have g2:=fA d (j:Int);generalize pathIn c l d j m=b at*;cases b with
   | true=>
     rw[MD]at hn;have F:=ai5 aA.eq_1 hy p1 p2 e0;repeat refine st ?_
     refine⟨m+1,⟨hml,by simp only[go_sem,e0]⟩,?_,?_,by omega⟩
     ·have F:=hn;exact qe
     ·have F:=aA.eq_1;exact qe
   | false=>
     rw[Lu]at hn;cases ha:aboveB c (j:Int) y with
     | false=>
       rw[ha]at g1;rw[ha,LF]at hn;have F:=ai5 aA.eq_1 hy p1 p2 e0;repeat refine tz1 g1 ?_
       refine⟨m+1,⟨hml,by simp only[go_sem,e0]⟩,?_,?_,by omega⟩
       ·have F:=hn;exact qe
       ·have F:=aA.eq_1;exact qe
     | true=>
       rw[ha]at g1;rw[ha,LK]at hn;have F:=ai5 aA.eq_1 hy p1 p2 e0;repeat refine tz2 g1 g2 ?_
       refine⟨m+1,⟨hml,by simp only[go_sem,e0]⟩,?_,?_,by omega⟩
       ·have F:=hn;exact qe
       ·have F:=aA.eq_1;exact qe
  ·try clear e0
   rintro us es p1 e0;rw[<-hpb];cases hb:pr c l d j with
   | true=>
     rw[hb]at hp;have F:=ai5 aA.eq_1 p1 q2 e0 hf;repeat refine st ?_
     refine⟨j+1,⟨hlt,by simp only[go_sem,e0]⟩,?_,?_,by omega⟩
     ·exact qe
     ·have F:=ai4 aA.eq_1 hp @Ki.{0,0} aB.eq_1;exact qe
   | false=>
     rw[hb]at hp;have F:=ai4 aA.eq_1 p1 q2 e0;repeat refine st ?_
     refine⟨j+1,⟨hlt,by simp only[go_sem,e0]⟩,?_,?_,by omega⟩
     ·exact qe
     ·have F:=ai aA.eq_1 hp;exact qe
 ·rintro ws esc q1 e0;rw[show pathL c l d=jh c l d c.states.length from rfl];have F:=ai3 aA.eq_1 q1 e0;repeat refine st ?_
  exact aR
end
section
theorem GT (c:ChD) (l:List Int) (d:Int):(pathL c l d).length<=c.states.length:=Kh (Kw ..) (by simp)
theorem F4 {c:ChD} {parent:Int} (hp:inZ c parent=true) (l:List Int): ∀x∈deepRA c parent l,inZ c x=true:=fun x hx=>by
 unfold deepRA at hx;rcases Kt.1 hx with hx|hx
 ·obtain⟨k,hk,rfl⟩:=K9.1 hx;exact aW.2 (Kr.1 (Kb.1 hk).1)
 ·rw[Km.1 hx];exact hp
theorem E7 (env:Env) (c:ChD) (h:Full c) (parent:Int) (hp:inZ c parent=true) (l:List Int) (hF:Fits l.length 8):Con prog env 164 [.agg (aA c),I parent, .seq 1 (l.map intAV)] (B (rz c parent l)):=by
 have hl63:l.length<=9223372036854775807:=hF.2;have f0:=yP env l hl63;have hlen:=h.few;have fA:=fun(i:Int)=>mO env c h.toRight parent i;have fK:=fun(i:Int)=>fF env c i true (by omega);have fM:=fun(s:StD)=>cu env s;unfold aA at fA fK;unfold aL at fM;unfold rz;cases hr:fP l with
 | false=>
   rw[hr]at f0;rw[LF,LF];refine qf func164 call164 ntmps164 results164 ?_;have F:=aA.eq_1;repeat refine tz1 f0 ?_
   exact aR
 |true=>
 rw[hr]at f0;rw[LK];refine qf func164 call164 ntmps164 results164 ?_;have F:=aA.eq_1;repeat refine tz1 f0 ?_
 refine aK (D:=Nat) (fun j vs=>[(1,I parent),(2, .seq 1 (l.map intAV)),(3, .loc 3 (vs 3) 0 0),(7,I j)]) (fun _ _=>[(3,⟨5,[aA c],26,false⟩)]) (fun j _ _=>j<=l.length/\ ∀m (y:Int),m<j->l[m]? =some y->cY c parent y=true) (fun j=>l.length-j) 0 ?_ ?_ ?_ ?_
 ·exact⟨Ke _,fun m y hm=>absurd hm (by omega)⟩
 ·(simp only[go_sem,F])
  try rfl
 ·have F:=aA.eq_1
  (simp only[go_sem,F])
  try rfl
 rintro j ws esc ⟨hj,hall⟩;by_cases hlt:j<l.length
 ·obtain⟨x,hx⟩:=gE hlt;have q1:=nlt hlt;have q2:=aD hlt (by omega);have hxl:=K1 hx;have bad:cY c parent x=false->(l.all (cY c parent))=false:=fun hb=>M9.2 ⟨_,hxl,by rw[hb];simp⟩;have e2:=fA x;cases ha:aboveB c parent x with
  | false=>
    rw[bad (by unfold cY;rw[ha];rfl),LF];rw[ha]at e2;have F:=ai3 aA.eq_1 hx q1;repeat refine tz1 e2 ?_
    exact aR
  | true=>
    rw[ha]at e2;obtain⟨k,s,rfl,hsk,hat⟩:=dD (aU ha);have hk:=(KW.1 hsk).1;have q3:((k:Nat):Int)< (c.states.length:Int):=by omega
    have e3:=fM s;have e4:=fK (k:Int);have hrl:cY c parent (k:Int)=(!aS s&&(kidsL c k true).isEmpty):=by unfold cY;rw[ha,hat,LK]
    cases hm:aS s with
    | true=>
      rw[bad (by rw[hrl,hm];rfl),LF];rw[hm]at e3;have F:=ai6 aA.eq_1 aL.eq_1 hx q1 q3 hsk;repeat refine tz2 e2 e3 ?_
      exact aR
    | false=>
      rw[hm]at e3 hrl;cases hkk:(kidsL c k true).isEmpty with
      | false=>
        rw[bad (by rw[hrl,hkk];rfl),LF]
        have q4:(0:Int)< ((kidsL c k true).length:Int):=by
         cases hh:kidsL c k true with
         |nil=>rw[hh]at hkk;cases hkk
         |cons a b=>simp
        generalize kidsL c (k:Int) true=K at*;have F:=ai7 aA.eq_1 aL.eq_1 hx q1 q3 q4 hsk;repeat refine tz3 e2 e3 e4 ?_
        exact aR
      | true=>
        rw[hkk]at hrl
        have q4: ¬(0:Int)< ((kidsL c k true).length:Int):=by
         rw[List.isEmpty_iff.1 hkk];simp
        generalize kidsL c (k:Int) true=K at*;have F:=ai8 aA.eq_1 aL.eq_1 hx q1 q2 q3 q4 hsk;repeat refine tz3 e2 e3 e4 ?_
        refine⟨j+1,⟨hlt,fun m y hm hy=> ?_⟩,?_,?_,by omega⟩
        ·rcases Lh.1 hm with e|e
         ·exact hall m y e hy
         ·rw[e,hx]at hy;cases hy;rw[hrl];rfl
        ·exact qe
        ·have F:=aA.eq_1;exact qe
 ·obtain rfl:j=l.length:=by omega
  have q1:=nl l.length
  have hleaf:l.all (cY c parent)=true:=K2.2 fun y hy=>by
   obtain⟨m,hm⟩:=Lw.1 hy;exact hall m y (KW.1 hm).1 hm
  have hz: ∀x∈l,inZ c x=true:=fun x hx=>by
   have:=K2.1 hleaf x hx;unfold cY at this;rw[KY,KY]at this;exact aU this.1.1
  have hl32:l.length<=32:=by
   have:=gN (j5 hr) hz;omega
  have f5:=E4 env c h.toRight l (by omega) parent;have hpl:=GT c l parent;have hf:Fits ((pathL c l parent).length+1) 8:=aG (by omega) (by omega);have hAin:=F4 hp l;have hA:(deepRA c parent l).map intAV=(pathL c l parent).map aB++[[I parent]]:=by unfold deepRA;rw[Ki,eB];rfl
  have hAl:(deepRA c parent l).length<=40:=by unfold deepRA;rw[K4,bg];simp;omega
  rw[hleaf,LK];unfold aA at f5;generalize deepRA c parent l=A at*;generalize pathL c l parent=U at*;try clear hall hleaf
  have F:=ai3 aA.eq_1 q1 hf;repeat refine tz1 f5 ?_
  have F:=ai aA.eq_1 hA;refine lq A.length (by omega) (fun j vs=>[(3, .loc 3 (vs 3) 0 0),(8, .row 53 (vs 53)),(9,I j)]) (fun _ _=>[(3,⟨5,[aA c],26,false⟩),(53,⟨1,A.map intAV,3,true⟩)]) (fun j _ _=> ∀m (y:Int),m<j->A[m]? =some y->cZ c A y=true) (fun m y hm=>absurd hm (by omega)) ?_ ?_
  ·try clear q1 hlt hj hf
   rintro j us es hlt q1 q2 hall;obtain⟨x,hx⟩:=gE hlt;have hxl:=K1 hx;obtain⟨k,s,rfl,hsk,hat⟩:=dD (hAin x hxl);have hk:=(KW.1 hsk).1;have q3:((k:Nat):Int)< (c.states.length:Int):=by omega
   have e4:=fK (k:Int);have hK:=bV h.toRight k true;have e5:=oP env A (kidsL c k true) (by omega) (by omega);have hcv:cZ c A (k:Int)= !(((s.kind==1)&&decide (manyI A (kidsL c k true)≠min (kidsL c k true).length 1))||((s.kind==2)&&decide (manyI A (kidsL c k true)≠(kidsL c k true).length))):=by unfold cZ;rw[hat]
   generalize kidsL c (k:Int) true=K at*;generalize manyI A K=N at*
   have g1:((N:Int) != if (1:Int)< (K.length:Int) then 1 else(K.length:Int))=decide (N≠min K.length 1):=by
    have e:(if (1:Int)< (K.length:Int) then(1:Int) else(K.length:Int))=((min K.length 1:Nat):Int):=by split<;>omega
    rw[e];by_cases hh:N=min K.length 1
    ·rw[Ky (by simp[hh]), <-hh];simp
    ·rw[LC hh];simp;omega
   have g2:((N:Int) != (K.length:Int))=decide (N≠K.length):=by
    by_cases hh:N=K.length
    ·rw[Ky (by simp[hh]), <-hh];simp
    ·rw[LC hh];simp;omega
   generalize decide (N≠min K.length 1)=v1 at*;generalize decide (N≠K.length)=v2 at*;cases hC:cZ c A (k:Int) with
   | false=>
     rw[show A.all (cZ c A)=false from M9.2 ⟨_,hxl,by rw[hC];simp⟩];cases h1:(s.kind==1)<;>cases h2:(s.kind==2)<;>cases v1<;>cases v2
     all_goals first
      |(exfalso;simp[hcv,h1,h2]at hC;done)
      |skip
     all_goals
      have F:=ai10 aA.eq_1 aL.eq_1 hx q1 q3 hsk h1 h2 g1 g2;repeat refine tz2 e4 e5 ?_
      exact aR
   | true=>
     cases h1:(s.kind==1)<;>cases h2:(s.kind==2)<;>cases v1<;>cases v2
     all_goals first
      |(exfalso;simp[hcv,h1,h2]at hC;done)
      |skip
     all_goals
      have F:=ai11 aA.eq_1 aL.eq_1 hx q1 q2 q3 hsk h1 h2 g1 g2;repeat refine tz2 e4 e5 ?_
      refine⟨j+1,⟨hlt,fun m y hm hy=> ?_⟩,?_,?_,by omega⟩
      ·rcases Lh.1 hm with e|e
       ·exact hall m y e hy
       ·rw[e,hx]at hy;cases hy;exact hC
      ·exact qe
      ·have F:=aA.eq_1;exact qe
  ·try clear q1 hlt hj hf
   rintro us es q1 hall
   rw[show A.all (cZ c A)=true from K2.2 fun y hy=>by
    obtain⟨m,hm⟩:=Lw.1 hy
    exact hall m y (KW.1 hm).1 hm]
   have F:=q1;repeat refine st ?_
   exact aR
end
section
theorem tc (env:Env) (c:ChD) (h:Full c) (m:MemD) (hF:Fits m.2.length 8):Con prog env 99 [.agg (aA c), .agg (mmAV m)] (B (kP c m)):=by
 obtain⟨i,l⟩:=m;have hF:Fits l.length 8:=hF;have f0:=wZ env c i;have hlen:=h.few;unfold aA at f0;unfold kP mmAV;simp only;cases hz:inZ c i with
 | false=>
   rw[Hx hz];rw[hz]at f0;simp only;refine qf func99 call99 ntmps99 results99 ?_;have F:=aA.eq_1;repeat refine tz1 f0 ?_
   exact aR
 |true=>
 rw[hz]at f0;obtain⟨k,s,rfl,hsk,hat⟩:=dD hz;have hk:=(KW.1 hsk).1;have q3:((k:Nat):Int)< (c.states.length:Int):=by omega
 rw[hat];simp only;by_cases h4:s.kind=4
 ·rw[K0 h4];have b4:(s.kind==4)=true:=by simp[h4]
  obtain⟨p1,p2⟩:=rL h hsk (.inl h4);have f2:=fF env c s.parent true (by omega);rw[<-eB]at f2;have hK:=bV h.toRight s.parent true;by_cases h1:l.length=1
  ·obtain⟨y,rfl⟩: ∃y,l=[y]:=NY.1 h1;have f3:=kN env (zL (kidsL c s.parent true)) y (by rw[bg];omega);show Con _ _ _ _ (B ((zL (kidsL c s.parent true)).contains y));unfold aA at f2;generalize zL (kidsL c s.parent true)=Z at*;refine qf func99 call99 ntmps99 results99 ?_;have F:=ai5 aA.eq_1 aL.eq_1 hsk q3 b4;repeat refine tz3 f0 f2 f3 ?_
   exact aR
  ·have b1:((l.length:Int)==1)=false:=by simp;omega
   rw[Ky h1,LF];refine qf func99 call99 ntmps99 results99 ?_;have F:=ai6 aA.eq_1 aL.eq_1 hsk q3 b4 b1;repeat refine tz1 f0 ?_
   exact aR
 ·rw[KZ h4];have b4:(s.kind==4)=false:=by simpa using h4
  cases b5:(s.kind==5) with
  | false=>
    rw[LF];refine qf func99 call99 ntmps99 results99 ?_;have F:=ai6 aA.eq_1 aL.eq_1 hsk q3 b4 b5;repeat refine tz1 f0 ?_
    exact aR
  | true=>
    rw[LK];obtain⟨p1,p2⟩:=rL h hsk (.inr (by simpa using b5));have f2:=E7 env c h s.parent p2 l hF;rw[<-og h p1]at f2;unfold aA at f2;generalize deepB c s.parent l=D at*;refine qf func99 call99 ntmps99 results99 ?_;have F:=ai6 aA.eq_1 aL.eq_1 hsk q3 b4 b5;repeat refine tz2 f0 f2 ?_
    exact aR
theorem wD (env:Env) (c:ChD) (h:Full c) (mem:List MemD) (hl:mem.length<=1000000) (hF: ∀m∈mem,Fits m.2.length 8):Con prog env 51 [.agg (aA c),memsAV mem] (B (bY c mem)):=by
 refine qf func51 call51 ntmps51 results51 ?_;repeat refine st0 ?_
 have F:=aA.eq_1;refine lq mem.length (by omega) (fun j vs=>[(1,memsAV mem),(2, .loc 2 (vs 2) 0 0),(5,I j)]) (fun _ _=>[(2,⟨5,[aA c],26,false⟩)]) (fun j _ _=> ∀m,m<j->ll c mem m=true) (fun m hm=>absurd hm (by omega)) ?_ ?_
 ·rintro j ws esc hlt q1 q2 hall;obtain⟨x,hx⟩:=gE hlt;have f1:=tc env c h x (hF x (K1 hx));have hat:ll c mem j=(kP c x&&((j==0)||decide ((mem.getD (j-1) (0,[])).1<x.1))):=by unfold ll;rw[hx]
  unfold aA mmAV at f1;cases hb:kP c x with
  | false=>
    rw[hb]at f1;rw[nK hlt (by rw[hat,hb];rfl)];have F:=ai4 aA.eq_1 mmAV.eq_1 hx q1;repeat refine tz1 f1 ?_
    exact aR
  | true=>
    rw[hb]at f1;rw[hb,LK]at hat;by_cases h0:j=0
    ·have g0: ¬(0:Int)< (j:Int):=by omega
     have F:=ai6 aA.eq_1 mmAV.eq_1 hx q1 q2 g0;repeat refine tz1 f1 ?_
     refine⟨j+1,⟨hlt,fun m hm=> ?_⟩,?_,?_,by omega⟩
     ·obtain rfl:m=j:=by omega
      rw[hat,h0];rfl
     ·exact qe
     ·have F:=aA.eq_1;exact qe
    ·obtain⟨i,rfl⟩: ∃i,j=i+1:=⟨j-1,by omega⟩;obtain⟨p,hp⟩: ∃p,mem[i]? =some p:=⟨mem[i]'(by omega),KV (by omega)⟩;have g0:(0:Int)< ((i+1:Nat):Int):=by omega
     have g1:IntKind.i64.wrap (((i+1:Nat):Int)-1)=(i:Int):=by rw[NG _ (by omega)];omega
     have g2:((i:Nat):Int)< (mem.length:Int):=by omega
     have hgd:mem.getD (i+1-1) (0,[])=p:=by rw[Ms,Ko,hp];rfl
     rw[hgd]at hat;by_cases hlt2:x.1<=p.1
     ·rw[nK hlt (by rw[hat,Ky (by omega)];rfl)];have F:=ai9 aA.eq_1 mmAV.eq_1 hx hp q1 g0 g1 g2 hlt2;repeat refine tz1 f1 ?_
      exact aR
     ·have F:=ai10 aA.eq_1 mmAV.eq_1 hx hp q1 q2 g0 g1 g2 hlt2;repeat refine tz1 f1 ?_
      refine⟨i+1+1,⟨hlt,fun m hm=> ?_⟩,?_,?_,by omega⟩
      ·rcases Lh.1 hm with e|e
       ·exact hall m e
       ·rw[e,hat,LC (by omega)];simp
      ·exact qe
      ·have F:=aA.eq_1;exact qe
 ·rintro ws esc q1 hall;rw[uh hall];have F:=q1;repeat refine st ?_
  exact aR
end

end Go.Proofs.YtbjldjekgepopaaGreatDoor