/- Memories, as the document checks them: the whole. -/
import Derived.Test.YtbpmkofnfgdegaaGreatDoorQ20
import Derived.Test.YtbpmkofnfgdegaaGreatDoorQ8
import Derived.Test.YtbpmkofnfgdegaaGreatDoorQ6
set_option maxRecDepth 100000
set_option maxHeartbeats 16000000
set_option linter.unusedSimpArgs false
namespace Go.Proofs.YtbpmkofnfgdegaaGreatDoor
open Go.Proofs.Tryz
open Go.RowKit
section
theorem ziL (env:Env) (x:Int):Con prog env 274 [I x] (B false):=by
 have e1:(x==x)=true:=by simp
 refine qf func274 call274 ntmps274 results274 ?_;have F:=ai e1 bneA;repeat refine st ?_
 exact aR
theorem zrT (env:Env) (x y:Int):Con prog env 248 [I x,I y] (B (decide (x<y))):=by
 have f0:=ziL env x;have f1:=ziL env y;by_cases h:x<y
 ·rw[decide_eq_true h];refine qf func248 call248 ntmps248 results248 ?_;have F:=h;repeat refine tz2 f0 f1 ?_
  exact aR
 ·rw[decide_eq_false h];refine qf func248 call248 ntmps248 results248 ?_;have F:=h;repeat refine tz2 f0 f1 ?_
  exact aR
theorem zmo {l:List Int} {n:Nat} (h: ∀j,n<=j->j<l.length->zed l j=true) (hn:n<=1):zd3 l=true:=by
 unfold zd3;rw[List.all_eq_true];intro j hj;have hj:=List.mem_range.1 hj;by_cases h0:n<=j
 ·exact h j h0 hj
 ·obtain rfl:j=0:=by omega
  rfl
theorem zpd {l:List Int} {j:Nat} (hj:j<l.length) (h:zed l j=false):zd3 l=false:=by
 unfold zd3;rw[List.all_eq_false];exact⟨j,List.mem_range.2 hj,by rw[h];simp⟩
theorem zld (env:Env) (l:List Int) (hl:l.length<=9223372036854775807):Con prog env 259 [.seq 1 (l.map intAV)] (B (zd3 l)):=by
 have w0:IntKind.i64.wrap ((l.length:Int)-1)=(l.length:Int)-1:=IntWalk.i64_in _ (by omega);refine qf func259 call259 ntmps259 results259 ?_;have F:=w0;repeat refine st ?_
 refine zab (D:=Nat) (fun j vs=>[(0, .seq 1 (l.map intAV)),(3,I ((l.length:Int)-1-(j:Int)))]) (fun _ _=>[]) (fun j _ _=>j<=l.length/\ ∀m,l.length-j<=m->m<l.length->zed l m=true) (fun j=>l.length-j) 0 ?_ ?_ ?_ ?_
 ·exact⟨Nat.zero_le _,fun m h1 h2=>absurd h2 (by omega)⟩
 ·have F:=Int.sub_zero
  (simp only[go_sem,F])
  try rfl
 ·(simp only[go_sem,Int.sub_zero])
  try rfl
 rintro j ws esc ⟨hj,hall⟩;by_cases hlt:0< (l.length:Int)-1-(j:Int)
 ·have hi: ∃i:Nat,(l.length:Int)-1-(j:Int)=(i:Int)/\i+j+1=l.length:=⟨l.length-1-j,by omega,by omega⟩;obtain⟨i,e1,e2⟩:=hi;have h1:i<l.length:=by omega
  have h2:i-1<l.length:=by omega
  have x1:l[i]? =some (l.getD i 0):=by rw[List.getD_eq_getElem?_getD,List.getElem?_eq_getElem h1];rfl
  have x2:l[i-1]? =some (l.getD (i-1) 0):=by rw[List.getD_eq_getElem?_getD,List.getElem?_eq_getElem h2];rfl
  have e3:IntKind.i64.wrap ((i:Int)-1)=((i-1:Nat):Int):=by rw[IntWalk.i64_in _ (by omega)];omega
  have q1:(0:Int)< (i:Int):=by omega
  have q2:(i:Int)< (l.length:Int):=by omega
  have q3:((i-1:Nat):Int)< (l.length:Int):=by omega
  have hd:zed l i=decide (¬l.getD i 0<l.getD (i-1) 0):=by
   unfold zed;rw[show (i==0)=false by simp;omega,Bool.false_or]
  rw[e1];generalize hX:l.getD i 0=X at*;generalize hY:l.getD (i-1) 0=Y at*;have f0:=zrT env X Y;by_cases hb:X<Y
  ·rw[decide_eq_true hb]at f0;rw[zpd h1 (by rw[hd,decide_eq_false (by simpa using hb)])];have F:=ai6 q1 q2 q3 x1 x2 e3;repeat refine tz1 f0 ?_
   exact aR
  ·rw[decide_eq_false hb]at f0;have e4:(l.length:Int)-1-((j+1:Nat):Int)=((i-1:Nat):Int):=by omega
   have F:=ai6 q1 q2 q3 x1 x2 e3;repeat refine tz1 f0 ?_
   refine⟨j+1,⟨by omega,fun m g1 g2=> ?_⟩,?_,?_,by omega⟩
   ·by_cases hm:m=i
    ·rw[hm,hd,decide_eq_true hb]
    ·exact hall m (by omega) g2
   ·have F:=e4;exact qe
   ·(simp only[go_sem,e4])
 ·rw[zmo (n:=l.length-j) hall (by omega)];have F:=hlt;repeat refine st ?_
  exact aR
theorem zp5 (env:Env) (c:ChD) (h:Full c) (hs:Small c) (parent:Int) (l:List Int) (hl:l.length<=1000000) (hz: ∀x∈l,inZ c x=true):Con prog env 261 [zah c,I parent, .seq 1 (l.map intAV)] (B (l.all (zbj c l))):=by
 have f0:=zas env c hs;unfold zah at f0 |-;refine qf func261 call261 ntmps261 results261 ?_;have F:=chAV.eq_1;repeat refine tz1 f0 ?_
 refine zab (D:=Nat) (fun j vs=>[(0, .ref 9 [tabCells c] 0 0),(2, .seq 1 (l.map intAV)),(7, .loc 7 (vs 7) 0 0),(16, .seq 1 (l.map intAV)),(17,I l.length),(18,I j)]) (fun _ _=>[(7,⟨5,[chAV c],26,false⟩)]) (fun j _ _=>j<=l.length/\ ∀m (y:Int),m<j->l[m]? =some y->zbj c l y=true) (fun j=>l.length-j) 0 ?_ ?_ ?_ ?_
 ·exact⟨Nat.zero_le _,fun m y hm=>absurd hm (by omega)⟩
 ·(simp only[go_sem,F])
  try rfl
 ·have F:=chAV.eq_1
  (simp only[go_sem,F])
  try rfl
 rintro j ws esc ⟨hj,hall⟩;by_cases hlt:j<l.length
 ·obtain⟨x,hx⟩:=gE hlt;have q1:=nlt hlt;have q2:=zaa hlt (by omega);have hxl:=List.mem_of_getElem? hx;obtain⟨k,s,rfl,hsk,hat⟩:=zb9 (hz x hxl);have hk:=(List.getElem?_eq_some_iff.1 hsk).1;have q3:((k:Nat):Int)< (c.states.length:Int):=by omega
  have f1:=zaN env c h k;rw[if_pos (.inr (hz _ hxl))]at f1;have hcv:zbj c l (k:Int)= !(((s.kind==1)&&decide (1<manyI l (kidsL c k true)))||((s.kind==4)||(s.kind==5))):=by unfold zbj;rw[hat]
  have hK:=zaS h.toRight k true;have hlen:=h.few;unfold zah at f1;generalize kidsL c (k:Int) true=K at*;have F:=ai3 hx q1 q2;repeat refine tz1 f1 ?_
  refine zab (D:=Nat) (fun m vs=>[(0, .ref 9 [tabCells c] 0 0),(2, .seq 1 (l.map intAV)),(7, .loc 7 (vs 7) 0 0),(9,I k),(10,I (manyI l (K.take m):Nat)),(16, .seq 1 (l.map intAV)),(17,I l.length),(18,I j),(24, .row 24 (vs 24)),(25,I K.length),(26,I m)]) (fun _ _=>[(7,⟨5,[chAV c],26,false⟩),(24,⟨1,K.map zac,3,true⟩)]) (fun m _ _=>m<=K.length) (fun m=>K.length-m) 0 ?_ ?_ ?_ ?_
  ·exact Nat.zero_le _
  ·(simp only[go_sem,F])
   try rfl
  ·have F:=chAV.eq_1
   (simp only[go_sem,F])
   try rfl
  rintro m us es hm;by_cases hml:m<K.length
  ·obtain⟨y,hy⟩:=gE hml;have p1:=nlt hml;have p2:=zaa hml (by omega);have f2:=zaB env l (y:Int) hl;have hmt:=zmP (act:=l) hy;have hle:=zmR l (K.take m);rw[List.length_take]at hle;have p3:=zaa (show manyI l (K.take m)<K.length by omega) (by omega);cases hb:l.contains (y:Int) with
   | true=>
     rw[hb]at f2 hmt;rw[if_pos rfl]at hmt;have F:=ai5 zac.eq_1 hy p1 p2 p3;repeat refine tz1 f2 ?_
     refine⟨m+1,hml,?_,?_,by omega⟩
     ·have F:=hmt;exact qe
     ·have F:=chAV.eq_1;exact qe
   | false=>
     rw[hb]at f2 hmt;rw[if_neg Bool.false_ne_true,Nat.add_zero]at hmt;have F:=ai4 zac.eq_1 hy p1 p2;repeat refine tz1 f2 ?_
     refine⟨m+1,hml,?_,?_,by omega⟩
     ·have F:=hmt;exact qe
     ·have F:=chAV.eq_1;exact qe
  ·obtain rfl:m=K.length:=by omega
   have p1:=nl K.length;rw[List.take_length];generalize manyI l K=N at*;cases hC:zbj c l (k:Int) with
   | false=>
     rw[show l.all (zbj c l)=false from List.all_eq_false.2 ⟨_,hxl,by rw[hC];simp⟩];cases h1:(s.kind==1)<;>cases h4:(s.kind==4)<;>cases h5:(s.kind==5)<;>by_cases hn:(1:Int)< (N:Int)
     all_goals first
      |(exfalso;have hn':(1<N)=((1:Int)< (N:Int)):=(by simp;omega);simp[hcv,h1,h4,h5,hn',hn]at hC;done)
      |skip
     all_goals
      have F:=ai9 chAV.eq_1 stAV.eq_1 hsk p1 q3 h1 h4 h5 hn;repeat refine st ?_
      exact aR
   | true=>
     cases h1:(s.kind==1)<;>cases h4:(s.kind==4)<;>cases h5:(s.kind==5)<;>by_cases hn:(1:Int)< (N:Int)
     all_goals first
      |(exfalso;have hn':(1<N)=((1:Int)< (N:Int)):=(by simp;omega);simp[hcv,h1,h4,h5,hn',hn]at hC;done)
      |skip
     all_goals
      have F:=ai10 chAV.eq_1 stAV.eq_1 hsk p1 q2 q3 h1 h4 h5 hn;repeat refine st ?_
      refine⟨j+1,⟨hlt,fun m y hm hy=> ?_⟩,?_,?_,by omega⟩
      ·rcases Nat.lt_succ_iff_lt_or_eq.1 hm with e|e
       ·exact hall m y e hy
       ·rw[e,hx]at hy;cases hy;exact hC
      ·exact qe
      ·have F:=chAV.eq_1;exact qe
 ·obtain rfl:j=l.length:=by omega
  have q1:=nl l.length
  rw[show l.all (zbj c l)=true from List.all_eq_true.2 fun y hy=>by
   obtain⟨m,hm⟩:=List.mem_iff_getElem?.1 hy
   exact hall m y (List.getElem?_eq_some_iff.1 hm).1 hm]
  have F:=q1;repeat refine st ?_
  exact aR
end
section
theorem zp8 (env:Env) (es:List (List AV)) (hl:Fits es.length 8):Con prog env 70 [.seq 1 es] (.own 3 1 es):=by
 cases es with
 |nil=>exact zbP env [] (by simp)
 | cons d l=>
   have g1:Fits ((l.length+1)) 8:=by simpa using hl
   refine qf func70 call70 ntmps70 results70 ?_;have F:=g1;repeat refine st ?_
   exact aR
theorem zuL {c:ChD} (h:Full c) {parent:Int} (hp:zav c parent=true) {l:List Int} (hr:zdy l=true) (hz: ∀x∈l,aboveB c parent x=true):(∀x∈l,inZ c x=true)/\(deepA c parent l).Nodup/\(∀x∈deepA c parent l,inZ c x=true)/\l.length<=32:=by
 have hin: ∀x∈l,inZ c x=true:=fun x hx=>zao (hz x hx);obtain⟨un,um⟩:=zdX (c:=c) (d:=parent) (l:=l);obtain⟨sp,hsp,_⟩:=zdm hp
 have hpz:inZ c parent=true:=by
  unfold at_ at hsp;split at hsp
  ·rename_i h0;have:=(List.getElem?_eq_some_iff.1 hsp).1;exact zag.2 ⟨h0,by omega⟩
  ·cases hsp
 have habove: ∀x∈upsL c l parent,aboveB c parent x=true:=fun x hx=>by
  rcases (um x).1 hx with hx|⟨_,_,_,_,hx⟩
  ·exact hz x hx
  ·exact hx
 have hnp:parent∉upsL c l parent:=fun hh=>by
  have:=habove _ hh;unfold aboveB at this;have:=(ze8 h.toRight 40 parent parent (List.contains_iff_mem.1 this)).2;omega
 refine⟨hin,?_,fun x hx=> ?_,?_⟩
 ·unfold deepA;rw[List.nodup_append];refine⟨un,by simp,fun x hx y hy e=> ?_⟩;rw[List.mem_singleton.1 hy]at e;rw[e]at hx;exact hnp hx
 ·unfold deepA at hx;rcases List.mem_append.1 hx with hx|hx
  ·exact zao (habove x hx)
  ·rw[List.mem_singleton.1 hx];exact hpz
 ·have:=zdS (zeB hr) hin;have:=h.toRight.few;omega
theorem zuK (env:Env) (c:ChD) (h:Full c) (hs:Small c) (parent:Int) (hp:zav c parent=true) (l:List Int) (hF:Fits l.length 8):Con prog env 224 [zah c,I parent, .seq 1 (l.map intAV)] (B (deepB c parent l)):=by
 have hl63:l.length<=9223372036854775807:=hF.2;have f0:=zld env l hl63;have f1:=zp8 env (l.map intAV) (by rw[List.length_map];exact hF);have g1:=zp4 l hl63;have hro:=zvJ l;unfold deepB;cases he:l with
 | nil=>
   rw[show zdy []=false from rfl,Bool.false_and,Bool.false_and,Bool.false_and];unfold zah;refine qf func224 call224 ntmps224 results224 ?_;repeat refine st0 ?_
   exact aR0
 |cons d0 l0=>
 rw[<-he];have hemp:l.isEmpty=false:=by rw[he];rfl
 have b0:((l.length:Int)==0)=false:=by rw[he];simp;omega
 rw[hemp,Bool.not_false,Bool.true_and]at hro;cases hso:zd3 l with
 | false=>
   rw[hso,Bool.false_and]at hro;rw[hso]at f0;rw[<-hro,Bool.false_and,Bool.false_and,Bool.false_and];unfold zah;refine qf func224 call224 ntmps224 results224 ?_;have F:=b0;repeat refine tz1 f0 ?_
   exact aR
 |true=>
 rw[hso,Bool.true_and]at hro;rw[hso]at f0;by_cases hcl:(Lib.compact l).length=l.length
 ·rw[decide_eq_true hcl]at hro;have b1:(((Lib.compact l).length:Int)==(l.length:Int))=true:=by simp[hcl]
  rw[<-hro,Bool.true_and];have f2:=fun k:Int=>zcC env c h.toRight parent k;have f3:=zaE env c;unfold zaj at f2 f3;have fr:=fun(k:Int)=>zaN env c h k;unfold zah at f3 fr |-;refine qf func224 call224 ntmps224 results224 ?_;have F:=b0;repeat refine tz2 f0 f1 ?_
  refine zkj 21 rfl (row:=⟨1,l.map intAV,3,true⟩) g1 (Nat.succ_ne_zero 0) rfl (zaW _).symm (by simp only[go_sem];exact iR) (by simp only[go_sem];exact iR) (by simp only[go_sem];exact iR) (by simp only[go_sem];exact iR) iR ?_;rw[zaW];have F:=ai3 b0 b1 bneA;repeat refine st ?_
  refine zab (D:=Nat) (fun j vs=>[(0, .ref 9 [tabCells c] 0 0),(1,I parent),(2, .seq 1 (l.map intAV)),(28, .seq 1 (l.map intAV)),(29,I l.length),(30,I j)]) (fun _ _=>[]) (fun j _ _=>j<=l.length/\ ∀m (y:Int),m<j->l[m]? =some y->zcr c parent y=true) (fun j=>l.length-j) 0 ?_ ?_ ?_ ?_
  ·exact⟨Nat.zero_le _,fun m y hm=>absurd hm (by omega)⟩
  ·(simp only[go_sem,F])
   try rfl
  ·(simp only[go_sem,F])
   try rfl
  rintro j ws esc ⟨hj,hall⟩;by_cases hlt:j<l.length
  ·obtain⟨x,hx⟩:=gE hlt;have q1:=nlt hlt;have q2:=zaa hlt (by omega);have hxl:=List.mem_of_getElem? hx;have e2:=f2 x;have e4:=fr x;have bad:zcr c parent x=false->(l.all (zcr c parent))=false:=fun hb=>List.all_eq_false.2 ⟨_,hxl,by rw[hb];simp⟩;cases ha:aboveB c parent x with
   | false=>
     rw[bad (by unfold zcr;rw[ha];rfl),Bool.false_and,Bool.false_and];rw[ha]at e2;have F:=ai hx q1;repeat refine tz2 f3 e2 ?_
     exact aR
   | true=>
     rw[ha]at e2;rw[if_pos (.inr (zao ha))]at e4;cases hk:(kidsL c x true).isEmpty with
     | false=>
       rw[bad (by unfold zcr;rw[ha,hk];rfl),Bool.false_and,Bool.false_and]
       have q3:(0:Int)< ((kidsL c x true).length:Int):=by
        cases hkk:kidsL c x true with
        |nil=>rw[hkk]at hk;cases hk
        |cons a b=>simp
       generalize kidsL c x true=K at*;have F:=ai3 hx q1 q3;repeat refine tz3 f3 e2 e4 ?_
       exact aR
     | true=>
       have q3: ¬(0:Int)< ((kidsL c x true).length:Int):=by
        rw[List.isEmpty_iff.1 hk];simp
       have hlf:zcr c parent x=true:=by unfold zcr;rw[ha,hk];rfl
       generalize kidsL c x true=K at*;have F:=ai4 hx q1 q2 q3;repeat refine tz3 f3 e2 e4 ?_
       refine⟨j+1,⟨hlt,fun m y hm hy=> ?_⟩,?_,?_,by omega⟩
       ·rcases Nat.lt_succ_iff_lt_or_eq.1 hm with e|e
        ·exact hall m y e hy
        ·rw[e,hx]at hy;cases hy;exact hlf
       ·exact qe
       ·exact qe
  ·obtain rfl:j=l.length:=by omega
   have q1:=nl l.length
   have hleaf:l.all (zcr c parent)=true:=List.all_eq_true.2 fun y hy=>by
    obtain⟨m,hm⟩:=List.mem_iff_getElem?.1 hy;exact hall m y (List.getElem?_eq_some_iff.1 hm).1 hm
   have hz: ∀x∈l,aboveB c parent x=true:=fun x hx=>by
    have:=List.all_eq_true.1 hleaf x hx;unfold zcr at this;rw[Bool.and_eq_true]at this;exact this.1
   obtain⟨k1,k2,k3,k4⟩:=zuL h hp hro.symm hz;have f5:=zu8 env c h.toRight l (by omega) k1 parent;have f6:=zon env c h hs (deepA c parent l) k2 k3;have hgl:=zom h k2 k3;have f7:=zp5 env c h hs parent (growL c (deepA c parent l)) (by omega) fun x hx=>((zc5 h k2).1 hx).in h k3
   have hul:(upsL c l parent).length<=32:=by
    have:=zdS k2 k3;unfold deepA at this;rw[List.length_append]at this;have:=h.toRight.few;omega
   have hf:Fits ((upsL c l parent).length+1) 8:=zae (by omega) (by omega);have hA:(deepA c parent l).map intAV=(upsL c l parent).map intAV++[[I parent]]:=by unfold deepA;rw[List.map_append];rfl
   have hAl:(deepA c parent l).length=(upsL c l parent).length+1:=by unfold deepA;simp
   rw[hleaf,Bool.true_and];rw[hA]at f6;rw[hAl];unfold zah at f5 f6 f7;generalize growL c (deepA c parent l)=G at*;generalize upsL c l parent=U at*;by_cases hg:G.length=U.length+1
   ·have b2:((G.length:Int)==((U.length+1:Nat):Int))=true:=by simp[hg]
    rw[decide_eq_true hg,Bool.true_and];have F:=ai3 q1 hf b2;repeat refine tz3 f5 f6 f7 ?_
    exact aR
   ·have b2:((G.length:Int)==((U.length+1:Nat):Int))=false:=by simp;omega
    rw[decide_eq_false hg,Bool.false_and];have F:=ai3 q1 hf b2;repeat refine tz2 f5 f6 ?_
    exact aR
 ·rw[decide_eq_false hcl]at hro;have b1:(((Lib.compact l).length:Int)==(l.length:Int))=false:=by simp;omega
  rw[<-hro,Bool.false_and,Bool.false_and,Bool.false_and];unfold zah;refine qf func224 call224 ntmps224 results224 ?_;have F:=b0;repeat refine tz2 f0 f1 ?_
  refine zkj 21 rfl (row:=⟨1,l.map intAV,3,true⟩) g1 (Nat.succ_ne_zero 0) rfl (zaW _).symm (by simp only[go_sem];exact iR) (by simp only[go_sem];exact iR) (by simp only[go_sem];exact iR) (by simp only[go_sem];exact iR) iR ?_;rw[zaW];have F:=ai3 b0 b1 bneA;repeat refine st ?_
  exact aR
end
section
theorem zjG {c:ChD} (h:Full c) {k:Nat} {s:StD} (hs:c.states[k]? =some s) (h45:s.kind=4\/s.kind=5):zav c s.parent=true/\inZ c s.parent=true:=by
 have hpl:zbJ c s=true:=by
  rcases h.cases hs with⟨e,_⟩|⟨e,_⟩|⟨e,_⟩|⟨_,_,e,_⟩
  ·omega
  ·omega
  ·omega
  ·exact e
 unfold zbJ at hpl;cases ha:at_ c s.parent with
 |none=>rw[ha]at hpl;cases hpl
 | some p=>
   rw[ha]at hpl;refine⟨?_,?_⟩
   ·unfold zav;rw[ha];unfold zcW;simp only at hpl |-;rw[hpl];rfl
   ·unfold at_ at ha;split at ha
    ·rename_i h0;have:=(List.getElem?_eq_some_iff.1 ha).1;exact zag.2 ⟨h0,by omega⟩
    ·cases ha
theorem zvz {c:ChD} {i:Int} (h:inZ c i=false):at_ c i=none:=by
 unfold at_;split
 ·rename_i h0;refine List.getElem?_eq_none ?_;have: ¬(0<=i/\i< (c.states.length:Int)):=fun q=>by rw[zag.2 q]at h;cases h
  omega
 ·rfl
theorem zpx (env:Env) (c:ChD) (h:Full c) (hs:Small c) (m:MemD) (hF:Fits m.2.length 8):Con prog env 184 [zah c, .agg (mmAV m)] (B (memB c m)):=by
 obtain⟨i,l⟩:=m;have hF:Fits l.length 8:=hF;have f0:=zas env c hs;unfold memB mmAV;simp only;cases hz:inZ c i with
 | false=>
   rw[zvz hz];simp only;unfold zah at f0 |-;by_cases h0:i<0
   ·refine qf func184 call184 ntmps184 results184 ?_;have F:=ai chAV.eq_1 h0;repeat refine tz1 f0 ?_
    exact aR
   ·have h1:(c.states.length:Int)<=i:=by
     have: ¬(0<=i/\i< (c.states.length:Int)):=fun q=>by rw[zag.2 q]at hz;cases hz
     omega
    refine qf func184 call184 ntmps184 results184 ?_;have F:=ai3 chAV.eq_1 h0 h1;repeat refine tz1 f0 ?_
    exact aR
 |true=>
 obtain⟨k,s,rfl,hsk,hat⟩:=zb9 hz;have hk:=(List.getElem?_eq_some_iff.1 hsk).1;have q1: ¬(k:Int)<0:=by omega
 have q2: ¬(c.states.length:Int)<=(k:Int):=by omega
 have q3:((k:Nat):Int)< (c.states.length:Int):=by omega
 rw[hat];simp only;have hlen:=h.few;by_cases h4:s.kind=4
 ·rw[if_pos h4];have b4:(s.kind==4)=true:=by simp[h4]
  obtain⟨p1,p2⟩:=zjG h hsk (.inl h4);have f2:=zaN env c h s.parent;rw[if_pos (.inr p2), <-zcF]at f2;have hK:=zaS h.toRight s.parent true;by_cases h1:l.length=1
  ·obtain⟨y,rfl⟩: ∃y,l=[y]:=List.length_eq_one_iff.1 h1;have f3:=zaB env (zL (kidsL c s.parent true)) y (by rw[za9];omega);show Con _ _ _ _ (B ((zL (kidsL c s.parent true)).contains y));generalize zL (kidsL c s.parent true)=Z at*;unfold zah at f0 f2 |-;refine qf func184 call184 ntmps184 results184 ?_;have F:=ai7 chAV.eq_1 stAV.eq_1 hsk q1 q2 q3 b4;repeat refine tz3 f0 f2 f3 ?_
   exact aR
  ·have b1:((l.length:Int)==1)=false:=by simp;omega
   rw[decide_eq_false h1,Bool.false_and];unfold zah at f0 |-;refine qf func184 call184 ntmps184 results184 ?_;have F:=ai8 chAV.eq_1 stAV.eq_1 hsk q1 q2 q3 b4 b1;repeat refine tz1 f0 ?_
   exact aR
 ·rw[if_neg h4];have b4:(s.kind==4)=false:=by simpa using h4
  cases b5:(s.kind==5) with
  | false=>
    rw[Bool.false_and];unfold zah at f0 |-;refine qf func184 call184 ntmps184 results184 ?_;have F:=ai8 chAV.eq_1 stAV.eq_1 hsk q1 q2 q3 b4 b5;repeat refine tz1 f0 ?_
    exact aR
  | true=>
    rw[Bool.true_and];obtain⟨p1,p2⟩:=zjG h hsk (.inr (by simpa using b5));have f2:=zuK env c h hs s.parent p1 l hF;unfold zah at f0 f2 |-;generalize deepB c s.parent l=D at*;refine qf func184 call184 ntmps184 results184 ?_;have F:=ai8 chAV.eq_1 stAV.eq_1 hsk q1 q2 q3 b4 b5;repeat refine tz2 f0 f2 ?_
    exact aR
def chkM (a1:Addr) (c:ChD) (mem:List MemD):AV:=if zbd c mem=true then nilE else errV (-1) (sentV a1)
theorem zgK {c:ChD} {mem:List MemD} {j:Nat} (hj:j<mem.length) (h:zhr c mem j=false):zbd c mem=false:=by
 unfold zbd;rw[List.all_eq_false];exact⟨j,List.mem_range.2 hj,by rw[h];simp⟩
theorem zk1 {c:ChD} {mem:List MemD} (h: ∀j,j<mem.length->zhr c mem j=true):zbd c mem=true:=by
 unfold zbd;rw[List.all_eq_true];exact fun j hj=>h j (List.mem_range.1 hj)
theorem zib (env:Env) (a1 a8:Addr) (he:ChEnv env a1 a8) (c:ChD) (h:Full c) (hs:Small c) (mem:List MemD) (hl:mem.length<=1000000) (hF: ∀m∈mem,Fits m.2.length 8):Con prog env 126 [zah c,memsAV mem] (chkM a1 c mem):=by
 have ff:=zpS env a1 a8 he [101,110,116,101,114,46,67,104,101,99,107];unfold chkM;generalize sentV a1=E at*;unfold zah;refine qf func126 call126 ntmps126 results126 ?_;repeat refine st0 ?_
 refine zab (D:=Nat) (fun j vs=>[(0, .ref 9 [tabCells c] 0 0),(1,memsAV mem),(11,memsAV mem),(12,I mem.length),(13,I j)]) (fun _ _=>[]) (fun j _ _=>j<=mem.length/\ ∀m,m<j->zhr c mem m=true) (fun j=>mem.length-j) 0 ?_ ?_ ?_ ?_
 ·exact⟨Nat.zero_le _,fun m hm=>absurd hm (by omega)⟩
 ·(simp only[go_sem])
  try rfl
 ·(simp only[go_sem])
  try rfl
 rintro j ws esc ⟨hj,hall⟩;by_cases hlt:j<mem.length
 ·obtain⟨x,hx⟩:=gE hlt;have q1:=nlt hlt;have q2:=zaa hlt (by omega);have f1:=zpx env c h hs x (hF x (List.mem_of_getElem? hx));have hat:zhr c mem j=(memB c x&&((j==0)||decide ((mem.getD (j-1) (0,[])).1<x.1))):=by unfold zhr;rw[hx]
  unfold zah mmAV at f1;cases hb:memB c x with
  | false=>
    rw[hb]at f1;rw[if_neg (by rw[zgK hlt (by rw[hat,hb];rfl)];simp)];have F:=ai3 mmAV.eq_1 hx q1;repeat refine tz2 f1 ff ?_
    exact aR
  | true=>
    rw[hb]at f1;rw[hb,Bool.true_and]at hat;by_cases h0:j=0
    ·have g0: ¬(0:Int)< (j:Int):=by omega
     have F:=ai5 mmAV.eq_1 hx q1 q2 g0;repeat refine tz1 f1 ?_
     refine⟨j+1,⟨hlt,fun m hm=> ?_⟩,?_,?_,by omega⟩
     ·obtain rfl:m=j:=by omega
      rw[hat,h0];rfl
     ·exact qe
     ·exact qe
    ·obtain⟨i,rfl⟩: ∃i,j=i+1:=⟨j-1,by omega⟩;obtain⟨p,hp⟩: ∃p,mem[i]? =some p:=⟨mem[i]'(by omega),List.getElem?_eq_getElem (by omega)⟩;have g0:(0:Int)< ((i+1:Nat):Int):=by omega
     have g1:IntKind.i64.wrap (((i+1:Nat):Int)-1)=(i:Int):=by rw[IntWalk.i64_in _ (by omega)];omega
     have g2:((i:Nat):Int)< (mem.length:Int):=by omega
     have hgd:mem.getD (i+1-1) (0,[])=p:=by rw[Nat.add_sub_cancel,List.getD_eq_getElem?_getD,hp];rfl
     rw[hgd]at hat;by_cases hlt2:x.1<=p.1
     ·rw[if_neg (by rw[zgK hlt (by rw[hat,decide_eq_false (by omega)];rfl)];simp)];have F:=ai8 mmAV.eq_1 hx hp q1 g0 g1 g2 hlt2;repeat refine tz2 f1 ff ?_
      exact aR
     ·have F:=ai9 mmAV.eq_1 hx hp q1 q2 g0 g1 g2 hlt2;repeat refine tz1 f1 ?_
      refine⟨i+1+1,⟨hlt,fun m hm=> ?_⟩,?_,?_,by omega⟩
      ·rcases Nat.lt_succ_iff_lt_or_eq.1 hm with e|e
       ·exact hall m e
       ·rw[e,hat,decide_eq_true (by omega)];simp
      ·exact qe
      ·exact qe
 ·obtain rfl:j=mem.length:=by omega
  have q1:=nl mem.length;rw[if_pos (zk1 hall)];have F:=q1;repeat refine st ?_
  exact aR
end
section
theorem ztT {l:List Int} {j:Nat} (hj:j<l.length) (h:upB l j=false):zdy l=false:=by
 unfold zdy;rw[Bool.and_eq_false_iff];right;rw[List.all_eq_false];exact⟨j,List.mem_range.2 hj,by rw[h];simp⟩
theorem ztS {l:List Int} (h: ∀j,j<l.length->upB l j=true):zdy l=decide ((0:Int)< (l.length:Int)):=by
 unfold zdy;rw[List.all_eq_true.2 fun j hj=>h j (List.mem_range.1 hj),Bool.and_true];cases l with
 |nil=>rfl
 |cons a b=>rw[decide_eq_true (by simp only[List.length_cons];omega)];rfl
theorem zmA (env:Env) (l:List Int) (hl:l.length<=9223372036854775807):Con prog env 201 [.seq 1 (l.map intAV)] (B (zdy l)):=by
 refine qf func201 call201 ntmps201 results201 ?_;repeat refine st0 ?_
 refine zab (D:=Nat) (fun j vs=>[(0, .seq 1 (l.map intAV)),(3,I ((j+1:Nat):Int))]) (fun _ _=>[]) (fun j _ _=>j<=l.length/\ ∀m,m<=j->m<l.length->upB l m=true) (fun j=>l.length-j) 0 ?_ ?_ ?_ ?_
 ·refine⟨Nat.zero_le _,fun m h1 _=> ?_⟩;obtain rfl:m=0:=by omega
  rfl
 ·(simp only[go_sem])
  try rfl
 ·(simp only[go_sem])
  try rfl
 rintro j ws esc ⟨hj,hall⟩;by_cases hlt:j+1<l.length
 ·have h1:j<l.length:=by omega
  have x1:l[j+1]? =some (l.getD (j+1) 0):=by rw[List.getD_eq_getElem?_getD,List.getElem?_eq_getElem hlt];rfl
  have x2:l[j]? =some (l.getD j 0):=by rw[List.getD_eq_getElem?_getD,List.getElem?_eq_getElem h1];rfl
  have e3:IntKind.i64.wrap (((j+1:Nat):Int)-1)=(j:Int):=by rw[IntWalk.i64_in _ (by omega)];omega
  have q1:((j+1:Nat):Int)< (l.length:Int):=by omega
  have q2:((j:Nat):Int)< (l.length:Int):=by omega
  have q3:=zaa hlt (by omega)
  have hd:upB l (j+1)=decide (l.getD j 0<l.getD (j+1) 0):=by
   unfold upB;rw[show (j+1==0)=false by simp,Bool.false_or,Nat.add_sub_cancel]
  generalize hX:l.getD (j+1) 0=X at*;generalize hY:l.getD j 0=Y at*;by_cases hb:X<=Y
  ·rw[ztT hlt (by rw[hd,decide_eq_false (by omega)])];have F:=ai6 q1 q2 x1 x2 e3 hb;repeat refine st ?_
   exact aR
  ·have F:=ai7 q1 q2 q3 x1 x2 e3 hb;repeat refine st ?_
   refine⟨j+1,⟨by omega,fun m g1 g2=> ?_⟩,?_,?_,by omega⟩
   ·by_cases hm:m=j+1
    ·rw[hm,hd,decide_eq_true (by omega)]
    ·exact hall m (by omega) g2
   ·exact qe
   ·exact qe
 ·have q1: ¬((j+1:Nat):Int)< (l.length:Int):=by omega
  rw[ztS fun m hm=>hall m (by omega) hm];have F:=q1;repeat refine st ?_
  exact aR
def zfi (c:ChD) (l:List Int) (d:Int) (j:Nat):List Nat:=(List.range j).filter (zjB c l d)
theorem zmG (c:ChD) (l:List Int) (d:Int) (j:Nat):zfi c l d (j+1)=if zjB c l d j then zfi c l d j++[j] else zfi c l d j:=by
 unfold zfi;rw[List.range_succ,List.filter_append];cases hb:zjB c l d j<;>simp[hb]
def pathIn (c:ChD) (l:List Int) (d:Int) (i:Nat) (m:Nat):Bool:=l.contains (i:Int)||(l.take m).any fun k=>aboveB c i k&&aboveB c d i
theorem zmH {c:ChD} {l:List Int} {d:Int} {i m:Nat} {y:Int} (h:l[m]? =some y):pathIn c l d i (m+1)=(pathIn c l d i m||(aboveB c i y&&aboveB c d i)):=by
 unfold pathIn;rw[List.take_add_one,h,List.any_append];simp only[Option.toList_some,List.any_cons,List.any_nil,Bool.or_false,Bool.or_assoc]
theorem zre (env:Env) (c:ChD) (hc:Right c) (l:List Int) (hl:l.length<=1000000) (d:Int):Con prog env 97 [.agg (chAV c), .seq 1 (l.map intAV),I d] (.own 3 1 ((pathL c l d).map zac)):=by
 have hlen:=hc.few;have fA:=fun(k i:Int)=>zc2 env c hc k i;unfold chAV at fA;refine qf func97 call97 ntmps97 results97 ?_;have F:=chAV.eq_1;repeat refine st ?_
 refine zab (D:=Nat) (fun j vs=>[(1, .seq 1 (l.map intAV)),(2,I d),(3, .loc 3 (vs 3) 0 0),(7, .row 11 (vs 11)),(8,I j)]) (fun j _=>[(3,⟨5,[chAV c],26,false⟩),(11,⟨1,(zfi c l d j).map zac,3,true⟩)]) (fun j _ esc=>j<=c.states.length/\esc 11=false) (fun j=>c.states.length-j) 0 ?_ ?_ ?_ ?_
 ·exact⟨Nat.zero_le _,rfl⟩
 ·(simp only[go_sem,F])
  try rfl
 ·have F:=chAV.eq_1
  (simp only[go_sem,F])
  try rfl
 rintro j ws esc ⟨hj,e0⟩;by_cases hlt:j<c.states.length
 ·have q1:=nlt hlt;have q2:=zaa hlt (by omega);have f0:=zdC env l (j:Int) hl;have hp:=zmG c l d j;have hpl:(zfi c l d j).length<=32:=Nat.le_trans (List.length_filter_le ..) (by simp;omega);have hf:Fits ((zfi c l d j).length+1) 8:=zae (by omega) (by omega);have hpb:zjB c l d j=pathIn c l d j l.length:=by unfold zjB pathIn;rw[List.take_length]
  have z0:pathIn c l d j 0=l.contains (j:Int):=by unfold pathIn;simp
  generalize hPT:zfi c l d j=PT at*;rw[<-z0]at f0;have F:=ai3 chAV.eq_1 q1 e0;repeat refine tz1 f0 ?_
  refine zab (D:=Nat) (fun m vs=>[(1, .seq 1 (l.map intAV)),(2,I d),(3, .loc 3 (vs 3) 0 0),(7, .row 11 (vs 11)),(8,I j),(9,B (pathIn c l d j m)),(10,I m)]) (fun m _=>[(3,⟨5,[chAV c],26,false⟩),(11,⟨1,PT.map zac,3,true⟩)]) (fun m _ esc=>m<=l.length/\esc 11=false) (fun m=>l.length-m) 0 ?_ ?_ ?_ ?_
  ·exact⟨Nat.zero_le _,by simp only[go_sem,e0]⟩
  ·(simp only[go_sem,F])
   try rfl
  ·have F:=chAV.eq_1
   (simp only[go_sem,F])
   try rfl
  try clear e0
  rintro m us es ⟨hm,e0⟩;by_cases hml:m<l.length
  ·obtain⟨y,hy⟩:=gE hml;have p1:=nlt hml;have p2:=zaa hml (by omega);have hn:=zmH (c:=c) (d:=d) (i:=j) hy;have g1:=fA (j:Int) y;have g2:=fA d (j:Int);generalize pathIn c l d j m=b at*;cases b with
   | true=>
     rw[Bool.true_or]at hn;have F:=ai5 chAV.eq_1 hy p1 p2 e0;repeat refine st ?_
     refine⟨m+1,⟨hml,by simp only[go_sem,e0]⟩,?_,?_,by omega⟩
     ·have F:=hn;exact qe
     ·have F:=chAV.eq_1;exact qe
   | false=>
     rw[Bool.false_or]at hn;cases ha:aboveB c (j:Int) y with
     | false=>
       rw[ha]at g1;rw[ha,Bool.false_and]at hn;have F:=ai5 chAV.eq_1 hy p1 p2 e0;repeat refine tz1 g1 ?_
       refine⟨m+1,⟨hml,by simp only[go_sem,e0]⟩,?_,?_,by omega⟩
       ·have F:=hn;exact qe
       ·have F:=chAV.eq_1;exact qe
     | true=>
       rw[ha]at g1;rw[ha,Bool.true_and]at hn;have F:=ai5 chAV.eq_1 hy p1 p2 e0;repeat refine tz2 g1 g2 ?_
       refine⟨m+1,⟨hml,by simp only[go_sem,e0]⟩,?_,?_,by omega⟩
       ·have F:=hn;exact qe
       ·have F:=chAV.eq_1;exact qe
  ·obtain rfl:m=l.length:=by omega
   have p1:=nl l.length;rw[<-hpb];cases hb:zjB c l d j with
   | true=>
     rw[hb]at hp;have F:=ai5 chAV.eq_1 p1 q2 e0 hf;repeat refine st ?_
     refine⟨j+1,⟨hlt,by simp only[go_sem,e0]⟩,?_,?_,by omega⟩
     ·exact qe
     ·have F:=ai4 chAV.eq_1 hp @List.map_append.{0,0} zac.eq_1;exact qe
   | false=>
     rw[hb]at hp;have F:=ai4 chAV.eq_1 p1 q2 e0;repeat refine st ?_
     refine⟨j+1,⟨hlt,by simp only[go_sem,e0]⟩,?_,?_,by omega⟩
     ·exact qe
     ·have F:=ai chAV.eq_1 hp;exact qe
 ·obtain rfl:j=c.states.length:=by omega
  have q1:=nl c.states.length;rw[show pathL c l d=zfi c l d c.states.length from rfl];have F:=ai3 chAV.eq_1 q1 e0;repeat refine st ?_
  exact aR
end
section
theorem zt1 (c:ChD) (l:List Int) (d:Int):(pathL c l d).length<=c.states.length:=Nat.le_trans (List.length_filter_le ..) (by simp)
theorem zs1 {c:ChD} {parent:Int} (hp:inZ c parent=true) (l:List Int): ∀x∈deepRA c parent l,inZ c x=true:=fun x hx=>by
 unfold deepRA at hx;rcases List.mem_append.1 hx with hx|hx
 ·obtain⟨k,hk,rfl⟩:=List.mem_map.1 hx;exact zar.2 (List.mem_range.1 (List.mem_filter.1 hk).1)
 ·rw[List.mem_singleton.1 hx];exact hp
theorem zri (env:Env) (c:ChD) (h:Full c) (parent:Int) (hp:inZ c parent=true) (l:List Int) (hF:Fits l.length 8):Con prog env 160 [.agg (chAV c),I parent, .seq 1 (l.map intAV)] (B (zlR c parent l)):=by
 have hl63:l.length<=9223372036854775807:=hF.2;have f0:=zmA env l hl63;have hlen:=h.few;have fA:=fun(i:Int)=>zc2 env c h.toRight parent i;have fK:=fun(i:Int)=>zcK env c i true (by omega);have fM:=fun(s:StD)=>zby env s;unfold chAV at fA fK;unfold stAV at fM;unfold zlR;cases hr:zdy l with
 | false=>
   rw[hr]at f0;rw[Bool.false_and,Bool.false_and];refine qf func160 call160 ntmps160 results160 ?_;have F:=chAV.eq_1;repeat refine tz1 f0 ?_
   exact aR
 |true=>
 rw[hr]at f0;rw[Bool.true_and];refine qf func160 call160 ntmps160 results160 ?_;have F:=chAV.eq_1;repeat refine tz1 f0 ?_
 refine zab (D:=Nat) (fun j vs=>[(1,I parent),(2, .seq 1 (l.map intAV)),(3, .loc 3 (vs 3) 0 0),(7,I j)]) (fun _ _=>[(3,⟨5,[chAV c],26,false⟩)]) (fun j _ _=>j<=l.length/\ ∀m (y:Int),m<j->l[m]? =some y->zbw c parent y=true) (fun j=>l.length-j) 0 ?_ ?_ ?_ ?_
 ·exact⟨Nat.zero_le _,fun m y hm=>absurd hm (by omega)⟩
 ·(simp only[go_sem,F])
  try rfl
 ·have F:=chAV.eq_1
  (simp only[go_sem,F])
  try rfl
 rintro j ws esc ⟨hj,hall⟩;by_cases hlt:j<l.length
 ·obtain⟨x,hx⟩:=gE hlt;have q1:=nlt hlt;have q2:=zaa hlt (by omega);have hxl:=List.mem_of_getElem? hx;have bad:zbw c parent x=false->(l.all (zbw c parent))=false:=fun hb=>List.all_eq_false.2 ⟨_,hxl,by rw[hb];simp⟩;have e2:=fA x;cases ha:aboveB c parent x with
  | false=>
    rw[bad (by unfold zbw;rw[ha];rfl),Bool.false_and];rw[ha]at e2;have F:=ai3 chAV.eq_1 hx q1;repeat refine tz1 e2 ?_
    exact aR
  | true=>
    rw[ha]at e2;obtain⟨k,s,rfl,hsk,hat⟩:=zb9 (zao ha);have hk:=(List.getElem?_eq_some_iff.1 hsk).1;have q3:((k:Nat):Int)< (c.states.length:Int):=by omega
    have e3:=fM s;have e4:=fK (k:Int);have hrl:zbw c parent (k:Int)=(!zaq s&&(kidsL c k true).isEmpty):=by unfold zbw;rw[ha,hat,Bool.true_and]
    cases hm:zaq s with
    | true=>
      rw[bad (by rw[hrl,hm];rfl),Bool.false_and];rw[hm]at e3;have F:=ai6 chAV.eq_1 stAV.eq_1 hx q1 q3 hsk;repeat refine tz2 e2 e3 ?_
      exact aR
    | false=>
      rw[hm]at e3 hrl;cases hkk:(kidsL c k true).isEmpty with
      | false=>
        rw[bad (by rw[hrl,hkk];rfl),Bool.false_and]
        have q4:(0:Int)< ((kidsL c k true).length:Int):=by
         cases hh:kidsL c k true with
         |nil=>rw[hh]at hkk;cases hkk
         |cons a b=>simp
        generalize kidsL c (k:Int) true=K at*;have F:=ai7 chAV.eq_1 stAV.eq_1 hx q1 q3 q4 hsk;repeat refine tz3 e2 e3 e4 ?_
        exact aR
      | true=>
        rw[hkk]at hrl
        have q4: ¬(0:Int)< ((kidsL c k true).length:Int):=by
         rw[List.isEmpty_iff.1 hkk];simp
        generalize kidsL c (k:Int) true=K at*;have F:=ai8 chAV.eq_1 stAV.eq_1 hx q1 q2 q3 q4 hsk;repeat refine tz3 e2 e3 e4 ?_
        refine⟨j+1,⟨hlt,fun m y hm hy=> ?_⟩,?_,?_,by omega⟩
        ·rcases Nat.lt_succ_iff_lt_or_eq.1 hm with e|e
         ·exact hall m y e hy
         ·rw[e,hx]at hy;cases hy;rw[hrl];rfl
        ·exact qe
        ·have F:=chAV.eq_1;exact qe
 ·obtain rfl:j=l.length:=by omega
  have q1:=nl l.length
  have hleaf:l.all (zbw c parent)=true:=List.all_eq_true.2 fun y hy=>by
   obtain⟨m,hm⟩:=List.mem_iff_getElem?.1 hy;exact hall m y (List.getElem?_eq_some_iff.1 hm).1 hm
  have hz: ∀x∈l,inZ c x=true:=fun x hx=>by
   have:=List.all_eq_true.1 hleaf x hx;unfold zbw at this;rw[Bool.and_eq_true,Bool.and_eq_true]at this;exact zao this.1.1
  have hl32:l.length<=32:=by
   have:=zdS (zeB hr) hz;omega
  have f5:=zre env c h.toRight l (by omega) parent;have hpl:=zt1 c l parent;have hf:Fits ((pathL c l parent).length+1) 8:=zae (by omega) (by omega);have hAin:=zs1 hp l;have hA:(deepRA c parent l).map intAV=(pathL c l parent).map zac++[[I parent]]:=by unfold deepRA;rw[List.map_append,zcF];rfl
  have hAl:(deepRA c parent l).length<=40:=by unfold deepRA;rw[List.length_append,za9];simp;omega
  rw[hleaf,Bool.true_and];unfold chAV at f5;generalize deepRA c parent l=A at*;generalize pathL c l parent=U at*;try clear hall hleaf
  have F:=ai3 chAV.eq_1 q1 hf;repeat refine tz1 f5 ?_
  refine zab (D:=Nat) (fun j vs=>[(3, .loc 3 (vs 3) 0 0),(8, .row 53 (vs 53)),(9,I j)]) (fun _ _=>[(3,⟨5,[chAV c],26,false⟩),(53,⟨1,A.map intAV,3,true⟩)]) (fun j _ _=>j<=A.length/\ ∀m (y:Int),m<j->A[m]? =some y->zbx c A y=true) (fun j=>A.length-j) 0 ?_ ?_ ?_ ?_
  ·exact⟨Nat.zero_le _,fun m y hm=>absurd hm (by omega)⟩
  ·(simp only[go_sem,F])
   try rfl
  ·have F:=ai chAV.eq_1 hA
   (simp only[go_sem,F])
   try rfl
  try clear q1 hlt hj hf
  rintro j us es ⟨hj,hall⟩;by_cases hlt:j<A.length
  ·obtain⟨x,hx⟩:=gE hlt;have q1:=nlt hlt;have q2:=zaa hlt (by omega);have hxl:=List.mem_of_getElem? hx;obtain⟨k,s,rfl,hsk,hat⟩:=zb9 (hAin x hxl);have hk:=(List.getElem?_eq_some_iff.1 hsk).1;have q3:((k:Nat):Int)< (c.states.length:Int):=by omega
   have e4:=fK (k:Int);have hK:=zaS h.toRight k true;have e5:=zhh env A (kidsL c k true) (by omega) (by omega);have hcv:zbx c A (k:Int)= !(((s.kind==1)&&decide (manyI A (kidsL c k true)≠min (kidsL c k true).length 1))||((s.kind==2)&&decide (manyI A (kidsL c k true)≠(kidsL c k true).length))):=by unfold zbx;rw[hat]
   generalize kidsL c (k:Int) true=K at*;generalize manyI A K=N at*
   have g1:((N:Int) != if (1:Int)< (K.length:Int) then 1 else(K.length:Int))=decide (N≠min K.length 1):=by
    have e:(if (1:Int)< (K.length:Int) then(1:Int) else(K.length:Int))=((min K.length 1:Nat):Int):=by split<;>omega
    rw[e];by_cases hh:N=min K.length 1
    ·rw[decide_eq_false (by simp[hh]), <-hh];simp
    ·rw[decide_eq_true hh];simp;omega
   have g2:((N:Int) != (K.length:Int))=decide (N≠K.length):=by
    by_cases hh:N=K.length
    ·rw[decide_eq_false (by simp[hh]), <-hh];simp
    ·rw[decide_eq_true hh];simp;omega
   generalize decide (N≠min K.length 1)=v1 at*;generalize decide (N≠K.length)=v2 at*;cases hC:zbx c A (k:Int) with
   | false=>
     rw[show A.all (zbx c A)=false from List.all_eq_false.2 ⟨_,hxl,by rw[hC];simp⟩];cases h1:(s.kind==1)<;>cases h2:(s.kind==2)<;>cases v1<;>cases v2
     all_goals first
      |(exfalso;simp[hcv,h1,h2]at hC;done)
      |skip
     all_goals
      have F:=ai10 chAV.eq_1 stAV.eq_1 hx q1 q3 hsk h1 h2 g1 g2;repeat refine tz2 e4 e5 ?_
      exact aR
   | true=>
     cases h1:(s.kind==1)<;>cases h2:(s.kind==2)<;>cases v1<;>cases v2
     all_goals first
      |(exfalso;simp[hcv,h1,h2]at hC;done)
      |skip
     all_goals
      have F:=ai11 chAV.eq_1 stAV.eq_1 hx q1 q2 q3 hsk h1 h2 g1 g2;repeat refine tz2 e4 e5 ?_
      refine⟨j+1,⟨hlt,fun m y hm hy=> ?_⟩,?_,?_,by omega⟩
      ·rcases Nat.lt_succ_iff_lt_or_eq.1 hm with e|e
       ·exact hall m y e hy
       ·rw[e,hx]at hy;cases hy;exact hC
      ·exact qe
      ·have F:=chAV.eq_1;exact qe
  ·obtain rfl:j=A.length:=by omega
   have q1:=nl A.length
   rw[show A.all (zbx c A)=true from List.all_eq_true.2 fun y hy=>by
    obtain⟨m,hm⟩:=List.mem_iff_getElem?.1 hy
    exact hall m y (List.getElem?_eq_some_iff.1 hm).1 hm]
   have F:=q1;repeat refine st ?_
   exact aR
end
section
theorem zjv (env:Env) (c:ChD) (h:Full c) (m:MemD) (hF:Fits m.2.length 8):Con prog env 103 [.agg (chAV c), .agg (mmAV m)] (B (memB c m)):=by
 obtain⟨i,l⟩:=m;have hF:Fits l.length 8:=hF;have f0:=zmB env c i;have hlen:=h.few;unfold chAV at f0;unfold memB mmAV;simp only;cases hz:inZ c i with
 | false=>
   rw[zvz hz];rw[hz]at f0;simp only;refine qf func103 call103 ntmps103 results103 ?_;have F:=chAV.eq_1;repeat refine tz1 f0 ?_
   exact aR
 |true=>
 rw[hz]at f0;obtain⟨k,s,rfl,hsk,hat⟩:=zb9 hz;have hk:=(List.getElem?_eq_some_iff.1 hsk).1;have q3:((k:Nat):Int)< (c.states.length:Int):=by omega
 rw[hat];simp only;by_cases h4:s.kind=4
 ·rw[if_pos h4];have b4:(s.kind==4)=true:=by simp[h4]
  obtain⟨p1,p2⟩:=zjG h hsk (.inl h4);have f2:=zcK env c s.parent true (by omega);rw[<-zcF]at f2;have hK:=zaS h.toRight s.parent true;by_cases h1:l.length=1
  ·obtain⟨y,rfl⟩: ∃y,l=[y]:=List.length_eq_one_iff.1 h1;have f3:=zdC env (zL (kidsL c s.parent true)) y (by rw[za9];omega);show Con _ _ _ _ (B ((zL (kidsL c s.parent true)).contains y));unfold chAV at f2;generalize zL (kidsL c s.parent true)=Z at*;refine qf func103 call103 ntmps103 results103 ?_;have F:=ai5 chAV.eq_1 stAV.eq_1 hsk q3 b4;repeat refine tz3 f0 f2 f3 ?_
   exact aR
  ·have b1:((l.length:Int)==1)=false:=by simp;omega
   rw[decide_eq_false h1,Bool.false_and];refine qf func103 call103 ntmps103 results103 ?_;have F:=ai6 chAV.eq_1 stAV.eq_1 hsk q3 b4 b1;repeat refine tz1 f0 ?_
   exact aR
 ·rw[if_neg h4];have b4:(s.kind==4)=false:=by simpa using h4
  cases b5:(s.kind==5) with
  | false=>
    rw[Bool.false_and];refine qf func103 call103 ntmps103 results103 ?_;have F:=ai6 chAV.eq_1 stAV.eq_1 hsk q3 b4 b5;repeat refine tz1 f0 ?_
    exact aR
  | true=>
    rw[Bool.true_and];obtain⟨p1,p2⟩:=zjG h hsk (.inr (by simpa using b5));have f2:=zri env c h s.parent p2 l hF;rw[<-zhY h p1]at f2;unfold chAV at f2;generalize deepB c s.parent l=D at*;refine qf func103 call103 ntmps103 results103 ?_;have F:=ai6 chAV.eq_1 stAV.eq_1 hsk q3 b4 b5;repeat refine tz2 f0 f2 ?_
    exact aR
theorem zkV (env:Env) (c:ChD) (h:Full c) (mem:List MemD) (hl:mem.length<=1000000) (hF: ∀m∈mem,Fits m.2.length 8):Con prog env 53 [.agg (chAV c),memsAV mem] (B (zbd c mem)):=by
 refine qf func53 call53 ntmps53 results53 ?_;repeat refine st0 ?_
 refine zab (D:=Nat) (fun j vs=>[(1,memsAV mem),(2, .loc 2 (vs 2) 0 0),(5,I j)]) (fun _ _=>[(2,⟨5,[chAV c],26,false⟩)]) (fun j _ _=>j<=mem.length/\ ∀m,m<j->zhr c mem m=true) (fun j=>mem.length-j) 0 ?_ ?_ ?_ ?_
 ·exact⟨Nat.zero_le _,fun m hm=>absurd hm (by omega)⟩
 ·(simp only[go_sem])
  try rfl
 ·have F:=chAV.eq_1
  (simp only[go_sem,F])
  try rfl
 rintro j ws esc ⟨hj,hall⟩;by_cases hlt:j<mem.length
 ·obtain⟨x,hx⟩:=gE hlt;have q1:=nlt hlt;have q2:=zaa hlt (by omega);have f1:=zjv env c h x (hF x (List.mem_of_getElem? hx));have hat:zhr c mem j=(memB c x&&((j==0)||decide ((mem.getD (j-1) (0,[])).1<x.1))):=by unfold zhr;rw[hx]
  unfold chAV mmAV at f1;cases hb:memB c x with
  | false=>
    rw[hb]at f1;rw[zgK hlt (by rw[hat,hb];rfl)];have F:=ai4 chAV.eq_1 mmAV.eq_1 hx q1;repeat refine tz1 f1 ?_
    exact aR
  | true=>
    rw[hb]at f1;rw[hb,Bool.true_and]at hat;by_cases h0:j=0
    ·have g0: ¬(0:Int)< (j:Int):=by omega
     have F:=ai6 chAV.eq_1 mmAV.eq_1 hx q1 q2 g0;repeat refine tz1 f1 ?_
     refine⟨j+1,⟨hlt,fun m hm=> ?_⟩,?_,?_,by omega⟩
     ·obtain rfl:m=j:=by omega
      rw[hat,h0];rfl
     ·exact qe
     ·have F:=chAV.eq_1;exact qe
    ·obtain⟨i,rfl⟩: ∃i,j=i+1:=⟨j-1,by omega⟩;obtain⟨p,hp⟩: ∃p,mem[i]? =some p:=⟨mem[i]'(by omega),List.getElem?_eq_getElem (by omega)⟩;have g0:(0:Int)< ((i+1:Nat):Int):=by omega
     have g1:IntKind.i64.wrap (((i+1:Nat):Int)-1)=(i:Int):=by rw[IntWalk.i64_in _ (by omega)];omega
     have g2:((i:Nat):Int)< (mem.length:Int):=by omega
     have hgd:mem.getD (i+1-1) (0,[])=p:=by rw[Nat.add_sub_cancel,List.getD_eq_getElem?_getD,hp];rfl
     rw[hgd]at hat;by_cases hlt2:x.1<=p.1
     ·rw[zgK hlt (by rw[hat,decide_eq_false (by omega)];rfl)];have F:=ai9 chAV.eq_1 mmAV.eq_1 hx hp q1 g0 g1 g2 hlt2;repeat refine tz1 f1 ?_
      exact aR
     ·have F:=ai10 chAV.eq_1 mmAV.eq_1 hx hp q1 q2 g0 g1 g2 hlt2;repeat refine tz1 f1 ?_
      refine⟨i+1+1,⟨hlt,fun m hm=> ?_⟩,?_,?_,by omega⟩
      ·rcases Nat.lt_succ_iff_lt_or_eq.1 hm with e|e
       ·exact hall m e
       ·rw[e,hat,decide_eq_true (by omega)];simp
      ·exact qe
      ·have F:=chAV.eq_1;exact qe
 ·obtain rfl:j=mem.length:=by omega
  have q1:=nl mem.length;rw[zk1 hall];have F:=q1;repeat refine st ?_
  exact aR
end

end Go.Proofs.YtbpmkofnfgdegaaGreatDoor