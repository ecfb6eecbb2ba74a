/- Package micro: Enabled. -/
import Derived.Test.YtbpmkofnfgdegaaGreatDoorM22
import Derived.Test.YtbpmkofnfgdegaaGreatDoorM8
import Derived.Test.YtbpmkofnfgdegaaGreatDoorM6
import Derived.Test.YtbpmkofnfgdegaaGreatDoorM23
import Derived.Test.YtbpmkofnfgdegaaGreatDoorM18
import Derived.Test.YtbpmkofnfgdegaaGreatDoorM19
import Derived.Test.YtbpmkofnfgdegaaGreatDoorM11
import Derived.Test.YtbpmkofnfgdegaaGreatDoorM21
set_option maxRecDepth 100000
set_option maxHeartbeats 16000000
set_option linter.unusedSimpArgs false
namespace Go.Proofs.YtbpmkofnfgdegaaGreatDoor
open Go.Proofs.Tryz
open Go.RowKit
section
theorem zoI {c:ChD} {A:List Nat} {i:Nat} (hA:(zL A).Pairwise (· < ·)) (hlt: ∀k∈A,k<c.states.length) (hi:i<c.states.length) (hn:(zL A).contains (i:Int)=false):zL (zf8 c (A++[i]))=zaR (zL A++[(i:Int)]):=by
 obtain⟨s1,s2⟩:=zh6 hA hn;refine zkP (by unfold zf8; exact zn2) s1 fun x=> ?_;rw [s2];constructor
 ·intro hx;obtain⟨k,hk,rfl⟩:=List.mem_map.1 hx;have:=ze0.1 (List.mem_filter.1 hk).2;rcases List.mem_append.1 this with q | q
  ·exact .inl (List.mem_map.2 ⟨k,q,rfl⟩)
  ·exact .inr (by rw [List.mem_singleton.1 q])
 ·rintro(hx | rfl)
  ·obtain⟨k,hk,rfl⟩:=List.mem_map.1 hx;exact List.mem_map.2 ⟨k,List.mem_filter.2 ⟨List.mem_range.2 (hlt k hk),ze0.2 (by simp [hk])⟩,rfl⟩
  ·exact List.mem_map.2 ⟨i,List.mem_filter.2 ⟨List.mem_range.2 hi,ze0.2 (by simp)⟩,rfl⟩
def arQ (c:ChD) (g:Int):Bool:=decide (0<=g)&&(za7 c g==2)
theorem ztY (c:ChD) (A:List Int) (g:Int):(if 0<=g/\za7 c g=2 then A.filter (arQ c)++[g] else A.filter (arQ c))=(A++[g]).filter (arQ c):=by
 rw [List.filter_append];split
 ·rename_i h;have:arQ c g=true:=by unfold arQ; simp [h]
  rw [List.filter_cons_of_pos this];rfl
 ·rename_i h;have: ¬arQ c g=true:=by unfold arQ; simpa using h
  rw [List.filter_cons_of_neg this];simp
theorem zs9 (c:ChD) (A:List Int):sortL c (A.filter (arQ c))=(walkL c (-1)).filter fun k:Nat=>A.contains (k:Int)&&za7 c k==2:=by
 have hz:(A.filter (arQ c)).all (inZ c)=true:=by
  rw [List.all_eq_true];intro x hx;have h2:=(List.mem_filter.1 hx).2;unfold arQ za7 at h2;rw [Bool.and_eq_true] at h2;cases ha:at_ c x with
  | none=>rw [ha] at h2; simp at h2
  | some s=>
    unfold at_ at ha;split at ha
    ·rename_i h0;have:=(List.getElem?_eq_some_iff.1 ha).1;exact zas.2 ⟨h0,by omega⟩
    ·cases ha
 unfold sortL;rw [if_pos hz];apply List.filter_congr;intro k _;rw [Bool.eq_iff_iff,Bool.and_eq_true,List.contains_iff_mem,List.contains_iff_mem,List.mem_filter];unfold arQ;simp
theorem ziy (c:ChD): ∀(l:List Int) (r:RunD) (o:List Int),ErOk (zbP c r o l).1.2
 | [],r,o=>fun x h=>by cases h
 | i::l,r,o=>by
   unfold zbP;split
   ·exact ziy c l _ _
   ·split
    ·exact ziy c l _ _
    ·exact zia _ _ _
theorem zix (c:ChD): ∀(l:List Int) (r:RunD),ErOk (zcg c r l).2
 | [],r=>fun x h=>by cases h
 | i::l,r=>by
   unfold zcg;split
   ·split
    ·exact zix c l _
    ·exact zia _ _ _
   ·exact zix c l _
theorem ziD (c:ChD) (d now:Int): ∀(l:List Int) (r:RunD) (f:List Int),ErOk (zaN c d now r f l).1.2
 | [],r,f=>fun x h=>by cases h
 | i::l,r,f=>by
   unfold zaN;split
   ·exact ziD c d now l _ _
   ·split
    ·exact ziD c d now l _ _
    ·exact zqB _ _ _ _ _
theorem zrF {e:ErD} (h:ErOk e) {k:Nat} {ps:List Int} (he:e=some (k,ps)):((k:Int)==0)=false:=by
 have:=h (k,ps) he;simp only at this;simp;omega
theorem zrH (c:ChD) (d now:Int) (r:RunD) (l:List Int):ErOk (enterP c d now r l).2:=by
 have h1:=ziD c d now l r [];unfold enterP;split
 ·rename_i r1 f e;unfold finishP;have h2:=ziy c f r1 [];split
  ·exact zix _ _ _
  ·rename_i x y hh e2;rw [e2] at h2;exact h2
 ·rename_i x y hh e;rw [e] at h1;exact h1
theorem zte {c:ChD} {act:List Int} (hb:lgB c act=true) {i:Int} (hi:i∈act):parZ c i<0\/(parZ c i∈act/\(0<=parZ c (parZ c i)->parZ c (parZ c i)∈act)):=by
 have hL:=zma hb;obtain⟨_,_,_,_,hp,_⟩:=hL.of hi;rcases hp with q | q
 ·exact .inl q
 ·obtain⟨_,_,_,_,hp2,_⟩:=hL.of q;exact .inr ⟨q,fun h0=>hp2.resolve_left (by omega)⟩
theorem zpO {c:ChD} {r:RunD} {l:List Int} {g:Int} :zcg c r (g::l)=if zkc c r.act g=true then(match raiseP r (dotN c g) 0 with
 |(r1,none)=>zcg c r1 l
 | x=>x)
 else zcg c r l:=by
 conv=>lhs; unfold zcg
 rcases raiseP r (dotN c g) 0 with⟨r1,_ | _⟩<;>rfl
theorem zj9 {c:ChD} {d now:Int} {r:RunD} {l:List Int} {e:Nat×List Int} (h:(zaN c d now r [] l).1.2=some e):enterP c d now r l=(zaN c d now r [] l).1:=by
 unfold enterP;rcases hX:zaN c d now r [] l with⟨⟨r1,_ | x⟩,f⟩
 ·rw [hX] at h; cases h
 ·rfl
theorem zsX {c:ChD} {r:RunD} {l:List Int} {e:Nat×List Int} (h:(zbP c r [] l).1.2=some e):finishP c r l=(zbP c r [] l).1:=by
 unfold finishP;rcases hX:zbP c r [] l with⟨⟨r1,_ | x⟩,f⟩
 ·rw [hX] at h; cases h
 ·rfl
theorem zm8 (env:Env) (c:ChD) (h:Full c):Con prog env 101 [.agg (chAV c)] (.own 3 1 ((walkL c (-1)).map zae)):=by
 have f0:=zge env c h.toRight (c.states.length+1) (-1) (by omega) (by omega);unfold chAV at f0;refine qf func101 call101 ntmps101 results101 ?_;have F:=chAV.eq_1;repeat (first | refine st ?_ | refine cC f0 ?_)
 exact aR
theorem zna (env:Env) (c:ChD) (h:Full c) (hcv:c.vars.length<=1000) (d now:Int) (hd:zaj d=true) (hn:0<=now/\now<=1099511627776) (r:RunD) (hr:RunOk c r) (hrise:r.act.Pairwise (· < ·)) (hin: ∀x∈r.act,inZ c x=true) (hl:r.act.length<=1000) (G:List Nat) (hG: ∀i∈G,i<c.states.length) (hGl:G.length<=1000) (hleg:(zaN c d now r [] (zL G)).1.2=none->lgB c (zaN c d now r [] (zL G)).1.1.act=true):
 Con prog env 52 [.agg (chAV c), .agg (rrA r d now none), .seq 1 (G.map zae)] (.agg (rrA (enterP c d now r (zL G)).1 d now (enterP c d now r (zL G)).2)):=by
 have hfew:=h.few;have hpar:=h.toRight.par;have hAc:=zb1 h;have hall:=fun(r:RunD) hr hl (l:List ActD) hll ha=>zq0 env c (by omega) hcv d now hd hn r hr hl l hll ha;have hok:=fun(r:RunD) (hr:RunOk c r) (l:List ActD) ha=>zks hd hn (l:=l) hr ha;have hri:=fun(l:List Nat) hl=>((zm3 env c (by omega) l hl).lend (zaJ (fun _=>rfl) _)).seen;have fIn:=fun(l:List Int) (hl:l.length<=1000000) (i:Nat)=>zev env l i hl;have fW:=((zm8 env c h).lend (zaJ (fun _=>rfl) _)).seen;have hD:=fun(act:List Int) hl (i:Nat) hi=>zjh env c h act hl 40 i hi (by omega);have hra:=fun(r:RunD) (s:List UInt8)=>zhk env r d now s 0;have hcE:=ziD c d now (zL G) r [];obtain⟨_,hck⟩:=zeg hAc (l:=zL G) (f:=[]) hd hn hr hrise;have hWl:(walkL c (-1)).length<=1000000:=by have:=zhR h.toRight; omega
 have hWk: ∀k∈walkL c (-1),k<c.states.length:=fun k hk=>(zej h.toRight k).1 hk;have hchf:chAV c=[Sg c.name,I c.initial,varsAV c.vars,stsAV c.states,trsAV c.trans]:=rfl;rw [hchf] at hri fW hD;refine qf func52 call52 ntmps52 results52 ?_;have F:=ai3 rrA.eq_1 rrA.eq_2 chAV.eq_1;repeat refine st ?_
 refine zab (D:=Nat×RunD×List Int×ErD) (fun x vs=>[(2, .seq 1 (G.map zae)),(3, .loc 3 (vs 3) 0 0),(4, .loc 4 (vs 4) 0 0),(6, .loc 6 (vs 6) 0 0),(7, .row 15 (vs 15)),(8,I x.1)]) (fun x vs=>[(3,⟨5,[chAV c],26,false⟩),(4,⟨11,[rrA x.2.1 d now x.2.2.2],59,false⟩),(6,⟨11,[[nilS,nilS,nilS,nilS,B false,nilS,nilS,I 0,I 0,I 0,I 0]],59,false⟩),(15,⟨1,x.2.2.1.map intAV,3,true⟩)]) (fun x _ esc=>(x.1<=G.length/\x.2.2.1.length<=x.1/\(match x.2.2.2 with
  | none=>zaN c d now r [] (zL G)=zaN c d now x.2.1 x.2.2.1 ((zL G).drop x.1)/\RunOk c x.2.1/\x.2.1.act.Pairwise (· < ·)/\(∀y∈x.2.1.act,inZ c y=true)/\x.2.1.act.length<=r.act.length+x.1
  | some e=>(zaN c d now r [] (zL G)).1=(x.2.1,some e)))/\esc 4=false/\esc 6=false/\esc 15=false) (fun x=>(G.length-x.1)+(if x.2.2.2.isSome=true then 0 else 1)) (0,r,[],none) ?_ ?_ ?_ ?_
 ·exact⟨⟨Nat.zero_le _,Nat.zero_le _,rfl,hr,hrise,hin,Nat.le_refl _⟩,by simp only [go_sem,and_self]⟩
 ·exact qe
 ·(simp only [go_sem,F])
  try rfl
 rintro⟨j,r1,f,e⟩ ws es ⟨⟨hj,hfl,heq⟩,e0,e1,e2⟩;simp only at hj hfl heq;rcases e with _ | ⟨k,ps⟩
 ·obtain⟨heq,hr1,hrise1,hin1,hact⟩:=heq;by_cases hlt:j<G.length
  ·obtain⟨i,hx⟩: ∃a,G[j]? =some a:=⟨G[j],List.getElem?_eq_getElem hlt⟩;have hil:=hG i (List.mem_of_getElem? hx);obtain⟨s,hs⟩: ∃s,c.states[i]? =some s:=⟨c.states[i],List.getElem?_eq_getElem hil⟩;obtain⟨_,s1,s2⟩:=zqC h hs;have ho:inA c i=s.inn:=by unfold inA; rw [zbd,hs]
   have q1:=nlt hlt;have q2:=zaa hlt (by omega);have q3:=nlt hil;have fi:=fIn r1.act (by omega) i;rw [zkh (zkw hx),ho,zc5 hs] at heq;cases hc:r1.act.contains (i:Int) with
   | true=>
     rw [hc] at heq fi;simp only [if_true] at heq;have F:=ai13 rrA.eq_1 rrA.eq_2 chAV.eq_1 stAV.eq_1 zae.eq_1 hx hs q1 q2 q3 e0 e1 e2;repeat (first | refine st ?_ | refine cC fi ?_)
     refine⟨(j+1,r1,f,none),⟨⟨hlt,by simp only; omega,heq,hr1,hrise1,hin1,by simp only; omega⟩, ?_⟩, ?_, ?_, ?_⟩
     ·simp only [go_sem,e0,e1,e2,and_self]
     ·exact qe
     ·exact qe
     ·simp; omega
   | false=>
     rw [hc] at heq fi;simp only [Bool.false_eq_true,if_false] at heq;obtain⟨A,hA⟩: ∃A:List Nat,r1.act=zL A:=⟨_,zt1 fun x hx=>(zas.1 (hin1 x hx)).1⟩;have hAlt: ∀k∈A,k<c.states.length:=fun k hk=>zay.1 (hin1 k (by rw [hA]; exact List.mem_map.2 ⟨k,hk,rfl⟩));have hrs:=zoI (c:=c) (by rw [<-hA]; exact hrise1) hAlt hil (by rw [<-hA]; exact hc);rw [<-hA] at hrs;have hAl:A.length=r1.act.length:=by rw [hA,zcj]
     have hact1:(zaR (r1.act++[(i:Int)])).length<=r.act.length+(j+1):=by rw [zep,List.length_append,List.length_singleton]; omega
     obtain⟨s3,s4⟩:=zh6 hrise1 hc;have fr:=hri (A++[i]) (by rw [List.length_append,List.length_singleton]; omega);have fr1:(A++[i]).map zae=r1.act.map intAV++[[I i]]:=by rw [hA,zg9,List.map_append]; rfl
     rw [fr1, <-zg9,hrs] at fr;have f0:=hall { r1 with act:=zaR (r1.act++[(i:Int)]) } { hr1 with } (by simp only; omega) s.inn (by omega) s2;obtain⟨k1,k2⟩:=hok { r1 with act:=zaR (r1.act++[(i:Int)]) } { hr1 with } s.inn s2;have q4:Fits (r1.act.length+1) 8:=zaf (by omega) (by omega);have q5:Fits r1.act.length 8:=zaf (by omega) (by omega);have q6:Fits (f.length+1) 8:=zaf (by omega) (by omega);have q7:(f++[(i:Int)]).map intAV=f.map intAV++[[I i]]:=by rw [List.map_append]; rfl
     rcases hX:allP c d now { r1 with act:=zaR (r1.act++[(i:Int)]) } s.inn with⟨r2,_ | ⟨k,ps⟩⟩
     ·rw [hX] at heq f0 k1 k2;simp only at heq k1;have hae:r2.act=zaR (r1.act++[(i:Int)]):=k2.act;have hact2:r2.act.length<=r.act.length+(j+1):=by rw [hae]; exact hact1
      have hrise2:r2.act.Pairwise (· < ·):=by rw [hae]; exact s3
      have hin2: ∀y∈r2.act,inZ c y=true:=fun y hy=>by
       rw [hae,s4] at hy;rcases hy with q | rfl
       ·exact hin1 y q
       ·exact zay.2 hil
      try clear k2 hae hact1 s3 s4 hrs
      generalize hS:zaR (r1.act++[(i:Int)])=S at*;unfold rrA at f0;simp only at f0;rw [hchf] at f0;cases h3:s.kind==3 with
      | false=>
        have h4: ¬s.kind=3:=by simpa using h3
        rw [if_neg h4] at heq;have F:=ai17 rrA.eq_1 rrA.eq_2 chAV.eq_1 stAV.eq_1 zae.eq_1 actsAV.eq_1 hx hs h3 q1 q2 q3 q4 q5 e0 e1 e2;repeat (first | refine st ?_ | refine cC fi ?_)
        refine lL fr ?_;repeat (first | refine st ?_ | refine cC f0 ?_)
        refine⟨(j+1,r2,f,none),⟨⟨hlt,by simp only; omega,heq,k1,hrise2,hin2,hact2⟩, ?_⟩, ?_, ?_, ?_⟩
        ·simp only [go_sem,e0,e1,e2,and_self]
        ·exact qe
        ·exact qe
        ·simp; omega
      | true=>
        have h4:s.kind=3:=by simpa using h3
        rw [if_pos h4] at heq;have F:=ai18 rrA.eq_1 rrA.eq_2 chAV.eq_1 stAV.eq_1 zae.eq_1 actsAV.eq_1 hx hs h3 q1 q2 q3 q4 q5 q6 e0 e1 e2;repeat (first | refine st ?_ | refine cC fi ?_)
        refine lL fr ?_;repeat (first | refine st ?_ | refine cC f0 ?_)
        refine⟨(j+1,r2,f++[(i:Int)],none),⟨⟨hlt,by simp only [List.length_append,List.length_singleton]; omega,heq,k1,hrise2,hin2,hact2⟩, ?_⟩, ?_, ?_, ?_⟩
        ·simp only [go_sem,e0,e1,e2,and_self]
        ·exact qe
        ·simp only [q7];exact qe
        ·simp; omega
     ·rw [hX] at heq f0;simp only at heq;try clear k1 k2 hact1 s3 s4 hrs
      generalize hS:zaR (r1.act++[(i:Int)])=S at*;unfold rrA at f0;simp only at f0;rw [hchf] at f0;cases h3:s.kind==3 with
      | false=>
        have F:=ai17 rrA.eq_1 rrA.eq_2 chAV.eq_1 stAV.eq_1 zae.eq_1 actsAV.eq_1 hx hs h3 q1 q2 q3 q4 q5 e0 e1 e2;repeat (first | refine st ?_ | refine cC fi ?_)
        refine lL fr ?_;repeat (first | refine st ?_ | refine cC f0 ?_)
        refine⟨(j+1,r2,f,some (k,ps)),⟨⟨hlt,by simp only; omega,by rw [heq]⟩, ?_⟩, ?_, ?_, ?_⟩
        ·simp only [go_sem,e0,e1,e2,and_self]
        ·exact qe
        ·exact qe
        ·simp; omega
      | true=>
        have F:=ai18 rrA.eq_1 rrA.eq_2 chAV.eq_1 stAV.eq_1 zae.eq_1 actsAV.eq_1 hx hs h3 q1 q2 q3 q4 q5 q6 e0 e1 e2;repeat (first | refine st ?_ | refine cC fi ?_)
        refine lL fr ?_;repeat (first | refine st ?_ | refine cC f0 ?_)
        refine⟨(j+1,r2,f++[(i:Int)],some (k,ps)),⟨⟨hlt,by simp only [List.length_append,List.length_singleton]; omega,by rw [heq]⟩, ?_⟩, ?_, ?_, ?_⟩
        ·simp only [go_sem,e0,e1,e2,and_self]
        ·exact qe
        ·simp only [q7];exact qe
        ·simp; omega
  ·obtain rfl:j=G.length:=by omega
   have q1: ¬(G.length:Int)< (G.length:Int):=by omega
   rw [List.drop_of_length_le (by rw [zcj]; omega)] at heq;rw [show zaN c d now r1 f []=((r1,none),f) from rfl] at heq;rw [heq] at hck hleg;have hb:=hleg rfl;have kc:=hck rfl;simp only at hb kc
   have hfin: ∀x∈f,x∈r1.act:=fun x hx=>by
    rcases (kc.fin x).1 hx with q | ⟨q,_⟩
    ·simp at q
    ·exact(kc.mem x).2 (.inr q)
   have hfe:=ziy c f r1 [];unfold enterP;rw [heq];simp only;have hl1:r1.act.length<=1000000:=by omega
   try clear hck hleg heq hcE kc hall hri hr hrise hin hl
   have F:=ai7 rrA.eq_1 rrA.eq_2 chAV.eq_1 q1 e0 e1 e2;repeat refine st ?_
   refine zab (D:=Nat×RunD×List Int×ErD) (fun x vs=>[(3, .loc 3 (vs 3) 0 0),(4, .loc 4 (vs 4) 0 0),(6, .loc 6 (vs 6) 0 0),(7, .row 15 (vs 15)),(9, .row 79 (vs 79)),(10,I x.1)]) (fun x vs=>[(3,⟨5,[chAV c],26,false⟩),(4,⟨11,[rrA x.2.1 d now x.2.2.2],59,false⟩),(6,⟨11,[[nilS,nilS,nilS,nilS,B false,nilS,nilS,I 0,I 0,I 0,I 0]],59,false⟩),(15,⟨1,f.map intAV,3,true⟩),(79,⟨1,x.2.2.1.map intAV,3,true⟩)]) (fun x _ esc=>(x.1<=f.length/\x.2.2.1.length<=x.1/\(match x.2.2.2 with
    | none=>zbP c r1 [] f=zbP c x.2.1 (x.2.2.1.filter (arQ c)) (f.drop x.1)/\x.2.1.act=r1.act/\ ∀g∈x.2.2.1,0<=g->g∈r1.act
    | some e=>(zbP c r1 [] f).1=(x.2.1,some e)))/\esc 4=false/\esc 6=false/\esc 15=false/\esc 79=false) (fun x=>(f.length-x.1)+(if x.2.2.2.isSome=true then 0 else 1)) (0,r1,[],none) ?_ ?_ ?_ ?_
   ·exact⟨⟨Nat.zero_le _,Nat.zero_le _,rfl,rfl,fun g hg=>by simp at hg⟩,by simp only [go_sem,e0,e1,e2,and_self]⟩
   ·exact qe
   ·(simp only [go_sem,F])
    try rfl
   try clear e0 e1 e2
   rintro⟨j,r2,A,e⟩ ws es ⟨⟨hj,hal,heq⟩,e0,e1,e2,e3⟩;simp only at hj hal heq;rcases e with _ | ⟨k,ps⟩
   ·obtain⟨heq,hact2,hAin⟩:=heq;by_cases hlt:j<f.length
    ·obtain⟨i,hx⟩: ∃a,f[j]? =some a:=⟨f[j],List.getElem?_eq_getElem hlt⟩;have hia:=hfin i (List.mem_of_getElem? hx);obtain⟨_,_,hiz,_⟩:=(zma hb).of hia;have hkin:=zte hb hia;obtain⟨k,s,rfl,hs,_⟩:=zgR hiz;have hkl:=(List.getElem?_eq_some_iff.1 hs).1;have q1:=nlt hlt;have q2:=zaa hlt (by omega);have q3:=nlt hkl;have hps:=hpar k s hs;rw [zgi hs] at hkin;rw [zjO hx,zgi hs] at heq;by_cases hp0:s.parent<0
     ·rw [if_pos hp0] at heq;have F:=ai15 rrA.eq_1 rrA.eq_2 chAV.eq_1 stAV.eq_1 intAV.eq_1 hx hs hp0 q1 q2 q3 e0 e1 e2 e3;repeat refine st ?_
      refine⟨(j+1,{ r2 with over:=true },A,none),⟨⟨hlt,by simp only; omega,heq,hact2,hAin⟩, ?_⟩, ?_, ?_, ?_⟩
      ·simp only [go_sem,e0,e1,e2,e3,and_self]
      ·exact qe
      ·exact qe
      ·simp; omega
     rw [if_neg hp0] at heq;have hkin:=(hkin.resolve_left hp0).2;obtain⟨p,hp⟩: ∃p:Nat,s.parent=p:=⟨s.parent.toNat,by omega⟩;rw [hp] at heq hp0 hps hkin;obtain⟨t,ht⟩: ∃t,c.states[p]? =some t:=⟨c.states[p]'(by omega),List.getElem?_eq_getElem (by omega)⟩;have q5:(p:Int)< (c.states.length:Int):=by omega
     have q9:5+t.name.length<=9223372036854775807:=by have:=zfF h ht; omega
     have q6:Fits (A.length+1) 8:=zaf (by omega) (by omega);have q7:(A++[t.parent]).map intAV=A.map intAV++[[I t.parent]]:=by rw [List.map_append]; rfl
     have f0:=hra r2 (dotN c p);have hra1:=zet r2 (dotN c p) 0;rw [zmu ht] at f0 heq hra1;rw [zgi ht,ztY] at heq;rw [zgi ht] at hkin;rcases hX:raiseP r2 ([100,111,110,101,46]++t.name) 0 with⟨r3,_ | ⟨k,ps⟩⟩
     ·rw [hX] at heq f0 hra1;simp only at heq hra1;unfold rrA at f0;simp only at f0;have F:=ai20 rrA.eq_1 rrA.eq_2 chAV.eq_1 stAV.eq_1 intAV.eq_1 hx hs hp ht hp0 q1 q2 q3 q5 q6 q9 e0 e1 e2 e3;repeat (first | refine st ?_ | refine cC f0 ?_)
      refine⟨(j+1,r3,A++[t.parent],none),⟨⟨hlt,by simp only [List.length_append,List.length_singleton]; omega,heq,hra1.trans hact2,fun g hg h0=> ?_⟩, ?_⟩, ?_, ?_, ?_⟩
      ·rcases List.mem_append.1 hg with q | q
       ·exact hAin g q h0
       ·rw [List.mem_singleton.1 q] at h0 |-;exact hkin h0
      ·simp only [go_sem,e0,e1,e2,e3,and_self]
      ·exact qe
      ·simp only [q7];exact qe
      ·simp; omega
     ·rw [hX] at heq f0;simp only at heq;unfold rrA at f0;simp only at f0;have F:=ai20 rrA.eq_1 rrA.eq_2 chAV.eq_1 stAV.eq_1 intAV.eq_1 hx hs hp ht hp0 q1 q2 q3 q5 q6 q9 e0 e1 e2 e3;repeat (first | refine st ?_ | refine cC f0 ?_)
      refine⟨(j+1,r3,A++[t.parent],some (k,ps)),⟨⟨hlt,by simp only [List.length_append,List.length_singleton]; omega,by rw [heq]⟩, ?_⟩, ?_, ?_, ?_⟩
      ·simp only [go_sem,e0,e1,e2,e3,and_self]
      ·exact qe
      ·simp only [q7];exact qe
      ·simp; omega
    ·obtain rfl:j=f.length:=by omega
     have q1: ¬(f.length:Int)< (f.length:Int):=by omega
     rw [List.drop_length] at heq;rw [show zbP c r2 (A.filter (arQ c)) []=((r2,none),A.filter (arQ c)) from rfl] at heq;unfold finishP;rw [heq];simp only;rw [zs9];have hb2:lgB c r2.act=true:=by rw [hact2]; exact hb
     try clear hfe heq hfin
     have F:=ai8 rrA.eq_1 rrA.eq_2 chAV.eq_1 q1 e0 e1 e2 e3;repeat refine st ?_
     refine lL fW ?_;repeat refine st ?_
     generalize walkL c (-1)=W at*
     refine zab (D:=Nat×RunD×ErD) (fun x vs=>[(3, .loc 3 (vs 3) 0 0),(4, .loc 4 (vs 4) 0 0),(6, .loc 6 (vs 6) 0 0),(9, .row 79 (vs 79)),(12, .seq 1 (W.map zae)),(13,I x.1)]) (fun x vs=>[(3,⟨5,[chAV c],26,false⟩),(4,⟨11,[rrA x.2.1 d now x.2.2],59,false⟩),(6,⟨11,[[nilS,nilS,nilS,nilS,B false,nilS,nilS,I 0,I 0,I 0,I 0]],59,false⟩),(79,⟨1,A.map intAV,3,true⟩)]) (fun x _ esc=>(x.1<=W.length/\(match x.2.2 with
      | none=>zcg c r2 (zL (W.filter fun k:Nat=>A.contains (k:Int)&&za7 c k==2))=zcg c x.2.1 (zL ((W.drop x.1).filter fun k:Nat=>A.contains (k:Int)&&za7 c k==2))/\x.2.1.act=r2.act
      | some e=>zcg c r2 (zL (W.filter fun k:Nat=>A.contains (k:Int)&&za7 c k==2))=(x.2.1,some e)))/\esc 4=false/\esc 6=false/\esc 79=false) (fun x=>(W.length-x.1)+(if x.2.2.isSome=true then 0 else 1)) (0,r2,none) ?_ ?_ ?_ ?_
     ·exact⟨⟨Nat.zero_le _,rfl,rfl⟩,by simp only [go_sem,e0,e1,e3,and_self]⟩
     ·exact qe
     ·(simp only [go_sem,F])
      try rfl
     try clear e0 e1 e2 e3
     rintro⟨j,r3,e⟩ ws es ⟨⟨hj,heq⟩,e0,e1,e3⟩;simp only at hj heq;rcases e with _ | ⟨k,ps⟩
     ·obtain⟨heq,hact3⟩:=heq;have hb3:lgB c r3.act=true:=by rw [hact3]; exact hb2
      have hal3:r3.act.length<=1000000:=by rw [hact3,hact2]; exact hl1
      by_cases hlt:j<W.length
      ·obtain⟨g,hx⟩: ∃a,W[j]? =some a:=⟨W[j],List.getElem?_eq_getElem hlt⟩;have hgl:=hWk g (List.mem_of_getElem? hx);obtain⟨t,ht⟩: ∃t,c.states[g]? =some t:=⟨c.states[g]'(by omega),List.getElem?_eq_getElem (by omega)⟩;have q1:=nlt hlt;have q2:=zaa hlt (by omega);have q3:=nlt hgl;have q9:5+t.name.length<=9223372036854775807:=by have:=zfF h ht; omega
       have fi:=(fIn A (by omega) g).lend rfl;rw [za0 hx] at heq;cases hc:A.contains (g:Int) with
       | false=>
         rw [hc] at fi;rw [List.filter_cons_of_neg (by rw [hc]; simp)] at heq;have F:=ai13 rrA.eq_1 rrA.eq_2 chAV.eq_1 stAV.eq_1 zae.eq_1 hx ht q1 q2 q3 e0 e1 e3;repeat refine st ?_
         refine lL fi ?_;repeat refine st ?_
         refine⟨(j+1,r3,none),⟨⟨hlt,heq,hact3⟩, ?_⟩, ?_, ?_, ?_⟩
         ·simp only [go_sem,e0,e1,e3,and_self]
         ·exact qe
         ·exact qe
         ·simp; omega
       | true=>
         rw [hc] at fi;cases h2:t.kind==2 with
         | false=>
           rw [List.filter_cons_of_neg (by rw [zc5 ht,h2]; simp)] at heq;have F:=ai14 rrA.eq_1 rrA.eq_2 chAV.eq_1 stAV.eq_1 zae.eq_1 hx ht h2 q1 q2 q3 e0 e1 e3;repeat refine st ?_
           refine lL fi ?_;repeat refine st ?_
           refine⟨(j+1,r3,none),⟨⟨hlt,heq,hact3⟩, ?_⟩, ?_, ?_, ?_⟩
           ·simp only [go_sem,e0,e1,e3,and_self]
           ·exact qe
           ·exact qe
           ·simp; omega
         | true=>
           rw [List.filter_cons_of_pos (by rw [zc5 ht,h2,hc]; rfl),show ∀L:List Nat,zL (g::L)=(g:Int)::zL L from fun _=>rfl,zpO] at heq;have hga:(g:Int)∈r3.act:=by rw [hact3,hact2]; exact hAin g (List.contains_iff_mem.1 hc) (by omega)
           have hdb:zkc c r3.act g=doneD c r3.act 40 g:=by unfold zkc; rw [List.contains_iff_mem.2 hga,Bool.true_and,zka h hb3 40 g hga]
           rw [hdb] at heq;have fd:=hD r3.act hal3 g hgl;cases hd2:doneD c r3.act 40 g with
           | false=>
             rw [hd2] at fd heq;simp only [Bool.false_eq_true,if_false] at heq;have F:=ai14 rrA.eq_1 rrA.eq_2 chAV.eq_1 stAV.eq_1 zae.eq_1 hx ht h2 q1 q2 q3 e0 e1 e3;repeat refine st ?_
             refine lL fi ?_;repeat (first | refine st ?_ | refine cC fd ?_)
             refine⟨(j+1,r3,none),⟨⟨hlt,heq,hact3⟩, ?_⟩, ?_, ?_, ?_⟩
             ·simp only [go_sem,e0,e1,e3,and_self]
             ·exact qe
             ·exact qe
             ·simp; omega
           | true=>
             rw [hd2] at fd heq;simp only [if_true] at heq;have f0:=hra r3 (dotN c g);have hra1:=zet r3 (dotN c g) 0;rw [zmu ht] at f0 heq hra1;rcases hX:raiseP r3 ([100,111,110,101,46]++t.name) 0 with⟨r4,_ | ⟨k,ps⟩⟩
             ·rw [hX] at heq f0 hra1;simp only at heq hra1;unfold rrA at f0;simp only at f0;have F:=ai15 rrA.eq_1 rrA.eq_2 chAV.eq_1 stAV.eq_1 zae.eq_1 hx ht h2 q1 q2 q3 q9 e0 e1 e3;repeat refine st ?_
              refine lL fi ?_;repeat (first | refine st ?_ | refine cC fd ?_ | refine cC f0 ?_)
              refine⟨(j+1,r4,none),⟨⟨hlt,heq,hra1.trans hact3⟩, ?_⟩, ?_, ?_, ?_⟩
              ·simp only [go_sem,e0,e1,e3,and_self]
              ·exact qe
              ·exact qe
              ·simp; omega
             ·rw [hX] at heq f0;simp only at heq;unfold rrA at f0;simp only at f0;have F:=ai15 rrA.eq_1 rrA.eq_2 chAV.eq_1 stAV.eq_1 zae.eq_1 hx ht h2 q1 q2 q3 q9 e0 e1 e3;repeat refine st ?_
              refine lL fi ?_;repeat (first | refine st ?_ | refine cC fd ?_ | refine cC f0 ?_)
              refine⟨(j+1,r4,some (k,ps)),⟨⟨hlt,by rw [heq]⟩, ?_⟩, ?_, ?_, ?_⟩
              ·simp only [go_sem,e0,e1,e3,and_self]
              ·exact qe
              ·exact qe
              ·simp; omega
      ·obtain rfl:j=W.length:=by omega
       have q1: ¬(W.length:Int)< (W.length:Int):=by omega
       rw [List.drop_length] at heq;rw [show zcg c r3 (zL (([]:List Nat).filter fun k:Nat=>A.contains (k:Int)&&za7 c k==2))=(r3,none) from rfl] at heq;rw [heq];show awp _ _ _ _ _ _;have F:=ai7 rrA.eq_1 rrA.eq_2 chAV.eq_1 q1 e0 e1 e3;repeat refine st ?_
       exact aR
     ·have hk:=zrF (zix c _ r2) (by rw [heq]);rw [heq];show awp _ _ _ _ _ _;by_cases q1:(j:Int)< (W.length:Int)
      ·have F:=ai8 rrA.eq_1 rrA.eq_2 chAV.eq_1 hk q1 e0 e1 e3;repeat refine st ?_
       exact aR
      ·have F:=ai8 rrA.eq_1 rrA.eq_2 chAV.eq_1 hk q1 e0 e1 e3;repeat refine st ?_
       exact aR
   ·have hk:=zrF hfe (by rw [heq]);rw [zsX (by rw [heq]),heq];show awp _ _ _ _ _ _;generalize walkL c (-1)=W at*;by_cases q1:(j:Int)< (f.length:Int)
    ·by_cases q2:(0:Int)< (W.length:Int)
     ·have F:=ai10 rrA.eq_1 rrA.eq_2 chAV.eq_1 hk q1 q2 e0 e1 e2 e3;repeat (first | refine zag ?_ | refine st ?_ | refine zad 40 ?_)
      refine lL fW ?_;repeat (first | refine zag ?_ | refine st ?_ | refine zad 40 ?_)
      exact aR
     ·have F:=ai10 rrA.eq_1 rrA.eq_2 chAV.eq_1 hk q1 q2 e0 e1 e2 e3;repeat (first | refine zag ?_ | refine st ?_ | refine zad 40 ?_)
      refine lL fW ?_;repeat (first | refine zag ?_ | refine st ?_ | refine zad 40 ?_)
      exact aR
    ·by_cases q2:(0:Int)< (W.length:Int)
     ·have F:=ai10 rrA.eq_1 rrA.eq_2 chAV.eq_1 hk q1 q2 e0 e1 e2 e3;repeat (first | refine zag ?_ | refine st ?_ | refine zad 40 ?_)
      refine lL fW ?_;repeat (first | refine zag ?_ | refine st ?_ | refine zad 40 ?_)
      exact aR
     ·have F:=ai10 rrA.eq_1 rrA.eq_2 chAV.eq_1 hk q1 q2 e0 e1 e2 e3;repeat (first | refine zag ?_ | refine st ?_ | refine zad 40 ?_)
      refine lL fW ?_;repeat (first | refine zag ?_ | refine st ?_ | refine zad 40 ?_)
      exact aR
 ·have hk:=zrF hcE (by rw [heq]);rw [zj9 (by rw [heq]),heq];show awp _ _ _ _ _ _;generalize walkL c (-1)=W at*;by_cases q0:(j:Int)< (G.length:Int)
  ·by_cases q1:(0:Int)< (f.length:Int)
   ·by_cases q2:(0:Int)< (W.length:Int)
    ·have F:=ai10 rrA.eq_1 rrA.eq_2 chAV.eq_1 hk q0 q1 q2 e0 e1 e2;repeat (first | refine zag ?_ | refine st ?_ | refine zad 40 ?_)
     refine lL fW ?_;repeat (first | refine zag ?_ | refine st ?_ | refine zad 40 ?_)
     exact aR
    ·have F:=ai10 rrA.eq_1 rrA.eq_2 chAV.eq_1 hk q0 q1 q2 e0 e1 e2;repeat (first | refine zag ?_ | refine st ?_ | refine zad 40 ?_)
     refine lL fW ?_;repeat (first | refine zag ?_ | refine st ?_ | refine zad 40 ?_)
     exact aR
   ·by_cases q2:(0:Int)< (W.length:Int)
    ·have F:=ai10 rrA.eq_1 rrA.eq_2 chAV.eq_1 hk q0 q1 q2 e0 e1 e2;repeat (first | refine zag ?_ | refine st ?_ | refine zad 40 ?_)
     refine lL fW ?_;repeat (first | refine zag ?_ | refine st ?_ | refine zad 40 ?_)
     exact aR
    ·have F:=ai10 rrA.eq_1 rrA.eq_2 chAV.eq_1 hk q0 q1 q2 e0 e1 e2;repeat (first | refine zag ?_ | refine st ?_ | refine zad 40 ?_)
     refine lL fW ?_;repeat (first | refine zag ?_ | refine st ?_ | refine zad 40 ?_)
     exact aR
  ·by_cases q1:(0:Int)< (f.length:Int)
   ·by_cases q2:(0:Int)< (W.length:Int)
    ·have F:=ai10 rrA.eq_1 rrA.eq_2 chAV.eq_1 hk q0 q1 q2 e0 e1 e2;repeat (first | refine zag ?_ | refine st ?_ | refine zad 40 ?_)
     refine lL fW ?_;repeat (first | refine zag ?_ | refine st ?_ | refine zad 40 ?_)
     exact aR
    ·have F:=ai10 rrA.eq_1 rrA.eq_2 chAV.eq_1 hk q0 q1 q2 e0 e1 e2;repeat (first | refine zag ?_ | refine st ?_ | refine zad 40 ?_)
     refine lL fW ?_;repeat (first | refine zag ?_ | refine st ?_ | refine zad 40 ?_)
     exact aR
   ·by_cases q2:(0:Int)< (W.length:Int)
    ·have F:=ai10 rrA.eq_1 rrA.eq_2 chAV.eq_1 hk q0 q1 q2 e0 e1 e2;repeat (first | refine zag ?_ | refine st ?_ | refine zad 40 ?_)
     refine lL fW ?_;repeat (first | refine zag ?_ | refine st ?_ | refine zad 40 ?_)
     exact aR
    ·have F:=ai10 rrA.eq_1 rrA.eq_2 chAV.eq_1 hk q0 q1 q2 e0 e1 e2;repeat (first | refine zag ?_ | refine st ?_ | refine zad 40 ?_)
     refine lL fW ?_;repeat (first | refine zag ?_ | refine st ?_ | refine zad 40 ?_)
     exact aR
end
section
theorem Fit.front {c:ChD} {act:List Int} {l:List Nat} {n:Nat} (h:Fit c act (l++[n])):Fit c act l/\ ∀k∈l,zrO c act k n=false:=by
 obtain⟨h1,_,h3⟩:=List.pairwise_append.1 h.two;exact⟨⟨fun m hm=>h.real m (List.mem_append_left _ hm),h1⟩,fun k hk=>(h3 k hk n (by simp)).2⟩
end
section
theorem zrW {c:ChD} (h:(chk c).1=0):c.vars.length<=8/\ ∀v∈c.vars,zaj v.start=true:=by
 unfold chk at h;split at h
 ·simp at h
 rename_i h1;split at h
 ·simp at h
 split at h
 ·simp at h
 rename_i h3;refine⟨by omega,fun v hv=> ?_⟩;obtain⟨k,hk,rfl⟩:=List.getElem_of_mem hv;have:=zbc h3 k hk;unfold zd0 varB at this;rw [List.getElem?_eq_getElem hk] at this;simp only [Bool.and_eq_true,decide_eq_true_eq] at this;rw [zaZ];exact⟨this.1.2,this.2⟩
def startR (c:ChD):RunD:=⟨[],c.vars.map (·.start),[],[],false,[],[]⟩
theorem start_ok {c:ChD} (hv: ∀v∈c.vars,zaj v.start=true):RunOk c (startR c):=⟨by unfold startR; simp,fun x hx=>by
 obtain⟨v,hvm,rfl⟩:=List.mem_map.1 hx
 exact hv v hvm,⟨.nil,by simp [startR]⟩,by simp [startR],by simp [startR],by simp [startR]⟩
theorem zqS {c:ChD} (h:Full c):tbegL c (-1)=sbL c (iniN c):=by
 obtain⟨s,hs,hini,_⟩:=h.topS;have hi:=(List.getElem?_eq_some_iff.1 hs).1;have hz:inZ c c.initial=true:=by rw [hini]; exact zay.2 hi
 unfold tbegL;simp only [if_true];rw [hz,if_pos rfl];rfl
theorem zhX {c:ChD} (h:Full c) {k:Nat} (hk:k∈tbegL c (-1)):k<c.states.length:=by
 obtain⟨s,hs,_⟩:=h.topS;have hi:=(List.getElem?_eq_some_iff.1 hs).1;rw [zqS h,zoC h hi, <-zdy h] at hk;exact List.mem_range.1 (List.mem_filter.1 hk).1
theorem zkQ {c:ChD} (h:Full c):zf8 c (tbegL c (-1))=zhw c:=by
 rw [zqS h];unfold zf8 zhw;apply List.filter_congr;intro k _;rw [Bool.eq_iff_iff,ze0,decide_eq_true_iff]
theorem zd5 {c:ChD} (h:Full c) {now:Int} (hn:0<=now/\now<=1099511627776) (hv: ∀v∈c.vars,zaj v.start=true) (he:(zaN c 0 now (startR c) [] (zL (tbegL c (-1)))).1.2=none):lgB c (zaN c 0 now (startR c) [] (zL (tbegL c (-1)))).1.1.act=true/\(zaN c 0 now (startR c) [] (zL (tbegL c (-1)))).1.1.act=zL (zf8 c (tbegL c (-1))):=by
 obtain⟨_,k⟩:=zeg (zb1 h) (l:=zL (tbegL c (-1))) (f:=[]) (show zaj 0=true by rfl) hn (start_ok hv) .nil;have kc:=k he;have hb:=zlj h;rw [<-zkQ h] at hb
 have e:(zaN c 0 now (startR c) [] (zL (tbegL c (-1)))).1.1.act=zL (zf8 c (tbegL c (-1))):=zkP kc.rise (by unfold zf8; exact zn2) fun x=>by
  rw [kc.mem];simp only [startR,List.not_mem_nil,false_or];constructor
  ·intro hx;obtain⟨j,hj,rfl⟩:=List.mem_map.1 hx;refine List.mem_map.2 ⟨j,List.mem_filter.2 ⟨List.mem_range.2 ?_,ze0.2 hj⟩,rfl⟩;exact zhX h hj
  ·intro hx;obtain⟨j,hj,rfl⟩:=List.mem_map.1 hx;exact List.mem_map.2 ⟨j,ze0.1 (List.mem_filter.1 hj).2,rfl⟩
 exact⟨by rw [e]; exact hb,e⟩
theorem zho (env:Env) (now:Int):Con prog env 32 [I now] (B (decide (0<=now/\now<=1099511627776))):=by
 by_cases h0:0<=now
 ·by_cases h1:now<=1099511627776
  ·have k:decide (0<=now/\now<=1099511627776)=true:=by simp [h0,h1]
   rw [k];refine qf func32 call32 ntmps32 results32 ?_;have F:=ai h0 h1;repeat refine st ?_
   exact aR
  ·have k:decide (0<=now/\now<=1099511627776)=false:=by simp [h1]
   rw [k];refine qf func32 call32 ntmps32 results32 ?_;have F:=ai h0 h1;repeat refine st ?_
   exact aR
 ·have k:decide (0<=now/\now<=1099511627776)=false:=by simp [h0]
  rw [k];refine qf func32 call32 ntmps32 results32 ?_;have F:=h0;repeat refine st ?_
  exact aR
def zjM (a2 a8:Addr):RunD×ErD->AV
 |(r,none)=> .tuple [.agg [ints34 r.act,ints34 r.vars, .seq 2 (r.mem.map mmAV), .seq 2 (r.tms.map tmAV),B r.over], .agg [ints34 r.outs, .seq 2 (r.rais.map tmAV)],nilE]
 |(_,some e)=> .tuple [.agg [nilS,nilS,nilS,nilS,B false], .agg [nilS,nilS],errV (-1) (errA a2 a8 (some e))]
theorem zn0 (env:Env) (a1 a8:Addr) (he:ChEnv env a1 a8) (c:ChD) (now:Int) (hn: ¬(0<=now/\now<=1099511627776)):Con prog env 21 [zai c,I now] (.tuple [.agg [nilS,nilS,nilS,nilS,B false], .agg [nilS,nilS],errV (-1) (sentV a1)]):=by
 have f0:=zho env now;rw [decide_eq_false hn] at f0;have f1:=zjp env a1 a8 he [109,105,99,114,111,46,70,105,114,115,116];unfold zai;refine qf func21 call21 ntmps21 results21 ?_;repeat (first | refine st0 ?_ | refine cC0 f0 ?_ | refine cC0 f1 ?_)
 exact aR0
theorem znZ (env:Env) (a1 a2 a8:Addr) (c:ChD) (now:Int) (E:RunEnv env a1 a2 a8 c 0 now) (hv: ∀v∈c.vars,zaj v.start=true):Con prog env 21 [zai c,I now] (zjM a2 a8 (firstP c now)):=by
 have hvl:=E.hs.vars;have f0:=zho env now;rw [decide_eq_true E.hn] at f0;have f1:=zav env c E.hs;have f2:=zex env c E.hs;have f3:=((zfe env c E.h (-1)).lend (zaJ (fun _=>rfl) _)).seen
 have hbl:(tbegL c (-1)).length<=1000:=by
  rw [zqS E.h];have:=zlS E.h (iniN c);omega
 have f4:=zqa env a1 a2 a8 c 0 now E (startR c) (start_ok hv) .nil (Nat.zero_le _) (tbegL c (-1)) (fun i hi=>zhX E.h hi) hbl (fun hh=>(zd5 E.h E.hn hv hh).1);unfold firstP;rw [show (⟨[],c.vars.map (·.start),[],[],false,[],[]⟩:RunD)=startR c from rfl];generalize tbegL c (-1)=G at*;unfold zai at f1 f3 |-;unfold chAV at f1 f2;have hF: ∀k,k<=c.vars.length->((c.vars.take k).map (·.start)).length=k:=fun k hk=>by simp; omega
 refine qf func21 call21 ntmps21 results21 ?_;repeat (first | refine st0 ?_ | refine cC0 f0 ?_ | refine cC0 f1 ?_ | refine cC0 f2 ?_)
 refine nC0 29 9001 0 0 3 1 ?_;refine nC0 29 9002 0 1 3 1 ?_;refine nC0 29 9006 0 2 130 2 ?_;refine nC0 29 9003 0 3 86 2 ?_;refine nC0 29 9004 0 5 3 1 ?_;refine nC0 29 9005 0 6 114 2 ?_;refine zcw [(9006,⟨2,[],130,true⟩)] ?_ ?_
 ·exact qe0
 refine zab (D:=Nat) (fun j vs=>[(0, .ref 9 [tabCells c] 0 0),(4, .loc 4 (vs 4) 0 0),(5, .loc 5 (vs 5) 0 0),(6,nilE),(7, .loc 29 (vs 29) 0 0),(34,varsAV c.vars),(35,I c.vars.length),(36,I j)]) (fun j vs=>[(4,⟨5,[[nilS,nilS,nilS,nilS,B false]],31,false⟩),(5,⟨2,[[nilS,nilS]],41,false⟩),(29,⟨15,[[.row 9001 (vs 9001), .row 9002 (vs 9002), .seq 2 [], .row 9003 (vs 9003),B false, .row 9004 (vs 9004), .row 9005 (vs 9005), .ref 9 [tabCells c] 0 0,Sg c.name,I c.initial,varsAV c.vars,stsAV c.states,trsAV c.trans,I 0,I now]],79,false⟩),(9001,⟨1,[],3,true⟩),(9002,⟨1,((c.vars.take j).map (·.start)).map intAV,3,true⟩),(9003,⟨2,[],86,true⟩),(9004,⟨1,[],3,true⟩),(9005,⟨2,[],114,true⟩)]) (fun j _ esc=>j<=c.vars.length/\esc 4=false/\esc 5=false/\esc 29=false/\esc 9001=false/\esc 9002=false/\esc 9003=false/\esc 9004=false/\esc 9005=false) (fun j=>c.vars.length-j) 0 ?_ ?_ ?_ ?_
 ·refine⟨Nat.zero_le _, ?_⟩;simp only [seenSt,seesR,zcY,List.any_cons,List.any_nil,go_sem];try simp
 ·simp only [seenSt,seesR,zcY,Row.see,AV.see,AV.see.seeL,Option.getD_none,Option.getD_some,go_sem];try rfl
 ·simp only [seenSt,seesR,zcY,Row.see,AV.see,AV.see.seeL,Option.getD_none,Option.getD_some,go_sem];try rfl
 rintro j ws es ⟨hj,b4,b5,b29,b1,b2,b3,b6,b7⟩;by_cases hlt:j<c.vars.length
 ·obtain⟨v,hx⟩: ∃v,c.vars[j]? =some v:=⟨c.vars[j],List.getElem?_eq_getElem hlt⟩;have q1:=nlt hlt;have q2:=zaa hlt (by omega);have q3:Fits (((c.vars.take j).map (·.start)).length+1) 8:=by rw [hF j hj]; exact zaf (by omega) (by omega)
  have q4:((c.vars.take (j+1)).map (·.start)).map intAV=((c.vars.take j).map (·.start)).map intAV++[[I v.start]]:=by rw [zbm hx]; simp
  generalize hU:(c.vars.take j).map (·.start)=U at*;have F:=ai13 zca.eq_1 hx q1 q2 q3 b4 b5 b29 b1 b2 b3 b6 b7;repeat refine st ?_
  refine⟨j+1,⟨hlt, ?_⟩, ?_, ?_,by omega⟩
  ·simp only [go_sem,b4,b5,b29,b1,b2,b3,b6,b7,and_self]
  ·exact qe
  ·simp only [q4];exact qe
 ·obtain rfl:j=c.vars.length:=by omega
  have q1: ¬(c.vars.length:Int)< (c.vars.length:Int):=by omega
  have q5:((c.vars.take c.vars.length).map (·.start)).map intAV=(startR c).vars.map intAV:=by rw [List.take_length]; rfl
  generalize enterP c 0 now (startR c) (zL G)=X at*;rcases X with⟨r1,_ | ⟨k,ps⟩⟩
  ·unfold zjM;unfold errA RY RYe at f4;simp only at f4;simp only [q5];have F:=ai12 RY.eq_1 gr5.eq_1 startR.eq_1 q1 b4 b5 b29 b1 b2 b3 b6 b7;repeat refine st ?_
   refine lL f3 ?_;repeat refine st ?_
   refine iL [(1000,29),(1001,9001),(1002,9002),(1003,9003),(1004,9004),(1005,9005)] f4 ?_;repeat refine st ?_
   exact aR
  ·unfold zjM;unfold errA RY RYe at f4;simp only at f4;unfold errA;simp only;have f5:=zlJ env [109,105,99,114,111,46,70,105,114,115,116] (ps.headD (-1)) (chainV ps.tail (sentV (if k=2 then a2 else a8)));simp only [q5];have F:=ai12 RY.eq_1 gr5.eq_1 startR.eq_1 q1 b4 b5 b29 b1 b2 b3 b6 b7;repeat refine st ?_
   refine lL f3 ?_;repeat refine st ?_
   refine iL [(1000,29),(1001,9001),(1002,9002),(1003,9003),(1004,9004),(1005,9005)] f4 ?_;repeat (first | refine st ?_ | refine cC f5 ?_)
   exact aR
end
section
def rcI (x:InD):Rc:=⟨0,0,0,x.1,x.2.1,x.2.2.1,x.2.2.2.1,x.2.2.2.2⟩
end
section
end

end Go.Proofs.YtbpmkofnfgdegaaGreatDoor