/- Loops of few rounds, walked round by round. No program is named here. -/
import Derived.Test.YtbpmkofnfgdegaaGreatDoorM22
import Derived.Test.YtbpmkofnfgdegaaGreatDoorM8
import Derived.Test.YtbpmkofnfgdegaaGreatDoorM6
import Derived.Test.YtbpmkofnfgdegaaGreatDoorM11
import Derived.Test.YtbpmkofnfgdegaaGreatDoorM19
import Derived.Test.YtbpmkofnfgdegaaGreatDoorM20
import Derived.Test.YtbpmkofnfgdegaaGreatDoorM4
import Derived.LoopNIn
set_option maxRecDepth 100000
set_option maxHeartbeats 16000000
set_option linter.unusedSimpArgs false
namespace Go.Proofs.YtbpmkofnfgdegaaGreatDoor
open Go.Proofs.Tryz
open Go.RowKit
section
theorem zkh {c:ChD} {d now:Int} {r:RunD} {f l:List Int} {j:Nat} {i:Int} (hi:l[j]? =some i):zaN c d now r f (l.drop j)=if r.act.contains i=true then zaN c d now r f (l.drop (j+1)) else match allP c d now { r with act:=zaR (r.act++[i]) } (inA c i) with
 |(r1,none)=>zaN c d now r1 (if za7 c i=3 then f++[i] else f) (l.drop (j+1))
 | x=>(x,[]):=by
 rw [za0 hi]
 conv=>lhs; unfold zaN
 rcases allP c d now { r with act:=zaR (r.act++[i]) } (inA c i) with⟨r1,_ | _⟩<;>rfl
def zqg (a2 a8:Addr) (e:ErD) (f:List Int):AV:=match e with
 | none=> .tuple [.seq 1 (f.map intAV),nilE]
 | some x=> .tuple [nilS,errA a2 a8 (some x)]
theorem zrR (env:Env) (a1 a2 a8:Addr) (c:ChD) (d now:Int) (E:RunEnv env a1 a2 a8 c d now) (r:RunD) (hr:RunOk c r) (hl:r.act.length<=1000) (G:List Nat) (hG: ∀i∈G,i<c.states.length) (hGl:G.length<=1000):
 ConI prog env 109 [1000,1001,1002,1003,1004,1005] gr5 (fun g=>[.loc 1000 (g 1000) 0 0, .seq 1 (G.map zae)]) (RY c d now r) (RY c d now (zaN c d now r [] (zL G)).1.1) (fun _=>zqg a2 a8 (zaN c d now r [] (zL G)).1.2 (zaN c d now r [] (zL G)).2):=by
 have hfew:=E.h.few;have hcv:=E.hs.vars;have hdo:=fun(r:RunD) hr hl (l:List ActD) hll ha=>ztc env a1 a2 a8 c d now E r hr hl l hll ha;have hok:=fun(r:RunD) (hr:RunOk c r) (l:List ActD) ha=>zks E.hd E.hn (l:=l) hr ha;refine qi func109 call109 ntmps109 results109 ?_;intro vs esc hesc;have e0:=hesc 1000 (by simp);have e1:=hesc 1001 (by simp);have e2:=hesc 1002 (by simp);have e3:=hesc 1003 (by simp);have e4:=hesc 1004 (by simp);have e5:=hesc 1005 (by simp);have F:=ai9 RY.eq_1 RYe.eq_1 gr5.eq_1 e0 e1 e2 e3 e4 e5;repeat refine st ?_
 refine zaT 6 6 3 1 ?_;refine zab (D:=Nat×RunD×List Int) (fun x vs'=>[(0, .loc 1000 (vs' 1000) 0 0),(4,nilS),(5,nilE),(6, .row 6 (vs' 6)),(10, .seq 1 (G.map zae)),(11,I G.length),(12,I x.1)]) (fun x vs'=>(6,⟨1,x.2.2.map intAV,3,true⟩)::RY c d now x.2.1 vs') (fun x vs' esc'=>(x.1<=G.length/\zaN c d now r [] (zL G)=zaN c d now x.2.1 x.2.2 ((zL G).drop x.1)/\RunOk c x.2.1/\x.2.1.act.length<=r.act.length+x.1/\x.2.2.length<=x.1)/\(vs' 1000=vs 1000/\vs' 1002=vs 1002)/\esc' 1000=false/\esc' 1001=false/\esc' 1002=false/\esc' 1003=false/\esc' 1004=false/\esc' 1005=false/\esc' 6=false) (fun x=>G.length-x.1) (0,r,[]) ?_ ?_ ?_ ?_
 ·exact⟨⟨Nat.zero_le _,rfl,hr,Nat.le_refl _,Nat.le_refl _⟩,by simp only [go_sem,and_self],by simp only [go_sem,e0,e1,e2,e3,e4,e5,and_self]⟩
 ·exact qe
 ·exact qe
 try clear e0 e1 e2 e3 e4 e5
 rintro⟨j,r1,f⟩ ws es ⟨⟨hj,heq,hr1,hact,hfl⟩,⟨v0,v2⟩,e0,e1,e2,e3,e4,e5,e6⟩;simp only at hj heq hr1 hact hfl;by_cases hlt:j<G.length
 ·obtain⟨i,hx⟩: ∃a,G[j]? =some a:=⟨G[j],List.getElem?_eq_getElem hlt⟩;have hil:=hG i (List.mem_of_getElem? hx);obtain⟨s,hs⟩: ∃s,c.states[i]? =some s:=⟨c.states[i],List.getElem?_eq_getElem hil⟩;obtain⟨_,s1,s2⟩:=zqC E.h hs;have ho:inA c i=s.inn:=by unfold inA; rw [zbd,hs]
  have hk:za7 c i=s.kind:=by unfold za7; rw [zbd,hs]
  have q1:=nlt hlt;have q2:=zaa hlt (by omega);have q3:=nlt hil;have fc:=(zbg env r1.act i (by omega)).lend rfl;rw [zkh (zkw hx),ho,hk] at heq;cases hc:r1.act.contains (i:Int) with
  | true=>
    rw [hc] at heq fc;simp only [if_true] at heq;have F:=ai18 stAV.eq_1 zae.eq_1 actsAV.eq_1 RY.eq_1 RYe.eq_1 gr5.eq_1 hx hs q1 q2 q3 e0 e1 e2 e3 e4 e5 e6;repeat refine st ?_
    refine lL fc ?_;repeat refine st ?_
    refine⟨(j+1,r1,f),⟨⟨hlt,heq,hr1,by simp only; omega,by simp only; omega⟩, ?_, ?_⟩, ?_, ?_, ?_⟩
    ·simp only [go_sem,v0,v2,and_self]
    ·simp only [go_sem,e0,e1,e2,e3,e4,e5,e6,and_self]
    ·exact qe
    ·exact qe
    ·simp only; omega
  | false=>
    rw [hc] at heq fc;simp only [Bool.false_eq_true,if_false] at heq;have hact1:(zaR (r1.act++[(i:Int)])).length<=r.act.length+(j+1):=by rw [zep,List.length_append,List.length_singleton]; omega
    have f0:=hdo { r1 with act:=zaR (r1.act++[(i:Int)]) } { hr1 with } (by simp only; omega) s.inn (by omega) s2;obtain⟨k1,k2⟩:=hok { r1 with act:=zaR (r1.act++[(i:Int)]) } { hr1 with } s.inn s2;have g1:=zf2 (r1.act++[(i:Int)]) (by simp; omega);have g2:zaL ((r1.act++[(i:Int)]).map intC)=r1.act.map intAV++[[I i]]:=by rw [litEs_int,List.map_append]; rfl
    have g3:=litEs_int (zaR (r1.act++[(i:Int)]));have q4:Fits (r1.act.length+1) 8:=zaf (by omega) (by omega);rcases hX:allP c d now { r1 with act:=zaR (r1.act++[(i:Int)]) } s.inn with⟨r2,_ | ⟨k,ps⟩⟩
    ·rw [hX] at heq f0 k1 k2;simp only at heq k1 k2;have hact2:r2.act.length<=r.act.length+(j+1):=by have:=k2.act; rw [this]; exact hact1
     try clear k2 hact1
     generalize hS:zaR (r1.act++[(i:Int)])=S at*;unfold errA RY RYe at f0;simp only at f0;cases h3:s.kind==3 with
     | false=>
       have h4: ¬s.kind=3:=by simpa using h3
       rw [if_neg h4] at heq;have F:=ai20 stAV.eq_1 zae.eq_1 actsAV.eq_1 RY.eq_1 RYe.eq_1 gr5.eq_1 hx hs q1 q2 q3 q4 h3 e0 e1 e2 e3 e4 e5 e6;repeat refine st ?_
       refine lL fc ?_;repeat refine st ?_
       refine zgz 1001 rfl (row:=⟨1,r1.act.map intAV++[[I i]],3,true⟩) g1 (Nat.succ_ne_zero 0) rfl g2.symm (by simp only [go_sem,e1]<;>exact iR) (by simp only [go_sem,e1]<;>exact iR) (by simp only [go_sem,e1]<;>exact iR) (by simp only [go_sem,e1]<;>exact iR) ?_;rw [g3];repeat refine st ?_
       refine iL [(1000,1000),(1001,1001),(1002,1002),(1003,1003),(1004,1004),(1005,1005)] f0 ?_;repeat refine st ?_
       refine⟨(j+1,r2,f),⟨⟨hlt,heq,k1,hact2,by simp only; omega⟩, ?_, ?_⟩, ?_, ?_, ?_⟩
       ·simp only [go_sem,v0,v2,and_self]
       ·simp only [go_sem,e0,e1,e2,e3,e4,e5,e6,and_self]
       ·exact qe
       ·exact qe
       ·simp only; omega
     | true=>
       have h4:s.kind=3:=by simpa using h3
       rw [if_pos h4] at heq;have q5:Fits (f.length+1) 8:=zaf (by omega) (by omega);have q6:(f++[(i:Int)]).map intAV=f.map intAV++[[I i]]:=by rw [List.map_append]; rfl
       have F:=ai21 stAV.eq_1 zae.eq_1 actsAV.eq_1 RY.eq_1 RYe.eq_1 gr5.eq_1 hx hs q1 q2 q3 q4 q5 h3 e0 e1 e2 e3 e4 e5 e6;repeat refine st ?_
       refine lL fc ?_;repeat refine st ?_
       refine zgz 1001 rfl (row:=⟨1,r1.act.map intAV++[[I i]],3,true⟩) g1 (Nat.succ_ne_zero 0) rfl g2.symm (by simp only [go_sem,e1]<;>exact iR) (by simp only [go_sem,e1]<;>exact iR) (by simp only [go_sem,e1]<;>exact iR) (by simp only [go_sem,e1]<;>exact iR) ?_;rw [g3];repeat refine st ?_
       refine iL [(1000,1000),(1001,1001),(1002,1002),(1003,1003),(1004,1004),(1005,1005)] f0 ?_;repeat refine st ?_
       refine⟨(j+1,r2,f++[(i:Int)]),⟨⟨hlt,heq,k1,hact2,by simp only [List.length_append,List.length_singleton]; omega⟩, ?_, ?_⟩, ?_, ?_, ?_⟩
       ·simp only [go_sem,v0,v2,and_self]
       ·simp only [go_sem,e0,e1,e2,e3,e4,e5,e6,and_self]
       ·exact qe
       ·simp only [q6];exact qe
       ·simp only; omega
    ·rw [hX] at heq f0;simp only at heq;rw [heq];try clear k1 k2 hact1
     generalize hS:zaR (r1.act++[(i:Int)])=S at*;unfold errA RY RYe at f0;simp only at f0;show awp _ _ _ _ _ _;unfold zqg errA;simp only;have F:=ai21 stAV.eq_1 zae.eq_1 actsAV.eq_1 RY.eq_1 RYe.eq_1 gr5.eq_1 hx hs q1 q2 q3 q4 v0 v2 e0 e1 e2 e3 e4 e5 e6;repeat refine st ?_
     refine lL fc ?_;repeat refine st ?_
     refine zgz 1001 rfl (row:=⟨1,r1.act.map intAV++[[I i]],3,true⟩) g1 (Nat.succ_ne_zero 0) rfl g2.symm (by simp only [go_sem,e1]<;>exact iR) (by simp only [go_sem,e1]<;>exact iR) (by simp only [go_sem,e1]<;>exact iR) (by simp only [go_sem,e1]<;>exact iR) ?_;rw [g3];repeat refine st ?_
     refine iL [(1000,1000),(1001,1001),(1002,1002),(1003,1003),(1004,1004),(1005,1005)] f0 ?_;repeat refine st ?_
     exact rI
 ·obtain rfl:j=G.length:=by omega
  have q1: ¬(G.length:Int)< (G.length:Int):=by omega
  rw [List.drop_of_length_le (by rw [zcj]; omega)] at heq;rw [heq];unfold zaN;show awp _ _ _ _ _ _;unfold zqg;simp only;refine ziJ (Turned.frozen 6 6 ⟨1,f.map intAV,3,true⟩ rfl (Nat.succ_ne_zero 0) (by simp only [go_sem]) (by simp only [go_sem])) ?_;have F:=ai13 RY.eq_1 RYe.eq_1 gr5.eq_1 q1 v0 v2 e0 e1 e2 e3 e4 e5 e6;repeat refine st ?_
  exact rI
end
section
theorem zh6 {l:List Int} (h:l.Pairwise (· < ·)) {i:Int} (hi:l.contains i=false):(zaR (l++[i])).Pairwise (· < ·)/\ ∀x,x∈zaR (l++[i])↔x∈l\/x=i:=by
 have hn:(l++[i]).Nodup:=List.nodup_append.2 ⟨h.imp fun h=>by omega,by simp,fun a ha b hb e=>by
  rw [List.mem_singleton.1 hb] at e;have:l.contains i=true:=List.contains_iff_mem.2 (e ▸ ha);rw [hi] at this
  cases this⟩
 obtain⟨h1,h2⟩:=zmY hn;exact⟨h1,fun x=>by rw [h2]; simp⟩
structure Came (c:ChD) (r:RunD) (f l:List Int) (r1:RunD) (f1:List Int):Prop where
 rise:r1.act.Pairwise (· < ·)
 mem: ∀x,x∈r1.act↔x∈r.act\/x∈l
 fin: ∀x,x∈f1↔x∈f\/(x∈l/\x∉r.act/\za7 c x=3)
 mm:r1.mem=r.mem
 over:r1.over=r.over
 len:f1.length<=f.length+l.length
theorem zeg {c:ChD} (hA:ActsOk c) {d now:Int} (hd:zaj d=true) (hn:0<=now/\now<=1099511627776): ∀ {l:List Int} {r:RunD} {f:List Int},RunOk c r->r.act.Pairwise (· < ·)->RunOk c (zaN c d now r f l).1.1/\((zaN c d now r f l).1.2=none->Came c r f l (zaN c d now r f l).1.1 (zaN c d now r f l).2)
 | [],r,f,h,hr=>⟨h,fun _=>⟨hr,fun x=>by simp [zaN],fun x=>by simp [zaN],rfl,rfl,by simp [zaN]⟩⟩
 | i::l,r,f,h,hr=>by
   unfold zaN;split
   ·rename_i hc;obtain⟨k1,k2⟩:=zeg hA (l:=l) (f:=f) hd hn h hr;refine⟨k1,fun he=> ?_⟩;have hi:i∈r.act:=List.contains_iff_mem.1 hc;have k:=k2 he;refine⟨k.rise,fun x=> ?_,fun x=> ?_,k.mm,k.over,Nat.le_trans k.len (by simp)⟩
    ·rw [k.mem,List.mem_cons];constructor
     ·rintro(q | q)
      ·exact .inl q
      ·exact .inr (.inr q)
     ·rintro(q | rfl | q)
      ·exact .inl q
      ·exact .inl hi
      ·exact .inr q
    ·rw [k.fin,List.mem_cons];constructor
     ·rintro(q | ⟨q1,q2⟩)
      ·exact .inl q
      ·exact .inr ⟨.inr q1,q2⟩
     ·rintro(q | ⟨rfl | q1,q2,q3⟩)
      ·exact .inl q
      ·exact absurd hi q2
      ·exact .inr ⟨q1,q2,q3⟩
   ·rename_i hc;have hc:r.act.contains i=false:=by simpa using hc
    obtain⟨s1,s2⟩:=zh6 hr hc;obtain⟨k1,k2⟩:=zks (r:={ r with act:=zaR (r.act++[i]) }) hd hn { h with } (hA.inn i);split
    ·rename_i r1 e;rw [e] at k1 k2;have ha:r1.act=zaR (r.act++[i]):=k2.act;obtain⟨k3,k4⟩:=zeg hA (l:=l) (f:=if za7 c i=3 then f++[i] else f) hd hn k1 (by rw [ha]; exact s1);refine⟨k3,fun he=> ?_⟩;have k:=k4 he
     have hin:i∉r.act:=fun hh=>by
      have:=List.contains_iff_mem.2 hh;rw [hc] at this;cases this
     refine⟨k.rise,fun x=> ?_,fun x=> ?_,k.mm.trans k2.mem,k.over.trans k2.over, ?_⟩
     ·rw [k.mem,ha,s2,List.mem_cons];constructor
      ·rintro((q | q) | q)
       ·exact .inl q
       ·exact .inr (.inl q)
       ·exact .inr (.inr q)
      ·rintro(q | q | q)
       ·exact .inl (.inl q)
       ·exact .inl (.inr q)
       ·exact .inr q
     ·rw [k.fin,ha]
      have h2:x∈(if za7 c i=3 then f++[i] else f)↔x∈f\/(x=i/\za7 c i=3):=by
       split
       ·rename_i h3; simp [h3]
       ·rename_i h3; simp [h3]
      rw [h2,s2,List.mem_cons];constructor
      ·rintro((q | ⟨rfl,q⟩) | ⟨q1,q2,q3⟩)
       ·exact .inl q
       ·exact .inr ⟨.inl rfl,hin,q⟩
       ·exact .inr ⟨.inr q1,fun hh=>q2 (.inl hh),q3⟩
      ·rintro(q | ⟨rfl | q1,q2,q3⟩)
       ·exact .inl (.inl q)
       ·exact .inl (.inr ⟨rfl,q3⟩)
       ·by_cases e:x=i
        ·subst e; exact .inl (.inr ⟨rfl,q3⟩)
        ·exact .inr ⟨q1,fun hh=>hh.elim q2 e,q3⟩
     ·refine Nat.le_trans k.len ?_;split
      ·simp only [List.length_append,List.length_cons,List.length_nil]; omega
      ·simp only [List.length_cons]; omega
    ·rename_i x hx;refine⟨k1,fun he=>absurd he ?_⟩;intro hh;rcases hq:allP c d now { r with act:=zaR (r.act++[i]) } (inA c i) with⟨r1,e1⟩;rw [hq] at hh;simp only at hh;subst hh;exact hx r1 hq
theorem zln {c:ChD} : ∀ {l:List Int} {r:RunD} {o:List Int},RunOk c r->RunOk c (zbP c r o l).1.1/\(zbP c r o l).1.1.act=r.act/\(zbP c r o l).1.1.mem=r.mem/\((zbP c r o l).1.2=none->(zbP c r o l).1.1.over=(r.over||l.any fun i=>decide (parZ c i<0))/\(zbP c r o l).2=o++(((l.filter fun i=> !decide (parZ c i<0)).map fun i=>parZ c (parZ c i)).filter fun g=>decide (0<=g)&&za7 c g==2))
 | [],r,o,h=>⟨h,rfl,rfl,fun _=>by simp [zbP]⟩
 | i::l,r,o,h=>by
   unfold zbP;split
   ·rename_i hp;obtain⟨k1,k2,k3,k4⟩:=zln (l:=l) (r:={ r with over:=true }) (o:=o) { h with };refine⟨k1,k2,k3,fun he=> ?_⟩;obtain⟨q1,q2⟩:=k4 he;rw [q1,q2];simp [hp]
   ·rename_i hp;obtain⟨k1,k2⟩:=zh9 h (dotN c (parZ c i)) 0;split
    ·rename_i r1 e;rw [e] at k1 k2;obtain⟨k3,k4,k5,k6⟩:=zln (l:=l) (r:=r1) (o:=if 0<=parZ c (parZ c i)/\za7 c (parZ c (parZ c i))=2 then o++[parZ c (parZ c i)] else o) k1;refine⟨k3,k4.trans k2.act,k5.trans k2.mem,fun he=> ?_⟩;obtain⟨q1,q2⟩:=k6 he;have hov:r1.over=r.over:=k2.over;rw [q1,q2,hov];refine⟨by simp [hp], ?_⟩;have e1:(i::l).filter (fun i=> !decide (parZ c i<0))=i::l.filter (fun i=> !decide (parZ c i<0)):=List.filter_cons_of_pos (by simp [hp]);rw [e1,List.map_cons];split
     ·rename_i hg;rw [List.filter_cons_of_pos (by simp [hg]),List.append_assoc];rfl
     ·rename_i hg;rw [List.filter_cons_of_neg (by simp; omega)]
    ·rename_i x hx;refine⟨k1,k2.act,k2.mem,fun he=>absurd he ?_⟩;intro hh;rcases hq:raiseP r (dotN c (parZ c i)) 0 with⟨r1,e1⟩;rw [hq] at hh;simp only at hh;subst hh;exact hx r1 hq
theorem zlm {c:ChD} : ∀ {l:List Int} {r:RunD},RunOk c r->RunOk c (zcg c r l).1/\RunSame r (zcg c r l).1
 | [],r,h=>⟨h, .rfl⟩
 | g::l,r,h=>by
   unfold zcg;split
   ·obtain⟨k1,k2⟩:=zh9 h (dotN c g) 0;split
    ·rename_i r1 e;rw [e] at k1 k2;obtain⟨k3,k4⟩:=zlm (l:=l) k1;exact⟨k3,k2.trans k4⟩
    ·exact⟨k1,k2⟩
   ·exact zlm h
structure Entered (c:ChD) (r:RunD) (l:List Int) (r1:RunD):Prop where
 rise:r1.act.Pairwise (· < ·)
 mem: ∀x,x∈r1.act↔x∈r.act\/x∈l
 mm:r1.mem=r.mem
 over:r1.over=(r.over||l.any fun x=> !r.act.contains x&&za7 c x==3&&decide (parZ c x<0))
theorem zrG {c:ChD} (hA:ActsOk c) {d now:Int} (hd:zaj d=true) (hn:0<=now/\now<=1099511627776) {l:List Int} {r:RunD} (h:RunOk c r) (hr:r.act.Pairwise (· < ·)):RunOk c (enterP c d now r l).1/\((enterP c d now r l).2=none->Entered c r l (enterP c d now r l).1):=by
 obtain⟨k1,k2⟩:=zeg hA (l:=l) (f:=[]) hd hn h hr;unfold enterP;split
 ·rename_i r1 f e;rw [e] at k1 k2;have kc:=k2 rfl;obtain⟨m1,m2,m3,m4⟩:=zln (l:=f) (o:=[]) k1;unfold finishP;split
  ·rename_i r2 o e2;rw [e2] at m1 m2 m3 m4;obtain⟨n1,n2⟩:=zlm (l:=zL (sortL c o)) m1;refine⟨n1,fun he=> ?_⟩;obtain⟨m5,_⟩:=m4 rfl;have ea:(zcg c r2 (zL (sortL c o))).1.act=r1.act:=n2.act.trans m2;refine⟨by rw [ea]; exact kc.rise,fun x=>by rw [ea]; exact kc.mem x,n2.mem.trans (m3.trans kc.mm), ?_⟩;rw [n2.over];have m5:r2.over=(r1.over||f.any fun i=>decide (parZ c i<0)):=m5;have kov:r1.over=r.over:=kc.over;rw [m5,kov]
   congr 1
   rw [Bool.eq_iff_iff,List.any_eq_true,List.any_eq_true];constructor
   ·rintro⟨x,hx,hp⟩;rcases (kc.fin x).1 hx with q | ⟨q1,q2,q3⟩
    ·simp at q
    ·refine⟨x,q1, ?_⟩;rw [hp,q3];simp [q2]
   ·rintro⟨x,hx,hp⟩;simp only [Bool.and_eq_true,Bool.not_eq_true',beq_iff_eq] at hp;refine⟨x,(kc.fin x).2 (.inr ⟨hx,fun hh=> ?_,hp.1.2⟩),hp.2⟩;have:=List.contains_iff_mem.2 hh;rw [hp.1.1] at this;cases this
  ·rename_i x y hh e2;rw [e2] at m1;refine⟨m1,fun he=> ?_⟩;rcases x with⟨r2,_ | e3⟩
   ·exact(hh _ rfl).elim
   ·cases he
 ·rename_i x y hh e;rw [e] at k1;refine⟨k1,fun he=> ?_⟩;rcases x with⟨r2,_ | e3⟩
  ·exact(hh _ rfl).elim
  ·cases he
end
section
theorem zgi {c:ChD} {k:Nat} {s:StD} (hs:c.states[k]? =some s):parZ c k=s.parent:=by unfold parZ; rw [zbd,hs]
theorem zsN {c:ChD} {k:Nat} {s:StD} (hs:c.states[k]? =some s):zsO c k=s.name:=by unfold zsO; rw [zbd,hs]
theorem zjO {c:ChD} {r:RunD} {o l:List Int} {j:Nat} {i:Int} (hi:l[j]? =some i):zbP c r o (l.drop j)=if parZ c i<0 then zbP c { r with over:=true } o (l.drop (j+1))
 else match raiseP r (dotN c (parZ c i)) 0 with
  |(r1,none)=>zbP c r1 (if 0<=parZ c (parZ c i)/\za7 c (parZ c (parZ c i))=2 then o++[parZ c (parZ c i)] else o) (l.drop (j+1))
  | x=>(x,[]):=by
 rw [za0 hi]
 conv=>lhs; unfold zbP
 rcases raiseP r (dotN c (parZ c i)) 0 with⟨r1,_ | _⟩<;>rfl
theorem zpN {c:ChD} {r:RunD} {l:List Int} {j:Nat} {g:Int} (hi:l[j]? =some g):zcg c r (l.drop j)=if zkc c r.act g=true then(match raiseP r (dotN c g) 0 with
 |(r1,none)=>zcg c r1 (l.drop (j+1))
 | x=>x)
 else zcg c r (l.drop (j+1)):=by
 rw [za0 hi]
 conv=>lhs; unfold zcg
 rcases raiseP r (dotN c g) 0 with⟨r1,_ | _⟩<;>rfl
theorem zet (r:RunD) (s:List UInt8) (v:Int):(raiseP r s v).1.act=r.act:=by unfold raiseP; split<;>rfl
theorem zqU {c:ChD} (_h:Right c) {l:List Int} {k:Nat} (hk:k∈sortL c l):k<c.states.length:=by
 unfold sortL at hk;split at hk
 ·rename_i hl;have:=(List.mem_filter.1 hk).2;have:=List.all_eq_true.1 hl _ (List.contains_iff_mem.1 this);exact zay.1 this
 ·simp at hk
theorem zmu {c:ChD} {k:Nat} {s:StD} (hs:c.states[k]? =some s):dotN c k=[100,111,110,101,46]++s.name:=by unfold dotN; rw [zsN hs]
theorem zfF {c:ChD} (h:Full c) {k:Nat} {s:StD} (hs:c.states[k]? =some s):s.name.length<=32:=by
 have:=h.st k s hs;unfold zaq zax at this;simp only [Bool.and_eq_true,decide_eq_true_eq] at this;exact this.1.1.1.1.1.1.1
theorem znC (env:Env) (a1 a2 a8:Addr) (c:ChD) (d now:Int) (E:RunEnv env a1 a2 a8 c d now) (r:RunD) (hl:r.act.length<=100000) (hb:lgB c r.act=true) (Z:List Int) (hF: ∀i∈Z,inZ c i=true) (hFl:Z.length<=1000):
 ConI prog env 110 [1000,1001,1002,1003,1004,1005] gr5 (fun g=>[.loc 1000 (g 1000) 0 0, .seq 1 (Z.map intAV)]) (RY c d now r) (RY c d now (finishP c r Z).1) (fun _=>errA a2 a8 (finishP c r Z).2):=by
 have hfew:=E.h.few;have hpar:=E.h.toRight.par;have hra:=fun(r:RunD) (s:List UInt8)=>zja env a2 a8 E.he.e8 c d now r s 0;have fT:=zaM env c;have fS:=fun(o:List Int) (ho:o.length<=1000000)=>((zbU env c E.h.toRight o ho).lend (zaJ (fun _=>rfl) _)).seen;have fD:=fun(r:RunD) (hl:r.act.length<=100000) (hb:lgB c r.act=true) (g:Nat) (hg:g<c.states.length)=>(zqb env a1 a8 E.he c E.h E.hs r.act (by omega) hb g hg).lend rfl;have hsl:=fun(o:List Int) (k:Nat) (hk:k∈sortL c o)=>zqU E.h.toRight hk;have hsf:=fun(o:List Int)=>zi3 E.h.toRight o;unfold zan at fT fS;unfold zai at fT fD;refine qi func110 call110 ntmps110 results110 ?_;intro vs esc hesc;have e0:=hesc 1000 (by simp);have e1:=hesc 1001 (by simp);have e2:=hesc 1002 (by simp);have e3:=hesc 1003 (by simp);have e4:=hesc 1004 (by simp);have e5:=hesc 1005 (by simp);have F:=ai9 RY.eq_1 RYe.eq_1 gr5.eq_1 e0 e1 e2 e3 e4 e5;repeat refine st ?_
 refine zaT 5 5 3 1 ?_;refine zab (D:=Nat×RunD×List Int) (fun x vs'=>[(0, .loc 1000 (vs' 1000) 0 0),(4,nilE),(5, .row 5 (vs' 5)),(15, .seq 1 (Z.map intAV)),(16,I Z.length),(17,I x.1)]) (fun x vs'=>(5,⟨1,x.2.2.map intAV,3,true⟩)::RY c d now x.2.1 vs') (fun x vs' esc'=>(x.1<=Z.length/\zbP c r [] Z=zbP c x.2.1 x.2.2 (Z.drop x.1)/\x.2.1.act=r.act/\x.2.2.length<=x.1)/\(vs' 1000=vs 1000/\vs' 1002=vs 1002)/\esc' 1000=false/\esc' 1001=false/\esc' 1002=false/\esc' 1003=false/\esc' 1004=false/\esc' 1005=false/\esc' 5=false) (fun x=>Z.length-x.1) (0,r,[]) ?_ ?_ ?_ ?_
 ·exact⟨⟨Nat.zero_le _,rfl,rfl,Nat.le_refl _⟩,by simp only [go_sem,and_self],by simp only [go_sem,e0,e1,e2,e3,e4,e5,and_self]⟩
 ·exact qe
 ·exact qe
 try clear e0 e1 e2 e3 e4 e5
 rintro⟨j,r1,o⟩ ws es ⟨⟨hj,heq,hact,hol⟩,⟨v0,v2⟩,e0,e1,e2,e3,e4,e5,e6⟩;simp only at hj heq hact hol;by_cases hlt:j<Z.length
 ·obtain⟨i,hx⟩: ∃a,Z[j]? =some a:=⟨Z[j],List.getElem?_eq_getElem hlt⟩;have hi:=hF i (List.mem_of_getElem? hx);obtain⟨k,s,rfl,hs,_⟩:=zgR hi;have hkl:=(List.getElem?_eq_some_iff.1 hs).1;have q1:=nlt hlt;have q2:=zaa hlt (by omega);have q3:=nlt hkl;have hps:=hpar k s hs;rw [zjO hx,zgi hs] at heq;by_cases hp0:s.parent<0
  ·rw [if_pos hp0] at heq;have F:=ai18 stAV.eq_1 intAV.eq_1 RY.eq_1 RYe.eq_1 gr5.eq_1 hx hs q1 q2 q3 hp0 e0 e1 e2 e3 e4 e5 e6;repeat refine st ?_
   refine⟨(j+1,{ r1 with over:=true },o),⟨⟨hlt,heq,hact,by simp only; omega⟩, ?_, ?_⟩, ?_, ?_, ?_⟩
   ·simp only [go_sem,v0,v2,and_self]
   ·simp only [go_sem,e0,e1,e2,e3,e4,e5,e6,and_self]
   ·exact qe
   ·exact qe
   ·simp only; omega
  rw [if_neg hp0] at heq;obtain⟨p,hp⟩: ∃p:Nat,s.parent=p:=⟨s.parent.toNat,by omega⟩;rw [hp] at heq hp0 hps;obtain⟨t,ht⟩: ∃t,c.states[p]? =some t:=⟨c.states[p]'(by omega),List.getElem?_eq_getElem (by omega)⟩;have q5:(p:Int)< (c.states.length:Int):=by omega
  have htp:=hpar p t ht;have q9:5+t.name.length<=9223372036854775807:=by have:=zfF E.h ht; omega
  have f0:=hra r1 (dotN c p);have hra1:=zet r1 (dotN c p) 0;rw [zmu ht] at f0 heq hra1;rw [zgi ht] at heq;rcases hX:raiseP r1 ([100,111,110,101,46]++t.name) 0 with⟨r2,_ | ⟨k,ps⟩⟩
  ·rw [hX] at heq f0 hra1;simp only at heq hra1;unfold errA RY RYe at f0;simp only at f0;by_cases hg0:0<=t.parent
   ·obtain⟨g,hg⟩: ∃g:Nat,t.parent=g:=⟨t.parent.toNat,by omega⟩;rw [hg] at heq htp;obtain⟨u,hu⟩: ∃t,c.states[g]? =some t:=⟨c.states[g]'(by omega),List.getElem?_eq_getElem (by omega)⟩;have q6:(g:Int)< (c.states.length:Int):=by omega
    rw [zc5 hu] at heq;cases h2:u.kind==2 with
    | true=>
      rw [if_pos ⟨by omega,by simpa using h2⟩] at heq;have q7:Fits (o.length+1) 8:=zaf (by omega) (by omega);have q8:(o++[(g:Int)]).map intAV=o.map intAV++[[I g]]:=by rw [List.map_append]; rfl
      have F:=ai27 stAV.eq_1 intAV.eq_1 RY.eq_1 RYe.eq_1 gr5.eq_1 hx hs ht hu hp hg h2 q1 q2 q3 q5 q6 q7 q9 hp0 e0 e1 e2 e3 e4 e5 e6;repeat refine st ?_
      refine iL [(1000,1000),(1001,1001),(1002,1002),(1003,1003),(1004,1004),(1005,1005)] f0 ?_;repeat refine st ?_
      refine⟨(j+1,r2,o++[(g:Int)]),⟨⟨hlt,heq,hra1.trans hact,by simp only [List.length_append,List.length_singleton]; omega⟩, ?_, ?_⟩, ?_, ?_, ?_⟩
      ·simp only [go_sem,v0,v2,and_self]
      ·simp only [go_sem,e0,e1,e2,e3,e4,e5,e6,and_self]
      ·exact qe
      ·simp only [q8];exact qe
      ·simp only; omega
    | false=>
      rw [if_neg (fun hh=>by rw [hh.2] at h2; cases h2)] at heq;have F:=ai26 stAV.eq_1 intAV.eq_1 RY.eq_1 RYe.eq_1 gr5.eq_1 hx hs ht hu hp hg h2 q1 q2 q3 q5 q6 q9 hp0 e0 e1 e2 e3 e4 e5 e6;repeat refine st ?_
      refine iL [(1000,1000),(1001,1001),(1002,1002),(1003,1003),(1004,1004),(1005,1005)] f0 ?_;repeat refine st ?_
      refine⟨(j+1,r2,o),⟨⟨hlt,heq,hra1.trans hact,by simp only; omega⟩, ?_, ?_⟩, ?_, ?_, ?_⟩
      ·simp only [go_sem,v0,v2,and_self]
      ·simp only [go_sem,e0,e1,e2,e3,e4,e5,e6,and_self]
      ·exact qe
      ·exact qe
      ·simp only; omega
   ·rw [if_neg (fun hh=>hg0 hh.1)] at heq;have F:=ai23 stAV.eq_1 intAV.eq_1 RY.eq_1 RYe.eq_1 gr5.eq_1 hx hs ht hp hg0 q1 q2 q3 q5 q9 hp0 e0 e1 e2 e3 e4 e5 e6;repeat refine st ?_
    refine iL [(1000,1000),(1001,1001),(1002,1002),(1003,1003),(1004,1004),(1005,1005)] f0 ?_;repeat refine st ?_
    refine⟨(j+1,r2,o),⟨⟨hlt,heq,hra1.trans hact,by simp only; omega⟩, ?_, ?_⟩, ?_, ?_, ?_⟩
    ·simp only [go_sem,v0,v2,and_self]
    ·simp only [go_sem,e0,e1,e2,e3,e4,e5,e6,and_self]
    ·exact qe
    ·exact qe
    ·simp only; omega
  ·rw [hX] at heq f0;simp only at heq;unfold errA RY RYe at f0;simp only at f0;unfold finishP;rw [heq];show awp _ _ _ _ _ _;unfold errA;simp only;have F:=ai24 stAV.eq_1 intAV.eq_1 RY.eq_1 RYe.eq_1 gr5.eq_1 hx hs ht hp q1 q2 q3 q5 q9 v0 v2 hp0 e0 e1 e2 e3 e4 e5 e6;repeat refine st ?_
   refine iL [(1000,1000),(1001,1001),(1002,1002),(1003,1003),(1004,1004),(1005,1005)] f0 ?_;repeat refine st ?_
   exact rI
 ·obtain rfl:j=Z.length:=by omega
  have q1: ¬(Z.length:Int)< (Z.length:Int):=by omega
  rw [List.drop_length] at heq;rw [show zbP c r1 o []=((r1,none),o) from rfl] at heq;unfold finishP;rw [heq];simp only;have f1:=fS o (by omega);have hlt2:=hsl o;have hlf:=hsf o;generalize sortL c o=L at*;have F:=ai11 RY.eq_1 RYe.eq_1 gr5.eq_1 q1 e0 e1 e2 e3 e4 e5 e6;repeat (first | refine st ?_ | refine cC fT ?_)
  refine lL f1 ?_;repeat refine st ?_
  refine zab (D:=Nat×RunD) (fun x vs'=>[(0, .loc 1000 (vs' 1000) 0 0),(4,nilE),(85, .seq 1 (L.map zae)),(86,I L.length),(87,I x.1)]) (fun x vs'=>RY c d now x.2 vs') (fun x vs' esc'=>(x.1<=L.length/\zcg c r1 (zL L)=zcg c x.2 ((zL L).drop x.1)/\x.2.act=r.act)/\(vs' 1000=vs 1000/\vs' 1002=vs 1002)/\esc' 1000=false/\esc' 1001=false/\esc' 1002=false/\esc' 1003=false/\esc' 1004=false/\esc' 1005=false) (fun x=>L.length-x.1) (0,r1) ?_ ?_ ?_ ?_
  ·exact⟨⟨Nat.zero_le _,rfl,hact⟩,by simp only [go_sem,v0,v2,and_self],by simp only [go_sem,e0,e1,e2,e3,e4,e5,and_self]⟩
  ·exact qe
  ·exact qe
  try clear e0 e1 e2 e3 e4 e5 e6 heq hact v0 v2
  rintro⟨j,r2⟩ ws es ⟨⟨hj,heq,hact⟩,⟨v0,v2⟩,e0,e1,e2,e3,e4,e5⟩;simp only at hj heq hact;by_cases hlt:j<L.length
  ·obtain⟨g,hx⟩: ∃a,L[j]? =some a:=⟨L[j],List.getElem?_eq_getElem hlt⟩;have hgl:=hlt2 g (List.mem_of_getElem? hx);obtain⟨t,ht⟩: ∃t,c.states[g]? =some t:=⟨c.states[g]'(by omega),List.getElem?_eq_getElem (by omega)⟩;have q1:=nlt hlt;have q2:=zaa hlt (by omega);have q3:=nlt hgl;have q9:5+t.name.length<=9223372036854775807:=by have:=zfF E.h ht; omega
   have f2:=fD r2 (by rw [hact]; exact hl) (by rw [hact]; exact hb) g hgl;rw [zpN (zkw hx)] at heq;cases hd:zkc c r2.act g with
   | false=>
     rw [hd] at f2 heq;simp only [Bool.false_eq_true,if_false] at heq;have F:=ai16 stAV.eq_1 zae.eq_1 RY.eq_1 RYe.eq_1 gr5.eq_1 hx ht q1 q2 q3 e0 e1 e2 e3 e4 e5;repeat refine st ?_
     refine lL f2 ?_;repeat refine st ?_
     refine⟨(j+1,r2),⟨⟨hlt,heq,hact⟩, ?_, ?_⟩, ?_, ?_, ?_⟩
     ·simp only [go_sem,v0,v2,and_self]
     ·simp only [go_sem,e0,e1,e2,e3,e4,e5,and_self]
     ·exact qe
     ·exact qe
     ·simp only; omega
   | true=>
     rw [hd] at f2 heq;simp only [if_true] at heq;have f0:=hra r2 (dotN c g);have hra1:=zet r2 (dotN c g) 0;rw [zmu ht] at f0 heq hra1;rcases hX:raiseP r2 ([100,111,110,101,46]++t.name) 0 with⟨r3,_ | ⟨k,ps⟩⟩
     ·rw [hX] at heq f0 hra1;simp only at heq hra1;unfold errA RY RYe at f0;simp only at f0;have F:=ai17 stAV.eq_1 zae.eq_1 RY.eq_1 RYe.eq_1 gr5.eq_1 hx ht q1 q2 q3 q9 e0 e1 e2 e3 e4 e5;repeat refine st ?_
      refine lL f2 ?_;repeat refine st ?_
      refine iL [(1000,1000),(1001,1001),(1002,1002),(1003,1003),(1004,1004),(1005,1005)] f0 ?_;repeat refine st ?_
      refine⟨(j+1,r3),⟨⟨hlt,heq,hra1.trans hact⟩, ?_, ?_⟩, ?_, ?_, ?_⟩
      ·simp only [go_sem,v0,v2,and_self]
      ·simp only [go_sem,e0,e1,e2,e3,e4,e5,and_self]
      ·exact qe
      ·exact qe
      ·simp only; omega
     ·rw [hX] at heq f0;simp only at heq;unfold errA RY RYe at f0;simp only at f0;rw [heq];show awp _ _ _ _ _ _;unfold errA;simp only;have F:=ai19 stAV.eq_1 zae.eq_1 RY.eq_1 RYe.eq_1 gr5.eq_1 hx ht q1 q2 q3 q9 v0 v2 e0 e1 e2 e3 e4 e5;repeat refine st ?_
      refine lL f2 ?_;repeat refine st ?_
      refine iL [(1000,1000),(1001,1001),(1002,1002),(1003,1003),(1004,1004),(1005,1005)] f0 ?_;repeat refine st ?_
      exact rI
  ·obtain rfl:j=L.length:=by omega
   have q1: ¬(L.length:Int)< (L.length:Int):=by omega
   rw [List.drop_of_length_le (by rw [zcj]; omega)] at heq;rw [show zcg c r2 []=(r2,none) from rfl] at heq;rw [heq];show awp _ _ _ _ _ _;unfold errA;simp only;have F:=ai12 RY.eq_1 RYe.eq_1 gr5.eq_1 q1 v0 v2 e0 e1 e2 e3 e4 e5;repeat refine st ?_
   exact rI
theorem ziC {c:ChD} (hA:ActsOk c) {d now:Int} (hd:zaj d=true) (hn:0<=now/\now<=1099511627776): ∀ {l:List Int} {r:RunD} {f:List Int},RunOk c r->(zaN c d now r f l).1.1.act.length<=r.act.length+l.length
 | [],r,f,h=>Nat.le_refl _
 | i::l,r,f,h=>by
   unfold zaN;split
   ·have:=ziC hA (l:=l) (f:=f) hd hn h;simp only [List.length_cons];omega
   ·obtain⟨k1,k2⟩:=zks (r:={ r with act:=zaR (r.act++[i]) }) hd hn { h with } (hA.inn i);have ha:=k2.act;split
    ·rename_i r1 e;rw [e] at k1 ha;have:=ziC hA (l:=l) (f:=if za7 c i=3 then f++[i] else f) hd hn k1;have ha:r1.act=zaR (r.act++[i]):=ha;rw [ha,zep,List.length_append] at this;simp only [List.length_cons,List.length_nil] at this |-;omega
    ·rename_i x hx;simp only;rw [ha];simp only [zep,List.length_append,List.length_cons,List.length_nil];omega
theorem zqa (env:Env) (a1 a2 a8:Addr) (c:ChD) (d now:Int) (E:RunEnv env a1 a2 a8 c d now) (r:RunD) (hr:RunOk c r) (hrise:r.act.Pairwise (· < ·)) (hl:r.act.length<=1000) (G:List Nat) (hG: ∀i∈G,i<c.states.length) (hGl:G.length<=1000) (hleg:(zaN c d now r [] (zL G)).1.2=none->lgB c (zaN c d now r [] (zL G)).1.1.act=true):
 ConI prog env 59 [1000,1001,1002,1003,1004,1005] gr5 (fun g=>[.loc 1000 (g 1000) 0 0, .seq 1 (G.map zae)]) (RY c d now r) (RY c d now (enterP c d now r (zL G)).1) (fun _=>errA a2 a8 (enterP c d now r (zL G)).2):=by
 have hA:=zb1 E.h;have f0:=zrR env a1 a2 a8 c d now E r hr hl G hG hGl;have k0:=ziC hA (l:=zL G) (f:=[]) E.hd E.hn hr;obtain⟨_,k2⟩:=zeg hA (l:=zL G) (f:=[]) E.hd E.hn hr hrise;have hfin:=fun(r:RunD) hl hb (F:List Int) hF hFl=>znC env a1 a2 a8 c d now E r hl hb F hF hFl;rw [zcj] at k0;unfold enterP;rcases hX:zaN c d now r [] (zL G) with⟨⟨r1,_ | ⟨k,ps⟩⟩,f⟩
 ·rw [hX] at f0 hleg k0 k2;simp only at hleg k0 k2;have kc:=k2 trivial;have hkl:=kc.len;rw [zcj] at hkl
  have f1:=hfin r1 (by omega) (hleg trivial) f (fun i hi=>by
   rcases (kc.fin i).1 hi with q | ⟨q,_⟩
   ·simp at q
   ·obtain⟨k,hk,rfl⟩:=List.mem_map.1 q
    exact zay.2 (hG k hk)) (by simp only [List.length_nil] at hkl; omega)
  simp only;generalize finishP c r1 f=Y at*;unfold zqg RY RYe at f0;unfold RY RYe at f1;simp only at f0;refine qi func59 call59 ntmps59 results59 ?_;intro vs esc hesc;have e0:=hesc 1000 (by simp);have e1:=hesc 1001 (by simp);have e2:=hesc 1002 (by simp);have e3:=hesc 1003 (by simp);have e4:=hesc 1004 (by simp);have e5:=hesc 1005 (by simp);have F:=ai10 RY.eq_1 RYe.eq_1 gr5.eq_1 zcF e0 e1 e2 e3 e4 e5;repeat refine st ?_
  refine iL [(1000,1000),(1001,1001),(1002,1002),(1003,1003),(1004,1004),(1005,1005)] f0 ?_;repeat refine st ?_
  refine iL [(1000,1000),(1001,1001),(1002,1002),(1003,1003),(1004,1004),(1005,1005)] f1 ?_;repeat refine st ?_
  exact rI
 ·rw [hX] at f0;simp only;unfold zqg errA RY RYe at f0;simp only at f0;show ConI _ _ _ _ _ _ _ _ fun _=>errV _ _;refine qi func59 call59 ntmps59 results59 ?_;intro vs esc hesc;have e0:=hesc 1000 (by simp);have e1:=hesc 1001 (by simp);have e2:=hesc 1002 (by simp);have e3:=hesc 1003 (by simp);have e4:=hesc 1004 (by simp);have e5:=hesc 1005 (by simp);have F:=ai9 RY.eq_1 RYe.eq_1 gr5.eq_1 e0 e1 e2 e3 e4 e5;repeat refine st ?_
  refine iL [(1000,1000),(1001,1001),(1002,1002),(1003,1003),(1004,1004),(1005,1005)] f0 ?_;repeat refine st ?_
  exact rI
end
section
def rounds (P:Program) (env:Env) (nt:Nat) (c:Code) (Q:Exit->St->Prop):Nat->St->Prop
 | 0,_=>False
 | n+1,s=>awp P env nt c (zcK (rounds P env nt c Q n) Q) s
section
variable {P:Program} {env:Env} {nt:Nat} {c:Code} {Q:Exit->St->Prop} {s:St}
structure Rnd (P:Program) (env:Env) (nt:Nat) (c:Code) (Q:Exit->St->Prop) (n:Nat) (s:St):Prop where
 out:rounds P env nt c Q n s
theorem zqt {Q':Exit->St->Prop} (hQ: ∀e s,Q e s->Q' e s) (h:awp P env nt c Q s):awp P env nt c Q' s:=fun ro x he hn a w m hS=>wpIn_mono (h ro x he hn a w m hS) (by
 rintro e a' w' ⟨s',m',h1,h2⟩
 exact⟨s',m',hQ _ _ h1,h2⟩)
theorem zag {n:Nat} (h:awp P env nt c (zcK (Rnd P env nt c Q n) Q) s):Rnd P env nt c Q (n+1) s:=⟨zqt (fun e s h=>by
 cases e
 case normal=>exact Rnd.out h
 all_goals exact h) h⟩
theorem zlB (n:Nat) (h:rounds P env nt c Q n s):awp P env nt (.loop c) Q s:=fun ro x he hn a w m hS=>by
 refine wpIn_loop_rounds n ?_
 induction n generalizing s a w m with
 | zero=>exact h.elim
 | succ n ih=>
   rw [roundsIn_succ];refine wpIn_mono (h ro x he hn a w m hS) ?_;rintro e a' w' ⟨s',m',h1,h2⟩;cases e with
   | normal=>exact ih h1 a' w' m' h2
   | _=>exact⟨s',m',h1,h2⟩
theorem zad (n:Nat) (h:Rnd P env nt c Q n s):awp P env nt (.loop c) Q s:=zlB n h.out
end
end

end Go.Proofs.YtbpmkofnfgdegaaGreatDoor