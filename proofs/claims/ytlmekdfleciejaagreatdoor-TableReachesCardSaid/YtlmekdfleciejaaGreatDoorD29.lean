/- table.New, of a right chart. -/
import Derived.Test.YtlmekdfleciejaaGreatDoorD28
import Derived.Test.YtlmekdfleciejaaGreatDoorD7
set_option maxRecDepth 100000
set_option maxHeartbeats 4000000
set_option linter.unusedSimpArgs false
namespace Go.Proofs.YtlmekdfleciejaaGreatDoor
open Go.RowKit
theorem zc6 (c:ChD):(zal c).plain=true:=rfl
theorem zqK (l:List Nat):l.map zae=(zL l).map intAV:=by simp [zae,zL]
theorem zmb (c:ChD) (vs:Nat->Nat):zbW c 0 vs=[]:=rfl
theorem ziS (c:ChD):keyRows c 0=[]:=rfl
theorem zkg {c:ChD} {j:Nat} {g g':Nat->Nat} (h: ∀k,g (k+6000)=g' (k+6000)):zbW c j g=zbW c j g':=by
 apply List.ext_getElem?
 intro q
 rw [zbN,zbN,h]
theorem zm9 {c:ChD} {j:Nat} {s:St} {Q:St->Prop} (hk:keysTo c (j+1)=keysTo c j++[zbP c j]) (hno:zbP c j∉keysTo c j) (hF:zdw s (FA c (j+1) s.vs)) (hR:zcZ s (RN c j s.vs)) (he:s.esc 27=false)
 (hQ: ∀g e,e 27=false->Q (head (FA c (j+1) g) (RA c (j+1) g) g e)): ∃s2,Turned s s2/\Q s2:=by
 obtain⟨g',e',h1,h2⟩:=zqs hk hno (j+1) (g:=s.vs) (e:=s.esc) he
 exact⟨_,(Turned.head hF hR).trans h2,hQ g' e' h1⟩
theorem zqJ (c:ChD) (F:Nat) (g:Nat->Nat) (R:List (Nat×Row)) (e:Nat->Bool):zdw (head (FA c F g) R g e) (FA c F g):=by
 simp only [zdw,FA,head,zgj,if_true,Nat.reduceEqDiff,if_false,and_self,reduceCtorEq]
theorem zqI (c:ChD) (j:Nat) (g:Nat->Nat) (F:List (Nat×AV)) (e:Nat->Bool):zcZ (head F (RA c j g) g e) (RA c j g):=by
 refine⟨?_, ?_, ?_,holdR_rowsAt fun q r hq=> ?_⟩
 ·simp only [head,RA,zav,if_true]
 ·simp only [head,RA,zav,if_true,Nat.reduceEqDiff,if_false]
 ·simp only [head,RA,zav,if_true,Nat.reduceEqDiff,if_false]
 ·simp only [head,RA,zav]
  rw [if_neg (by omega),if_neg (by omega),if_neg (by omega),zgC,hq]
theorem zii (env:Env) (a1 a8:Addr) (he:ChEnv env a1 a8) (hT: ∀W,env.inv W->TabAt W) (c:ChD) (hch:chk c=(0, -1)) (hcf:zdq c):Con Tryz.prog env 35 [.agg (chAV c)] (.tuple [zai c, .lit .nilIface]):=by
 have h0:(chk c).1=0:=by rw [hch]
 have h:=full_of h0
 have hs:=zfA h0
 have hlen:=h.few
 have htr:=h.ftr
 have f0:=zo4 env a1 a8 he hT c h.toRight (zjD hch) hcf
 have f1:=ziD env c hs
 have f2:=zml env c (by omega)
 refine zaa Tryz.func35 rfl Tryz.call35 (by rw [Tryz.ntmps35]; simp) ?_
 rw [Tryz.ntmps35,Tryz.results35]
 have F:=chAV.eq_1
 repeat (first | refine st ?_ | refine cC f0 ?_ | refine cC f1 ?_ | refine cC f2 ?_)
 refine zeC [(24,⟨1,(evL c).map zcv,9,true⟩)] ?_ ?_
 ·(simp only [go_sem,F])
 refine zab (D:=Nat) (fun j vs=>FA c j vs) (fun j vs=>RA c j vs) (fun j _ esc=>j<=c.trans.length/\esc 27=false) (fun j=>c.trans.length-j) 0 ?_ ?_ ?_ ?_
 ·exact⟨Nat.zero_le _,rfl⟩
 ·have F:=ai FA.eq_1<|zal.eq_1
  (simp only [go_sem,seenSt,seesR,zcw,Row.see,AV.see,AV.see.seeL,Option.getD_none,F])
 ·have F:=ai RA.eq_1<|ai boxA.eq_1<|ai zal.eq_1<|ai @zmb<|ai @ziS<|chAV.eq_1
  (simp only [go_sem,seenSt,seesR,zcw,Row.see,AV.see,AV.see.seeL,Option.getD_none,rowsAt,F])
 try clear f0 f1 f2
 rintro j ws esc ⟨hj,e0⟩
 by_cases hlt:j<c.trans.length
 ·obtain⟨t,ht⟩: ∃t,c.trans[j]? =some t:=⟨c.trans[j],List.getElem?_eq_getElem hlt⟩
  have g1:=nlt hlt
  have g2:=zac hlt (by omega)
  have fE:=(zoj env c (by omega) .any nilS t.event).lend rfl
  have hka:zbP c j=(t.src,evI c t.event):=by unfold zbP; rw [ht]
  have hm:=znB c j ws t.src (evI c t.event)
  have hml:=zcI c j ws
  generalize evI c t.event=e at*
  refine zh8 ?_
  cases hq:idxP (t.src,e) (keysTo c j) 0 with
  | none=>
    rw [hq] at hm
    have hno:zbP c j∉keysTo c j:=by rw [hka]; exact zi1 hq
    have hk:keysTo c (j+1)=keysTo c j++[zbP c j]:=by
     show (if zbP c j∈keysTo c j then _ else _)=_
     rw [if_neg hno]
    have hs2: ∀x y:List AV,(zbW c j ws++[x]).set (keysTo c j).length y=zbW c j ws++[y]:=fun x y=>by rw [<-hml]; simp
    have ha2: ∀x:List AV,(zbW c j ws++[x])[(keysTo c j).length]? =some x:=fun x=>by rw [<-hml]; simp
    have F:=ai FA.eq_1<|ai RA.eq_1<|ai boxA.eq_1<|ai chAV.eq_1<|ai trAV.eq_1<|ai g1<|ai g2<|ai ht<|ai @zc6<|ai hm<|ai hml<|ai hs2<|ai ha2<|e0
    repeat refine st ?_
    refine oL rfl (fE) (by simp only [go_sem,F]; exact iR) (by simp only [go_sem,F]; exact⟨rfl,rfl⟩) ?_
    repeat refine st ?_
    refine zm9 hk hno ?_ ⟨?_, ?_, ?_, ?_,holdR_rowsAt fun q r hr=> ?_⟩ ?_ fun g e he=>⟨j+1,⟨hlt,he⟩, ?_, ?_,by omega⟩
    ·have F:=ai FA.eq_1<|ai RA.eq_1<|ai chAV.eq_1<|g2
     (simp only [go_sem,F])
    ·(simp only [go_sem,FA,RA,chAV,g2])
    ·have F:=ai RA.eq_1<|ai RN.eq_1<|ai boxA.eq_1<|chAV.eq_1
     (simp only [go_sem,F])
    ·have F:=ai RA.eq_1<|ai RN.eq_1<|ai boxA.eq_1<|ai chAV.eq_1<|hka
     (simp only [go_sem,F])
     exact congrArg (fun es=>(⟨0,es++_,_,false⟩:Row)) (zkg fun k=>by simp only [go_sem])
    ·have F:=ai RA.eq_1<|RN.eq_1
     (simp only [go_sem,F])
    ·have hh:=zgC c j q
     rw [hr] at hh
     have F:=ai RA.eq_1<|hh
     (simp only [go_sem,F])
    ·have F:=ai RA.eq_1<|e0
     (simp only [go_sem,F])
    ·exact zqJ c (j+1) g _ e
    ·exact zqI c (j+1) g _ e
  | some q=>
    rw [hq] at hm
    have hqk:=(zi0 hq).2
    rw [Nat.sub_zero] at hqk
    have hin:zbP c j∈keysTo c j:=by rw [hka]; exact List.mem_of_getElem? hqk
    have hk:keysTo c (j+1)=keysTo c j:=by
     show (if zbP c j∈keysTo c j then _ else _)=_
     rw [if_pos hin]
    have hat:(zbW c j ws)[q]? =some [.agg [I t.src,I e], .row (q+6000) (ws (q+6000))]:=by rw [zbN,hqk]; rfl
    have hsame:(zbW c j ws).set q [.agg [I t.src,I e], .row (q+6000) (ws (q+6000))]=zbW c j ws:=zmc (p:=(t.src,e)) hqk
    have hkr:=zgC c j q
    rw [zaY,hqk] at hkr
    simp only [Option.map_some] at hkr
    have hrl:=zqk c j (t.src,e)
    have hf:Fits ((zed c j (t.src,e)).length+1) 8:=zah (by omega) (by omega)
    have F:=ai FA.eq_1<|ai RA.eq_1<|ai boxA.eq_1<|ai chAV.eq_1<|ai trAV.eq_1<|ai g1<|ai g2<|ai ht<|ai @zc6<|ai hm<|ai hat<|ai hsame<|ai hkr<|ai hf<|e0
    repeat refine st ?_
    refine oL rfl (fE) (by simp only [go_sem,F]; exact iR) (by simp only [go_sem,F]; exact⟨rfl,rfl⟩) ?_
    repeat refine st ?_
    refine⟨_,Turned.refl _,j+1,⟨hlt, ?_⟩, ?_,⟨?_, ?_, ?_,holdR_rowsAt fun k r hr=> ?_⟩,by omega⟩
    ·(simp only [go_sem,F])
    ·have F:=ai FA.eq_1<|ai RA.eq_1<|ai chAV.eq_1<|g2
     (simp only [go_sem,F])
    ·have F:=ai RA.eq_1<|ai boxA.eq_1<|chAV.eq_1
     (simp only [go_sem,F])
    ·have F:=ai RA.eq_1<|ai boxA.eq_1<|chAV.eq_1
     (simp only [go_sem,F])
    ·have F:=ai RA.eq_1<|ai boxA.eq_1<|ai chAV.eq_1<|hsame
     (simp only [go_sem,F])
     exact congrArg (fun es=>(⟨0,es,_,false⟩:Row)) (zme (p:=(t.src,e)) hk hqk (fun k hne=>by rw [upd_ne _ _ _ (by omega),upd_ne _ _ _ (by omega),upd_ne _ _ _ (by omega),upd_ne _ _ _ (by omega)]) (upd_same ..))
    ·rw [ziU hk hka (zeV c j) hqk k] at hr
     by_cases ek:k=q
     ·subst ek
      rw [if_pos rfl] at hr
      cases hr
      have F:=ai RA.eq_1<|ai boxA.eq_1<|chAV.eq_1
      (simp only [go_sem,F])
     ·rw [if_neg ek] at hr
      have hh:=zgC c j k
      rw [hr] at hh
      have hne: ¬(k+6000=q+6000):=by omega
      have F:=ai RA.eq_1<|ai boxA.eq_1<|ai chAV.eq_1<|ai hh<|ai hne<|ek
      (simp only [go_sem,F])
 obtain rfl:j=c.trans.length:=by omega
 have g1: ¬(c.trans.length:Int)< (c.trans.length:Int):=by omega
 obtain⟨e',h27,htu⟩:=zmk (c:=c) c.trans.length (g:=ws) e0
 refine zpO htu ?_
 have F:=ai FA.eq_1<|ai boxF.eq_1<|ai chAV.eq_1<|ai g1<|h27
 repeat refine st ?_
 refine zbh 27 9100 0 8 ⟨9,[[Sg c.name,I c.initial,varsAV c.vars,stsAV c.states,trsAV c.trans,zal c, .seq 1 ((evL c).map zcv), .fmap (zdS c),nilS]],101,false⟩ [Sg c.name,I c.initial,varsAV c.vars,stsAV c.states,trsAV c.trans,zal c, .seq 1 ((evL c).map zcv), .fmap (zdS c),nilS] 35 1 (by decide) (by decide) (Nat.succ_ne_zero 8) rfl rfl rfl (by simp only [go_sem,F]; exact iR) (by simp only [go_sem,F]; exact iR) ?_
 refine zab (D:=Nat) (fun i vs=>[(2, .lit (.pointer none)),(3, .lit .nilIface),(4,zal c),(6, .loc 27 (vs 27) 0 0),(62,stsAV c.states),(63,I c.states.length),(64,I i)])
  (fun i vs=>[(27,⟨9,[[Sg c.name,I c.initial,varsAV c.vars,stsAV c.states,trsAV c.trans,zal c, .seq 1 ((evL c).map zcv), .fmap (zdS c), .row 9100 (vs 9100)]],101,false⟩),(9100,⟨1,begE c i,35,true⟩)])
  (fun i _ esc=>i<=c.states.length/\esc 27=false/\esc 9100=false) (fun i=>c.states.length-i) 0 ?_ ?_ ?_ ?_
 ·refine⟨Nat.zero_le _, ?_, ?_⟩<;>simp only [go_sem,h27]
 ·(simp only [go_sem,F])
 ·(simp only [go_sem,F])
  try rfl
 try clear g1 e0 h27 htu hj hlt
 rintro i ws esc ⟨hi,e0,e1⟩
 by_cases hlt:i<c.states.length
 ·have g1:=nlt hlt
  have g2:=zac hlt (by omega)
  have f3:=ze2 env c h 40 i hlt (by omega)
  have hbl:=zqf h hlt
  have f4:Con Tryz.prog env 90 [zal c, .seq 1 ((bgL c i).map zae)] (.own 3 1 ((sbL c i).map zae)):=by
   rw [zqK]
   exact zfS env c h.toRight (zL (bgL c i)) (by simp [zL]; omega)
  have hbe:(begE c i).length=i:=by simp [begE]
  have hbs:begE c (i+1)=begE c i++[[.seq 1 ((sbL c i).map zae)]]:=by unfold begE; rw [List.range_succ,List.map_append]; rfl
  have hf:Fits (i+1) 24:=zah (by omega) (by omega)
  have F:=ai g1<|ai g2<|ai hbe<|ai hf<|ai e0<|ai e1<|zal.eq_1
  repeat (first | refine st ?_ | refine cC f3 ?_ | refine cC f4 ?_)
  refine⟨i+1,⟨hlt, ?_, ?_⟩, ?_, ?_,by omega⟩
  ·simp only [go_sem,e0]
  ·simp only [go_sem,e1]
  ·(simp only [go_sem,F])
  ·have F:=ai hbs<|zal.eq_1
   (simp only [go_sem,F])
 obtain rfl:i=c.states.length:=by omega
 have g1: ¬(c.states.length:Int)< (c.states.length:Int):=by omega
 have F:=ai g1<|ai e0<|e1
 repeat refine st ?_
 refine zeC [(9100,⟨1,begE c c.states.length,35,true⟩)] ?_ ?_
 ·(simp only [go_sem,F])
 refine zfO [(2, .loc 27 (ws 27) 0 0),(3, .lit .nilIface)] [(27,⟨9,[tabCells c],101,false⟩)] ?_ ?_ ?_
 ·(simp only [go_sem,seenSt,seesR,zcw,Row.see,AV.see,AV.see.seeL,Option.getD_none])
 ·have F:=ai tabCells.eq_1<|zal.eq_1
  (simp only [go_sem,seenSt,seesR,zcw,Row.see,AV.see,AV.see.seeL,Option.getD_none,F])
 have F:=ai tabCells.eq_1<|@zc6
 (refine zak ?_; show (zaz _ _ _).run _=some _; simp only [go_sem,seenSt,seesR,F])
 rfl
end Go.Proofs.YtlmekdfleciejaaGreatDoor
