/- tree.New, of a right chart. -/
import Derived.Test.YtlmekdfleciejaaGreatDoorD24
import Derived.Test.YtlmekdfleciejaaGreatDoorD7
set_option maxRecDepth 100000
set_option maxHeartbeats 4000000
set_option linter.unusedSimpArgs false
namespace Go.Proofs.YtlmekdfleciejaaGreatDoor
open Go.RowKit
theorem zo4 (env:Env) (a1 a8:Addr) (he:ChEnv env a1 a8) (hT: ∀W,env.inv W->TabAt W) (c:ChD) (hc:Right c) (hch:zh5 a1 a8 c= .lit .nilIface) (hcf:zdq c):Con Tryz.prog env 87 [.agg (chAV c)] (.tuple [zal c, .lit .nilIface]):=by
 have hlen:=hc.few
 have f0:=zl5 env a1 a8 he c hcf
 rw [hch] at f0
 refine zjz Tryz.func87 rfl Tryz.call87 (by rw [Tryz.ntmps87]; simp) ?_
 rw [Tryz.ntmps87,Tryz.results87]
 have F:=chAV.eq_1
 refine zaU ?_
 repeat (first | refine st ?_ | refine cC f0 ?_)
 refine zaU ?_
 repeat (first | refine st ?_ | refine cC f0 ?_)
 refine zaU ?_
 repeat (first | refine st ?_ | refine cC f0 ?_)
 have m0: ¬(c.states.length:Int)<0:=by omega
 have m1: ¬(16777216:Int)< (c.states.length:Int):=by omega
 have m2: ¬(281474976710656:Int)<4*(c.states.length:Int):=by omega
 have m3: ¬(281474976710656:Int)<8*(c.states.length:Int):=by omega
 have F:=ai chAV.eq_1<|ai m0<|ai m1<|ai m2<|m3
 refine zaU ?_
 repeat (first | refine st ?_ | refine cC f0 ?_)
 refine zaU ?_
 repeat (first | refine st ?_ | refine cC f0 ?_)
 refine zbh 28 9000 0 0 ⟨7,[[nilS,nilS, .row 22 1, .row 24 1, .row 26 1,nilS, .lit (.int .u32 0)]],129,false⟩ [nilS,nilS, .row 22 1, .row 24 1, .row 26 1,nilS, .lit (.int .u32 0)] 3 1 (by decide) (by decide) (Nat.succ_ne_zero 6) rfl rfl rfl (by simp only [go_sem,F]; exact iR) (by simp only [go_sem,F]; exact iR) ?_
 refine zbh 28 9001 0 1 ⟨7,[[.row 9000 1,nilS, .row 22 1, .row 24 1, .row 26 1,nilS, .lit (.int .u32 0)]],129,false⟩ [.row 9000 1,nilS, .row 22 1, .row 24 1, .row 26 1,nilS, .lit (.int .u32 0)] 3 1 (by decide) (by decide) (Nat.succ_ne_zero 6) rfl rfl rfl (by simp only [go_sem,F]; exact iR) (by simp only [go_sem,F]; exact iR) ?_
 refine zab (D:=Nat) (fun i vs'=>[(1, .loc 1 (vs' 1) 0 0),(6, .loc 6 (vs' 6) 0 0),(30,stsAV c.states),(31,I c.states.length),(32,I i)])
  (fun i vs'=>[(1,⟨5,[chAV c],26,false⟩),(6,⟨1,[[.loc 28 (vs' 28) 0 0]],47,false⟩),(28,⟨7,[[.row 9000 (vs' 9000), .row 9001 (vs' 9001), .row 22 (vs' 22), .row 24 (vs' 24), .row 26 (vs' 26),nilS, .lit (.int .u32 (za8 c i))]],129,false⟩),
   (22,⟨1,(mkTo c i).map umAV,127,true⟩),(24,⟨1,List.replicate c.states.length [.lit (.int .u32 0)],127,true⟩),(26,⟨1,List.replicate c.states.length [I 0],3,true⟩),
   (9000,⟨1,(c.states.take i).map fun s=>[I s.parent],3,true⟩),(9001,⟨1,(c.states.take i).map fun s=>[I s.kind],3,true⟩)])
  (fun i vs' esc'=>i<=c.states.length/\esc' 22=false/\esc' 24=false/\esc' 26=false/\esc' 28=false/\esc' 9000=false/\esc' 9001=false) (fun i=>c.states.length-i) 0 ?_ ?_ ?_ ?_
 ·refine⟨Nat.zero_le _, ?_, ?_, ?_, ?_, ?_, ?_⟩<;>simp only [go_sem]
 ·(simp only [go_sem,F])
 ·have F:=ai chAV.eq_1<|za8.eq_1
  (simp only [go_sem,F])
  rw [ziI]
 rintro i ws esc ⟨hi,e0,e1,e2,e3,e4,e5⟩
 by_cases hlt:i<c.states.length
 ·obtain⟨s,hs,_⟩:=zam hlt
  have g1:=nlt hlt
  have g2:=zac hlt (by omega)
  have f1:=zcG env c i (by omega)
  have hpar:=hc.par i s hs
  have hf:Fits (i+1) 8:=⟨by omega,by omega⟩
  have hti:(c.states.take i).length=i:=by rw [List.length_take]; omega
  have htk:c.states.take (i+1)=c.states.take i++[s]:=by rw [List.take_add_one,hs]; rfl
  have hmi:=zd3 (c:=c) (i:=i) hlt
  rw [if_neg (Nat.lt_irrefl i)] at hmi
  have hl:za8 c (i+1)=if znN c i s then za8 c i||| 2^i else za8 c i:=by
   show (match c.states[i]? with | some s=>if znN c i s then za8 c i||| 2^i else za8 c i | none=>za8 c i)=_
   rw [hs]
  have g6:=zk1 (a:=za8 c i) (b:=2^i) (zfj (by omega)) (zdb i (by omega))
  have g7:=zhE (p:=i) (by omega)
  by_cases hp:0<=s.parent
  ·obtain⟨p,hp⟩: ∃p:Nat,s.parent=p:=⟨s.parent.toNat,by omega⟩
   have hmp:=zd3 (c:=c) (i:=i) (j:=p) (by omega)
   rw [if_pos (by omega)] at hmp
   have g3:((p:Nat):Int)< (c.states.length:Int):=by omega
   have g4:=zhE (p:=p) (by omega)
   have hnx:mask c i=mask c p||| 2^p:=by
    have:=ziL hc (zaM.2 hlt)
    rw [zcx hs,hp] at this
    rw [this,if_pos (by omega),Int.toNat_natCast]
   have g5:=zk1 (a:=mask c p) (b:=2^p) (zeT hc (by omega)) (zdb p (by omega))
   rw [<-hnx] at g5
   have hms:=zk5 (c:=c) hlt
   cases q4:(s.kind != 4)<;>cases q5:(s.kind != 5)<;>cases q0:(((kidsL c i true).length:Int)==0)
   all_goals have F:=ai chAV.eq_1<|ai stAV.eq_1<|ai g1<|ai g2<|ai g6<|ai g7<|ai hs<|ai hp<|ai hf<|ai hti<|ai hmi<|ai @zby<|ai umAV.eq_1<|ai q4<|ai q5<|ai q0<|ai e0<|ai e1<|ai e2<|ai e3<|ai e4<|ai e5<|ai g3<|ai g4<|ai g5<|hmp
   all_goals (repeat (first | refine st ?_ | refine cC f1 ?_))
   all_goals (refine⟨i+1,⟨hlt, ?_, ?_, ?_, ?_, ?_, ?_⟩, ?_, ?_,by omega⟩)
   all_goals (first | (show _=false; simp only [go_sem,e0,e1,e2,e3,e4,e5]; done) | skip)
   all_goals have F:=ai chAV.eq_1<|ai stAV.eq_1<|ai g1<|ai g2<|ai g6<|ai g7<|ai hs<|ai hp<|ai hf<|ai hti<|ai hmi<|ai @zby<|ai umAV.eq_1<|ai q4<|ai q5<|ai q0<|ai e0<|ai e1<|ai e2<|ai e3<|ai e4<|ai e5<|ai g3<|ai g4<|ai g5<|ai hmp<|ai hl<|htk
   all_goals ((simp only [go_sem,znN,List.map_append, <-hms,List.map_set,F]))
  ·have hp:s.parent= -1:=by omega
   have hm0:mask c i=0:=by
    have:=ziL hc (zaM.2 hlt)
    rw [zcx hs,hp] at this
    rw [this,if_neg (by omega)]
   have hms:=znz hlt hm0
   cases q4:(s.kind != 4)<;>cases q5:(s.kind != 5)<;>cases q0:(((kidsL c i true).length:Int)==0)
   all_goals have F:=ai chAV.eq_1<|ai stAV.eq_1<|ai g1<|ai g2<|ai g6<|ai g7<|ai hs<|ai hp<|ai hf<|ai hti<|ai hmi<|ai @zby<|ai umAV.eq_1<|ai q4<|ai q5<|ai q0<|ai e0<|ai e1<|ai e2<|ai e3<|ai e4<|e5
   all_goals (repeat (first | refine st ?_ | refine cC f1 ?_))
   all_goals (refine⟨i+1,⟨hlt, ?_, ?_, ?_, ?_, ?_, ?_⟩, ?_, ?_,by omega⟩)
   all_goals (first | (show _=false; simp only [go_sem,e0,e1,e2,e3,e4,e5]; done) | skip)
   all_goals have F:=ai chAV.eq_1<|ai stAV.eq_1<|ai g1<|ai g2<|ai g6<|ai g7<|ai hs<|ai hp<|ai hf<|ai hti<|ai hmi<|ai @zby<|ai umAV.eq_1<|ai q4<|ai q5<|ai q0<|ai e0<|ai e1<|ai e2<|ai e3<|ai e4<|ai e5<|ai hl<|ai htk<|hms
   all_goals ((simp only [go_sem,znN,List.map_append,F]))
 obtain rfl:i=c.states.length:=by omega
 have g1: ¬(c.states.length:Int)< (c.states.length:Int):=by omega
 have hta:c.states.take c.states.length=c.states:=List.take_length
 have F:=ai chAV.eq_1<|ai g1<|ai e0<|ai e1<|ai e2<|ai e3<|ai e4<|ai e5<|hta
 repeat (first | refine st ?_ | refine cC f0 ?_)
 refine zh9 ?_
 refine zaU ?_
 repeat (first | refine st ?_ | refine cC f0 ?_)
 refine ze3 ?_
 refine zoO (D:=Nat) (fun i vs'=>[(1, .loc 1 (vs' 1) 0 0),(6, .loc 6 (vs' 6) 0 0),(108, .row 22 (vs' 22)),(109,I c.states.length),(110,I i)])
  (fun i vs'=>[(1,⟨5,[chAV c],26,false⟩),(6,⟨1,[[.loc 28 (vs' 28) 0 0]],47,false⟩),(28,⟨7,[[.row 9000 (vs' 9000), .row 9001 (vs' 9001), .row 22 (vs' 22), .row 24 (vs' 24), .row 26 (vs' 26),nilS, .lit (.int .u32 (za8 c c.states.length))]],129,false⟩),
   (22,⟨1,(mkTo c c.states.length).map umAV,127,true⟩),(24,⟨1,(bnTo c i).map umAV,127,true⟩),(26,⟨1,List.replicate c.states.length [I 0],3,true⟩),
   (9000,⟨1,c.states.map fun s=>[I s.parent],3,true⟩),(9001,⟨1,c.states.map fun s=>[I s.kind],3,true⟩)])
  (fun i vs' esc'=>i<=c.states.length/\esc' 22=false/\esc' 24=false/\esc' 26=false/\esc' 28=false/\esc' 9000=false/\esc' 9001=false) (fun i=>c.states.length-i) 0 ?_ ?_ ?_ ?_
 ·refine⟨Nat.zero_le _, ?_, ?_, ?_, ?_, ?_, ?_⟩<;>simp only [go_sem,e0,e1,e2,e3,e4,e5]
 ·have F:=@zby
  (simp only [go_sem,F])
 ·have F:=ai chAV.eq_1<|hta
  (simp only [go_sem,F])
  rw [zoH]
 try clear e0 e1 e2 e3 e4 e5
 rintro i ws esc ⟨hi,e0,e1,e2,e3,e4,e5⟩
 by_cases hlt:i<c.states.length
 ·have g1:=nlt hlt
  have g2:=zac hlt (by omega)
  have hm:=zd3 (c:=c) (i:=c.states.length) hlt
  rw [if_pos hlt] at hm
  have F:=ai chAV.eq_1<|ai g1<|ai g2<|ai hm<|ai @zby<|ai umAV.eq_1<|ai e0<|ai e1<|ai e2<|ai e3<|ai e4<|e5
  refine zaU ?_
  repeat (first | refine st ?_ | refine cC f0 ?_)
  refine zaU ?_
  repeat (first | refine st ?_ | refine cC f0 ?_)
  refine zh9 ?_
  refine ze3 ?_
  refine zaU ?_
  repeat (first | refine st ?_ | refine cC f0 ?_)
  refine zaU ?_
  repeat (first | refine st ?_ | refine cC f0 ?_)
  refine ze3 ?_
  refine zmE (D:=Unit) (f:=136) (first:= #[.int .u32 (mask c i)]) (ks:=(setOf (mask c i)).map (Value.int .i64))
   (fun m _ vs'=>[(1,⟨5,[chAV c],26,false⟩),(6,⟨1,[[.loc 28 (vs' 28) 0 0]],47,false⟩),(9,⟨1,[[I i]],3,false⟩),(28,⟨7,[[.row 9000 (vs' 9000), .row 9001 (vs' 9001), .row 22 (vs' 22), .row 24 (vs' 24), .row 26 (vs' 26),nilS, .lit (.int .u32 (za8 c c.states.length))]],129,false⟩),
    (22,⟨1,(mkTo c c.states.length).map umAV,127,true⟩),(24,⟨1,(zfz c i m).map umAV,127,true⟩),(26,⟨1,List.replicate c.states.length [I 0],3,true⟩),
    (9000,⟨1,c.states.map fun s=>[I s.parent],3,true⟩),(9001,⟨1,c.states.map fun s=>[I s.kind],3,true⟩)])
   (fun m _ vs' esc'=>(vs' 1=ws 1/\vs' 6=ws 6/\vs' 22=ws 22/\vs' 9=ws 9+1)/\esc' 22=false/\esc' 24=false/\esc' 26=false/\esc' 28=false/\esc' 9000=false/\esc' 9001=false) ()
   (by simp only [go_sem,hm,umAV]) (by decide) ((zmp (mask c i) (zeT hc (by omega))).mono hT) ?_ ?_ ?_ ?_
  ·refine⟨⟨?_, ?_, ?_, ?_⟩, ?_, ?_, ?_, ?_, ?_, ?_⟩<;>simp only [go_sem,e0,e1,e2,e3,e4,e5]
  ·(simp only [go_sem,F])
   rw [zmz]
  ·rintro m _ v vs' esc' -⟨⟨q1,q2,q3,q4⟩,e0,e1,e2,e3,e4,e5⟩ hk
   obtain⟨k,hkL,rfl⟩: ∃k,(bitL (mask c i))[m]? =some k/\v= .int .i64 (k:Nat):=by
    rw [zgT,List.map_map,List.getElem?_map] at hk
    obtain⟨k,h1,h2⟩:=Option.map_eq_some_iff.1 hk
    exact⟨k,h1,h2.symm⟩
   have hki:=zmB hc hkL
   have g3:((k:Nat):Int)< (c.states.length:Int):=by omega
   have hb:=zpL hkL (by omega)
   have hs:=zoI hkL (by omega)
   have g4:=zhE (p:=i) (by omega)
   have g5:=zk1 (a:=benN c i k) (b:=2^i) (zhn k (by omega)) (zdb i (by omega))
   have F:=ai chAV.eq_1<|ai q1<|ai q2<|ai q3<|ai q4<|ai g3<|ai g4<|ai g5<|ai hb<|ai @zeB<|ai umAV.eq_1<|ai e0<|ai e1<|ai e2<|ai e3<|ai e4<|e5
   repeat refine st ?_
   refine⟨(),⟨⟨?_, ?_, ?_, ?_⟩, ?_, ?_, ?_, ?_, ?_, ?_⟩, ?_⟩
   all_goals (first | (simp only [go_sem,q1,q2,q3,q4,e0,e1,e2,e3,e4,e5]; done) | skip)
   have F:=ai chAV.eq_1<|ai q1<|ai q2<|ai q3<|ai q4<|umAV.eq_1
   (simp only [go_sem, <-hs,List.map_set,F])
  ·rintro _ vs' esc' -⟨⟨q1,q2,q3,q4⟩,e0,e1,e2,e3,e4,e5⟩
   have hks:(setOf (mask c i)).length=(bitL (mask c i)).length:=by rw [zgT,List.length_map]
   have hall:=zoJ (c:=c) hlen i
   refine zkD ?_
   have F:=ai chAV.eq_1<|ai q1<|ai q2<|ai q3<|ai q4<|ai g1<|g2
   repeat refine st ?_
   refine⟨i+1,⟨hlt, ?_, ?_, ?_, ?_, ?_, ?_⟩, ?_, ?_,by omega⟩
   all_goals (first | (show _=false; simp only [go_sem,e0,e1,e2,e3,e4,e5]; done) | skip)
   ·have F:=ai chAV.eq_1<|ai q1<|ai q2<|ai q3<|q4
    (simp only [go_sem,F])
   ·have F:=ai chAV.eq_1<|ai q1<|ai q2<|ai q3<|ai q4<|ai hks<|hall
    (simp only [go_sem,F])
 ·obtain rfl:i=c.states.length:=by omega
  have g1: ¬(c.states.length:Int)< (c.states.length:Int):=by omega
  have F:=ai chAV.eq_1<|ai g1<|ai e0<|ai e1<|ai e2<|ai e3<|ai e4<|e5
  refine zaU ?_
  repeat refine st ?_
  refine zaU ?_
  repeat refine st ?_
  refine zkD ?_
  refine zbh 28 9002 0 5 ⟨7,[[.row 9000 (ws 9000), .row 9001 (ws 9001), .row 22 (ws 22), .row 24 (ws 24), .row 26 (ws 26),nilS, .lit (.int .u32 (za8 c c.states.length))]],129,false⟩ [.row 9000 (ws 9000), .row 9001 (ws 9001), .row 22 (ws 22), .row 24 (ws 24), .row 26 (ws 26),nilS, .lit (.int .u32 (za8 c c.states.length))] 3 1 (by decide) (by decide) (Nat.succ_ne_zero 6) rfl rfl rfl (by simp only [go_sem,F]; exact iR) (by simp only [go_sem,F]; exact iR) ?_
  refine zeC [(9000,⟨1,c.states.map fun s=>[I s.parent],3,true⟩),(9001,⟨1,c.states.map fun s=>[I s.kind],3,true⟩),(22,⟨1,(mkTo c c.states.length).map umAV,127,true⟩),(24,⟨1,(bnTo c c.states.length).map umAV,127,true⟩)] ?_ ?_
  ·(simp only [go_sem,F])
  refine zfO [(1, .loc 1 (ws 1) 0 0),(6, .loc 6 (ws 6) 0 0)] [(1,⟨5,[chAV c],26,false⟩),(6,⟨1,[[.loc 28 (ws 28) 0 0]],47,false⟩),(28,⟨7,[[.seq 1 (c.states.map fun s=>[I s.parent]), .seq 1 (c.states.map fun s=>[I s.kind]), .seq 1 ((mkTo c c.states.length).map umAV), .seq 1 ((bnTo c c.states.length).map umAV), .row 26 (ws 26), .row 9002 (ws 9002+1), .lit (.int .u32 (za8 c c.states.length))]],129,false⟩),
   (26,⟨1,List.replicate c.states.length [I 0],3,true⟩),(9002,⟨1,[],3,true⟩)] ?_ ?_ ?_
  ·(simp only [go_sem,seenSt,seesR,zcw,Row.see,AV.see,AV.see.seeL,Option.getD_none])
  ·have F:=chAV.eq_1
   (simp only [go_sem,seenSt,seesR,zcw,Row.see,AV.see,AV.see.seeL,Option.getD_none,F])
  have hwl:=zkM hc
  have f1:zmH Tryz.prog env 137 c (c.states.map fun s=>[I s.parent]) (c.states.map fun s=>[I s.kind]) ((mkTo c c.states.length).map umAV) ((bnTo c c.states.length).map umAV) (.int .u32 (za8 c c.states.length)) (-1) [] (List.replicate c.states.length 0):=
   zkN env c hc _ _ _ _ _ 40 (-1) [] (List.replicate c.states.length 0) (by omega) (by omega) (by simp) (by simp; omega)
  unfold zmH at f1
  have F:=ai chAV.eq_1<|ai zae.eq_1<|ai e0<|ai e1<|ai e2<|ai e3<|ai e4<|e5
  repeat (first | refine oO rfl (by simp only [go_sem,TR,List.map_replicate,seenSt,seesR,F]; exact⟨rfl,rfl⟩) ?_ | refine gR ?_ | refine gO ?_ | refine oZ (zb5 ?_) | refine oZ ?_ | refine oS ?_ | refine gT ?_ | refine gD Tryz.mixed ?_ | refine oB ?_ | refine oK ?_ | (refine oX ?_; simp only [zaQ,zaE, ↓reduceIte,Nat.reduceEqDiff,reduceCtorEq]) | refine oY (by simp only [go_sem,TR,List.map_replicate,seenSt,seesR,F]; exact iR) ?_ | refine oN (by simp only [go_sem,TR,List.map_replicate,seenSt,seesR,F]; exact iR) ?_)
  refine zeD [(1000,28),(1001,26),(1002,9002)] rfl (f1) (by decide) (by decide) (by simp only [go_sem,TR,List.map_replicate,seenSt,seesR,F]<;>rfl) (by simp only [go_sem,TR,List.map_replicate,seenSt,seesR,F,and_self]<;>trivial) (by simp only [go_sem,TR,List.map_replicate,seenSt,seesR,F,and_self]<;>trivial) (by intro o; simp only [go_sem,TR,List.map_replicate,seenSt,seesR,F,behind,and_self]<;>trivial) (by intro o; simp only [go_sem,TR,List.map_replicate,seenSt,seesR,F]<;>rfl) (by simp only [go_sem,TR,List.map_replicate,seenSt,seesR,F,behind]; exact iR) (by simp only [go_sem,TR,List.map_replicate,seenSt,seesR,F,behind]; exact iR) ?_
  repeat (first | refine oO rfl (by simp only [go_sem,TR,List.map_replicate,seenSt,seesR,F]; exact⟨rfl,rfl⟩) ?_ | refine gR ?_ | refine gO ?_ | refine oZ (zb5 ?_) | refine oZ ?_ | refine oS ?_ | refine gT ?_ | refine gD Tryz.mixed ?_ | refine oB ?_ | refine oK ?_ | (refine oX ?_; simp only [zaQ,zaE, ↓reduceIte,Nat.reduceEqDiff,reduceCtorEq]) | refine oY (by simp only [go_sem,TR,List.map_replicate,seenSt,seesR,F]; exact iR) ?_ | refine oN (by simp only [go_sem,TR,List.map_replicate,seenSt,seesR,F]; exact iR) ?_)
  refine zeC [(26,⟨1,(zkV c).map zae,3,true⟩),(9002,⟨1,(walkL c (-1)).map zae,3,true⟩)] ?_ ?_
  ·(simp only [go_sem,zkV])
  refine zfO [(2, .loc 28 (ws 28) 0 0),(3, .lit .nilIface)] [(28,⟨7,[[.seq 1 (c.states.map fun s=>[I s.parent]), .seq 1 (c.states.map fun s=>[I s.kind]), .seq 1 ((mkTo c c.states.length).map umAV), .seq 1 ((bnTo c c.states.length).map umAV), .seq 1 ((zkV c).map zae), .seq 1 ((walkL c (-1)).map zae), .lit (.int .u32 (za8 c c.states.length))]],129,false⟩)] ?_ ?_ ?_
  ·(simp only [go_sem,seenSt,seesR,zcw,Row.see,AV.see,AV.see.seeL,Option.getD_none])
  ·have F:=chAV.eq_1
   (simp only [go_sem,seenSt,seesR,zcw,Row.see,AV.see,AV.see.seeL,Option.getD_none,F])
  (refine zak ?_; refine⟨_,(by show (zaz _ _ _).run _=some _; simp only [go_sem,seenSt,seesR]; rfl), ?_⟩)
  exact RStr.refl _
end Go.Proofs.YtlmekdfleciejaaGreatDoor
