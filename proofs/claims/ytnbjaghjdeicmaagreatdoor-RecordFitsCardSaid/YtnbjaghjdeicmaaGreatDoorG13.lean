/- What comes to states that are entered, plain: as the program says and as the document says. No program is named here. -/
import Derived.Test.YtnbjaghjdeicmaaGreatDoorG12
import Derived.Test.YtnbjaghjdeicmaaGreatDoorG10
import Derived.Test.YtnbjaghjdeicmaaGreatDoorG5
import Derived.Test.YtnbjaghjdeicmaaGreatDoorG9
import Derived.Shelf.Slices.In.SortNone
set_option maxRecDepth 100000
set_option maxHeartbeats 4000000
set_option linter.unusedSimpArgs false
namespace Go.Proofs.YtnbjaghjdeicmaaGreatDoor
section
open Go.RowKit
theorem zqx (env:Env) (a1 a8:Addr) (he:ChEnv env a1 a8) (hT: ∀W,env.inv W->TabAt W) (c:ChD) (hc:Right c) (hch:zi6 a1 a8 c= .lit .nilIface) (hcf:zhj c):Con Tryz.prog env 49 [.agg (chAV c)] (.tuple [zaw c, .lit .nilIface]):=by
 have hlen:=hc.few
 have f0:=znk env a1 a8 he c hcf
 rw [hch] at f0
 refine zkv Tryz.func49 rfl Tryz.call49 (by rw [Tryz.ntmps49]; simp) ?_
 rw [Tryz.ntmps49,Tryz.results49]
 have F:=chAV.eq_1
 refine zba ?_
 repeat (first | refine st ?_ | refine cC f0 ?_)
 refine zba ?_
 repeat (first | refine st ?_ | refine cC f0 ?_)
 refine zba ?_
 repeat (first | refine st ?_ | refine cC f0 ?_)
 have m0: ¬(c.states.length:Int)<0:=by omega
 have m1: ¬(16777216:Int)< (c.states.length:Int):=by omega
 have m2: ¬(281474976710656:Int)<4*(c.states.length:Int):=by omega
 have m3: ¬(281474976710656:Int)<8*(c.states.length:Int):=by omega
 have F:=ai chAV.eq_1<|ai m0<|ai m1<|ai m2<|m3
 refine zba ?_
 repeat (first | refine st ?_ | refine cC f0 ?_)
 refine zba ?_
 repeat (first | refine st ?_ | refine cC f0 ?_)
 refine zbH 28 9000 0 0 ⟨7,[[nilS,nilS, .row 22 1, .row 24 1, .row 26 1,nilS, .lit (.int .u32 0)]],190,false⟩ [nilS,nilS, .row 22 1, .row 24 1, .row 26 1,nilS, .lit (.int .u32 0)] 3 1 (by decide) (by decide) (Nat.succ_ne_zero 6) rfl rfl rfl (by simp only [go_sem,F]; exact iR) (by simp only [go_sem,F]; exact iR) ?_
 refine zbH 28 9001 0 1 ⟨7,[[.row 9000 1,nilS, .row 22 1, .row 24 1, .row 26 1,nilS, .lit (.int .u32 0)]],190,false⟩ [.row 9000 1,nilS, .row 22 1, .row 24 1, .row 26 1,nilS, .lit (.int .u32 0)] 3 1 (by decide) (by decide) (Nat.succ_ne_zero 6) rfl rfl rfl (by simp only [go_sem,F]; exact iR) (by simp only [go_sem,F]; exact iR) ?_
 refine zac (D:=Nat) (fun i vs'=>[(1, .loc 1 (vs' 1) 0 0),(6, .loc 6 (vs' 6) 0 0),(30,stsAV c.states),(31,I c.states.length),(32,I i)])
  (fun i vs'=>[(1,⟨5,[chAV c],26,false⟩),(6,⟨1,[[.loc 28 (vs' 28) 0 0]],96,false⟩),(28,⟨7,[[.row 9000 (vs' 9000), .row 9001 (vs' 9001), .row 22 (vs' 22), .row 24 (vs' 24), .row 26 (vs' 26),nilS, .lit (.int .u32 (zbu c i))]],190,false⟩),
   (22,⟨1,(mkTo c i).map umAV,188,true⟩),(24,⟨1,List.replicate c.states.length [.lit (.int .u32 0)],188,true⟩),(26,⟨1,List.replicate c.states.length [I 0],3,true⟩),
   (9000,⟨1,(c.states.take i).map fun s=>[I s.parent],3,true⟩),(9001,⟨1,(c.states.take i).map fun s=>[I s.kind],3,true⟩)])
  (fun i vs' esc'=>i<=c.states.length/\esc' 22=false/\esc' 24=false/\esc' 26=false/\esc' 28=false/\esc' 9000=false/\esc' 9001=false) (fun i=>c.states.length-i) 0 ?_ ?_ ?_ ?_
 ·refine⟨Nat.zero_le _, ?_, ?_, ?_, ?_, ?_, ?_⟩<;>simp only [go_sem]
 ·(simp only [go_sem,F])
 ·have F:=ai chAV.eq_1<|zbu.eq_1
  (simp only [go_sem,F])
  rw [zjM]
 rintro i ws esc ⟨hi,e0,e1,e2,e3,e4,e5⟩
 by_cases hlt:i<c.states.length
 ·obtain⟨s,hs,_⟩:=zap hlt
  have g1:=nlt hlt
  have g2:=zab hlt (by omega)
  have f1:=zdO env c i (by omega)
  have hpar:=hc.par i s hs
  have hf:Fits (i+1) 8:=⟨by omega,by omega⟩
  have hti:(c.states.take i).length=i:=by rw [List.length_take]; omega
  have htk:c.states.take (i+1)=c.states.take i++[s]:=by rw [List.take_add_one,hs]; rfl
  have hmi:=zeD (c:=c) (i:=i) hlt
  rw [if_neg (Nat.lt_irrefl i)] at hmi
  have hl:zbu c (i+1)=if zpd c i s then zbu c i||| 2^i else zbu c i:=by
   show (match c.states[i]? with | some s=>if zpd c i s then zbu c i||| 2^i else zbu c i | none=>zbu c i)=_
   rw [hs]
  have g6:=zma (a:=zbu c i) (b:=2^i) (zfX (by omega)) (zdF i (by omega))
  have g7:=ziA (p:=i) (by omega)
  by_cases hp:0<=s.parent
  ·obtain⟨p,hp⟩: ∃p:Nat,s.parent=p:=⟨s.parent.toNat,by omega⟩
   have hmp:=zeD (c:=c) (i:=i) (j:=p) (by omega)
   rw [if_pos (by omega)] at hmp
   have g3:((p:Nat):Int)< (c.states.length:Int):=by omega
   have g4:=ziA (p:=p) (by omega)
   have hnx:mask c i=mask c p||| 2^p:=by
    have:=zjQ hc (zbF.2 hlt)
    rw [zdN hs,hp] at this
    rw [this,if_pos (by omega),Int.toNat_natCast]
   have g5:=zma (a:=mask c p) (b:=2^p) (zfr hc (by omega)) (zdF p (by omega))
   rw [<-hnx] at g5
   have hms:=zme (c:=c) hlt
   cases q4:(s.kind != 4)<;>cases q5:(s.kind != 5)<;>cases q0:(((kidsL c i true).length:Int)==0)
   all_goals have F:=ai chAV.eq_1<|ai stAV.eq_1<|ai g1<|ai g2<|ai g6<|ai g7<|ai hs<|ai hp<|ai hf<|ai hti<|ai hmi<|ai @zbT<|ai umAV.eq_1<|ai q4<|ai q5<|ai q0<|ai e0<|ai e1<|ai e2<|ai e3<|ai e4<|ai e5<|ai g3<|ai g4<|ai g5<|hmp
   all_goals (repeat (first | refine st ?_ | refine cC f1 ?_))
   all_goals (refine⟨i+1,⟨hlt, ?_, ?_, ?_, ?_, ?_, ?_⟩, ?_, ?_,by omega⟩)
   all_goals (first | (show _=false; simp only [go_sem,e0,e1,e2,e3,e4,e5]; done) | skip)
   all_goals have F:=ai chAV.eq_1<|ai stAV.eq_1<|ai g1<|ai g2<|ai g6<|ai g7<|ai hs<|ai hp<|ai hf<|ai hti<|ai hmi<|ai @zbT<|ai umAV.eq_1<|ai q4<|ai q5<|ai q0<|ai e0<|ai e1<|ai e2<|ai e3<|ai e4<|ai e5<|ai g3<|ai g4<|ai g5<|ai hmp<|ai hl<|htk
   all_goals ((simp only [go_sem,zpd,List.map_append, <-hms,List.map_set,F]))
  ·have hp:s.parent= -1:=by omega
   have hm0:mask c i=0:=by
    have:=zjQ hc (zbF.2 hlt)
    rw [zdN hs,hp] at this
    rw [this,if_neg (by omega)]
   have hms:=zo1 hlt hm0
   cases q4:(s.kind != 4)<;>cases q5:(s.kind != 5)<;>cases q0:(((kidsL c i true).length:Int)==0)
   all_goals have F:=ai chAV.eq_1<|ai stAV.eq_1<|ai g1<|ai g2<|ai g6<|ai g7<|ai hs<|ai hp<|ai hf<|ai hti<|ai hmi<|ai @zbT<|ai umAV.eq_1<|ai q4<|ai q5<|ai q0<|ai e0<|ai e1<|ai e2<|ai e3<|ai e4<|e5
   all_goals (repeat (first | refine st ?_ | refine cC f1 ?_))
   all_goals (refine⟨i+1,⟨hlt, ?_, ?_, ?_, ?_, ?_, ?_⟩, ?_, ?_,by omega⟩)
   all_goals (first | (show _=false; simp only [go_sem,e0,e1,e2,e3,e4,e5]; done) | skip)
   all_goals have F:=ai chAV.eq_1<|ai stAV.eq_1<|ai g1<|ai g2<|ai g6<|ai g7<|ai hs<|ai hp<|ai hf<|ai hti<|ai hmi<|ai @zbT<|ai umAV.eq_1<|ai q4<|ai q5<|ai q0<|ai e0<|ai e1<|ai e2<|ai e3<|ai e4<|ai e5<|ai hl<|ai htk<|hms
   all_goals ((simp only [go_sem,zpd,List.map_append,F]))
 obtain rfl:i=c.states.length:=by omega
 have g1: ¬(c.states.length:Int)< (c.states.length:Int):=by omega
 have hta:c.states.take c.states.length=c.states:=List.take_length
 have F:=ai chAV.eq_1<|ai g1<|ai e0<|ai e1<|ai e2<|ai e3<|ai e4<|ai e5<|hta
 repeat (first | refine st ?_ | refine cC f0 ?_)
 refine zjb ?_
 refine zba ?_
 repeat (first | refine st ?_ | refine cC f0 ?_)
 refine zfE ?_
 refine zqf (D:=Nat) (fun i vs'=>[(1, .loc 1 (vs' 1) 0 0),(6, .loc 6 (vs' 6) 0 0),(108, .row 22 (vs' 22)),(109,I c.states.length),(110,I i)])
  (fun i vs'=>[(1,⟨5,[chAV c],26,false⟩),(6,⟨1,[[.loc 28 (vs' 28) 0 0]],96,false⟩),(28,⟨7,[[.row 9000 (vs' 9000), .row 9001 (vs' 9001), .row 22 (vs' 22), .row 24 (vs' 24), .row 26 (vs' 26),nilS, .lit (.int .u32 (zbu c c.states.length))]],190,false⟩),
   (22,⟨1,(mkTo c c.states.length).map umAV,188,true⟩),(24,⟨1,(bnTo c i).map umAV,188,true⟩),(26,⟨1,List.replicate c.states.length [I 0],3,true⟩),
   (9000,⟨1,c.states.map fun s=>[I s.parent],3,true⟩),(9001,⟨1,c.states.map fun s=>[I s.kind],3,true⟩)])
  (fun i vs' esc'=>i<=c.states.length/\esc' 22=false/\esc' 24=false/\esc' 26=false/\esc' 28=false/\esc' 9000=false/\esc' 9001=false) (fun i=>c.states.length-i) 0 ?_ ?_ ?_ ?_
 ·refine⟨Nat.zero_le _, ?_, ?_, ?_, ?_, ?_, ?_⟩<;>simp only [go_sem,e0,e1,e2,e3,e4,e5]
 ·have F:=@zbT
  (simp only [go_sem,F])
 ·have F:=ai chAV.eq_1<|hta
  (simp only [go_sem,F])
  rw [zp8]
 try clear e0 e1 e2 e3 e4 e5
 rintro i ws esc ⟨hi,e0,e1,e2,e3,e4,e5⟩
 by_cases hlt:i<c.states.length
 ·have g1:=nlt hlt
  have g2:=zab hlt (by omega)
  have hm:=zeD (c:=c) (i:=c.states.length) hlt
  rw [if_pos hlt] at hm
  have F:=ai chAV.eq_1<|ai g1<|ai g2<|ai hm<|ai @zbT<|ai umAV.eq_1<|ai e0<|ai e1<|ai e2<|ai e3<|ai e4<|e5
  refine zba ?_
  repeat (first | refine st ?_ | refine cC f0 ?_)
  refine zba ?_
  repeat (first | refine st ?_ | refine cC f0 ?_)
  refine zjb ?_
  refine zfE ?_
  refine zba ?_
  repeat (first | refine st ?_ | refine cC f0 ?_)
  refine zba ?_
  repeat (first | refine st ?_ | refine cC f0 ?_)
  refine zfE ?_
  refine znW (D:=Unit) (f:=125) (first:= #[.int .u32 (mask c i)]) (ks:=(setOf (mask c i)).map (Value.int .i64))
   (fun m _ vs'=>[(1,⟨5,[chAV c],26,false⟩),(6,⟨1,[[.loc 28 (vs' 28) 0 0]],96,false⟩),(9,⟨1,[[I i]],3,false⟩),(28,⟨7,[[.row 9000 (vs' 9000), .row 9001 (vs' 9001), .row 22 (vs' 22), .row 24 (vs' 24), .row 26 (vs' 26),nilS, .lit (.int .u32 (zbu c c.states.length))]],190,false⟩),
    (22,⟨1,(mkTo c c.states.length).map umAV,188,true⟩),(24,⟨1,(zgm c i m).map umAV,188,true⟩),(26,⟨1,List.replicate c.states.length [I 0],3,true⟩),
    (9000,⟨1,c.states.map fun s=>[I s.parent],3,true⟩),(9001,⟨1,c.states.map fun s=>[I s.kind],3,true⟩)])
   (fun m _ vs' esc'=>(vs' 1=ws 1/\vs' 6=ws 6/\vs' 22=ws 22/\vs' 9=ws 9+1)/\esc' 22=false/\esc' 24=false/\esc' 26=false/\esc' 28=false/\esc' 9000=false/\esc' 9001=false) ()
   (by simp only [go_sem,hm,umAV]) (by decide) ((znG (mask c i) (zfr hc (by omega))).mono hT) ?_ ?_ ?_ ?_
  ·refine⟨⟨?_, ?_, ?_, ?_⟩, ?_, ?_, ?_, ?_, ?_, ?_⟩<;>simp only [go_sem,e0,e1,e2,e3,e4,e5]
  ·(simp only [go_sem,F])
   rw [znR]
  ·rintro m _ v vs' esc' -⟨⟨q1,q2,q3,q4⟩,e0,e1,e2,e3,e4,e5⟩ hk
   obtain⟨k,hkL,rfl⟩: ∃k,(bitL (mask c i))[m]? =some k/\v= .int .i64 (k:Nat):=by
    rw [zhU,List.map_map,List.getElem?_map] at hk
    obtain⟨k,h1,h2⟩:=Option.map_eq_some_iff.1 hk
    exact⟨k,h1,h2.symm⟩
   have hki:=znT hc hkL
   have g3:((k:Nat):Int)< (c.states.length:Int):=by omega
   have hb:=zry hkL (by omega)
   have hs:=zp9 hkL (by omega)
   have g4:=ziA (p:=i) (by omega)
   have g5:=zma (a:=benN c i k) (b:=2^i) (zil k (by omega)) (zdF i (by omega))
   have F:=ai chAV.eq_1<|ai q1<|ai q2<|ai q3<|ai q4<|ai g3<|ai g4<|ai g5<|ai hb<|ai @zff<|ai umAV.eq_1<|ai e0<|ai e1<|ai e2<|ai e3<|ai e4<|e5
   repeat refine st ?_
   refine⟨(),⟨⟨?_, ?_, ?_, ?_⟩, ?_, ?_, ?_, ?_, ?_, ?_⟩, ?_⟩
   all_goals (first | (simp only [go_sem,q1,q2,q3,q4,e0,e1,e2,e3,e4,e5]; done) | skip)
   have F:=ai chAV.eq_1<|ai q1<|ai q2<|ai q3<|ai q4<|umAV.eq_1
   (simp only [go_sem, <-hs,List.map_set,F])
  ·rintro _ vs' esc' -⟨⟨q1,q2,q3,q4⟩,e0,e1,e2,e3,e4,e5⟩
   have hks:(setOf (mask c i)).length=(bitL (mask c i)).length:=by rw [zhU,List.length_map]
   have hall:=zqa (c:=c) hlen i
   refine zlJ ?_
   have F:=ai chAV.eq_1<|ai q1<|ai q2<|ai q3<|ai q4<|ai g1<|g2
   repeat refine st ?_
   refine⟨i+1,⟨hlt, ?_, ?_, ?_, ?_, ?_, ?_⟩, ?_, ?_,by omega⟩
   all_goals (first | (show _=false; simp only [go_sem,e0,e1,e2,e3,e4,e5]; done) | skip)
   ·have F:=ai chAV.eq_1<|ai q1<|ai q2<|ai q3<|q4
    (simp only [go_sem,F])
   ·have F:=ai chAV.eq_1<|ai q1<|ai q2<|ai q3<|ai q4<|ai hks<|hall
    (simp only [go_sem,F])
 ·obtain rfl:i=c.states.length:=by omega
  have g1: ¬(c.states.length:Int)< (c.states.length:Int):=by omega
  have F:=ai chAV.eq_1<|ai g1<|ai e0<|ai e1<|ai e2<|ai e3<|ai e4<|e5
  refine zba ?_
  repeat refine st ?_
  refine zba ?_
  repeat refine st ?_
  refine zlJ ?_
  refine zbH 28 9002 0 5 ⟨7,[[.row 9000 (ws 9000), .row 9001 (ws 9001), .row 22 (ws 22), .row 24 (ws 24), .row 26 (ws 26),nilS, .lit (.int .u32 (zbu c c.states.length))]],190,false⟩ [.row 9000 (ws 9000), .row 9001 (ws 9001), .row 22 (ws 22), .row 24 (ws 24), .row 26 (ws 26),nilS, .lit (.int .u32 (zbu c c.states.length))] 3 1 (by decide) (by decide) (Nat.succ_ne_zero 6) rfl rfl rfl (by simp only [go_sem,F]; exact iR) (by simp only [go_sem,F]; exact iR) ?_
  refine zfg [(9000,⟨1,c.states.map fun s=>[I s.parent],3,true⟩),(9001,⟨1,c.states.map fun s=>[I s.kind],3,true⟩),(22,⟨1,(mkTo c c.states.length).map umAV,188,true⟩),(24,⟨1,(bnTo c c.states.length).map umAV,188,true⟩)] ?_ ?_
  ·(simp only [go_sem,F])
  refine zgC [(1, .loc 1 (ws 1) 0 0),(6, .loc 6 (ws 6) 0 0)] [(1,⟨5,[chAV c],26,false⟩),(6,⟨1,[[.loc 28 (ws 28) 0 0]],96,false⟩),(28,⟨7,[[.seq 1 (c.states.map fun s=>[I s.parent]), .seq 1 (c.states.map fun s=>[I s.kind]), .seq 1 ((mkTo c c.states.length).map umAV), .seq 1 ((bnTo c c.states.length).map umAV), .row 26 (ws 26), .row 9002 (ws 9002+1), .lit (.int .u32 (zbu c c.states.length))]],190,false⟩),
   (26,⟨1,List.replicate c.states.length [I 0],3,true⟩),(9002,⟨1,[],3,true⟩)] ?_ ?_ ?_
  ·(simp only [go_sem,seenSt,seesR,zcV,Row.see,AV.see,AV.see.seeL,Option.getD_none])
  ·have F:=chAV.eq_1
   (simp only [go_sem,seenSt,seesR,zcV,Row.see,AV.see,AV.see.seeL,Option.getD_none,F])
  have hwl:=zlU hc
  have f1:znZ Tryz.prog env 126 c (c.states.map fun s=>[I s.parent]) (c.states.map fun s=>[I s.kind]) ((mkTo c c.states.length).map umAV) ((bnTo c c.states.length).map umAV) (.int .u32 (zbu c c.states.length)) (-1) [] (List.replicate c.states.length 0):=
   zlV env c hc _ _ _ _ _ 40 (-1) [] (List.replicate c.states.length 0) (by omega) (by omega) (by simp) (by simp; omega)
  unfold znZ at f1
  have F:=ai chAV.eq_1<|ai zaj.eq_1<|ai e0<|ai e1<|ai e2<|ai e3<|ai e4<|e5
  repeat (first | refine oO rfl (by simp only [go_sem,TR,List.map_replicate,seenSt,seesR,F]; exact⟨rfl,rfl⟩) ?_ | refine gR ?_ | refine gO ?_ | refine oZ (zaA ?_) | refine oZ ?_ | refine oS ?_ | refine gT ?_ | refine gD Tryz.mixed ?_ | refine oB ?_ | refine oK ?_ | (refine oX ?_; simp only [zao,zag, ↓reduceIte,Nat.reduceEqDiff,reduceCtorEq]) | refine oY (by simp only [go_sem,TR,List.map_replicate,seenSt,seesR,F]; exact iR) ?_ | refine oN (by simp only [go_sem,TR,List.map_replicate,seenSt,seesR,F]; exact iR) ?_)
  refine zgD [(1000,28),(1001,26),(1002,9002)] rfl (f1) (by decide) (by decide) (by simp only [go_sem,TR,List.map_replicate,seenSt,seesR,F]<;>rfl) (by simp only [go_sem,TR,List.map_replicate,seenSt,seesR,F,and_self]<;>trivial) (by simp only [go_sem,TR,List.map_replicate,seenSt,seesR,F,and_self]<;>trivial) (by intro o; simp only [go_sem,TR,List.map_replicate,seenSt,seesR,F,behind,and_self]<;>trivial) (by intro o; simp only [go_sem,TR,List.map_replicate,seenSt,seesR,F]<;>rfl) (by simp only [go_sem,TR,List.map_replicate,seenSt,seesR,F,behind]; exact iR) (by simp only [go_sem,TR,List.map_replicate,seenSt,seesR,F,behind]; exact iR) ?_
  repeat (first | refine oO rfl (by simp only [go_sem,TR,List.map_replicate,seenSt,seesR,F]; exact⟨rfl,rfl⟩) ?_ | refine gR ?_ | refine gO ?_ | refine oZ (zaA ?_) | refine oZ ?_ | refine oS ?_ | refine gT ?_ | refine gD Tryz.mixed ?_ | refine oB ?_ | refine oK ?_ | (refine oX ?_; simp only [zao,zag, ↓reduceIte,Nat.reduceEqDiff,reduceCtorEq]) | refine oY (by simp only [go_sem,TR,List.map_replicate,seenSt,seesR,F]; exact iR) ?_ | refine oN (by simp only [go_sem,TR,List.map_replicate,seenSt,seesR,F]; exact iR) ?_)
  refine zfg [(26,⟨1,(zl5 c).map zaj,3,true⟩),(9002,⟨1,(walkL c (-1)).map zaj,3,true⟩)] ?_ ?_
  ·(simp only [go_sem,zl5])
  refine zgC [(2, .loc 28 (ws 28) 0 0),(3, .lit .nilIface)] [(28,⟨7,[[.seq 1 (c.states.map fun s=>[I s.parent]), .seq 1 (c.states.map fun s=>[I s.kind]), .seq 1 ((mkTo c c.states.length).map umAV), .seq 1 ((bnTo c c.states.length).map umAV), .seq 1 ((zl5 c).map zaj), .seq 1 ((walkL c (-1)).map zaj), .lit (.int .u32 (zbu c c.states.length))]],190,false⟩)] ?_ ?_ ?_
  ·(simp only [go_sem,seenSt,seesR,zcV,Row.see,AV.see,AV.see.seeL,Option.getD_none])
  ·have F:=chAV.eq_1
   (simp only [go_sem,seenSt,seesR,zcV,Row.see,AV.see,AV.see.seeL,Option.getD_none,F])
  (refine zah ?_; refine⟨_,(by show (zaG _ _ _).run _=some _; simp only [go_sem,seenSt,seesR]; rfl), ?_⟩)
  exact RStr.refl _
end
section
open Go.RowKit
abbrev U32 (m:Nat):AV:= .lit (.int .u32 m)
theorem zlZ (env:Env) (c:ChD):Con Tryz.prog env 211 [zaw c] (I c.states.length):=by
 refine zaa Tryz.func211 rfl Tryz.call211 (by rw [Tryz.ntmps211]; simp) ?_
 rw [Tryz.ntmps211,Tryz.results211]
 have F:=zaw.eq_1
 repeat refine st ?_
 exact aR
theorem ziu (env:Env) (c:ChD) (i:Int):Con Tryz.prog env 133 [zaw c,I i] (B (inZ c i)):=by
 have f0:=zlZ env c
 refine zaa Tryz.func133 rfl Tryz.call133 (by rw [Tryz.ntmps133]; simp) ?_
 rw [Tryz.ntmps133,Tryz.results133]
 unfold inZ
 by_cases h0:0<=i
 ·by_cases h1:i< (c.states.length:Int)
  ·have F:=ai h0<|h1
   repeat (first | refine st ?_ | refine cC f0 ?_)
   exact aR
  ·have F:=ai h0<|h1
   repeat (first | refine st ?_ | refine cC f0 ?_)
   exact aR
 ·have F:=h0
  repeat (first | refine st ?_ | refine cC f0 ?_)
  exact aR
theorem zsb (env:Env) (c:ChD) (hc:Right c) (i:Int):Con Tryz.prog env 146 [zaw c,I i] (.own 3 1 ((upL c i).map fun k=>[I k])):=by
 have hlen:=hc.few
 refine zaa Tryz.func146 rfl Tryz.call146 (by rw [Tryz.ntmps146]; simp) ?_
 rw [Tryz.ntmps146,Tryz.results146]
 repeat refine st0 ?_
 refine zcu 5 5 3 1 ?_
 have hul:(upL c i).length<=40:=zjk 40 i
 refine zac (D:=Int×List Int) (fun d vs=>[(0,zaw c),(1,I d.1),(5, .row 5 (vs 5))]) (fun d _=>[(5,⟨1,d.2.map fun k=>[I k],3,true⟩)]) (fun d _ esc=>upL c i=d.2++upL c d.1/\esc 5=false) (fun d=>(d.1+1).toNat) (i,[]) ?_ ?_ ?_ ?_
 ·exact⟨rfl,rfl⟩
 ·(simp only [go_sem])
 ·(simp only [go_sem])
 rintro⟨d,l⟩ ws esc ⟨hu,e0⟩
 simp only at hu
 have f0:=ziu env c d
 cases hz:inZ c d with
 | false=>
   rw [zcw hz,List.append_nil] at hu
   rw [hz] at f0
   have F:=ai hu<|e0
   repeat (first | refine st ?_ | refine cC f0 ?_)
   exact aR
 | true=>
   obtain⟨k,s,rfl,hs,ha⟩:=zfh hz
   have hp:=zdN hs
   have hlt:=zcn hc hz
   rw [hp] at hlt
   rw [zit hc hz,hp] at hu
   rw [hz] at f0
   have hl:l.length+1<=40:=by
    have:=congrArg List.length hu
    rw [List.length_append,List.length_cons] at this
    omega
   have g1:((k:Nat):Int)< (c.states.length:Int):=by have:=(zan.1 hz).2; omega
   have hf:Fits (l.length+1) 8:=⟨by omega,by omega⟩
   have F:=ai zaw.eq_1<|ai g1<|ai hs<|ai hf<|e0
   repeat (first | refine st ?_ | refine cC f0 ?_)
   refine⟨(s.parent,l++[s.parent]),⟨?_, ?_⟩, ?_, ?_, ?_⟩
   ·show upL c i=(l++[s.parent])++upL c s.parent
    rw [hu,List.append_assoc]
    rfl
   ·show _=false
    simp only [go_sem,e0]
   ·have F:=zaw.eq_1
    (simp only [go_sem,F])
   ·have F:=zaw.eq_1
    (simp only [go_sem,List.map_append,F])
   ·show (s.parent+1).toNat< ((k:Int)+1).toNat
    omega
theorem zl0 (env:Env) (m:Nat) (hm:m<4294967296) (k:Nat) (hk:k<32):Con Tryz.prog env 212 [U32 m,I k] (B (m.testBit k)):=by
 have hq:m/2^k<4294967296:=Nat.lt_of_le_of_lt (Nat.div_le_self ..) hm
 have g0:((m:Int)).fdiv (2^min k 32)=((m/2^k:Nat):Int):=by
  rw [show min k 32=k by omega,show ((2:Int)^k)=((2^k:Nat):Int) by rw [Int.natCast_pow]; rfl]
  exact(Int.ofNat_fdiv _ _).symm
 have g1:bitV .and .u32 ((m/2^k:Nat):Int) 1=((m/2^k%2:Nat):Int):=by
  have:=u32_and (m/2^k) 1 hq (by decide)
  rw [Nat.and_one_is_mod] at this
  exact this
 have g2:((((m/2^k%2:Nat):Int))==1)=m.testBit k:=by
  rw [<-zqb]
  rcases Nat.mod_two_eq_zero_or_one (m/2^k) with h | h<;>rw [h]<;>rfl
 refine zaa Tryz.func212 rfl Tryz.call212 (by rw [Tryz.ntmps212]; simp) ?_
 rw [Tryz.ntmps212,Tryz.results212]
 have F:=ai g0<|ai g1<|g2
 repeat refine st ?_
 exact aR
def zhE (m:Nat) (l:List Nat) (j:Nat):List Nat:=(l.take j).filter fun k=>m.testBit k
theorem zoM {m:Nat} {l:List Nat} {j k:Nat} (h:l[j]? =some k):zhE m l (j+1)=if m.testBit k then zhE m l j++[k] else zhE m l j:=by
 unfold zhE
 rw [List.take_add_one,h,List.filter_append]
 cases hb:m.testBit k<;>simp [hb]
theorem zqM (m:Nat) (l:List Nat) (j:Nat):(zhE m l j).length<=l.length:=by
 unfold zhE
 exact Nat.le_trans (List.length_filter_le ..) (by rw [List.length_take]; omega)
theorem zkQ (env:Env) (c:ChD) (hc:Right c) (m:Nat) (hm:m<4294967296):Con Tryz.prog env 134 [zaw c,U32 m] (.own 3 1 (((walkL c (-1)).filter fun k=>m.testBit k).map zaj)):=by
 have hlen:=hc.few
 have hwl:=zlU hc
 have htop:=zlT hc
 refine zaa Tryz.func134 rfl Tryz.call134 (by rw [Tryz.ntmps134]; simp) ?_
 rw [Tryz.ntmps134,Tryz.results134]
 have F:=zaw.eq_1
 repeat refine st ?_
 generalize walkL c (-1)=W at*
 refine zcu 5 5 3 1 ?_
 refine zac (D:=Nat) (fun j vs=>[(1,U32 m),(5, .row 5 (vs 5)),(13, .seq 1 (W.map zaj)),(14,I W.length),(15,I j)]) (fun j _=>[(5,⟨1,(zhE m W j).map zaj,3,true⟩)]) (fun j _ esc=>j<=W.length/\esc 5=false) (fun j=>W.length-j) 0 ?_ ?_ ?_ ?_
 ·exact⟨Nat.zero_le _,rfl⟩
 ·(simp only [go_sem,F])
 ·(simp only [go_sem,F])
  rfl
 rintro j ws esc ⟨hj,e0⟩
 by_cases hlt:j<W.length
 ·obtain⟨k,hk⟩: ∃k,W[j]? =some k:=⟨W[j],List.getElem?_eq_getElem hlt⟩
  have hk32:k<32:=by have:=(htop k).1 (List.mem_of_getElem? hk); omega
  have f0:=zl0 env m hm k hk32
  have g1:=nlt hlt
  have g2:=zab hlt (by omega)
  have hpl:=zqM m W j
  have hf:Fits ((zhE m W j).length+1) 8:=⟨by omega,by omega⟩
  have hn:=zoM (m:=m) hk
  cases hb:m.testBit k with
  | true=>
    rw [hb] at f0
    rw [hb,if_pos rfl] at hn
    have F:=ai g1<|ai g2<|ai hk<|ai zaj.eq_1<|ai hf<|e0
    repeat (first | refine st ?_ | refine cC f0 ?_)
    refine⟨j+1,⟨hlt,by simp only [go_sem,e0]⟩, ?_, ?_,by omega⟩
    ·(simp only [go_sem,F])
    ·have F:=ai hn<|zaj.eq_1
     (simp only [go_sem,List.map_append,F])
  | false=>
    rw [hb] at f0
    rw [hb,if_neg Bool.false_ne_true] at hn
    have F:=ai g1<|ai g2<|ai hk<|ai zaj.eq_1<|ai hf<|e0
    repeat (first | refine st ?_ | refine cC f0 ?_)
    refine⟨j+1,⟨hlt,by simp only [go_sem,e0]⟩, ?_, ?_,by omega⟩
    ·(simp only [go_sem,F])
    ·have F:=ai hn<|zaj.eq_1
     (simp only [go_sem,List.map_append,F])
 ·obtain rfl:j=W.length:=by omega
  have g1: ¬(W.length:Int)< (W.length:Int):=by omega
  have hall:zhE m W W.length=W.filter fun k=>m.testBit k:=by unfold zhE; rw [List.take_length]
  have F:=ai g1<|ai hall<|e0
  repeat refine st ?_
  exact aR
def orTo (l:List Int) (j:Nat):Nat:=(l.take j).foldl (fun m k=>m||| 2^k.toNat) 0
theorem zoW {l:List Int} {j:Nat} {k:Int} (h:l[j]? =some k):orTo l (j+1)=orTo l j||| 2^k.toNat:=by
 unfold orTo
 rw [List.take_add_one,h,List.foldl_append]
 rfl
theorem ziZ: ∀(l:List Int) (m b:Nat),(l.foldl (fun m k=>m||| 2^k.toNat) m).testBit b=(m.testBit b||l.any fun k=>k.toNat==b)
 | [],m,b=>by simp
 | k::l,m,b=>by
   rw [List.foldl_cons,ziZ l,Nat.testBit_or,Nat.testBit_two_pow,List.any_cons,Bool.or_assoc]
   rfl
theorem zh0 {c:ChD} (hc:Right c) {l:List Int} : ∀ {j:Nat},(∀k∈l.take j,inZ c k=true)->orTo l j<4294967296:=fun {j} h=>by
 have hlen:=hc.few
 apply Nat.lt_pow_two_of_testBit (n:=32)
 intro b hb
 unfold orTo
 rw [ziZ,Nat.zero_testBit,Bool.false_or,List.any_eq_false]
 intro k hk
 have:=zan.1 (h k hk)
 simp
 omega
theorem zoX {c:ChD} {l:List Int} (h:l.all (inZ c)=true):((walkL c (-1)).filter fun k=>(orTo l l.length).testBit k)=zm7 c l:=by
 unfold zm7
 rw [if_pos h]
 apply List.filter_congr
 intro k _
 unfold orTo
 rw [ziZ,Nat.zero_testBit,Bool.false_or,List.take_length,Bool.eq_iff_iff,List.any_eq_true,List.contains_iff_mem]
 constructor
 ·rintro⟨x,h1,h2⟩
  have:=(zan.1 (List.all_eq_true.1 h x h1)).1
  have h2:x.toNat=k:=by simpa using h2
  rw [show (k:Int)=x by omega]
  exact h1
 ·exact fun h1=>⟨k,h1,by simp⟩
theorem zqy {c:ChD} {l:List Int} {j:Nat} {k:Int} (h:(l.take j).all (inZ c)=true) (hk:l[j]? =some k) (hz:inZ c k=true):(l.take (j+1)).all (inZ c)=true:=by
 rw [List.take_add_one,hk,List.all_append,h]
 simp [hz]
theorem zqz {c:ChD} {l:List Int} {j:Nat} {k:Int} (hk:l[j]? =some k) (hz:inZ c k=false):zm7 c l=[]:=by
 unfold zm7
 rw [if_neg]
 intro h
 have:=List.all_eq_true.1 h k (List.mem_of_getElem? hk)
 rw [hz] at this
 cases this
abbrev intAV (k:Int):List AV:=[I k]
theorem zoa (env:Env) (c:ChD) (hc:Right c) (l:List Int) (hl:l.length<=1000000):Con Tryz.prog env 53 [zaw c, .seq 1 (l.map intAV)] (.own 3 1 ((zm7 c l).map zaj)):=by
 have hlen:=hc.few
 refine zaK Tryz.func53 rfl Tryz.call53 (by rw [Tryz.ntmps53]; simp) ?_
 rw [Tryz.ntmps53,Tryz.results53]
 repeat refine st0 ?_
 refine zac (D:=Nat) (fun j _=>[(0,zaw c),(5,U32 (orTo l j)),(8, .seq 1 (l.map intAV)),(9,I l.length),(10,I j)]) (fun _ _=>[]) (fun j _ _=>j<=l.length/\(l.take j).all (inZ c)=true) (fun j=>l.length-j) 0 ?_ ?_ ?_ ?_
 ·exact⟨Nat.zero_le _,rfl⟩
 ·(simp only [go_sem])
  rfl
 ·(simp only [go_sem])
 rintro j ws esc ⟨hj,hall⟩
 by_cases hlt:j<l.length
 ·obtain⟨k,hk⟩: ∃k,l[j]? =some k:=⟨l[j],List.getElem?_eq_getElem hlt⟩
  have g1:=nlt hlt
  have g2:=zab hlt (by omega)
  have f0:=ziu env c k
  cases hz:inZ c k with
  | false=>
    rw [hz] at f0
    have F:=ai g1<|ai g2<|hk
    repeat (first | refine st ?_ | refine cC f0 ?_)
    (refine zah ?_; refine⟨_,(by show (zaG _ _ _).run _=some _; simp only [go_sem,F]; rfl), ?_⟩)
    rw [zqz hk hz]
    exact RStr.own_nil _ _ (by decide)
  | true=>
    rw [hz] at f0
    have hr:=zan.1 hz
    obtain⟨p,rfl⟩: ∃p:Nat,k=p:=⟨k.toNat,by omega⟩
    have g3:=ziA (p:=p) (by omega)
    have hsm:=zh0 hc (j:=j) (fun k hk=>List.all_eq_true.1 hall k hk)
    have g4:=zma hsm (zdF p (by omega))
    have hn:=zoW hk
    rw [Int.toNat_natCast] at hn
    have F:=ai g1<|ai g2<|ai g3<|ai g4<|hk
    repeat (first | refine st ?_ | refine cC f0 ?_)
    refine⟨j+1,⟨hlt,zqy hall hk hz⟩, ?_, ?_,by omega⟩
    ·have F:=ai g1<|ai g2<|ai g3<|ai g4<|ai hk<|hn
     (simp only [go_sem,F])
    ·(simp only [go_sem,g1,g2,g3,g4,hk,hn])
 ·obtain rfl:j=l.length:=by omega
  have g1: ¬(l.length:Int)< (l.length:Int):=by omega
  have hsm:=zh0 hc (j:=l.length) (fun k hk=>List.all_eq_true.1 hall k hk)
  rw [List.take_length] at hall
  have f1:=zkQ env c hc _ hsm
  rw [zoX hall] at f1
  have F:=g1
  repeat (first | refine st ?_ | refine cC f1 ?_)
  (refine zah ?_; refine⟨_,(by show (zaG _ _ _).run _=some _; simp only [go_sem,F]; rfl), ?_⟩)
  exact RStr.refl _
end
section
open Go.RowKit Go.Sort Go.Shelf Go.Lib
def zdv (n:Nat) (act:List Int):List (List AV):=(List.range n).map fun k:Nat=>[B (act.contains (k:Int))]
theorem zdk (n:Nat) (act:List Int):(zdv n act).length=n:=by unfold zdv; simp
theorem zhg {n:Nat} {act:List Int} {k:Nat} (hk:k<n):(zdv n act)[k]? =some [B (act.contains (k:Int))]:=by
 unfold zdv
 rw [List.getElem?_map,List.getElem?_range hk]
 rfl
theorem zpx (n:Nat):List.replicate n [B false]=zdv n []:=by
 unfold zdv
 apply List.ext_getElem?
 intro j
 rw [List.getElem?_map]
 by_cases h:j<n
 ·rw [List.getElem?_range h,List.getElem?_replicate_of_lt h]
  rfl
 ·rw [List.getElem?_eq_none (by simp; omega),List.getElem?_eq_none (by simp; omega)]
  rfl
theorem zmr {n:Nat} {act:List Int} {i:Int} (h: ∀k:Nat,k<n->(k:Int)≠i):zdv n (act++[i])=zdv n act:=by
 unfold zdv
 apply List.map_congr_left
 intro k hk
 have:=h k (List.mem_range.1 hk)
 simp
 exact fun e=>absurd e this
theorem zre {n:Nat} {act:List Int} {k:Nat} (hk:k<n):(zdv n act).set k [B true]=zdv n (act++[(k:Int)]):=by
 apply List.ext_getElem?
 intro j
 by_cases hj:j<n
 ·rw [zhg hj]
  by_cases e:k=j
  ·subst e
   rw [List.getElem?_set_self (by rw [zdk]; exact hk)]
   simp
  ·rw [List.getElem?_set_ne e,zhg hj]
   simp
   exact fun e2=>absurd (by omega) e
 ·rw [List.getElem?_eq_none (by rw [List.length_set,zdk]; omega),List.getElem?_eq_none (by rw [zdk]; omega)]
theorem zln {act:List Int} {ks:List Nat} {j k:Nat} (hk:ks[j]? =some k):manyI act (ks.take (j+1))=manyI act (ks.take j)+if act.contains (k:Int)=true then 1 else 0:=by
 unfold manyI
 rw [List.take_add_one,hk,List.filter_append,List.length_append]
 simp only [Option.toList_some,List.filter_cons,List.filter_nil]
 split<;>rfl
theorem zlR (l:List Nat):(zL l).map intAV=l.map zaj:=by simp only [zL,List.map_map]; rfl
theorem zlQ (l:List Nat):(zL l).length=l.length:=List.length_map ..
/-! slices.Sort of ints -/
def intC (k:Int):List Value:=[.int .i64 k]
def ztm (l:List Int):List Int:=l.mergeSort fun x y=>decide (x<=y)
end
section
open Go.RowKit
def zds (c:ChD) (i:Int):Bool:=match at_ c i with
 | some s=>s.kind==1
 | none=>false
def iniZ (c:ChD) (i:Int):Int:=match at_ c i with
 | some s=>s.initial
 | none=> -1
def zax (c:ChD) (k i:Int):Bool:=(upL c i).contains k
abbrev kidZ (c:ChD) (i:Int):List Int:=zL (kidsL c i true)
theorem zfu {c:ChD} (h:Right c) {i k:Int} (hk:k∈kidZ c i):inZ c k=true/\parZ c k=i/\i<k:=by
 obtain⟨j,hj,rfl⟩:=List.mem_map.1 hk
 obtain⟨s,hs,hp,_⟩:=zsW hj
 refine⟨zbF.2 (List.getElem?_eq_some_iff.1 hs).1,by rw [zdN hs,hp], ?_⟩
 have:=h.par j s hs
 omega
theorem zh6 (c:ChD) (i:Int):(kidZ c i).Nodup:=by
 unfold kidZ zL
 exact List.Pairwise.map _ (fun a b hne he=>hne (by omega)) (zcD c i true)
/-! What comes with a state -/
def newK (c:ChD) (l:List Int) (i:Int):List Int:=
 if zds c i=true then(if (kidZ c i).any (fun k=>l.contains k)=true then [] else if 0<=iniZ c i then [iniZ c i] else []) else kidZ c i
def addK (c:ChD) (l:List Int) (i:Int):List Int:=(newK c l i).filter fun k=> !l.contains k
def zem (c:ChD):Nat->List Int->List Int->List Int
 | 0,l,_=>l
 | _+1,l,[]=>l
 | f+1,l,i::r=>zem c f (l++addK c l i) (r++addK c l i)
def missL (c:ChD) (l:List Int):Nat:=((List.range c.states.length).filter fun k:Nat=> !l.contains (k:Int)).length
def growL (c:ChD) (l:List Int):List Int:=zem c (missL c l+l.length) l l
inductive Gr (c:ChD) (l:List Int):Int->Prop
 | base {x:Int} (h:x∈l):Gr c l x
 | ini {p:Int} (h:Gr c l p) (hp:zds c p=true) (hn: ∀k∈kidZ c p,k∉l) (h0:0<=iniZ c p):Gr c l (iniZ c p)
 | par {p k:Int} (h:Gr c l p) (hp:zds c p=false) (hk:k∈kidZ c p):Gr c l k
theorem ziV {c:ChD} (h:Full c) {p:Int} (hp:zds c p=true) (h0:0<=iniZ c p):iniZ c p∈kidZ c p:=by
 unfold zds at hp
 unfold iniZ at h0 |-
 cases ha:at_ c p with
 | none=>rw [ha] at hp; cases hp
 | some s=>
   rw [ha] at hp h0
   simp only at hp h0 |-
   have hz:0<=p:=by
    unfold at_ at ha
    split at ha
    ·assumption
    ·cases ha
   obtain⟨k,rfl⟩: ∃k:Nat,p=k:=⟨p.toNat,by omega⟩
   rw [zce] at ha
   have hk:s.kind=1:=by simpa using hp
   rcases h.cases ha with⟨_,h2 | ⟨j,hj,e⟩⟩ | ⟨e,_⟩ | ⟨e,_⟩ | ⟨e | e,_⟩
   ·omega
   ·rw [e]; exact List.mem_map.2 ⟨j,hj,rfl⟩
   all_goals omega
theorem zmc {c:ChD} (h:Full c) {l:List Int} {i k:Int} (hk:k∈newK c l i):k∈kidZ c i:=by
 unfold newK at hk
 split at hk
 ·rename_i hp
  split at hk
  ·cases hk
  ·split at hk
   ·rename_i h0
    rw [List.mem_singleton.1 hk]
    exact ziV h hp h0
   ·cases hk
 ·exact hk
theorem zcK {c:ChD} (h:Full c) {l:List Int} {i k:Int} (hk:k∈addK c l i):k∉l/\inZ c k=true/\parZ c k=i:=by
 obtain⟨h1,h2⟩:=List.mem_filter.1 hk
 obtain⟨q1,q2,_⟩:=zfu h.toRight (zmc h h1)
 exact⟨by simpa using h2,q1,q2⟩
theorem zh3 (c:ChD) (l:List Int) (i:Int):(newK c l i).Nodup:=by
 unfold newK
 split
 ·split
  ·exact List.nodup_nil
  ·split
   ·simp
   ·exact List.nodup_nil
 ·exact zh6 c i
theorem zcv (c:ChD) (l:List Int) (i:Int):(addK c l i).Nodup:=(zh3 c l i).sublist List.filter_sublist
theorem zia {α:Type} (p q:α->Bool): ∀l:List α,(l.filter fun x=>p x&& !q x).length+(l.filter fun x=>p x&&q x).length=(l.filter p).length
 | []=>rfl
 | x::l=>by
   have:=zia p q l
   simp only [List.filter_cons]
   cases p x<;>cases q x<;>simp<;>omega
theorem zgr {c:ChD} {l a:List Int} (hn:a.Nodup) (ha: ∀k∈a,k∉l/\inZ c k=true):missL c (l++a)+a.length<=missL c l:=by
 have e:=zia (fun k:Nat=> !l.contains (k:Int)) (fun k:Nat=>a.contains (k:Int)) (List.range c.states.length)
 have e1:missL c (l++a)=((List.range c.states.length).filter fun k:Nat=> !l.contains (k:Int)&& !a.contains (k:Int)).length:=by
  unfold missL
  congr 1
  apply List.filter_congr
  intro k _
  simp [List.contains_eq_mem]
 have e2:a.length<=((List.range c.states.length).filter fun k:Nat=> !l.contains (k:Int)&&a.contains (k:Int)).length:=by
  have:(a.map Int.toNat).Nodup:=by
   refine List.Pairwise.map (R:=fun x y=>x≠y/\0<=x/\0<=y) _ (fun x y hxy=>by omega) ?_
   refine List.Pairwise.imp_of_mem ?_ hn
   intro x y hx hy hne
   exact⟨hne,(zan.1 (ha x hx).2).1,(zan.1 (ha y hy).2).1⟩
  have:=this.length_le_of_subset (l₂:=(List.range c.states.length).filter fun k:Nat=> !l.contains (k:Int)&&a.contains (k:Int)) fun x hx=>by
   obtain⟨y,hy,rfl⟩:=List.mem_map.1 hx
   obtain⟨y1,y2⟩:=ha y hy
   have y3:=zan.1 y2
   rw [List.mem_filter,List.mem_range]
   have e:((y.toNat:Nat):Int)=y:=by omega
   refine⟨by omega, ?_⟩
   rw [e]
   simp [y1,hy]
  simpa using this
 unfold missL at e1 |-
 omega
structure Grown (c:ChD) (l0 l t:List Int):Prop where
 sub: ∀x∈l0,x∈l
 todo: ∀x∈t,x∈l
 nd:t.Nodup
 gr: ∀x∈l,Gr c l0 x
 par: ∀x∈l,x∉l0->parZ c x∈l/\parZ c x∉t
 done: ∀p∈l,p∉t->(zds c p=true->(∀k∈kidZ c p,k∉l0)->0<=iniZ c p->iniZ c p∈l)/\(zds c p=false-> ∀k∈kidZ c p,k∈l)
theorem Grown.step {c:ChD} (h:Full c) {l0 l r:List Int} {i:Int} (g:Grown c l0 l (i::r)):Grown c l0 (l++addK c l i) (r++addK c l i):=by
 have hi:=g.todo i (by simp)
 obtain⟨n1,n2⟩:=List.nodup_cons.1 g.nd
 have old: ∀k∈kidZ c i,k∈l->k∈l0:=fun k hk hl=>Classical.byContradiction fun hn=>by
  have:=(g.par k hl hn).2
  rw [(zfu h.toRight hk).2.1] at this
  exact this (by simp)
 have hgr: ∀x∈addK c l i,Gr c l0 x:=fun x hx=>by
  obtain⟨h1,h2⟩:=List.mem_filter.1 hx
  have h1':=h1
  unfold newK at h1
  split at h1
  ·rename_i hp
   split at h1
   ·cases h1
   ·rename_i hany
    split at h1
    ·rename_i h0
     rw [List.mem_singleton.1 h1]
     refine .ini (g.gr i hi) hp (fun k hk hl=>hany ?_) h0
     rw [List.any_eq_true]
     exact⟨k,hk,by simpa using g.sub k hl⟩
    ·cases h1
  ·rename_i hp
   exact .par (g.gr i hi) (by simpa using hp) h1
 refine⟨fun x hx=>List.mem_append_left _ (g.sub x hx),fun x hx=> ?_, ?_,fun x hx=> ?_,fun x hx hn=> ?_,fun p hp hpt=> ?_⟩
 ·rcases List.mem_append.1 hx with hx | hx
  ·exact List.mem_append_left _ (g.todo x (List.mem_cons_of_mem _ hx))
  ·exact List.mem_append_right _ hx
 ·rw [List.nodup_append]
  refine⟨n2,zcv c l i,fun x hx y hy e=> ?_⟩
  subst e
  exact(zcK h hy).1 (g.todo x (List.mem_cons_of_mem _ hx))
 ·rcases List.mem_append.1 hx with hx | hx
  ·exact g.gr x hx
  ·exact hgr x hx
 ·rcases List.mem_append.1 hx with hx | hx
  ·obtain⟨q1,q2⟩:=g.par x hx hn
   refine⟨List.mem_append_left _ q1,fun hh=> ?_⟩
   rcases List.mem_append.1 hh with hh | hh
   ·exact q2 (List.mem_cons_of_mem _ hh)
   ·exact(zcK h hh).1 q1
  ·obtain⟨q1,_,q3⟩:=zcK h hx
   rw [q3]
   refine⟨List.mem_append_left _ hi,fun hh=> ?_⟩
   rcases List.mem_append.1 hh with hh | hh
   ·exact n1 hh
   ·exact(zcK h hh).1 hi
 ·have hpl:p∈l:=by
   rcases List.mem_append.1 hp with hp | hp
   ·exact hp
   ·exact absurd (List.mem_append_right _ hp) hpt
  by_cases e:p=i
  ·subst e
   have key: ∀k∈newK c l p,k∈l++addK c l p:=fun k hk=>by
    by_cases hl:k∈l
    ·exact List.mem_append_left _ hl
    ·exact List.mem_append_right _ (List.mem_filter.2 ⟨hk,by simpa using hl⟩)
   refine⟨fun hpp hno h0=>key _ ?_,fun hpp k hk=>key k ?_⟩
   ·unfold newK
    rw [if_pos hpp,if_neg ?_,if_pos h0]
    ·simp
    ·rw [List.any_eq_true]
     rintro⟨k,hk,hl⟩
     exact hno k hk (old k hk (by simpa using hl))
   ·unfold newK
    rw [if_neg (by rw [hpp]; simp)]
    exact hk
  ·have hpt':p∉i::r:=fun hh=>by
    rcases List.mem_cons.1 hh with rfl | hh
    ·exact e rfl
    ·exact hpt (List.mem_append_left _ hh)
   obtain⟨q1,q2⟩:=g.done p hpl hpt'
   exact⟨fun a b d=>List.mem_append_left _ (q1 a b d),fun a k hk=>List.mem_append_left _ (q2 a k hk)⟩
theorem Grown.all {c:ChD} {l0 l:List Int} (g:Grown c l0 l []) {x:Int} :x∈l↔Gr c l0 x:=by
 refine⟨g.gr x,fun h=> ?_⟩
 induction h with
 | base h=>exact g.sub _ h
 | ini _ hp hn h0 ih=>exact(g.done _ ih (by simp)).1 hp hn h0
 | par _ hp hk ih=>exact(g.done _ ih (by simp)).2 hp _ hk
theorem Grown.grow {c:ChD} (h:Full c) {l0:List Int} : ∀(f:Nat) (l t:List Int),Grown c l0 l t->missL c l+t.length<=f->Grown c l0 (zem c f l t) []
 | 0,l,t,g,hf=>by
   have:t=[]:=List.eq_nil_of_length_eq_zero (by omega)
   subst this
   exact g
 | f+1,l,[],g,hf=>g
 | f+1,l,i::r,g,hf=>by
   unfold zem
   refine Grown.grow h f _ _ (g.step h) ?_
   have:=zgr (c:=c) (l:=l) (zcv c l i) fun k hk=>⟨(zcK h hk).1,(zcK h hk).2.1⟩
   simp only [List.length_append,List.length_cons] at hf |-
   omega
theorem zj8 {c:ChD} (h:Full c) {l0:List Int} : ∀ {f g:Nat} {l t:List Int},Grown c l0 l t->missL c l+t.length<=f->missL c l+t.length<=g->zem c f l t=zem c g l t
 | 0,0,_,_,_,_,_=>rfl
 | 0,g+1,l,t,_,hf,_=>by
   have:t=[]:=List.eq_nil_of_length_eq_zero (by omega)
   subst this
   rfl
 | f+1,0,l,t,_,_,hg=>by
   have:t=[]:=List.eq_nil_of_length_eq_zero (by omega)
   subst this
   rfl
 | f+1,g+1,l,[],_,_,_=>rfl
 | f+1,g+1,l,i::r,gr,hf,hg=>by
   have:=zgr (c:=c) (l:=l) (zcv c l i) fun k hk=>⟨(zcK h hk).1,(zcK h hk).2.1⟩
   simp only [List.length_cons] at hf hg
   unfold zem
   exact zj8 h (gr.step h) (by rw [List.length_append]; omega) (by rw [List.length_append]; omega)
theorem zhc {c:ChD} {l:List Int} (hn:l.Nodup):Grown c l l l:=⟨fun _ h=>h,fun _ h=>h,hn,fun _ h=> .base h,fun _ h hh=>absurd h hh,fun _ h hh=>absurd h hh⟩
theorem zef {c:ChD} (h:Full c) {l:List Int} (hn:l.Nodup) {x:Int} :x∈growL c l↔Gr c l x:=((zhc hn).grow h _ _ _ (Nat.le_refl _)).all
theorem Gr.real {c:ChD} (h:Full c) {l:List Int} {x:Int} (g:Gr c l x):x∈l\/(x∈kidZ c (parZ c x)/\Gr c l (parZ c x)/\(zds c (parZ c x)=true->x=iniZ c (parZ c x)/\ ∀k∈kidZ c (parZ c x),k∉l)):=by
 cases g with
 | base h=>exact .inl h
 | ini g hp hn h0=>
   rename_i p
   have hk:=ziV h hp h0
   have e:=(zfu h.toRight hk).2.1
   rw [e]
   exact .inr ⟨hk,g,fun _=>⟨rfl,hn⟩⟩
 | par g hp hk=>
   have e:=(zfu h.toRight hk).2.1
   rw [e]
   exact .inr ⟨hk,g,fun hh=>by rw [hp] at hh; cases hh⟩
theorem Gr.in {c:ChD} (h:Full c) {l:List Int} (hl: ∀x∈l,inZ c x=true) {x:Int} (g:Gr c l x):inZ c x=true:=by
 rcases g.real h with hx | ⟨hx,_⟩
 ·exact hl x hx
 ·exact(zfu h.toRight hx).1
theorem Gr.congr {c:ChD} {l l':List Int} (h: ∀x,x∈l↔x∈l') {x:Int} (g:Gr c l x):Gr c l' x:=by
 induction g with
 | base hx=>exact .base ((h _).1 hx)
 | ini _ hp hn h0 ih=>exact .ini ih hp (fun k hk hh=>hn k hk ((h k).2 hh)) h0
 | par _ hp hk ih=>exact .par ih hp hk
/-! As the document says -/
theorem zjS {l:List Int} {ks:List Nat} :manyI l ks=0↔ ∀k∈zL ks,k∉l:=by
 unfold manyI
 rw [List.length_eq_zero_iff,List.filter_eq_nil_iff]
 constructor
 ·intro h k hk
  obtain⟨j,hj,rfl⟩:=List.mem_map.1 hk
  simpa using h j hj
 ·intro h k hk
  simpa using h k (List.mem_map.2 ⟨k,hk,rfl⟩)
theorem zsl (c:ChD) (l:List Int):missL c l<=c.states.length:=by
 unfold missL
 exact Nat.le_trans (List.length_filter_le ..) (by simp)
/-! The ways up of some states -/
def addU (o:List Int) (i:Int):List Int:=if o.contains i=true then o else o++[i]
def upTo (c:ChD) (d:Int) (o U:List Int) (m:Nat):List Int:=(U.take m).foldl (fun o k=>if 0<=k/\zax c d k=true then addU o k else o) o
def upsTo (c:ChD) (d:Int) (l:List Int) (j:Nat):List Int:=(l.take j).foldl (fun o i=>upTo c d (addU o i) (upL c i) (upL c i).length) []
def upsL (c:ChD) (l:List Int) (d:Int):List Int:=upsTo c d l l.length
theorem zeg {α β:Type} (f:β->α->β) (b:β) {l:List α} {j:Nat} {x:α} (h:l[j]? =some x):(l.take (j+1)).foldl f b=f ((l.take j).foldl f b) x:=by
 rw [List.take_add_one,h,List.foldl_append]
 rfl
theorem zjf {o:List Int} {i x:Int} :x∈addU o i↔x∈o\/x=i:=by
 unfold addU
 split
 ·rename_i h
  have h:=List.contains_iff_mem.1 h
  exact⟨.inl,fun hh=>hh.elim id fun e=>e ▸ h⟩
 ·rw [List.mem_append,List.mem_singleton]
theorem zfI {o:List Int} (h:o.Nodup) (i:Int):(addU o i).Nodup:=by
 unfold addU
 split
 ·exact h
 ·rename_i hh
  rw [List.nodup_append]
  refine⟨h,by simp,fun x hx y hy e=> ?_⟩
  rw [List.mem_singleton.1 hy] at e
  subst e
  exact hh (List.contains_iff_mem.2 hx)
theorem zkO {c:ChD} {d:Int} {U:List Int} : ∀(m:Nat) {o:List Int},m<=U.length->o.Nodup->(upTo c d o U m).Nodup/\ ∀x,x∈upTo c d o U m↔x∈o\/(x∈U.take m/\0<=x/\zax c d x=true)
 | 0,o,_,hn=>⟨hn,fun x=>by simp [upTo]⟩
 | m+1,o,hm,hn=>by
   obtain⟨k,hk⟩: ∃k,U[m]? =some k:=⟨U[m],List.getElem?_eq_getElem (by omega)⟩
   obtain⟨q1,q2⟩:=zkO (c:=c) (d:=d) (U:=U) m (o:=o) (by omega) hn
   have e:upTo c d o U (m+1)=if 0<=k/\zax c d k=true then addU (upTo c d o U m) k else upTo c d o U m:=zeg _ _ hk
   have e2: ∀x,x∈U.take (m+1)↔x∈U.take m\/x=k:=fun x=>by rw [List.take_add_one,hk]; simp
   rw [e]
   split
   ·rename_i hc
    refine⟨zfI q1 k,fun x=> ?_⟩
    rw [zjf,q2,e2]
    constructor
    ·rintro((a | ⟨a,b⟩) | rfl)
     ·exact .inl a
     ·exact .inr ⟨.inl a,b⟩
     ·exact .inr ⟨.inr rfl,hc⟩
    ·rintro(a | ⟨a | rfl,b⟩)
     ·exact .inl (.inl a)
     ·exact .inl (.inr ⟨a,b⟩)
     ·exact .inr rfl
   ·rename_i hc
    refine⟨q1,fun x=> ?_⟩
    rw [q2,e2]
    constructor
    ·rintro(a | ⟨a,b⟩)
     ·exact .inl a
     ·exact .inr ⟨.inl a,b⟩
    ·rintro(a | ⟨a | rfl,b⟩)
     ·exact .inl a
     ·exact .inr ⟨a,b⟩
     ·exact absurd b hc
theorem zir {c:ChD} {d:Int} {l:List Int} : ∀(j:Nat),j<=l.length->(upsTo c d l j).Nodup/\ ∀x,x∈upsTo c d l j↔x∈l.take j\/ ∃i∈l.take j,x∈upL c i/\0<=x/\zax c d x=true
 | 0,_=>⟨List.nodup_nil,fun x=>by simp [upsTo]⟩
 | j+1,hj=>by
   obtain⟨k,hk⟩: ∃k,l[j]? =some k:=⟨l[j],List.getElem?_eq_getElem (by omega)⟩
   obtain⟨q1,q2⟩:=zir (c:=c) (d:=d) (l:=l) j (by omega)
   have e:upsTo c d l (j+1)=upTo c d (addU (upsTo c d l j) k) (upL c k) (upL c k).length:=zeg _ _ hk
   have e2: ∀x,x∈l.take (j+1)↔x∈l.take j\/x=k:=fun x=>by rw [List.take_add_one,hk]; simp
   obtain⟨p1,p2⟩:=zkO (c:=c) (d:=d) (U:=upL c k) _ (Nat.le_refl _) (zfI q1 k)
   rw [e]
   refine⟨p1,fun x=> ?_⟩
   rw [p2,zjf,q2,List.take_length]
   simp only [e2]
   constructor
   ·rintro(((a | ⟨i,a,b⟩) | rfl) | b)
    ·exact .inl (.inl a)
    ·exact .inr ⟨i, .inl a,b⟩
    ·exact .inl (.inr rfl)
    ·exact .inr ⟨k, .inr rfl,b⟩
   ·rintro((a | rfl) | ⟨i,a | rfl,b⟩)
    ·exact .inl (.inl (.inl a))
    ·exact .inl (.inr rfl)
    ·exact .inl (.inl (.inr ⟨i,a,b⟩))
    ·exact .inr b
theorem zn5 {c:ChD} {d:Int} {l:List Int} :(upsL c l d).Nodup/\ ∀x,x∈upsL c l d↔x∈l\/ ∃i∈l,x∈upL c i/\0<=x/\zax c d x=true:=by
 have:=zir (c:=c) (d:=d) (l:=l) _ (Nat.le_refl _)
 rw [List.take_length] at this
 exact this
def ziJ (c:ChD) (l:List Int) (d:Int) (i:Nat):Bool:=l.contains (i:Int)||l.any fun k=>zax c (i:Int) k&&zax c d (i:Int)
def pathL (c:ChD) (l:List Int) (d:Int):List Nat:=(List.range c.states.length).filter (ziJ c l d)
theorem zgE {c:ChD} (h:Right c) {k i:Int} (ha:k∈upL c i) (h0:0<=k):inZ c k=true/\k<i:=by
 have:=zgG h 40 i k ha
 have hi:inZ c i=true:=by
  cases hh:inZ c i with
  | true=>rfl
  | false=>rw [zcw hh] at ha; simp at ha
 have:=zan.1 hi
 exact⟨zan.2 ⟨h0,by omega⟩,by omega⟩
theorem zqN {c:ChD} (h:Right c) {l:List Int} (hl: ∀x∈l,inZ c x=true) {d x:Int} :x∈zL (pathL c l d)↔x∈upsL c l d:=by
 rw [zn5.2]
 constructor
 ·intro hx
  obtain⟨i,hi,rfl⟩:=List.mem_map.1 hx
  obtain⟨_,hb⟩:=List.mem_filter.1 hi
  unfold ziJ at hb
  rw [Bool.or_eq_true,List.any_eq_true] at hb
  rcases hb with hb | ⟨k,hk,hb⟩
  ·exact .inl (by simpa using hb)
  ·rw [Bool.and_eq_true] at hb
   exact .inr ⟨k,hk,by simpa [zax] using hb.1,by omega,hb.2⟩
 ·intro hx
  have hz:inZ c x=true:=by
   rcases hx with hx | ⟨i,_,h1,h2,_⟩
   ·exact hl x hx
   ·exact(zgE h h1 h2).1
  have h3:=zan.1 hz
  refine List.mem_map.2 ⟨x.toNat,List.mem_filter.2 ⟨List.mem_range.2 (by omega), ?_⟩,by omega⟩
  have e:((x.toNat:Nat):Int)=x:=by omega
  unfold ziJ
  rw [e,Bool.or_eq_true,List.any_eq_true]
  rcases hx with hx | ⟨i,h0,h1,h2,h4⟩
  ·exact .inl (by simpa using hx)
  ·exact .inr ⟨i,h0,by rw [Bool.and_eq_true]; exact⟨by simpa [zax] using h1,h4⟩⟩
end

end Go.Proofs.YtnbjaghjdeicmaaGreatDoor