/- Where a transition leads, as the document says it. -/
import Derived.Test.YtlmekdfleciejaaGreatDoorD47
import Derived.Test.YtlmekdfleciejaaGreatDoorD7
set_option maxRecDepth 100000
set_option maxHeartbeats 16000000
set_option linter.unusedSimpArgs false
namespace Go.Proofs.YtlmekdfleciejaaGreatDoor
open Go.RowKit
section
def ofL (mem:List MemD) (h:Int):List Int:=match mem.find? (fun m=>m.1==h) with | some m=>m.2 | none=>[]
theorem zqn (env:Env) (mem:List MemD) (h:Int) (hl:mem.length<=1000000):Con Tryz.prog env 109 [memsAV mem,I h] (.seq 1 ((ofL mem h).map intAV)):=by
 unfold ofL
 cases hm:mem.find? (fun m=>m.1==h) with
 | some m=>
   simp only
   refine zaa Tryz.func109 rfl Tryz.call109 (by rw [Tryz.ntmps109]; simp) ?_
   rw [Tryz.ntmps109,Tryz.results109]
   repeat refine st0 ?_
   refine zab (D:=Nat) (fun j vs=>[(0,memsAV mem),(1,I h),(5,I j)]) (fun _ _=>[]) (fun j _ _=>j<=mem.length/\mem.find? (fun m=>m.1==h)=(mem.drop j).find? (fun m=>m.1==h)) (fun j=>mem.length-j) 0 ?_ ?_ ?_ ?_
   ·exact⟨Nat.zero_le _,rfl⟩
   ·(simp only [go_sem])
    try rfl
   ·(simp only [go_sem])
    try rfl
   rintro j ws esc ⟨hj,hf⟩
   by_cases hlt:j<mem.length
   ·obtain⟨x,hx⟩: ∃x,mem[j]? =some x:=⟨mem[j],List.getElem?_eq_getElem hlt⟩
    have q1:=nlt hlt
    have q2:=zac hlt (by omega)
    rw [zcL hx] at hf
    cases he:(x.1==h) with
    | true=>
      rw [he] at hf
      simp only [if_true] at hf
      obtain rfl:m=x:=by rw [hm] at hf; cases hf; rfl
      have F:=ai mmAV.eq_1<|ai hx<|ai q1<|he
      repeat refine st ?_
      exact aR
    | false=>
      rw [he] at hf
      simp only [Bool.false_eq_true,if_false] at hf
      have F:=ai mmAV.eq_1<|ai hx<|ai q1<|ai q2<|he
      repeat refine st ?_
      refine⟨j+1,⟨hlt,hf⟩, ?_, ?_,by omega⟩
      ·(simp only [go_sem,F])
      ·(simp only [go_sem,F])
   ·obtain rfl:j=mem.length:=by omega
    have q1: ¬(mem.length:Int)< (mem.length:Int):=by omega
    rw [List.drop_length,List.find?_nil] at hf
    rw [hm] at hf
    cases hf
 | none=>
   simp only
   refine zaj Tryz.func109 rfl Tryz.call109 (by rw [Tryz.ntmps109]; simp) ?_
   rw [Tryz.ntmps109,Tryz.results109]
   have F:=mmAV.eq_1
   repeat refine st ?_
   refine zab (D:=Nat) (fun j vs=>[(0,memsAV mem),(1,I h),(5,I j)]) (fun _ _=>[]) (fun j _ _=>j<=mem.length/\mem.find? (fun m=>m.1==h)=(mem.drop j).find? (fun m=>m.1==h)) (fun j=>mem.length-j) 0 ?_ ?_ ?_ ?_
   ·exact⟨Nat.zero_le _,rfl⟩
   ·(simp only [go_sem,F])
    try rfl
   ·(simp only [go_sem,F])
    try rfl
   rintro j ws esc ⟨hj,hf⟩
   by_cases hlt:j<mem.length
   ·obtain⟨x,hx⟩: ∃x,mem[j]? =some x:=⟨mem[j],List.getElem?_eq_getElem hlt⟩
    have q1:=nlt hlt
    have q2:=zac hlt (by omega)
    rw [zcL hx] at hf
    cases he:(x.1==h) with
    | true=>
      rw [he] at hf
      simp only [if_true] at hf
      rw [hm] at hf
      cases hf
    | false=>
      rw [he] at hf
      simp only [Bool.false_eq_true,if_false] at hf
      have F:=ai mmAV.eq_1<|ai hx<|ai q1<|ai q2<|he
      repeat refine st ?_
      refine⟨j+1,⟨hlt,hf⟩, ?_, ?_,by omega⟩
      ·(simp only [go_sem,F])
      ·(simp only [go_sem,F])
   ·obtain rfl:j=mem.length:=by omega
    have q1: ¬(mem.length:Int)< (mem.length:Int):=by omega
    rw [List.drop_length,List.find?_nil] at hf
    have F:=q1
    repeat refine st ?_
    (refine zak ?_; refine⟨_,(by show (zaz _ _ _).run _=some _; simp only [go_sem,F]; rfl), ?_⟩)
    exact .of (.nil 1) (fun _ _ _ h=>by cases h) (fun _ _ _ h=>by cases h)
theorem znQ {c:ChD} {l:List Int} {j:Nat} (hj:j<c.states.length):zcf c l j=match zdV c l j with | some v=>some v | none=>zcf c l (j+1):=by
 unfold zcf
 rw [List.drop_eq_getElem_cons (by simpa using hj),List.getElem_range,List.findSome?_cons]
 cases zdV c l j<;>rfl
theorem zpn (c:ChD) (l:List Int):zcf c l c.states.length=none:=by
 unfold zcf
 rw [List.drop_of_length_le (by simp)]
 rfl
theorem zl0 (env:Env) (c:ChD) (h:Full c) (l:List Int) (hl:l.length<=1000000):Con Tryz.prog env 167 [.agg (chAV c), .seq 1 (l.map intAV)] (I (lackI c l)):=by
 have hlen:=h.few
 have fK:=fun(i:Int)=>zbw env c i true (by omega)
 unfold chAV at fK
 unfold lackI
 refine zaa Tryz.func167 rfl Tryz.call167 (by rw [Tryz.ntmps167]; simp) ?_
 rw [Tryz.ntmps167,Tryz.results167]
 have F:=chAV.eq_1
 repeat refine st ?_
 refine zab (D:=Nat) (fun j vs=>[(1, .seq 1 (l.map intAV)),(2, .loc 2 (vs 2) 0 0),(5,I j)]) (fun _ _=>[(2,⟨5,[chAV c],26,false⟩)]) (fun j _ _=>j<=c.states.length/\zcf c l 0=zcf c l j) (fun j=>c.states.length-j) 0 ?_ ?_ ?_ ?_
 ·exact⟨Nat.zero_le _,rfl⟩
 ·(simp only [go_sem,F])
  try rfl
 ·have F:=chAV.eq_1
  (simp only [go_sem,F])
  try rfl
 rintro j ws esc ⟨hj,hinv⟩
 by_cases hlt:j<c.states.length
 ·obtain⟨s,hsk⟩: ∃s,c.states[j]? =some s:=⟨c.states[j],List.getElem?_eq_getElem hlt⟩
  have q1:=nlt hlt
  have q2:=zac hlt (by omega)
  have f0:=zdF env l (j:Int) hl
  rw [znQ hlt] at hinv
  have hat:zdV c l j=if l.contains (j:Int)=true then(if s.kind=1/\kidsL c j true≠[]/\manyI l (kidsL c j true)=0 then some s.initial else if s.kind=2 then(kidZ c j).find? (fun k=> !l.contains k) else none) else none:=by unfold zdV; rw [hsk]
  cases hc:l.contains (j:Int) with
  | false=>
    rw [hc] at f0 hat
    rw [if_neg Bool.false_ne_true] at hat
    rw [hat] at hinv
    simp only at hinv
    have F:=ai chAV.eq_1<|ai q1<|q2
    repeat (first | refine st ?_ | refine cC f0 ?_)
    refine⟨j+1,⟨hlt,hinv⟩, ?_, ?_,by omega⟩
    ·(simp only [go_sem,F])
    ·have F:=chAV.eq_1
     (simp only [go_sem,F])
  | true=>
    rw [hc] at f0 hat
    rw [if_pos rfl] at hat
    have e4:=fK (j:Int)
    have hK:=zbz h.toRight j true
    have e5:=ziz env l (kidsL c j true) hl (by omega)
    have hZ:kidZ c (j:Int)=zL (kidsL c j true):=rfl
    rw [hZ] at hat
    generalize kidsL c (j:Int) true=K at*
    have hLK:(zL K).length=K.length:=zdQ K
    by_cases hA:s.kind=1/\K≠[]/\manyI l K=0
    ·rw [if_pos hA] at hat
     rw [hat] at hinv
     rw [hinv,Option.getD_some]
     have b1:(s.kind==1)=true:=by simp [hA.1]
     have b2:(0:Int)< (K.length:Int):=by
      have:=List.length_pos_iff.2 hA.2.1
      omega
     have b3:((manyI l K:Nat):Int)=0:=by rw [hA.2.2]; rfl
     generalize manyI l K=N at*
     have F:=ai chAV.eq_1<|ai stAV.eq_1<|ai hsk<|ai q1<|ai b1<|ai b2<|b3
     repeat (first | refine st ?_ | refine cC f0 ?_ | refine cC e4 ?_ | refine cC e5 ?_)
     exact aR
    ·have hz0:K.length=0->(((zL K).find? fun k=> !l.contains k)=none):=fun e=>by rw [List.length_eq_zero_iff.1 e]; rfl
     have hnone:s.kind≠2\/K.length=0->zcf c l 0=zcf c l (j+1):=fun q=>by
      rw [if_neg hA] at hat
      have:zdV c l j=none:=by
       rw [hat]
       rcases q with q | q
       ·rw [if_neg q]
       ·rw [hz0 q]; split<;>rfl
      rw [this] at hinv
      exact hinv
     cases b1:(s.kind==1) with
     | true=>
       have hk1:s.kind=1:=by simpa using b1
       have b2:(s.kind==2)=false:=by simp [hk1]
       have hinv:=hnone (.inl (by omega))
       by_cases hk0:K.length=0
       ·have q4: ¬(0:Int)< (K.length:Int):=by omega
        have F:=ai chAV.eq_1<|ai stAV.eq_1<|ai hsk<|ai q1<|ai b1<|q4
        repeat (first | refine st ?_ | refine cC f0 ?_ | refine cC e4 ?_ | refine cC e5 ?_)
        refine zab (D:=Unit) (fun _ vs=>[(1, .seq 1 (l.map intAV)),(2, .loc 2 (vs 2) 0 0),(5,I j),(6, .row 21 (vs 21)),(7,I 0)]) (fun _ _=>[(2,⟨5,[chAV c],26,false⟩),(21,⟨1,K.map zae,3,true⟩)]) (fun _ _ _=>True) (fun _=>0) () trivial ?_ ?_ ?_
        ·(simp only [go_sem,F])
         try rfl
        ·have F:=chAV.eq_1
         (simp only [go_sem,F])
         try rfl
        rintro _ us es _
        have F:=ai chAV.eq_1<|ai stAV.eq_1<|ai hsk<|ai q1<|ai q2<|q4
        repeat refine st ?_
        refine⟨j+1,⟨hlt,hinv⟩, ?_, ?_,by omega⟩
        ·(simp only [go_sem,F])
        ·have F:=chAV.eq_1
         (simp only [go_sem,F])
       ·have q4:(0:Int)< (K.length:Int):=by omega
        have b3:(((manyI l K:Nat):Int)==0)=false:=by
         have:manyI l K≠0:=fun e=>hA ⟨hk1,fun e2=>hk0 (by rw [e2]; rfl),e⟩
         simp; omega
        generalize manyI l K=N at*
        have F:=ai chAV.eq_1<|ai stAV.eq_1<|ai hsk<|ai q1<|ai b1<|ai q4<|b3
        repeat (first | refine st ?_ | refine cC f0 ?_ | refine cC e4 ?_ | refine cC e5 ?_)
        refine zab (D:=Unit) (fun _ vs=>[(1, .seq 1 (l.map intAV)),(2, .loc 2 (vs 2) 0 0),(5,I j),(6, .row 21 (vs 21)),(7,I 0)]) (fun _ _=>[(2,⟨5,[chAV c],26,false⟩),(21,⟨1,K.map zae,3,true⟩)]) (fun _ _ _=>True) (fun _=>0) () trivial ?_ ?_ ?_
        ·(simp only [go_sem,F])
         try rfl
        ·have F:=chAV.eq_1
         (simp only [go_sem,F])
         try rfl
        rintro _ us es _
        have F:=ai chAV.eq_1<|ai stAV.eq_1<|ai hsk<|ai q1<|ai q2<|ai q4<|b2
        repeat refine st ?_
        refine⟨j+1,⟨hlt,hinv⟩, ?_, ?_,by omega⟩
        ·(simp only [go_sem,F])
        ·have F:=chAV.eq_1
         (simp only [go_sem,F])
     | false=>
       have hk1:s.kind≠1:=by simpa using b1
       cases b2:(s.kind==2) with
       | false=>
         have hinv:=hnone (.inl (by simpa using b2))
         by_cases hk0:K.length=0
         ·have q4: ¬(0:Int)< (K.length:Int):=by omega
          have F:=ai chAV.eq_1<|ai stAV.eq_1<|ai hsk<|ai q1<|b1
          repeat (first | refine st ?_ | refine cC f0 ?_ | refine cC e4 ?_ | refine cC e5 ?_)
          refine zab (D:=Unit) (fun _ vs=>[(1, .seq 1 (l.map intAV)),(2, .loc 2 (vs 2) 0 0),(5,I j),(6, .row 21 (vs 21)),(7,I 0)]) (fun _ _=>[(2,⟨5,[chAV c],26,false⟩),(21,⟨1,K.map zae,3,true⟩)]) (fun _ _ _=>True) (fun _=>0) () trivial ?_ ?_ ?_
          ·(simp only [go_sem,F])
           try rfl
          ·have F:=chAV.eq_1
           (simp only [go_sem,F])
           try rfl
          rintro _ us es _
          have F:=ai chAV.eq_1<|ai stAV.eq_1<|ai hsk<|ai q1<|ai q2<|q4
          repeat refine st ?_
          refine⟨j+1,⟨hlt,hinv⟩, ?_, ?_,by omega⟩
          ·(simp only [go_sem,F])
          ·have F:=chAV.eq_1
           (simp only [go_sem,F])
         ·have q4:(0:Int)< (K.length:Int):=by omega
          have F:=ai chAV.eq_1<|ai stAV.eq_1<|ai hsk<|ai q1<|b1
          repeat (first | refine st ?_ | refine cC f0 ?_ | refine cC e4 ?_ | refine cC e5 ?_)
          refine zab (D:=Unit) (fun _ vs=>[(1, .seq 1 (l.map intAV)),(2, .loc 2 (vs 2) 0 0),(5,I j),(6, .row 21 (vs 21)),(7,I 0)]) (fun _ _=>[(2,⟨5,[chAV c],26,false⟩),(21,⟨1,K.map zae,3,true⟩)]) (fun _ _ _=>True) (fun _=>0) () trivial ?_ ?_ ?_
          ·(simp only [go_sem,F])
           try rfl
          ·have F:=chAV.eq_1
           (simp only [go_sem,F])
           try rfl
          rintro _ us es _
          have F:=ai chAV.eq_1<|ai stAV.eq_1<|ai hsk<|ai q1<|ai q2<|ai q4<|b2
          repeat refine st ?_
          refine⟨j+1,⟨hlt,hinv⟩, ?_, ?_,by omega⟩
          ·(simp only [go_sem,F])
          ·have F:=chAV.eq_1
           (simp only [go_sem,F])
       | true=>
         have hk2:s.kind=2:=by simpa using b2
         rw [if_neg hA,if_pos hk2] at hat
         rw [hat] at hinv
         try clear hnone hz0
         have F:=ai chAV.eq_1<|ai stAV.eq_1<|ai hsk<|ai q1<|b1
         repeat (first | refine st ?_ | refine cC f0 ?_ | refine cC e4 ?_ | refine cC e5 ?_)
         refine zab (D:=Nat) (fun m vs=>[(1, .seq 1 (l.map intAV)),(2, .loc 2 (vs 2) 0 0),(5,I j),(6, .row 21 (vs 21)),(7,I m)]) (fun _ _=>[(2,⟨5,[chAV c],26,false⟩),(21,⟨1,K.map zae,3,true⟩)]) (fun m _ _=>m<=K.length/\((zL K).find? fun k=> !l.contains k)=((zL K).drop m).find? fun k=> !l.contains k) (fun m=>K.length-m) 0 ?_ ?_ ?_ ?_
         ·exact⟨Nat.zero_le _,rfl⟩
         ·(simp only [go_sem,F])
          try rfl
         ·have F:=chAV.eq_1
          (simp only [go_sem,F])
          try rfl
         rintro m us es ⟨hm,hfd⟩
         by_cases hml:m<K.length
         ·obtain⟨y,hy⟩: ∃y,K[m]? =some y:=⟨K[m],List.getElem?_eq_getElem hml⟩
          have p1:=nlt hml
          have p2:=zac hml (by omega)
          have g0:=zdF env l (y:Int) hl
          have hyz:(zL K)[m]? =some (y:Int):=by unfold zL; rw [List.getElem?_map,hy]; rfl
          rw [zcL hyz] at hfd
          cases hb:l.contains (y:Int) with
          | false=>
            rw [hb] at g0 hfd
            rw [if_pos (by rfl)] at hfd
            rw [hfd] at hinv
            simp only at hinv
            rw [hinv,Option.getD_some]
            have F:=ai chAV.eq_1<|ai stAV.eq_1<|ai zae.eq_1<|ai hsk<|ai hy<|ai q1<|ai p1<|b2
            repeat (first | refine st ?_ | refine cC g0 ?_)
            exact aR
          | true=>
            rw [hb] at g0 hfd
            rw [if_neg (by simp)] at hfd
            have F:=ai chAV.eq_1<|ai stAV.eq_1<|ai zae.eq_1<|ai hsk<|ai hy<|ai q1<|ai p1<|ai p2<|b2
            repeat (first | refine st ?_ | refine cC g0 ?_)
            refine⟨m+1,⟨hml,hfd⟩, ?_, ?_,by omega⟩
            ·(simp only [go_sem,F])
            ·have F:=chAV.eq_1
             (simp only [go_sem,F])
         ·obtain rfl:m=K.length:=by omega
          have p1: ¬(K.length:Int)< (K.length:Int):=by omega
          rw [List.drop_of_length_le (by rw [hLK]; exact Nat.le_refl _),List.find?_nil] at hfd
          rw [hfd] at hinv
          simp only at hinv
          have F:=ai chAV.eq_1<|ai stAV.eq_1<|ai hsk<|ai q1<|ai q2<|p1
          repeat refine st ?_
          refine⟨j+1,⟨hlt,hinv⟩, ?_, ?_,by omega⟩
          ·(simp only [go_sem,F])
          ·have F:=chAV.eq_1
           (simp only [go_sem,F])
 ·obtain rfl:j=c.states.length:=by omega
  have q1: ¬(c.states.length:Int)< (c.states.length:Int):=by omega
  rw [hinv,zpn,Option.getD_none]
  have F:=ai chAV.eq_1<|q1
  repeat refine st ?_
  exact aR
end
section
theorem zg7 (c:ChD): ∀(f:Nat) (l:List Int),(zfl c f l).length<=l.length+f
 | 0,l=>Nat.le_refl _
 | f+1,l=>by
   unfold zfl
   split
   ·omega
   ·have:=zg7 c f (l++[lackI c l])
    rw [List.length_append,List.length_singleton] at this
    omega
theorem znh (env:Env) (c:ChD) (h:Full c) (l:List Int) (hl:l.length<=3000):Con Tryz.prog env 110 [.agg (chAV c), .seq 1 (l.map intAV)] (.own 3 1 ((growRL c l).map intAV)):=by
 have hlen:=h.few
 have hf0:Fits l.length 8:=zah (by omega) (by omega)
 refine zaa Tryz.func110 rfl Tryz.call110 (by rw [Tryz.ntmps110]; simp) ?_
 rw [Tryz.ntmps110,Tryz.results110]
 have F:=ai chAV.eq_1<|hf0
 repeat refine st ?_
 refine zab (D:=Nat×List Int) (fun d vs=>[(2, .loc 2 (vs 2) 0 0),(5, .row 8 (vs 8)),(6,I d.1)]) (fun d _=>[(2,⟨5,[chAV c],26,false⟩),(8,⟨1,d.2.map intAV,3,true⟩)]) (fun d _ esc=>(d.1<=c.states.length+1/\zfl c (c.states.length+1-d.1) d.2=growRL c l/\d.2.length<=l.length+d.1)/\esc 8=false) (fun d=>c.states.length+1-d.1) (0,l) ?_ ?_ ?_ ?_
 ·exact⟨⟨Nat.zero_le _,rfl,Nat.le_refl _⟩,by simp only [go_sem]⟩
 ·(simp only [go_sem,F])
  try rfl
 ·have F:=chAV.eq_1
  (simp only [go_sem,F])
  try rfl
 rintro⟨n,L⟩ ws esc ⟨⟨hn,hg,hL⟩,e0⟩
 simp only at hn hg hL
 by_cases hlt:n<=c.states.length
 ·have q1:(n:Int)<=(c.states.length:Int):=by omega
  have q2:=zac (show n<c.states.length+1 by omega) (by omega)
  have f1:=(zl0 env c h L (by omega)).lend rfl
  unfold chAV at f1
  rw [show c.states.length+1-n=(c.states.length-n)+1 by omega] at hg
  unfold zfl at hg
  generalize lackI c L=i at*
  by_cases h0:i<0
  ·rw [if_pos h0] at hg
   rw [<-hg]
   have F:=ai chAV.eq_1<|ai q1<|ai e0<|h0
   repeat refine st ?_
   refine oL rfl (f1) (by simp only [go_sem,F]; exact iR) (by simp only [go_sem,F]; exact⟨rfl,rfl⟩) ?_
   repeat refine st ?_
   exact aR
  ·rw [if_neg h0] at hg
   have hf:Fits (L.length+1) 8:=zah (by omega) (by omega)
   have F:=ai chAV.eq_1<|ai q1<|ai q2<|ai e0<|ai h0<|hf
   repeat refine st ?_
   refine oL rfl (f1) (by simp only [go_sem,F]; exact iR) (by simp only [go_sem,F]; exact⟨rfl,rfl⟩) ?_
   repeat refine st ?_
   refine⟨(n+1,L++[i]),⟨⟨by simp only; omega, ?_,by simp only [List.length_append,List.length_singleton]; omega⟩,by simp only [go_sem,e0]⟩, ?_, ?_,by simp only; omega⟩
   ·simp only
    rw [show c.states.length+1-(n+1)=c.states.length-n by omega]
    exact hg
   ·(simp only [go_sem,F])
   ·have F:=chAV.eq_1
    (simp only [go_sem,List.map_append,F])
 ·obtain rfl:n=c.states.length+1:=by omega
  have q1: ¬((c.states.length+1:Nat):Int)<=(c.states.length:Int):=by omega
  rw [Nat.sub_self] at hg
  have hg:L=growRL c l:=hg
  rw [<-hg]
  have F:=ai chAV.eq_1<|ai q1<|e0
  repeat refine st ?_
  exact aR
theorem znD {c:ChD} (h:Full c) {mem:List MemD} (hm:zc3 c mem=true): ∀m∈mem,m.2≠[]/\m.2.length<=32:=fun m hm'=>by
 have e2:=(zkf hm).2 m hm'
 unfold memB at e2
 split at e2
 ·split at e2
  ·rw [Bool.and_eq_true,decide_eq_true_eq] at e2
   exact⟨fun e=>by rw [e] at e2; simp at e2,by omega⟩
  ·unfold deepB at e2
   simp only [Bool.and_eq_true] at e2
   have hr:=e2.2.1.1.1
   have hnd:m.2.Nodup:=zdE hr
   have hin: ∀x∈m.2,inZ c x=true:=fun x hx=>by
    have:=List.all_eq_true.1 e2.2.1.1.2 x hx
    unfold zb1 at this
    rw [Bool.and_eq_true] at this
    exact zaD this.1
   have:=zc2 hnd hin
   have:=h.toRight.few
   refine⟨fun e=> ?_,by omega⟩
   rw [e] at hr
   cases hr
 ·cases e2
theorem zhJ (env:Env) (c:ChD) (h:Full c) (t:TrD) (hsrc:inZ c t.src=true) (htg:inZ c t.target=true) (mem:List MemD) (hl:mem.length<=1000000) (hm:zc3 c mem=true):
 Con Tryz.prog env 53 [.agg (chAV c), .agg (trAV t),memsAV mem] (.own 3 1 ((tgtL c t.src t.target mem).map zae)):=by
 obtain⟨tsrc,tev,tgd,tac,ttg⟩:=t
 simp only at hsrc htg |-
 obtain⟨k,s,rfl,hsk,hat⟩:=zb0 htg
 have hc:=h.toRight
 have hlen:=h.few
 obtain⟨l1,l2⟩:=znP h htg hm
 have q0: ¬(k:Int)<0:=by omega
 have hk:=(List.getElem?_eq_some_iff.1 hsk).1
 have q1:((k:Nat):Int)< (c.states.length:Int):=by omega
 have f1:=zhN env c hc ⟨tsrc,tev,tgd,tac,(k:Int)⟩ hsrc
 have f2:=ziy env c hc (leadL c (k:Int) mem) l2 (domE c tsrc (k:Int))
 have hpl:=zk0 c (leadL c (k:Int) mem) (domE c tsrc (k:Int))
 have hpz: ∀x∈zL (pathL c (leadL c (k:Int) mem) (domE c tsrc (k:Int))),inZ c x=true:=fun x hx=>by
  obtain⟨i,hi,rfl⟩:=List.mem_map.1 hx
  exact zaM.2 (List.mem_range.1 (List.mem_filter.1 hi).1)
 have f3:=znh env c h (zL (pathL c (leadL c (k:Int) mem) (domE c tsrc (k:Int)))) (by rw [zdQ]; omega)
 have hgl:(growRL c (zL (pathL c (leadL c (k:Int) mem) (domE c tsrc (k:Int))))).length<=1000000:=by
  have:=zg7 c (c.states.length+1) (zL (pathL c (leadL c (k:Int) mem) (domE c tsrc (k:Int))))
  rw [zdQ] at this
  unfold growRL
  omega
 have f4:=zlZ env c hc (growRL c (zL (pathL c (leadL c (k:Int) mem) (domE c tsrc (k:Int))))) hgl fun x hx=>(zag.1 (((zg6 h hpz).1 hx).in h hpz)).1
 unfold tgtL
 rw [zjR h l1]
 rw [ze8] at f3
 have f5:=za1 env s
 have f6:=zqn env mem (k:Int) hl
 have hlead:leadL c (k:Int) mem=if zat s=true then(if ofL mem (k:Int)=[] then [s.initial] else ofL mem (k:Int)) else [(k:Int)]:=by
  unfold leadL
  rw [hat]
  simp only
  cases hmm:zat s with
  | false=>rfl
  | true=>
    unfold ofL
    cases hf:mem.find? (fun m=>m.1==(k:Int)) with
    | some m=>
      simp only [if_true]
      rw [if_neg (znD h hm m (List.mem_of_find?_eq_some hf)).1]
    | none=>rfl
 generalize domE c tsrc (k:Int)=D at*
 generalize growRL c (zL (pathL c (leadL c (k:Int) mem) D))=G at*
 generalize pathL c (leadL c (k:Int) mem) D=PL at*
 generalize ofL mem (k:Int)=O at*
 unfold trAV at f1
 simp only at f1
 unfold chAV at f1 f2 f3 f4
 unfold stAV at f5
 cases hmy:zat s with
 | false=>
   rw [hmy] at f5
   rw [hlead,hmy,if_neg Bool.false_ne_true] at f2
   refine zaa Tryz.func53 rfl Tryz.call53 (by rw [Tryz.ntmps53]; simp) ?_
   rw [Tryz.ntmps53,Tryz.results53]
   have F:=ai chAV.eq_1<|ai trAV.eq_1<|ai stAV.eq_1<|ai q0<|ai q1<|hsk
   repeat (first | refine st ?_ | refine cC f5 ?_ | refine cC f1 ?_ | refine cC f2 ?_ | refine cC f3 ?_ | refine cC f4 ?_)
   exact aR
 | true=>
   rw [hmy] at f5
   rw [hlead,hmy,if_pos rfl] at f2
   by_cases ho:O=[]
   ·rw [if_pos ho] at f2
    subst ho
    refine zaa Tryz.func53 rfl Tryz.call53 (by rw [Tryz.ntmps53]; simp) ?_
    rw [Tryz.ntmps53,Tryz.results53]
    have F:=ai chAV.eq_1<|ai trAV.eq_1<|ai stAV.eq_1<|ai q0<|ai q1<|hsk
    repeat (first | refine st ?_ | refine cC f5 ?_ | refine cC f6 ?_ | refine cC f1 ?_ | refine cC f2 ?_ | refine cC f3 ?_ | refine cC f4 ?_)
    exact aR
   ·rw [if_neg ho] at f2
    have b0:((O.length:Int)==0)=false:=by
     have:=List.length_pos_iff.2 ho
     simp; omega
    refine zaa Tryz.func53 rfl Tryz.call53 (by rw [Tryz.ntmps53]; simp) ?_
    rw [Tryz.ntmps53,Tryz.results53]
    have F:=ai chAV.eq_1<|ai trAV.eq_1<|ai stAV.eq_1<|ai q0<|ai q1<|ai hsk<|b0
    repeat (first | refine st ?_ | refine cC f5 ?_ | refine cC f6 ?_ | refine cC f1 ?_ | refine cC f2 ?_ | refine cC f3 ?_ | refine cC f4 ?_)
    exact aR
end

end Go.Proofs.YtlmekdfleciejaaGreatDoor