/- Deep memories, as the document sees them. -/
import Derived.Test.YtlmekdfleciejaaGreatDoorD45
import Derived.Test.YtlmekdfleciejaaGreatDoorD7
set_option maxRecDepth 100000
set_option maxHeartbeats 16000000
set_option linter.unusedSimpArgs false
namespace Go.Proofs.YtlmekdfleciejaaGreatDoor
open Go.RowKit
section
theorem zo8 {l:List Int} {j:Nat} (hj:j<l.length) (h:upB l j=false):zdd l=false:=by
 unfold zdd
 rw [Bool.and_eq_false_iff]
 right
 rw [List.all_eq_false]
 exact⟨j,List.mem_range.2 hj,by rw [h]; simp⟩
theorem zo7 {l:List Int} (h: ∀j,j<l.length->upB l j=true):zdd l=decide ((0:Int)< (l.length:Int)):=by
 unfold zdd
 rw [List.all_eq_true.2 fun j hj=>h j (List.mem_range.1 hj),Bool.and_true]
 cases l with
 | nil=>rfl
 | cons a b=>rw [decide_eq_true (by simp only [List.length_cons]; omega)]; rfl
theorem zj9 (env:Env) (l:List Int) (hl:l.length<=9223372036854775807):Con Tryz.prog env 192 [.seq 1 (l.map intAV)] (B (zdd l)):=by
 refine zaa Tryz.func192 rfl Tryz.call192 (by rw [Tryz.ntmps192]; simp) ?_
 rw [Tryz.ntmps192,Tryz.results192]
 repeat refine st0 ?_
 refine zab (D:=Nat) (fun j vs=>[(0, .seq 1 (l.map intAV)),(3,I ((j+1:Nat):Int))]) (fun _ _=>[]) (fun j _ _=>j<=l.length/\ ∀m,m<=j->m<l.length->upB l m=true) (fun j=>l.length-j) 0 ?_ ?_ ?_ ?_
 ·refine⟨Nat.zero_le _,fun m h1 _=> ?_⟩
  obtain rfl:m=0:=by omega
  rfl
 ·(simp only [go_sem])
  try rfl
 ·(simp only [go_sem])
  try rfl
 rintro j ws esc ⟨hj,hall⟩
 by_cases hlt:j+1<l.length
 ·have h1:j<l.length:=by omega
  have x1:l[j+1]? =some (l.getD (j+1) 0):=by rw [List.getD_eq_getElem?_getD,List.getElem?_eq_getElem hlt]; rfl
  have x2:l[j]? =some (l.getD j 0):=by rw [List.getD_eq_getElem?_getD,List.getElem?_eq_getElem h1]; rfl
  have e3:IntKind.i64.wrap (((j+1:Nat):Int)-1)=(j:Int):=by rw [IntWalk.i64_in _ (by omega)]; omega
  have q1:((j+1:Nat):Int)< (l.length:Int):=by omega
  have q2:((j:Nat):Int)< (l.length:Int):=by omega
  have q3:=zac hlt (by omega)
  have hd:upB l (j+1)=decide (l.getD j 0<l.getD (j+1) 0):=by
   unfold upB
   rw [show (j+1==0)=false by simp,Bool.false_or,Nat.add_sub_cancel]
  generalize hX:l.getD (j+1) 0=X at*
  generalize hY:l.getD j 0=Y at*
  by_cases hb:X<=Y
  ·rw [zo8 hlt (by rw [hd,decide_eq_false (by omega)])]
   have F:=ai q1<|ai q2<|ai x1<|ai x2<|ai e3<|hb
   repeat refine st ?_
   exact aR
  ·have F:=ai q1<|ai q2<|ai q3<|ai x1<|ai x2<|ai e3<|hb
   repeat refine st ?_
   refine⟨j+1,⟨by omega,fun m g1 g2=> ?_⟩, ?_, ?_,by omega⟩
   ·by_cases hm:m=j+1
    ·rw [hm,hd,decide_eq_true (by omega)]
    ·exact hall m (by omega) g2
   ·(simp only [go_sem,F])
   ·(simp only [go_sem,F])
 ·have q1: ¬((j+1:Nat):Int)< (l.length:Int):=by omega
  rw [zo7 fun m hm=>hall m (by omega) hm]
  have F:=q1
  repeat refine st ?_
  exact aR
def zeg (c:ChD) (l:List Int) (d:Int) (j:Nat):List Nat:=(List.range j).filter (zhP c l d)
theorem zkb (c:ChD) (l:List Int) (d:Int) (j:Nat):zeg c l d (j+1)=if zhP c l d j then zeg c l d j++[j] else zeg c l d j:=by
 unfold zeg
 rw [List.range_succ,List.filter_append]
 cases hb:zhP c l d j<;>simp [hb]
def pathIn (c:ChD) (l:List Int) (d:Int) (i:Nat) (m:Nat):Bool:=l.contains (i:Int)||(l.take m).any fun k=>aboveB c i k&&aboveB c d i
theorem zkc {c:ChD} {l:List Int} {d:Int} {i m:Nat} {y:Int} (h:l[m]? =some y):pathIn c l d i (m+1)=(pathIn c l d i m||(aboveB c i y&&aboveB c d i)):=by
 unfold pathIn
 rw [List.take_add_one,h,List.any_append]
 simp only [Option.toList_some,List.any_cons,List.any_nil,Bool.or_false,Bool.or_assoc]
theorem ziy (env:Env) (c:ChD) (hc:Right c) (l:List Int) (hl:l.length<=1000000) (d:Int):Con Tryz.prog env 111 [.agg (chAV c), .seq 1 (l.map intAV),I d] (.own 3 1 ((pathL c l d).map zae)):=by
 have hlen:=hc.few
 have fA:=fun(k i:Int)=>zdh env c hc k i
 unfold chAV at fA
 refine zaa Tryz.func111 rfl Tryz.call111 (by rw [Tryz.ntmps111]; simp) ?_
 rw [Tryz.ntmps111,Tryz.results111]
 have F:=chAV.eq_1
 repeat refine st ?_
 refine zab (D:=Nat) (fun j vs=>[(1, .seq 1 (l.map intAV)),(2,I d),(3, .loc 3 (vs 3) 0 0),(7, .row 11 (vs 11)),(8,I j)]) (fun j _=>[(3,⟨5,[chAV c],26,false⟩),(11,⟨1,(zeg c l d j).map zae,3,true⟩)]) (fun j _ esc=>j<=c.states.length/\esc 11=false) (fun j=>c.states.length-j) 0 ?_ ?_ ?_ ?_
 ·exact⟨Nat.zero_le _,rfl⟩
 ·(simp only [go_sem,F])
  try rfl
 ·have F:=chAV.eq_1
  (simp only [go_sem,F])
  try rfl
 rintro j ws esc ⟨hj,e0⟩
 by_cases hlt:j<c.states.length
 ·have q1:=nlt hlt
  have q2:=zac hlt (by omega)
  have f0:=zdF env l (j:Int) hl
  have hp:=zkb c l d j
  have hpl:(zeg c l d j).length<=32:=Nat.le_trans (List.length_filter_le ..) (by simp; omega)
  have hf:Fits ((zeg c l d j).length+1) 8:=zah (by omega) (by omega)
  have hpb:zhP c l d j=pathIn c l d j l.length:=by unfold zhP pathIn; rw [List.take_length]
  have z0:pathIn c l d j 0=l.contains (j:Int):=by unfold pathIn; simp
  generalize hPT:zeg c l d j=PT at*
  rw [<-z0] at f0
  have F:=ai chAV.eq_1<|ai q1<|e0
  repeat (first | refine st ?_ | refine cC f0 ?_)
  refine zab (D:=Nat) (fun m vs=>[(1, .seq 1 (l.map intAV)),(2,I d),(3, .loc 3 (vs 3) 0 0),(7, .row 11 (vs 11)),(8,I j),(9,B (pathIn c l d j m)),(10,I m)]) (fun m _=>[(3,⟨5,[chAV c],26,false⟩),(11,⟨1,PT.map zae,3,true⟩)]) (fun m _ esc=>m<=l.length/\esc 11=false) (fun m=>l.length-m) 0 ?_ ?_ ?_ ?_
  ·exact⟨Nat.zero_le _,by simp only [go_sem,e0]⟩
  ·(simp only [go_sem,F])
   try rfl
  ·have F:=chAV.eq_1
   (simp only [go_sem,F])
   try rfl
  try clear e0
  rintro m us es ⟨hm,e0⟩
  by_cases hml:m<l.length
  ·obtain⟨y,hy⟩: ∃y,l[m]? =some y:=⟨l[m],List.getElem?_eq_getElem hml⟩
   have p1:=nlt hml
   have p2:=zac hml (by omega)
   have hn:=zkc (c:=c) (d:=d) (i:=j) hy
   have g1:=fA (j:Int) y
   have g2:=fA d (j:Int)
   generalize pathIn c l d j m=b at*
   cases b with
   | true=>
     rw [Bool.true_or] at hn
     have F:=ai chAV.eq_1<|ai hy<|ai p1<|ai p2<|e0
     repeat refine st ?_
     refine⟨m+1,⟨hml,by simp only [go_sem,e0]⟩, ?_, ?_,by omega⟩
     ·have F:=hn
      (simp only [go_sem,F])
     ·have F:=chAV.eq_1
      (simp only [go_sem,F])
   | false=>
     rw [Bool.false_or] at hn
     cases ha:aboveB c (j:Int) y with
     | false=>
       rw [ha] at g1
       rw [ha,Bool.false_and] at hn
       have F:=ai chAV.eq_1<|ai hy<|ai p1<|ai p2<|e0
       repeat (first | refine st ?_ | refine cC g1 ?_)
       refine⟨m+1,⟨hml,by simp only [go_sem,e0]⟩, ?_, ?_,by omega⟩
       ·have F:=hn
        (simp only [go_sem,F])
       ·have F:=chAV.eq_1
        (simp only [go_sem,F])
     | true=>
       rw [ha] at g1
       rw [ha,Bool.true_and] at hn
       have F:=ai chAV.eq_1<|ai hy<|ai p1<|ai p2<|e0
       repeat (first | refine st ?_ | refine cC g1 ?_ | refine cC g2 ?_)
       refine⟨m+1,⟨hml,by simp only [go_sem,e0]⟩, ?_, ?_,by omega⟩
       ·have F:=hn
        (simp only [go_sem,F])
       ·have F:=chAV.eq_1
        (simp only [go_sem,F])
  ·obtain rfl:m=l.length:=by omega
   have p1: ¬(l.length:Int)< (l.length:Int):=by omega
   rw [<-hpb]
   cases hb:zhP c l d j with
   | true=>
     rw [hb] at hp
     have F:=ai chAV.eq_1<|ai p1<|ai q2<|ai e0<|hf
     repeat refine st ?_
     refine⟨j+1,⟨hlt,by simp only [go_sem,e0]⟩, ?_, ?_,by omega⟩
     ·(simp only [go_sem,F])
     ·have F:=ai chAV.eq_1<|ai hp<|zae.eq_1
      (simp only [go_sem,List.map_append,F])
   | false=>
     rw [hb] at hp
     have F:=ai chAV.eq_1<|ai p1<|ai q2<|e0
     repeat refine st ?_
     refine⟨j+1,⟨hlt,by simp only [go_sem,e0]⟩, ?_, ?_,by omega⟩
     ·(simp only [go_sem,F])
     ·have F:=ai chAV.eq_1<|hp
      (simp only [go_sem,F])
 ·obtain rfl:j=c.states.length:=by omega
  have q1: ¬(c.states.length:Int)< (c.states.length:Int):=by omega
  rw [show pathL c l d=zeg c l d c.states.length from rfl]
  have F:=ai chAV.eq_1<|ai q1<|e0
  repeat refine st ?_
  exact aR
end
section
theorem zk0 (c:ChD) (l:List Int) (d:Int):(pathL c l d).length<=c.states.length:=Nat.le_trans (List.length_filter_le ..) (by simp)
theorem zoA {c:ChD} {parent:Int} (hp:inZ c parent=true) (l:List Int): ∀x∈deepRA c parent l,inZ c x=true:=fun x hx=>by
 unfold deepRA at hx
 rcases List.mem_append.1 hx with hx | hx
 ·obtain⟨k,hk,rfl⟩:=List.mem_map.1 hx
  exact zaM.2 (List.mem_range.1 (List.mem_filter.1 hk).1)
 ·rw [List.mem_singleton.1 hx]; exact hp
theorem znj (env:Env) (c:ChD) (h:Full c) (parent:Int) (hp:inZ c parent=true) (l:List Int) (hF:Fits l.length 8):Con Tryz.prog env 156 [.agg (chAV c),I parent, .seq 1 (l.map intAV)] (B (zmq c parent l)):=by
 have hl63:l.length<=9223372036854775807:=hF.2
 have f0:=zj9 env l hl63
 have hlen:=h.few
 have fA:=fun(i:Int)=>zdh env c h.toRight parent i
 have fK:=fun(i:Int)=>zbw env c i true (by omega)
 have fM:=fun(s:StD)=>za1 env s
 unfold chAV at fA fK
 unfold stAV at fM
 unfold zmq
 cases hr:zdd l with
 | false=>
   rw [hr] at f0
   rw [Bool.false_and,Bool.false_and]
   refine zaa Tryz.func156 rfl Tryz.call156 (by rw [Tryz.ntmps156]; simp) ?_
   rw [Tryz.ntmps156,Tryz.results156]
   have F:=chAV.eq_1
   repeat (first | refine st ?_ | refine cC f0 ?_)
   exact aR
 | true=>
 rw [hr] at f0
 rw [Bool.true_and]
 refine zaa Tryz.func156 rfl Tryz.call156 (by rw [Tryz.ntmps156]; simp) ?_
 rw [Tryz.ntmps156,Tryz.results156]
 have F:=chAV.eq_1
 repeat (first | refine st ?_ | refine cC f0 ?_)
 refine zab (D:=Nat) (fun j vs=>[(1,I parent),(2, .seq 1 (l.map intAV)),(3, .loc 3 (vs 3) 0 0),(7,I j)]) (fun _ _=>[(3,⟨5,[chAV c],26,false⟩)]) (fun j _ _=>j<=l.length/\ ∀m (y:Int),m<j->l[m]? =some y->zbt c parent y=true) (fun j=>l.length-j) 0 ?_ ?_ ?_ ?_
 ·exact⟨Nat.zero_le _,fun m y hm=>absurd hm (by omega)⟩
 ·(simp only [go_sem,F])
  try rfl
 ·have F:=chAV.eq_1
  (simp only [go_sem,F])
  try rfl
 rintro j ws esc ⟨hj,hall⟩
 by_cases hlt:j<l.length
 ·obtain⟨x,hx⟩: ∃x,l[j]? =some x:=⟨l[j],List.getElem?_eq_getElem hlt⟩
  have q1:=nlt hlt
  have q2:=zac hlt (by omega)
  have hxl:=List.mem_of_getElem? hx
  have bad:zbt c parent x=false->(l.all (zbt c parent))=false:=fun hb=>List.all_eq_false.2 ⟨_,hxl,by rw [hb]; simp⟩
  have e2:=fA x
  cases ha:aboveB c parent x with
  | false=>
    rw [bad (by unfold zbt; rw [ha]; rfl),Bool.false_and]
    rw [ha] at e2
    have F:=ai chAV.eq_1<|ai hx<|q1
    repeat (first | refine st ?_ | refine cC e2 ?_)
    exact aR
  | true=>
    rw [ha] at e2
    obtain⟨k,s,rfl,hsk,hat⟩:=zb0 (zaD ha)
    have hk:=(List.getElem?_eq_some_iff.1 hsk).1
    have q3:((k:Nat):Int)< (c.states.length:Int):=by omega
    have e3:=fM s
    have e4:=fK (k:Int)
    have hrl:zbt c parent (k:Int)=(!zat s&&(kidsL c k true).isEmpty):=by unfold zbt; rw [ha,hat,Bool.true_and]
    cases hm:zat s with
    | true=>
      rw [bad (by rw [hrl,hm]; rfl),Bool.false_and]
      rw [hm] at e3
      have F:=ai chAV.eq_1<|ai stAV.eq_1<|ai hx<|ai q1<|ai q3<|hsk
      repeat (first | refine st ?_ | refine cC e2 ?_ | refine cC e3 ?_)
      exact aR
    | false=>
      rw [hm] at e3 hrl
      cases hkk:(kidsL c k true).isEmpty with
      | false=>
        rw [bad (by rw [hrl,hkk]; rfl),Bool.false_and]
        have q4:(0:Int)< ((kidsL c k true).length:Int):=by
         cases hh:kidsL c k true with
         | nil=>rw [hh] at hkk; cases hkk
         | cons a b=>simp
        generalize kidsL c (k:Int) true=K at*
        have F:=ai chAV.eq_1<|ai stAV.eq_1<|ai hx<|ai q1<|ai q3<|ai q4<|hsk
        repeat (first | refine st ?_ | refine cC e2 ?_ | refine cC e3 ?_ | refine cC e4 ?_)
        exact aR
      | true=>
        rw [hkk] at hrl
        have q4: ¬(0:Int)< ((kidsL c k true).length:Int):=by
         rw [List.isEmpty_iff.1 hkk]; simp
        generalize kidsL c (k:Int) true=K at*
        have F:=ai chAV.eq_1<|ai stAV.eq_1<|ai hx<|ai q1<|ai q2<|ai q3<|ai q4<|hsk
        repeat (first | refine st ?_ | refine cC e2 ?_ | refine cC e3 ?_ | refine cC e4 ?_)
        refine⟨j+1,⟨hlt,fun m y hm hy=> ?_⟩, ?_, ?_,by omega⟩
        ·rcases Nat.lt_succ_iff_lt_or_eq.1 hm with e | e
         ·exact hall m y e hy
         ·rw [e,hx] at hy; cases hy; rw [hrl]; rfl
        ·(simp only [go_sem,F])
        ·have F:=chAV.eq_1
         (simp only [go_sem,F])
 ·obtain rfl:j=l.length:=by omega
  have q1: ¬(l.length:Int)< (l.length:Int):=by omega
  have hleaf:l.all (zbt c parent)=true:=List.all_eq_true.2 fun y hy=>by
   obtain⟨m,hm⟩:=List.mem_iff_getElem?.1 hy
   exact hall m y (List.getElem?_eq_some_iff.1 hm).1 hm
  have hz: ∀x∈l,inZ c x=true:=fun x hx=>by
   have:=List.all_eq_true.1 hleaf x hx
   unfold zbt at this
   rw [Bool.and_eq_true,Bool.and_eq_true] at this
   exact zaD this.1.1
  have hl32:l.length<=32:=by
   have:=zc2 (zdE hr) hz
   omega
  have f5:=ziy env c h.toRight l (by omega) parent
  have hpl:=zk0 c l parent
  have hf:Fits ((pathL c l parent).length+1) 8:=zah (by omega) (by omega)
  have hAin:=zoA hp l
  have hA:(deepRA c parent l).map intAV=(pathL c l parent).map zae++[[I parent]]:=by unfold deepRA; rw [List.map_append,ze8]; rfl
  have hAl:(deepRA c parent l).length<=40:=by unfold deepRA; rw [List.length_append,zdQ]; simp; omega
  rw [hleaf,Bool.true_and]
  unfold chAV at f5
  generalize deepRA c parent l=A at*
  generalize pathL c l parent=U at*
  try clear hall hleaf
  have F:=ai chAV.eq_1<|ai q1<|hf
  repeat (first | refine st ?_ | refine cC f5 ?_)
  refine zab (D:=Nat) (fun j vs=>[(3, .loc 3 (vs 3) 0 0),(8, .row 53 (vs 53)),(9,I j)]) (fun _ _=>[(3,⟨5,[chAV c],26,false⟩),(53,⟨1,A.map intAV,3,true⟩)]) (fun j _ _=>j<=A.length/\ ∀m (y:Int),m<j->A[m]? =some y->zbv c A y=true) (fun j=>A.length-j) 0 ?_ ?_ ?_ ?_
  ·exact⟨Nat.zero_le _,fun m y hm=>absurd hm (by omega)⟩
  ·(simp only [go_sem,F])
   try rfl
  ·have F:=ai chAV.eq_1<|hA
   (simp only [go_sem,F])
   try rfl
  try clear q1 hlt hj hf
  rintro j us es ⟨hj,hall⟩
  by_cases hlt:j<A.length
  ·obtain⟨x,hx⟩: ∃x,A[j]? =some x:=⟨A[j],List.getElem?_eq_getElem hlt⟩
   have q1:=nlt hlt
   have q2:=zac hlt (by omega)
   have hxl:=List.mem_of_getElem? hx
   obtain⟨k,s,rfl,hsk,hat⟩:=zb0 (hAin x hxl)
   have hk:=(List.getElem?_eq_some_iff.1 hsk).1
   have q3:((k:Nat):Int)< (c.states.length:Int):=by omega
   have e4:=fK (k:Int)
   have hK:=zbz h.toRight k true
   have e5:=ziz env A (kidsL c k true) (by omega) (by omega)
   have hcv:zbv c A (k:Int)= !(((s.kind==1)&&decide (manyI A (kidsL c k true)≠min (kidsL c k true).length 1))||((s.kind==2)&&decide (manyI A (kidsL c k true)≠(kidsL c k true).length))):=by unfold zbv; rw [hat]
   generalize kidsL c (k:Int) true=K at*
   generalize manyI A K=N at*
   have g1:((N:Int) != if (1:Int)< (K.length:Int) then 1 else(K.length:Int))=decide (N≠min K.length 1):=by
    have e:(if (1:Int)< (K.length:Int) then(1:Int) else(K.length:Int))=((min K.length 1:Nat):Int):=by split<;>omega
    rw [e]
    by_cases hh:N=min K.length 1
    ·rw [decide_eq_false (by simp [hh]), <-hh]; simp
    ·rw [decide_eq_true hh]; simp; omega
   have g2:((N:Int) != (K.length:Int))=decide (N≠K.length):=by
    by_cases hh:N=K.length
    ·rw [decide_eq_false (by simp [hh]), <-hh]; simp
    ·rw [decide_eq_true hh]; simp; omega
   generalize decide (N≠min K.length 1)=v1 at*
   generalize decide (N≠K.length)=v2 at*
   cases hC:zbv c A (k:Int) with
   | false=>
     rw [show A.all (zbv c A)=false from List.all_eq_false.2 ⟨_,hxl,by rw [hC]; simp⟩]
     cases h1:(s.kind==1)<;>cases h2:(s.kind==2)<;>cases v1<;>cases v2
     all_goals first
      |(exfalso; simp [hcv,h1,h2] at hC; done)
      | skip
     all_goals
      have F:=ai chAV.eq_1<|ai stAV.eq_1<|ai hx<|ai q1<|ai q3<|ai hsk<|ai h1<|ai h2<|ai g1<|g2
      repeat (first | refine st ?_ | refine cC e4 ?_ | refine cC e5 ?_)
      exact aR
   | true=>
     cases h1:(s.kind==1)<;>cases h2:(s.kind==2)<;>cases v1<;>cases v2
     all_goals first
      |(exfalso; simp [hcv,h1,h2] at hC; done)
      | skip
     all_goals
      have F:=ai chAV.eq_1<|ai stAV.eq_1<|ai hx<|ai q1<|ai q2<|ai q3<|ai hsk<|ai h1<|ai h2<|ai g1<|g2
      repeat (first | refine st ?_ | refine cC e4 ?_ | refine cC e5 ?_)
      refine⟨j+1,⟨hlt,fun m y hm hy=> ?_⟩, ?_, ?_,by omega⟩
      ·rcases Nat.lt_succ_iff_lt_or_eq.1 hm with e | e
       ·exact hall m y e hy
       ·rw [e,hx] at hy; cases hy; exact hC
      ·(simp only [go_sem,F])
      ·have F:=chAV.eq_1
       (simp only [go_sem,F])
  ·obtain rfl:j=A.length:=by omega
   have q1: ¬(A.length:Int)< (A.length:Int):=by omega
   rw [show A.all (zbv c A)=true from List.all_eq_true.2 fun y hy=>by
    obtain⟨m,hm⟩:=List.mem_iff_getElem?.1 hy
    exact hall m y (List.getElem?_eq_some_iff.1 hm).1 hm]
   have F:=q1
   repeat refine st ?_
   exact aR
end

end Go.Proofs.YtlmekdfleciejaaGreatDoor