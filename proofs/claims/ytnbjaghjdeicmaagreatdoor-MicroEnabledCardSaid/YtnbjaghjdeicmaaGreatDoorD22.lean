/- micro.Check, record.Fit; the document's answers. -/
import Derived.Test.YtnbjaghjdeicmaaGreatDoorD21
import Derived.Test.YtnbjaghjdeicmaaGreatDoorD8
import Derived.Test.YtnbjaghjdeicmaaGreatDoorD6
import Derived.Test.YtnbjaghjdeicmaaGreatDoorD14
import Derived.Test.YtnbjaghjdeicmaaGreatDoorD19
import Derived.Test.YtnbjaghjdeicmaaGreatDoorD18
set_option maxRecDepth 100000
set_option maxHeartbeats 16000000
set_option linter.unusedSimpArgs false
namespace Go.Proofs.YtnbjaghjdeicmaaGreatDoor
open Go.RowKit
section
theorem zsb (c:ChD) (l:List Int) (d:Int):(pathL c l d).length<=c.states.length:=Nat.le_trans (List.length_filter_le ..) (by simp)
theorem zrn {c:ChD} {parent:Int} (hp:inZ c parent=true) (l:List Int): ∀x∈deepRA c parent l,inZ c x=true:=fun x hx=>by
 unfold deepRA at hx
 rcases List.mem_append.1 hx with hx | hx
 ·obtain⟨k,hk,rfl⟩:=List.mem_map.1 hx
  exact zaS.2 (List.mem_range.1 (List.mem_filter.1 hk).1)
 ·rw [List.mem_singleton.1 hx]; exact hp
theorem zp2 (env:Env) (c:ChD) (h:Full c) (parent:Int) (hp:inZ c parent=true) (l:List Int) (hF:Fits l.length 8):Con Tryz.prog env 213 [.agg (chAV c),I parent, .seq 1 (l.map intAV)] (B (zoR c parent l)):=by
 have hl63:l.length<=9223372036854775807:=hF.2
 have f0:=zlN env l hl63
 have hlen:=h.few
 have fA:=fun(i:Int)=>zcb env c h.toRight parent i
 have fK:=fun(i:Int)=>zbf env c i true (by omega)
 have fM:=fun(s:StD)=>zbe env s
 unfold chAV at fA fK
 unfold stAV at fM
 unfold zoR
 cases hr:zdN l with
 | false=>
   rw [hr] at f0
   rw [Bool.false_and,Bool.false_and]
   refine zaa Tryz.func213 rfl Tryz.call213 (by rw [Tryz.ntmps213]; simp) ?_
   rw [Tryz.ntmps213,Tryz.results213]
   have F:=chAV.eq_1
   repeat (first | refine st ?_ | refine cC f0 ?_)
   exact aR
 | true=>
 rw [hr] at f0
 rw [Bool.true_and]
 refine zaa Tryz.func213 rfl Tryz.call213 (by rw [Tryz.ntmps213]; simp) ?_
 rw [Tryz.ntmps213,Tryz.results213]
 have F:=chAV.eq_1
 repeat (first | refine st ?_ | refine cC f0 ?_)
 refine zac (D:=Nat) (fun j vs=>[(1,I parent),(2, .seq 1 (l.map intAV)),(3, .loc 3 (vs 3) 0 0),(7,I j)]) (fun _ _=>[(3,⟨5,[chAV c],26,false⟩)]) (fun j _ _=>j<=l.length/\ ∀m (y:Int),m<j->l[m]? =some y->zbO c parent y=true) (fun j=>l.length-j) 0 ?_ ?_ ?_ ?_
 ·exact⟨Nat.zero_le _,fun m y hm=>absurd hm (by omega)⟩
 ·(simp only [go_sem,F])
  try rfl
 ·have F:=chAV.eq_1
  (simp only [go_sem,F])
  try rfl
 rintro j ws esc ⟨hj,hall⟩
 by_cases hlt:j<l.length
 ·obtain⟨x,hx⟩: ∃x,l[j]? =some x:=⟨l[j],List.getElem?_eq_getElem hlt⟩
  have q1:=nlt hlt
  have q2:=zab hlt (by omega)
  have hxl:=List.mem_of_getElem? hx
  have bad:zbO c parent x=false->(l.all (zbO c parent))=false:=fun hb=>List.all_eq_false.2 ⟨_,hxl,by rw [hb]; simp⟩
  have e2:=fA x
  cases ha:aboveB c parent x with
  | false=>
    rw [bad (by unfold zbO; rw [ha]; rfl),Bool.false_and]
    rw [ha] at e2
    have F:=ai chAV.eq_1<|ai hx<|q1
    repeat (first | refine st ?_ | refine cC e2 ?_)
    exact aR
  | true=>
    rw [ha] at e2
    obtain⟨k,s,rfl,hsk,hat⟩:=zcL (zaT ha)
    have hk:=(List.getElem?_eq_some_iff.1 hsk).1
    have q3:((k:Nat):Int)< (c.states.length:Int):=by omega
    have e3:=fM s
    have e4:=fK (k:Int)
    have hrl:zbO c parent (k:Int)=(!zaD s&&(kidsL c k true).isEmpty):=by unfold zbO; rw [ha,hat,Bool.true_and]
    cases hm:zaD s with
    | true=>
      rw [bad (by rw [hrl,hm]; rfl),Bool.false_and]
      rw [hm] at e3
      have F:=ai chAV.eq_1<|ai stAV.eq_1<|ai hx<|ai q1<|ai q3<|hsk
      repeat (first | refine st ?_ | refine cC e2 ?_ | refine cC e3 ?_)
      exact aR
    | false=>
      rw [hm] at e3 hrl
      cases hkk:(kidsL c k true).isEmpty with
      | false=>
        rw [bad (by rw [hrl,hkk]; rfl),Bool.false_and]
        have q4:(0:Int)< ((kidsL c k true).length:Int):=by
         cases hh:kidsL c k true with
         | nil=>rw [hh] at hkk; cases hkk
         | cons a b=>simp
        generalize kidsL c (k:Int) true=K at*
        have F:=ai chAV.eq_1<|ai stAV.eq_1<|ai hx<|ai q1<|ai q3<|ai q4<|hsk
        repeat (first | refine st ?_ | refine cC e2 ?_ | refine cC e3 ?_ | refine cC e4 ?_)
        exact aR
      | true=>
        rw [hkk] at hrl
        have q4: ¬(0:Int)< ((kidsL c k true).length:Int):=by
         rw [List.isEmpty_iff.1 hkk]; simp
        generalize kidsL c (k:Int) true=K at*
        have F:=ai chAV.eq_1<|ai stAV.eq_1<|ai hx<|ai q1<|ai q2<|ai q3<|ai q4<|hsk
        repeat (first | refine st ?_ | refine cC e2 ?_ | refine cC e3 ?_ | refine cC e4 ?_)
        refine⟨j+1,⟨hlt,fun m y hm hy=> ?_⟩, ?_, ?_,by omega⟩
        ·rcases Nat.lt_succ_iff_lt_or_eq.1 hm with e | e
         ·exact hall m y e hy
         ·rw [e,hx] at hy; cases hy; rw [hrl]; rfl
        ·(simp only [go_sem,F])
        ·have F:=chAV.eq_1
         (simp only [go_sem,F])
 ·obtain rfl:j=l.length:=by omega
  have q1: ¬(l.length:Int)< (l.length:Int):=by omega
  have hleaf:l.all (zbO c parent)=true:=List.all_eq_true.2 fun y hy=>by
   obtain⟨m,hm⟩:=List.mem_iff_getElem?.1 hy
   exact hall m y (List.getElem?_eq_some_iff.1 hm).1 hm
  have hz: ∀x∈l,inZ c x=true:=fun x hx=>by
   have:=List.all_eq_true.1 hleaf x hx
   unfold zbO at this
   rw [Bool.and_eq_true,Bool.and_eq_true] at this
   exact zaT this.1.1
  have hl32:l.length<=32:=by
   have:=zdy (zei hr) hz
   omega
  have f5:=zpX env c h.toRight l (by omega) parent
  have hpl:=zsb c l parent
  have hf:Fits ((pathL c l parent).length+1) 8:=zai (by omega) (by omega)
  have hAin:=zrn hp l
  have hA:(deepRA c parent l).map intAV=(pathL c l parent).map zad++[[I parent]]:=by unfold deepRA; rw [List.map_append,zcP]; rfl
  have hAl:(deepRA c parent l).length<=40:=by unfold deepRA; rw [List.length_append,zcn]; simp; omega
  rw [hleaf,Bool.true_and]
  unfold chAV at f5
  generalize deepRA c parent l=A at*
  generalize pathL c l parent=U at*
  try clear hall hleaf
  have F:=ai chAV.eq_1<|ai q1<|hf
  repeat (first | refine st ?_ | refine cC f5 ?_)
  refine zac (D:=Nat) (fun j vs=>[(3, .loc 3 (vs 3) 0 0),(8, .row 53 (vs 53)),(9,I j)]) (fun _ _=>[(3,⟨5,[chAV c],26,false⟩),(53,⟨1,A.map intAV,3,true⟩)]) (fun j _ _=>j<=A.length/\ ∀m (y:Int),m<j->A[m]? =some y->zbQ c A y=true) (fun j=>A.length-j) 0 ?_ ?_ ?_ ?_
  ·exact⟨Nat.zero_le _,fun m y hm=>absurd hm (by omega)⟩
  ·(simp only [go_sem,F])
   try rfl
  ·have F:=ai chAV.eq_1<|hA
   (simp only [go_sem,F])
   try rfl
  try clear q1 hlt hj hf
  rintro j us es ⟨hj,hall⟩
  by_cases hlt:j<A.length
  ·obtain⟨x,hx⟩: ∃x,A[j]? =some x:=⟨A[j],List.getElem?_eq_getElem hlt⟩
   have q1:=nlt hlt
   have q2:=zab hlt (by omega)
   have hxl:=List.mem_of_getElem? hx
   obtain⟨k,s,rfl,hsk,hat⟩:=zcL (hAin x hxl)
   have hk:=(List.getElem?_eq_some_iff.1 hsk).1
   have q3:((k:Nat):Int)< (c.states.length:Int):=by omega
   have e4:=fK (k:Int)
   have hK:=zbb h.toRight k true
   have e5:=zdQ env A (kidsL c k true) (by omega) (by omega)
   have hcv:zbQ c A (k:Int)= !(((s.kind==1)&&decide (manyI A (kidsL c k true)≠min (kidsL c k true).length 1))||((s.kind==2)&&decide (manyI A (kidsL c k true)≠(kidsL c k true).length))):=by unfold zbQ; rw [hat]
   generalize kidsL c (k:Int) true=K at*
   generalize manyI A K=N at*
   have g1:((N:Int) != if (1:Int)< (K.length:Int) then 1 else(K.length:Int))=decide (N≠min K.length 1):=by
    have e:(if (1:Int)< (K.length:Int) then(1:Int) else(K.length:Int))=((min K.length 1:Nat):Int):=by split<;>omega
    rw [e]
    by_cases hh:N=min K.length 1
    ·rw [decide_eq_false (by simp [hh]), <-hh]; simp
    ·rw [decide_eq_true hh]; simp; omega
   have g2:((N:Int) != (K.length:Int))=decide (N≠K.length):=by
    by_cases hh:N=K.length
    ·rw [decide_eq_false (by simp [hh]), <-hh]; simp
    ·rw [decide_eq_true hh]; simp; omega
   generalize decide (N≠min K.length 1)=v1 at*
   generalize decide (N≠K.length)=v2 at*
   cases hC:zbQ c A (k:Int) with
   | false=>
     rw [show A.all (zbQ c A)=false from List.all_eq_false.2 ⟨_,hxl,by rw [hC]; simp⟩]
     cases h1:(s.kind==1)<;>cases h2:(s.kind==2)<;>cases v1<;>cases v2
     all_goals first
      |(exfalso; simp [hcv,h1,h2] at hC; done)
      | skip
     all_goals
      have F:=ai chAV.eq_1<|ai stAV.eq_1<|ai hx<|ai q1<|ai q3<|ai hsk<|ai h1<|ai h2<|ai g1<|g2
      repeat (first | refine st ?_ | refine cC e4 ?_ | refine cC e5 ?_)
      exact aR
   | true=>
     cases h1:(s.kind==1)<;>cases h2:(s.kind==2)<;>cases v1<;>cases v2
     all_goals first
      |(exfalso; simp [hcv,h1,h2] at hC; done)
      | skip
     all_goals
      have F:=ai chAV.eq_1<|ai stAV.eq_1<|ai hx<|ai q1<|ai q2<|ai q3<|ai hsk<|ai h1<|ai h2<|ai g1<|g2
      repeat (first | refine st ?_ | refine cC e4 ?_ | refine cC e5 ?_)
      refine⟨j+1,⟨hlt,fun m y hm hy=> ?_⟩, ?_, ?_,by omega⟩
      ·rcases Nat.lt_succ_iff_lt_or_eq.1 hm with e | e
       ·exact hall m y e hy
       ·rw [e,hx] at hy; cases hy; exact hC
      ·(simp only [go_sem,F])
      ·have F:=chAV.eq_1
       (simp only [go_sem,F])
  ·obtain rfl:j=A.length:=by omega
   have q1: ¬(A.length:Int)< (A.length:Int):=by omega
   rw [show A.all (zbQ c A)=true from List.all_eq_true.2 fun y hy=>by
    obtain⟨m,hm⟩:=List.mem_iff_getElem?.1 hy
    exact hall m y (List.getElem?_eq_some_iff.1 hm).1 hm]
   have F:=q1
   repeat refine st ?_
   exact aR
end
section
theorem ziY (env:Env) (c:ChD) (h:Full c) (m:MemD) (hF:Fits m.2.length 8):Con Tryz.prog env 137 [.agg (chAV c), .agg (mmAV m)] (B (memB c m)):=by
 obtain⟨i,l⟩:=m
 have hF:Fits l.length 8:=hF
 have f0:=ziZ env c i
 have hlen:=h.few
 unfold chAV at f0
 unfold memB mmAV
 simp only
 cases hz:inZ c i with
 | false=>
   rw [zty hz]
   rw [hz] at f0
   simp only
   refine zaa Tryz.func137 rfl Tryz.call137 (by rw [Tryz.ntmps137]; simp) ?_
   rw [Tryz.ntmps137,Tryz.results137]
   have F:=chAV.eq_1
   repeat (first | refine st ?_ | refine cC f0 ?_)
   exact aR
 | true=>
 rw [hz] at f0
 obtain⟨k,s,rfl,hsk,hat⟩:=zcL hz
 have hk:=(List.getElem?_eq_some_iff.1 hsk).1
 have q3:((k:Nat):Int)< (c.states.length:Int):=by omega
 rw [hat]
 simp only
 by_cases h4:s.kind=4
 ·rw [if_pos h4]
  have b4:(s.kind==4)=true:=by simp [h4]
  obtain⟨p1,p2⟩:=zi6 h hsk (.inl h4)
  have f2:=zbf env c s.parent true (by omega)
  rw [<-zcP] at f2
  have hK:=zbb h.toRight s.parent true
  by_cases h1:l.length=1
  ·obtain⟨y,rfl⟩: ∃y,l=[y]:=List.length_eq_one_iff.1 h1
   have f3:=zcT env (zL (kidsL c s.parent true)) y (by rw [zcn]; omega)
   show Con _ _ _ _ (B ((zL (kidsL c s.parent true)).contains y))
   unfold chAV at f2
   generalize zL (kidsL c s.parent true)=Z at*
   refine zaa Tryz.func137 rfl Tryz.call137 (by rw [Tryz.ntmps137]; simp) ?_
   rw [Tryz.ntmps137,Tryz.results137]
   have F:=ai chAV.eq_1<|ai stAV.eq_1<|ai hsk<|ai q3<|b4
   repeat (first | refine st ?_ | refine cC f0 ?_ | refine cC f2 ?_ | refine cC f3 ?_)
   exact aR
  ·have b1:((l.length:Int)==1)=false:=by simp; omega
   rw [decide_eq_false h1,Bool.false_and]
   refine zaa Tryz.func137 rfl Tryz.call137 (by rw [Tryz.ntmps137]; simp) ?_
   rw [Tryz.ntmps137,Tryz.results137]
   have F:=ai chAV.eq_1<|ai stAV.eq_1<|ai hsk<|ai q3<|ai b4<|b1
   repeat (first | refine st ?_ | refine cC f0 ?_)
   exact aR
 ·rw [if_neg h4]
  have b4:(s.kind==4)=false:=by simpa using h4
  cases b5:(s.kind==5) with
  | false=>
    rw [Bool.false_and]
    refine zaa Tryz.func137 rfl Tryz.call137 (by rw [Tryz.ntmps137]; simp) ?_
    rw [Tryz.ntmps137,Tryz.results137]
    have F:=ai chAV.eq_1<|ai stAV.eq_1<|ai hsk<|ai q3<|ai b4<|b5
    repeat (first | refine st ?_ | refine cC f0 ?_)
    exact aR
  | true=>
    rw [Bool.true_and]
    obtain⟨p1,p2⟩:=zi6 h hsk (.inr (by simpa using b5))
    have f2:=zp2 env c h s.parent p2 l hF
    rw [<-zk9 h p1] at f2
    unfold chAV at f2
    generalize deepB c s.parent l=D at*
    refine zaa Tryz.func137 rfl Tryz.call137 (by rw [Tryz.ntmps137]; simp) ?_
    rw [Tryz.ntmps137,Tryz.results137]
    have F:=ai chAV.eq_1<|ai stAV.eq_1<|ai hsk<|ai q3<|ai b4<|b5
    repeat (first | refine st ?_ | refine cC f0 ?_ | refine cC f2 ?_)
    exact aR
theorem zj9 (env:Env) (c:ChD) (h:Full c) (mem:List MemD) (hl:mem.length<=1000000) (hF: ∀m∈mem,Fits m.2.length 8):Con Tryz.prog env 58 [.agg (chAV c),memsAV mem] (B (zeI c mem)):=by
 refine zaa Tryz.func58 rfl Tryz.call58 (by rw [Tryz.ntmps58]; simp) ?_
 rw [Tryz.ntmps58,Tryz.results58]
 repeat refine st0 ?_
 refine zac (D:=Nat) (fun j vs=>[(1,memsAV mem),(2, .loc 2 (vs 2) 0 0),(5,I j)]) (fun _ _=>[(2,⟨5,[chAV c],26,false⟩)]) (fun j _ _=>j<=mem.length/\ ∀m,m<j->zhK c mem m=true) (fun j=>mem.length-j) 0 ?_ ?_ ?_ ?_
 ·exact⟨Nat.zero_le _,fun m hm=>absurd hm (by omega)⟩
 ·(simp only [go_sem])
  try rfl
 ·have F:=chAV.eq_1
  (simp only [go_sem,F])
  try rfl
 rintro j ws esc ⟨hj,hall⟩
 by_cases hlt:j<mem.length
 ·obtain⟨x,hx⟩: ∃x,mem[j]? =some x:=⟨mem[j],List.getElem?_eq_getElem hlt⟩
  have q1:=nlt hlt
  have q2:=zab hlt (by omega)
  have f1:=ziY env c h x (hF x (List.mem_of_getElem? hx))
  have hat:zhK c mem j=(memB c x&&((j==0)||decide ((mem.getD (j-1) (0,[])).1<x.1))):=by unfold zhK; rw [hx]
  unfold chAV mmAV at f1
  cases hb:memB c x with
  | false=>
    rw [hb] at f1
    rw [zgo hlt (by rw [hat,hb]; rfl)]
    have F:=ai chAV.eq_1<|ai mmAV.eq_1<|ai hx<|q1
    repeat (first | refine st ?_ | refine cC f1 ?_)
    exact aR
  | true=>
    rw [hb] at f1
    rw [hb,Bool.true_and] at hat
    by_cases h0:j=0
    ·have g0: ¬(0:Int)< (j:Int):=by omega
     have F:=ai chAV.eq_1<|ai mmAV.eq_1<|ai hx<|ai q1<|ai q2<|g0
     repeat (first | refine st ?_ | refine cC f1 ?_)
     refine⟨j+1,⟨hlt,fun m hm=> ?_⟩, ?_, ?_,by omega⟩
     ·obtain rfl:m=j:=by omega
      rw [hat,h0]
      rfl
     ·(simp only [go_sem,F])
     ·have F:=chAV.eq_1
      (simp only [go_sem,F])
    ·obtain⟨i,rfl⟩: ∃i,j=i+1:=⟨j-1,by omega⟩
     obtain⟨p,hp⟩: ∃p,mem[i]? =some p:=⟨mem[i]'(by omega),List.getElem?_eq_getElem (by omega)⟩
     have g0:(0:Int)< ((i+1:Nat):Int):=by omega
     have g1:IntKind.i64.wrap (((i+1:Nat):Int)-1)=(i:Int):=by rw [IntWalk.i64_in _ (by omega)]; omega
     have g2:((i:Nat):Int)< (mem.length:Int):=by omega
     have hgd:mem.getD (i+1-1) (0,[])=p:=by rw [Nat.add_sub_cancel,List.getD_eq_getElem?_getD,hp]; rfl
     rw [hgd] at hat
     by_cases hlt2:x.1<=p.1
     ·rw [zgo hlt (by rw [hat,decide_eq_false (by omega)]; rfl)]
      have F:=ai chAV.eq_1<|ai mmAV.eq_1<|ai hx<|ai hp<|ai q1<|ai g0<|ai g1<|ai g2<|hlt2
      repeat (first | refine st ?_ | refine cC f1 ?_)
      exact aR
     ·have F:=ai chAV.eq_1<|ai mmAV.eq_1<|ai hx<|ai hp<|ai q1<|ai q2<|ai g0<|ai g1<|ai g2<|hlt2
      repeat (first | refine st ?_ | refine cC f1 ?_)
      refine⟨i+1+1,⟨hlt,fun m hm=> ?_⟩, ?_, ?_,by omega⟩
      ·rcases Nat.lt_succ_iff_lt_or_eq.1 hm with e | e
       ·exact hall m e
       ·rw [e,hat,decide_eq_true (by omega)]; simp
      ·(simp only [go_sem,F])
      ·have F:=chAV.eq_1
       (simp only [go_sem,F])
 ·obtain rfl:j=mem.length:=by omega
  have q1: ¬(mem.length:Int)< (mem.length:Int):=by omega
  rw [zkl hall]
  have F:=q1
  repeat refine st ?_
  exact aR
end
section
def zdE (c:ChD) (x:Int):Bool:=match c.states[x.toNat]? with
 | some s=>decide (s.parent<0)&&(s.kind==3)
 | none=>false
def zkf (c:ChD) (act:List Int):Bool:=act.any (zdE c)
theorem znN {c:ChD} {act:List Int} {i:Nat} {x:Int} (ha:(act.take i).any (zdE c)=false) (hx:act[i]? =some x) (h:zdE c x=false):(act.take (i+1)).any (zdE c)=false:=by
 rw [List.take_add_one,hx,List.any_append,ha]
 simp [h]
theorem zrL {c:ChD} {act:List Int} {i:Nat} {x:Int} (hx:act[i]? =some x) (h:zdE c x=true):zkf c act=true:=List.any_eq_true.2 ⟨x,List.mem_of_getElem? hx,h⟩
theorem zsh (env:Env) (c:ChD) (act:List Int) (hl:act.length<=1000000) (hr: ∀x∈act,0<=x/\x<c.states.length):Con Tryz.prog env 91 [.agg (chAV c),ints34 act] (B (zkf c act)):=by
 refine zaa Tryz.func91 rfl Tryz.call91 (by rw [Tryz.ntmps91]; simp) ?_
 rw [Tryz.ntmps91,Tryz.results91]
 have F:=chAV.eq_1
 repeat refine st ?_
 refine zac (D:=Nat) (fun i vs=>[(2, .loc 2 (vs 2) 0 0),(7,ints34 act),(8,I act.length),(9,I i)]) (fun _ _=>[(2,⟨5,[chAV c],26,false⟩)]) (fun i _ _=>i<=act.length/\(act.take i).any (zdE c)=false) (fun i=>act.length-i) 0 ?_ ?_ ?_ ?_
 ·exact⟨Nat.zero_le _,rfl⟩
 ·(simp only [go_sem,F])
 ·have F:=chAV.eq_1
  (simp only [go_sem,F])
 rintro i vs esc ⟨hi,ha⟩
 by_cases hlt:i<act.length
 ·have g1:=nlt hlt
  have g2:=zab hlt (by omega)
  obtain⟨x,hx⟩: ∃x,act[i]? =some x:=⟨act[i],List.getElem?_eq_getElem hlt⟩
  obtain⟨h0,h1⟩:=hr x (List.mem_of_getElem? hx)
  obtain⟨k,rfl⟩:=Int.eq_ofNat_of_zero_le h0
  have hk:k<c.states.length:=by omega
  obtain⟨s,hs⟩: ∃s,c.states[k]? =some s:=⟨c.states[k],List.getElem?_eq_getElem hk⟩
  have g3:=nlt hk
  have ht:zdE c k=(decide (s.parent<0)&&(s.kind==3)):=by unfold zdE; rw [Int.toNat_natCast,hs]
  by_cases b1:s.parent<0
  ·by_cases b2:s.kind=3
   ·rw [zrL hx (by rw [ht,decide_eq_true b1,b2]; rfl)]
    have F:=ai chAV.eq_1<|ai stAV.eq_1<|ai g1<|ai g2<|ai g3<|ai hx<|ai hs<|ai b1<|b2
    repeat (first | refine oO rfl (by simp only [go_sem,intAV,F]; exact⟨rfl,rfl⟩) ?_ | refine gR ?_ | refine gO ?_ | refine oZ (zas ?_) | refine oZ ?_ | refine oS ?_ | refine gT ?_ | refine gD Tryz.mixed ?_ | refine oB ?_ | refine oK ?_ | (refine oX ?_; simp only [zal,zah, ↓reduceIte,Nat.reduceEqDiff,reduceCtorEq]) | refine oY (by simp only [go_sem,intAV,F]; exact iR) ?_ | refine oN (by simp only [go_sem,intAV,F]; exact iR) ?_)
    (refine zaf ?_; show (zao _ _ _).run _=some _; simp only [go_sem,intAV,F])
   ·have b3:(s.kind==3)=false:=by simpa using b2
    have F:=ai chAV.eq_1<|ai stAV.eq_1<|ai g1<|ai g2<|ai g3<|ai hx<|ai hs<|ai b1<|b3
    repeat (first | refine oO rfl (by simp only [go_sem,intAV,F]; exact⟨rfl,rfl⟩) ?_ | refine gR ?_ | refine gO ?_ | refine oZ (zas ?_) | refine oZ ?_ | refine oS ?_ | refine gT ?_ | refine gD Tryz.mixed ?_ | refine oB ?_ | refine oK ?_ | (refine oX ?_; simp only [zal,zah, ↓reduceIte,Nat.reduceEqDiff,reduceCtorEq]) | refine oY (by simp only [go_sem,intAV,F]; exact iR) ?_ | refine oN (by simp only [go_sem,intAV,F]; exact iR) ?_)
    refine⟨i+1,⟨hlt,znN ha hx (by rw [ht,b3,Bool.and_false])⟩, ?_, ?_,by omega⟩
    ·(simp only [go_sem,intAV,F])
    ·have F:=chAV.eq_1
     (simp only [go_sem,F])
  ·have F:=ai chAV.eq_1<|ai stAV.eq_1<|ai g1<|ai g2<|ai g3<|ai hx<|ai hs<|b1
   repeat (first | refine oO rfl (by simp only [go_sem,intAV,F]; exact⟨rfl,rfl⟩) ?_ | refine gR ?_ | refine gO ?_ | refine oZ (zas ?_) | refine oZ ?_ | refine oS ?_ | refine gT ?_ | refine gD Tryz.mixed ?_ | refine oB ?_ | refine oK ?_ | (refine oX ?_; simp only [zal,zah, ↓reduceIte,Nat.reduceEqDiff,reduceCtorEq]) | refine oY (by simp only [go_sem,intAV,F]; exact iR) ?_ | refine oN (by simp only [go_sem,intAV,F]; exact iR) ?_)
   refine⟨i+1,⟨hlt,znN ha hx (by rw [ht,decide_eq_false b1,Bool.false_and])⟩, ?_, ?_,by omega⟩
   ·(simp only [go_sem,intAV,F])
   ·have F:=chAV.eq_1
    (simp only [go_sem,F])
 have g1: ¬(i:Int)< (act.length:Int):=by omega
 rw [show zkf c act=false from by rwa [List.take_of_length_le (by omega)] at ha]
 have F:=g1
 repeat refine st ?_
 exact aR
theorem zpY (env:Env) (c:ChD) (act:List Int) (hl:act.length<=1000000) (hr: ∀x∈act,0<=x/\x<c.states.length):Con Tryz.prog env 59 [.agg (chAV c),ints34 act] (B (zkf c act)):=by
 refine zaa Tryz.func59 rfl Tryz.call59 (by rw [Tryz.ntmps59]; simp) ?_
 rw [Tryz.ntmps59,Tryz.results59]
 have F:=chAV.eq_1
 repeat refine st ?_
 refine zac (D:=Nat) (fun i vs=>[(1,ints34 act),(2, .loc 2 (vs 2) 0 0),(5,I i)]) (fun _ _=>[(2,⟨5,[chAV c],26,false⟩)]) (fun i _ _=>i<=act.length/\(act.take i).any (zdE c)=false) (fun i=>act.length-i) 0 ?_ ?_ ?_ ?_
 ·exact⟨Nat.zero_le _,rfl⟩
 ·(simp only [go_sem,F])
 ·have F:=chAV.eq_1
  (simp only [go_sem,F])
 rintro i vs esc ⟨hi,ha⟩
 by_cases hlt:i<act.length
 ·have g1:=nlt hlt
  have g2:=zab hlt (by omega)
  obtain⟨x,hx⟩: ∃x,act[i]? =some x:=⟨act[i],List.getElem?_eq_getElem hlt⟩
  obtain⟨h0,h1⟩:=hr x (List.mem_of_getElem? hx)
  obtain⟨k,rfl⟩:=Int.eq_ofNat_of_zero_le h0
  have hk:k<c.states.length:=by omega
  obtain⟨s,hs⟩: ∃s,c.states[k]? =some s:=⟨c.states[k],List.getElem?_eq_getElem hk⟩
  have g3:=nlt hk
  have ht:zdE c k=(decide (s.parent<0)&&(s.kind==3)):=by unfold zdE; rw [Int.toNat_natCast,hs]
  by_cases b1:s.parent<0
  ·by_cases b2:s.kind=3
   ·rw [zrL hx (by rw [ht,decide_eq_true b1,b2]; rfl)]
    have F:=ai chAV.eq_1<|ai stAV.eq_1<|ai g1<|ai g2<|ai g3<|ai hx<|ai hs<|ai b1<|b2
    repeat (first | refine oO rfl (by simp only [go_sem,intAV,F]; exact⟨rfl,rfl⟩) ?_ | refine gR ?_ | refine gO ?_ | refine oZ (zas ?_) | refine oZ ?_ | refine oS ?_ | refine gT ?_ | refine gD Tryz.mixed ?_ | refine oB ?_ | refine oK ?_ | (refine oX ?_; simp only [zal,zah, ↓reduceIte,Nat.reduceEqDiff,reduceCtorEq]) | refine oY (by simp only [go_sem,intAV,F]; exact iR) ?_ | refine oN (by simp only [go_sem,intAV,F]; exact iR) ?_)
    (refine zaf ?_; show (zao _ _ _).run _=some _; simp only [go_sem,intAV,F])
   ·have b3:(s.kind==3)=false:=by simpa using b2
    have F:=ai chAV.eq_1<|ai stAV.eq_1<|ai g1<|ai g2<|ai g3<|ai hx<|ai hs<|ai b1<|b3
    repeat (first | refine oO rfl (by simp only [go_sem,intAV,F]; exact⟨rfl,rfl⟩) ?_ | refine gR ?_ | refine gO ?_ | refine oZ (zas ?_) | refine oZ ?_ | refine oS ?_ | refine gT ?_ | refine gD Tryz.mixed ?_ | refine oB ?_ | refine oK ?_ | (refine oX ?_; simp only [zal,zah, ↓reduceIte,Nat.reduceEqDiff,reduceCtorEq]) | refine oY (by simp only [go_sem,intAV,F]; exact iR) ?_ | refine oN (by simp only [go_sem,intAV,F]; exact iR) ?_)
    refine⟨i+1,⟨hlt,znN ha hx (by rw [ht,b3,Bool.and_false])⟩, ?_, ?_,by omega⟩
    ·(simp only [go_sem,intAV,F])
    ·have F:=chAV.eq_1
     (simp only [go_sem,F])
  ·have F:=ai chAV.eq_1<|ai stAV.eq_1<|ai g1<|ai g2<|ai g3<|ai hx<|ai hs<|b1
   repeat (first | refine oO rfl (by simp only [go_sem,intAV,F]; exact⟨rfl,rfl⟩) ?_ | refine gR ?_ | refine gO ?_ | refine oZ (zas ?_) | refine oZ ?_ | refine oS ?_ | refine gT ?_ | refine gD Tryz.mixed ?_ | refine oB ?_ | refine oK ?_ | (refine oX ?_; simp only [zal,zah, ↓reduceIte,Nat.reduceEqDiff,reduceCtorEq]) | refine oY (by simp only [go_sem,intAV,F]; exact iR) ?_ | refine oN (by simp only [go_sem,intAV,F]; exact iR) ?_)
   refine⟨i+1,⟨hlt,znN ha hx (by rw [ht,decide_eq_false b1,Bool.false_and])⟩, ?_, ?_,by omega⟩
   ·(simp only [go_sem,intAV,F])
   ·have F:=chAV.eq_1
    (simp only [go_sem,F])
 have g1: ¬(i:Int)< (act.length:Int):=by omega
 rw [show zkf c act=false from by rwa [List.take_of_length_le (by omega)] at ha]
 have F:=g1
 repeat refine st ?_
 exact aR
theorem zsn (env:Env) (l:List (List UInt8×Int)) (hl:l.length<=9223372036854775807) (hn: ∀t∈l,t.1.length<=9223372036854775807):Con Tryz.prog env 90 [.seq 2 (l.map tmAV)] (B (zdj l)):=by
 refine zaa Tryz.func90 rfl Tryz.call90 (by rw [Tryz.ntmps90]; simp) ?_
 rw [Tryz.ntmps90,Tryz.results90]
 repeat refine st0 ?_
 refine zac (D:=Nat) (fun i _=>[(0, .seq 2 (l.map tmAV)),(5, .seq 2 (l.map tmAV)),(6,I l.length),(7,I i)]) (fun _ _=>[]) (fun i _ _=>i<=l.length/\ ∀j,j<i->tmAt l j=true) (fun i=>l.length-i) 0 ?_ ?_ ?_ ?_
 ·exact⟨Nat.zero_le _,fun j hj=>by omega⟩
 ·(simp only [go_sem])
 ·(simp only [go_sem])
 rintro i vs esc ⟨hi,ha⟩
 by_cases hlt:i<l.length
 ·have g1:=nlt hlt
  have g2:=zab hlt (by omega)
  obtain⟨x,hx⟩: ∃x,l[i]? =some x:=⟨l[i],List.getElem?_eq_getElem hlt⟩
  have f1:=zb1 env x.1 (hn x (zur hx))
  have hnot:tmAt l i=false->zdj l=false:=fun h=>by rw [zdj,ziu hlt h]; rfl
  cases a1:zaJ x.1
  ·rw [hnot (by unfold tmAt; rw [zcj hx,a1]; rfl)]
   rw [a1] at f1
   have F:=ai g1<|ai g2<|ai hx<|tmAV.eq_1
   repeat (first | refine st ?_ | refine cC f1 ?_)
   exact aR
  rw [a1] at f1
  by_cases a2:x.2<0
  ·rw [hnot (by unfold tmAt clkB; rw [zcj hx,decide_eq_false (by omega),Bool.and_false]; rfl)]
   have F:=ai g1<|ai g2<|ai hx<|ai tmAV.eq_1<|a2
   repeat (first | refine st ?_ | refine cC f1 ?_)
   exact aR
  by_cases a3:1099511627776<x.2
  ·rw [hnot (by unfold tmAt clkB; rw [zcj hx,decide_eq_false (by omega),Bool.and_false]; rfl)]
   have F:=ai g1<|ai g2<|ai hx<|ai tmAV.eq_1<|ai a2<|a3
   repeat (first | refine st ?_ | refine cC f1 ?_)
   exact aR
  have a4:clkB x.2=true:=decide_eq_true ⟨by omega,by omega⟩
  by_cases h0:i=0
  ·have g3: ¬(0:Int)< (i:Int):=by omega
   have F:=ai g1<|ai g2<|ai hx<|ai tmAV.eq_1<|ai a2<|ai a3<|g3
   repeat (first | refine st ?_ | refine cC f1 ?_)
   refine⟨i+1,⟨hlt,zjC ha ?_⟩, ?_, ?_,by omega⟩
   ·unfold tmAt
    rw [zcj hx,a1,a4,decide_eq_true h0]
    rfl
   ·(simp only [go_sem,F])
   ·(simp only [go_sem,F])
  have g3:(0:Int)< (i:Int):=by omega
  have g4:IntKind.i64.wrap ((i:Int)-1)=((i-1:Nat):Int):=i64m i 1 (by omega) (by omega)
  have g5:((i-1:Nat):Int)< (l.length:Int):=by omega
  obtain⟨y,hy⟩: ∃y,l[i-1]? =some y:=⟨l[i-1],List.getElem?_eq_getElem (by omega)⟩
  have hv:tmAt l i= !(Op.bytesLess x.1 y.1||x.1==y.1):=by unfold tmAt; rw [zcj hx,zcj hy,a1,a4,decide_eq_false h0,zg4]; rfl
  by_cases hc:(Op.bytesLess x.1 y.1||x.1==y.1)=true
  ·rw [hnot (by rw [hv,hc]; rfl)]
   have F:=ai g1<|ai g2<|ai hx<|ai tmAV.eq_1<|ai a2<|ai a3<|ai g3<|ai g4<|ai g5<|ai hy<|hc
   repeat (first | refine st ?_ | refine cC f1 ?_)
   exact aR
  have hc:(Op.bytesLess x.1 y.1||x.1==y.1)=false:=by simpa using hc
  have F:=ai g1<|ai g2<|ai hx<|ai tmAV.eq_1<|ai a2<|ai a3<|ai g3<|ai g4<|ai g5<|ai hy<|hc
  repeat (first | refine st ?_ | refine cC f1 ?_)
  refine⟨i+1,⟨hlt,zjC ha (by rw [hv,hc]; rfl)⟩, ?_, ?_,by omega⟩
  ·(simp only [go_sem,F])
  ·(simp only [go_sem,F])
 have g1: ¬(i:Int)< (l.length:Int):=by omega
 have e:zdj l=decide ((l.length:Int)<=8):=by
  rw [zdj,zlk (n:=l.length) fun j hj=>ha j (by omega),Bool.true_and]
  exact decide_eq_decide.2 (by omega)
 rw [e]
 have F:=g1
 repeat refine st ?_
 exact aR
theorem zkk (env:Env) (a1 a8:Addr) (he:ChEnv env a1 a8) (s:List UInt8):Con Tryz.prog env 67 [Sg s] (errV (-1) (sentV a1)):=by
 have h1:=zhf he.e1
 have f1:=zb4 env s a1
 refine zaa Tryz.func67 rfl Tryz.call67 (by rw [Tryz.ntmps67]; simp) ?_
 rw [Tryz.ntmps67,Tryz.results67]
 have F:=h1
 repeat (first | refine st ?_ | refine cC f1 ?_)
 exact aR
structure LiteI (r:Rc):Prop where
 active:r.active.length<=1000000
 vars:r.vars.length<=1000000
 mem:r.mem.length<=1000000
 timers:r.timers.length<=9223372036854775807
def zhO (l:List Int):Bool:=l.all zau
def zbw (c:ChD) (r:Rc):Bool:=lgB c r.active&&zeI c r.mem&&(r.vars.length==c.vars.length)&&zdj r.timers&&(r.over==zkf c r.active)&&zhO r.vars
def zhM (a1:Addr) (c:ChD) (r:Rc):AV:=if zbw c r=true then nilE else errV (-1) (sentV a1)
theorem zut {c:ChD} {act:List Int} (h:lgB c act=true): ∀x∈act,0<=x/\x<c.states.length:=fun x hx=>by
 obtain⟨i,hi⟩:=List.mem_iff_getElem?.1 hx
 have h1:=(zqu.1 h).1 i (List.getElem?_eq_some_iff.1 hi).1
 rw [zja hi,Bool.and_eq_true] at h1
 have h2:=h1.2
 unfold fitI at_ at h2
 by_cases h0:0<=x
 ·rw [if_pos h0] at h2
  cases hs:c.states[x.toNat]? with
  | none=>rw [hs] at h2; cases h2
  | some s=>have:=(List.getElem?_eq_some_iff.1 hs).1; omega
 ·rw [if_neg h0] at h2
  cases h2
end
section
theorem zqV {l:List Int} {i:Nat} {x:Int} (ha:(l.take i).all zau=true) (hx:l[i]? =some x) (h:zau x=true):(l.take (i+1)).all zau=true:=by
 rw [List.take_add_one,hx,List.all_append,ha]
 simp [h]
theorem zqW {l:List Int} {i:Nat} {x:Int} (hx:l[i]? =some x) (h:zau x=false):zhO l=false:=by
 unfold zhO
 rw [List.all_eq_false]
 exact⟨x,List.mem_of_getElem? hx,by rw [h]; exact Bool.false_ne_true⟩
theorem zdc (env:Env) (a1 a8:Addr) (he:ChEnv env a1 a8) (c:ChD) (h:Full c) (hs:Small c) (r:Rc) (hl:LiteI r) (hn: ∀t∈r.timers,t.1.length<=9223372036854775807) (hF: ∀m∈r.mem,Fits m.2.length 8):Con Tryz.prog env 36 [zaj c, .agg (inAV r)] (zhM a1 c r):=by
 have f1:=zax env c hs
 have f2:=zcf env a1 a8 he c h hs r.active hl.active
 have f3:=zlp env a1 a8 he c h hs r.mem hl.mem hF
 have f4:=zsn env r.timers hl.timers hn
 have f6:=zkk env a1 a8 he [109,105,99,114,111,46,67,104,101,99,107]
 have bad:zbw c r=false->zhM a1 c r=errV (-1) (sentV a1):=fun h=>by unfold zhM; rw [h]; rfl
 unfold chkE at f2
 unfold chkM at f3
 unfold chAV at f1
 unfold zaj at f1 f2 f3 |-
 cases b1:lgB c r.active
 ·rw [bad (by unfold zbw; rw [b1]; rfl)]
  rw [b1,if_neg Bool.false_ne_true] at f2
  refine zaa Tryz.func36 rfl Tryz.call36 (by rw [Tryz.ntmps36]; simp) ?_
  rw [Tryz.ntmps36,Tryz.results36]
  have F:=inAV.eq_1
  repeat (first | refine st ?_ | refine cC f1 ?_ | refine cC f2 ?_ | refine cC f6 ?_)
  exact aR
 rw [b1,if_pos rfl] at f2
 cases b2:zeI c r.mem
 ·rw [bad (by unfold zbw; rw [b2,Bool.and_false]; rfl)]
  rw [b2,if_neg Bool.false_ne_true] at f3
  refine zaa Tryz.func36 rfl Tryz.call36 (by rw [Tryz.ntmps36]; simp) ?_
  rw [Tryz.ntmps36,Tryz.results36]
  have F:=inAV.eq_1
  repeat (first | refine st ?_ | refine cC f1 ?_ | refine cC f2 ?_ | refine cC f3 ?_ | refine cC f6 ?_)
  exact aR
 rw [b2,if_pos rfl] at f3
 by_cases b3:r.vars.length=c.vars.length
 case neg=>
  rw [bad (by unfold zbw; rw [show (r.vars.length==c.vars.length)=false by simpa using b3,Bool.and_false]; rfl)]
  have b4:((r.vars.length:Int) != (c.vars.length:Int))=true:=by simp; omega
  refine zaa Tryz.func36 rfl Tryz.call36 (by rw [Tryz.ntmps36]; simp) ?_
  rw [Tryz.ntmps36,Tryz.results36]
  have F:=ai inAV.eq_1<|b4
  repeat (first | refine st ?_ | refine cC f1 ?_ | refine cC f2 ?_ | refine cC f3 ?_ | refine cC f6 ?_)
  exact aR
 have b4:((r.vars.length:Int) != (c.vars.length:Int))=false:=by simp [b3]
 cases b5:zdj r.timers
 ·rw [bad (by unfold zbw; rw [b5,Bool.and_false]; rfl)]
  rw [b5] at f4
  refine zaa Tryz.func36 rfl Tryz.call36 (by rw [Tryz.ntmps36]; simp) ?_
  rw [Tryz.ntmps36,Tryz.results36]
  have F:=ai inAV.eq_1<|b4
  repeat (first | refine st ?_ | refine cC f1 ?_ | refine cC f2 ?_ | refine cC f3 ?_ | refine cC f4 ?_ | refine cC f6 ?_)
  exact aR
 rw [b5] at f4
 have f5:=zsh env c r.active hl.active (zut b1)
 unfold chAV at f5
 cases b6:(r.over==zkf c r.active)
 ·rw [bad (by unfold zbw; rw [b6,Bool.and_false]; rfl)]
  refine zaa Tryz.func36 rfl Tryz.call36 (by rw [Tryz.ntmps36]; simp) ?_
  rw [Tryz.ntmps36,Tryz.results36]
  have F:=ai inAV.eq_1<|ai b4<|b6
  repeat (first | refine st ?_ | refine cC f1 ?_ | refine cC f2 ?_ | refine cC f3 ?_ | refine cC f4 ?_ | refine cC f5 ?_ | refine cC f6 ?_)
  exact aR
 have hi:zbw c r=zhO r.vars:=by unfold zbw; rw [b1,b2,b5,b6,show (r.vars.length==c.vars.length)=true by simpa using b3]; rfl
 have hvl:=hl.vars
 refine zaa Tryz.func36 rfl Tryz.call36 (by rw [Tryz.ntmps36]; simp) ?_
 rw [Tryz.ntmps36,Tryz.results36]
 have F:=ai inAV.eq_1<|ai b4<|b6
 repeat (first | refine st ?_ | refine cC f1 ?_ | refine cC f2 ?_ | refine cC f3 ?_ | refine cC f4 ?_ | refine cC f5 ?_ | refine cC f6 ?_)
 try clear f1 f2 f3 f4 f5 b1 b2 b4 b5 b6
 refine zac (D:=Nat) (fun i _=>[(52,ints34 r.vars),(53,I r.vars.length),(54,I i)]) (fun _ _=>[]) (fun i _ _=>i<=r.vars.length/\(r.vars.take i).all zau=true) (fun i=>r.vars.length-i) 0 ?_ ?_ ?_ ?_
 ·exact⟨Nat.zero_le _,rfl⟩
 ·(simp only [go_sem,F])
 ·(simp only [go_sem,F])
 rintro i vs esc ⟨hi2,ha⟩
 by_cases hlt:i<r.vars.length
 ·have g1:=nlt hlt
  have g2:=zab hlt (by omega)
  obtain⟨x,hx⟩: ∃x,r.vars[i]? =some x:=⟨r.vars[i],List.getElem?_eq_getElem hlt⟩
  have f7:=za2 env x
  cases b8:zau x
  ·rw [b8] at f7
   rw [bad (by rw [hi]; exact zqW hx b8)]
   have F:=ai g1<|ai g2<|hx
   repeat (first | refine oO rfl (by simp only [go_sem,intAV,F]; exact⟨rfl,rfl⟩) ?_ | refine gR ?_ | refine gO ?_ | refine oC rfl (f6) (by simp only [go_sem,intAV,F]; exact iR) (by simp only [go_sem,intAV,F]; exact⟨rfl,rfl⟩) ?_ | refine oC rfl (f7) (by simp only [go_sem,intAV,F]; exact iR) (by simp only [go_sem,intAV,F]; exact⟨rfl,rfl⟩) ?_ | refine oZ (zas ?_) | refine oZ ?_ | refine oS ?_ | refine gT ?_ | refine gD Tryz.mixed ?_ | refine oB ?_ | refine oK ?_ | (refine oX ?_; simp only [zal,zah, ↓reduceIte,Nat.reduceEqDiff,reduceCtorEq]) | refine oY (by simp only [go_sem,intAV,F]; exact iR) ?_ | refine oN (by simp only [go_sem,intAV,F]; exact iR) ?_)
   (refine zaf ?_; show (zao _ _ _).run _=some _; simp only [go_sem,intAV,F])
  ·rw [b8] at f7
   have F:=ai g1<|ai g2<|hx
   repeat (first | refine oO rfl (by simp only [go_sem,intAV,F]; exact⟨rfl,rfl⟩) ?_ | refine gR ?_ | refine gO ?_ | refine oC rfl (f6) (by simp only [go_sem,intAV,F]; exact iR) (by simp only [go_sem,intAV,F]; exact⟨rfl,rfl⟩) ?_ | refine oC rfl (f7) (by simp only [go_sem,intAV,F]; exact iR) (by simp only [go_sem,intAV,F]; exact⟨rfl,rfl⟩) ?_ | refine oZ (zas ?_) | refine oZ ?_ | refine oS ?_ | refine gT ?_ | refine gD Tryz.mixed ?_ | refine oB ?_ | refine oK ?_ | (refine oX ?_; simp only [zal,zah, ↓reduceIte,Nat.reduceEqDiff,reduceCtorEq]) | refine oY (by simp only [go_sem,intAV,F]; exact iR) ?_ | refine oN (by simp only [go_sem,intAV,F]; exact iR) ?_)
   refine⟨i+1,⟨hlt,zqV ha hx b8⟩, ?_, ?_,by omega⟩
   ·(simp only [go_sem,intAV,F])
   ·(simp only [go_sem,intAV,F])
 have g1: ¬(i:Int)< (r.vars.length:Int):=by omega
 rw [show zhM a1 c r=nilE from by unfold zhM; rw [if_pos (by rw [hi]; unfold zhO; rwa [List.take_of_length_le (by omega)] at ha)]]
 have F:=g1
 repeat refine st ?_
 exact aR
theorem zgA (env:Env) (s:List UInt8):Con Tryz.prog env 44 [Sg s,nilE] nilE:=by
 refine zaa Tryz.func44 rfl Tryz.call44 (by rw [Tryz.ntmps44]; simp) ?_
 rw [Tryz.ntmps44,Tryz.results44]
 repeat refine st0 ?_
 exact aR0
theorem zj4 (env:Env) (l:List Int) (hl:l.length<=1000000):Con Tryz.prog env 60 [.agg [ints34 l,I 0,nilS]] (B (zhO l)):=by
 refine zaa Tryz.func60 rfl Tryz.call60 (by rw [Tryz.ntmps60]; simp) ?_
 rw [Tryz.ntmps60,Tryz.results60]
 repeat refine st0 ?_
 refine zac (D:=Nat) (fun i vs=>[(1, .loc 1 (vs 1) 0 0),(3,I i)]) (fun _ _=>[(1,⟨3,[[ints34 l,I 0,nilS]],120,false⟩)]) (fun i _ _=>i<=l.length/\(l.take i).all zau=true) (fun i=>l.length-i) 0 ?_ ?_ ?_ ?_
 ·exact⟨Nat.zero_le _,rfl⟩
 ·(simp only [go_sem])
 ·(simp only [go_sem])
 rintro i vs esc ⟨hi,ha⟩
 by_cases hlt:i<l.length
 ·have g1:=nlt hlt
  have g2:=zab hlt (by omega)
  obtain⟨x,hx⟩: ∃x,l[i]? =some x:=⟨l[i],List.getElem?_eq_getElem hlt⟩
  have f7:=zbS env x
  cases b8:zau x
  ·rw [b8] at f7
   rw [zqW hx b8]
   have F:=ai g1<|ai g2<|hx
   repeat (first | refine oO rfl (by simp only [go_sem,intAV,F]; exact⟨rfl,rfl⟩) ?_ | refine gR ?_ | refine gO ?_ | refine oC rfl (f7) (by simp only [go_sem,intAV,F]; exact iR) (by simp only [go_sem,intAV,F]; exact⟨rfl,rfl⟩) ?_ | refine oZ (zas ?_) | refine oZ ?_ | refine oS ?_ | refine gT ?_ | refine gD Tryz.mixed ?_ | refine oB ?_ | refine oK ?_ | (refine oX ?_; simp only [zal,zah, ↓reduceIte,Nat.reduceEqDiff,reduceCtorEq]) | refine oY (by simp only [go_sem,intAV,F]; exact iR) ?_ | refine oN (by simp only [go_sem,intAV,F]; exact iR) ?_)
   (refine zaf ?_; show (zao _ _ _).run _=some _; simp only [go_sem,intAV,F])
  ·rw [b8] at f7
   have F:=ai g1<|ai g2<|hx
   repeat (first | refine oO rfl (by simp only [go_sem,intAV,F]; exact⟨rfl,rfl⟩) ?_ | refine gR ?_ | refine gO ?_ | refine oC rfl (f7) (by simp only [go_sem,intAV,F]; exact iR) (by simp only [go_sem,intAV,F]; exact⟨rfl,rfl⟩) ?_ | refine oZ (zas ?_) | refine oZ ?_ | refine oS ?_ | refine gT ?_ | refine gD Tryz.mixed ?_ | refine oB ?_ | refine oK ?_ | (refine oX ?_; simp only [zal,zah, ↓reduceIte,Nat.reduceEqDiff,reduceCtorEq]) | refine oY (by simp only [go_sem,intAV,F]; exact iR) ?_ | refine oN (by simp only [go_sem,intAV,F]; exact iR) ?_)
   refine⟨i+1,⟨hlt,zqV ha hx b8⟩, ?_, ?_,by omega⟩
   ·(simp only [go_sem,intAV,F])
   ·(simp only [go_sem,intAV,F])
 have g1: ¬(i:Int)< (l.length:Int):=by omega
 have f7:=zbS env 0
 rw [show zhO l=true from by unfold zhO; rwa [List.take_of_length_le (by omega)] at ha]
 rw [show zau 0=true from rfl] at f7
 have F:=g1
 repeat (first | refine st ?_ | refine cC f7 ?_)
 exact aR
theorem zlP (env:Env) (c:ChD) (h:Full c) (act:List Int) (hl:act.length<=1000000):Con Tryz.prog env 28 [.agg (chAV c), .seq 1 (act.map intAV)] (B (lgB c act)):=by
 have f0:=zi2 env c h act hl
 unfold lgB
 refine zaa Tryz.func28 rfl Tryz.call28 (by rw [Tryz.ntmps28]; simp) ?_
 rw [Tryz.ntmps28,Tryz.results28]
 have F:=chAV.eq_1
 repeat (first | refine st ?_ | refine cC f0 ?_)
 exact aR
theorem zj3 (env:Env) (c:ChD) (h:Full c) (r:Rc) (hl:LiteI r) (hF: ∀m∈r.mem,Fits m.2.length 8):Con Tryz.prog env 17 [.agg (chAV c), .agg (inAV r)] (B (zbw c r)):=by
 have f2:=zlP env c h r.active hl.active
 have f3:=zj9 env c h r.mem hl.mem hF
 have hll:=hl.timers
 unfold chAV at f2 f3
 cases b1:lgB c r.active
 ·rw [show zbw c r=false from by unfold zbw; rw [b1]; rfl]
  rw [b1] at f2
  refine zaa Tryz.func17 rfl Tryz.call17 (by rw [Tryz.ntmps17]; simp) ?_
  rw [Tryz.ntmps17,Tryz.results17]
  have F:=ai chAV.eq_1<|inAV.eq_1
  repeat (first | refine st ?_ | refine cC f2 ?_)
  exact aR
 rw [b1] at f2
 cases b2:zeI c r.mem
 ·rw [show zbw c r=false from by unfold zbw; rw [b2,Bool.and_false]; rfl]
  rw [b2] at f3
  refine zaa Tryz.func17 rfl Tryz.call17 (by rw [Tryz.ntmps17]; simp) ?_
  rw [Tryz.ntmps17,Tryz.results17]
  have F:=ai chAV.eq_1<|inAV.eq_1
  repeat (first | refine st ?_ | refine cC f2 ?_ | refine cC f3 ?_)
  exact aR
 rw [b2] at f3
 by_cases b3:r.vars.length=c.vars.length
 case neg=>
  rw [show zbw c r=false from by unfold zbw; rw [show (r.vars.length==c.vars.length)=false by simpa using b3,Bool.and_false]; rfl]
  have b4:((r.vars.length:Int) != (c.vars.length:Int))=true:=by simp; omega
  refine zaa Tryz.func17 rfl Tryz.call17 (by rw [Tryz.ntmps17]; simp) ?_
  rw [Tryz.ntmps17,Tryz.results17]
  have F:=ai chAV.eq_1<|ai inAV.eq_1<|b4
  repeat (first | refine st ?_ | refine cC f2 ?_ | refine cC f3 ?_)
  exact aR
 have b4:((r.vars.length:Int) != (c.vars.length:Int))=false:=by simp [b3]
 by_cases b5:8<r.timers.length
 ·have b6:(8:Int)< (r.timers.length:Int):=by omega
  rw [show zbw c r=false from by unfold zbw zdj; rw [decide_eq_false (show ¬r.timers.length<=8 by omega),Bool.and_false,Bool.and_false]; rfl]
  refine zaa Tryz.func17 rfl Tryz.call17 (by rw [Tryz.ntmps17]; simp) ?_
  rw [Tryz.ntmps17,Tryz.results17]
  have F:=ai chAV.eq_1<|ai inAV.eq_1<|ai b4<|b6
  repeat (first | refine st ?_ | refine cC f2 ?_ | refine cC f3 ?_)
  exact aR
 have b6: ¬(8:Int)< (r.timers.length:Int):=by omega
 have f5:=zpY env c r.active hl.active (zut b1)
 unfold chAV at f5
 cases b7:(r.over==zkf c r.active)
 ·rw [show zbw c r=false from by unfold zbw; rw [b7,Bool.and_false]; rfl]
  refine zaa Tryz.func17 rfl Tryz.call17 (by rw [Tryz.ntmps17]; simp) ?_
  rw [Tryz.ntmps17,Tryz.results17]
  have F:=ai chAV.eq_1<|ai inAV.eq_1<|ai b4<|ai b6<|b7
  repeat (first | refine st ?_ | refine cC f2 ?_ | refine cC f3 ?_ | refine cC f5 ?_)
  exact aR
 have hi:zbw c r=(allB r.timers.length (tmAt r.timers)&&zhO r.vars):=by
  unfold zbw zdj
  rw [b1,b2,b7,show (r.vars.length==c.vars.length)=true by simpa using b3,decide_eq_true (show r.timers.length<=8 by omega),Bool.and_true]
  simp
 rw [hi]
 refine zaa Tryz.func17 rfl Tryz.call17 (by rw [Tryz.ntmps17]; simp) ?_
 rw [Tryz.ntmps17,Tryz.results17]
 have F:=ai chAV.eq_1<|ai inAV.eq_1<|ai b4<|ai b6<|b7
 repeat (first | refine st ?_ | refine cC f2 ?_ | refine cC f3 ?_ | refine cC f5 ?_)
 try clear f2 f3 f5 b1 b2 b4 b6 b7 hi
 have F:=inAV.eq_1
 refine zac (D:=Nat) (fun i vs=>[(3, .loc 3 (vs 3) 0 0),(5,I i)]) (fun _ _=>[(3,⟨5,[inAV r],31,false⟩)]) (fun i _ _=>i<=r.timers.length/\ ∀j,j<i->tmAt r.timers j=true) (fun i=>r.timers.length-i) 0 ?_ ?_ ?_ ?_
 ·exact⟨Nat.zero_le _,fun j hj=>by omega⟩
 ·(simp only [go_sem,F])
 ·(simp only [go_sem,F])
 rintro i vs esc ⟨hi,ha⟩
 by_cases hlt:i<r.timers.length
 ·have g1:=nlt hlt
  have g2:=zab hlt (by omega)
  obtain⟨x,hx⟩: ∃x,r.timers[i]? =some x:=⟨r.timers[i],List.getElem?_eq_getElem hlt⟩
  have f1:=zb0 env x.1
  have hnot:tmAt r.timers i=false->(allB r.timers.length (tmAt r.timers)&&zhO r.vars)=false:=fun h=>by rw [ziu hlt h]; rfl
  cases a1:zaJ x.1
  ·rw [hnot (by unfold tmAt; rw [zcj hx,a1]; rfl)]
   rw [a1] at f1
   have F:=ai inAV.eq_1<|ai g1<|ai g2<|ai hx<|tmAV.eq_1
   repeat (first | refine st ?_ | refine cC f1 ?_)
   exact aR
  rw [a1] at f1
  by_cases a2:x.2<0
  ·rw [hnot (by unfold tmAt clkB; rw [zcj hx,decide_eq_false (by omega),Bool.and_false]; rfl)]
   have F:=ai inAV.eq_1<|ai g1<|ai g2<|ai hx<|ai tmAV.eq_1<|a2
   repeat (first | refine st ?_ | refine cC f1 ?_)
   exact aR
  by_cases a3:1099511627776<x.2
  ·rw [hnot (by unfold tmAt clkB; rw [zcj hx,decide_eq_false (by omega),Bool.and_false]; rfl)]
   have F:=ai inAV.eq_1<|ai g1<|ai g2<|ai hx<|ai tmAV.eq_1<|ai a2<|a3
   repeat (first | refine st ?_ | refine cC f1 ?_)
   exact aR
  have a4:clkB x.2=true:=decide_eq_true ⟨by omega,by omega⟩
  by_cases h0:i=0
  ·have g3: ¬(0:Int)< (i:Int):=by omega
   have F:=ai inAV.eq_1<|ai g1<|ai g2<|ai hx<|ai tmAV.eq_1<|ai a2<|ai a3<|g3
   repeat (first | refine st ?_ | refine cC f1 ?_)
   refine⟨i+1,⟨hlt,zjC ha ?_⟩, ?_, ?_,by omega⟩
   ·unfold tmAt
    rw [zcj hx,a1,a4,decide_eq_true h0]
    rfl
   ·(simp only [go_sem,F])
   ·have F:=inAV.eq_1
    (simp only [go_sem,F])
  have g3:(0:Int)< (i:Int):=by omega
  have g4:IntKind.i64.wrap ((i:Int)-1)=((i-1:Nat):Int):=i64m i 1 (by omega) (by omega)
  have g5:((i-1:Nat):Int)< (r.timers.length:Int):=by omega
  obtain⟨y,hy⟩: ∃y,r.timers[i-1]? =some y:=⟨r.timers[i-1],List.getElem?_eq_getElem (by omega)⟩
  have hv:tmAt r.timers i= !(Op.bytesLess x.1 y.1||x.1==y.1):=by unfold tmAt; rw [zcj hx,zcj hy,a1,a4,decide_eq_false h0,zg4]; rfl
  by_cases hc:(Op.bytesLess x.1 y.1||x.1==y.1)=true
  ·rw [hnot (by rw [hv,hc]; rfl)]
   have F:=ai inAV.eq_1<|ai g1<|ai g2<|ai hx<|ai tmAV.eq_1<|ai a2<|ai a3<|ai g3<|ai g4<|ai g5<|ai hy<|hc
   repeat (first | refine st ?_ | refine cC f1 ?_)
   exact aR
  have hc:(Op.bytesLess x.1 y.1||x.1==y.1)=false:=by simpa using hc
  have F:=ai inAV.eq_1<|ai g1<|ai g2<|ai hx<|ai tmAV.eq_1<|ai a2<|ai a3<|ai g3<|ai g4<|ai g5<|ai hy<|hc
  repeat (first | refine st ?_ | refine cC f1 ?_)
  refine⟨i+1,⟨hlt,zjC ha (by rw [hv,hc]; rfl)⟩, ?_, ?_,by omega⟩
  ·(simp only [go_sem,F])
  ·have F:=inAV.eq_1
   (simp only [go_sem,F])
 have g1: ¬(i:Int)< (r.timers.length:Int):=by omega
 have f4:=zj4 env r.vars hl.vars
 rw [zlk (n:=r.timers.length) fun j hj=>ha j (by omega),Bool.true_and]
 have F:=ai inAV.eq_1<|g1
 repeat (first | refine st ?_ | refine cC f4 ?_)
 exact aR
end

end Go.Proofs.YtnbjaghjdeicmaaGreatDoor