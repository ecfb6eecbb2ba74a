/- Memories, as the program checks them. -/
import Derived.Test.YtlmekdfleciejaaGreatDoorD44
import Derived.Test.YtlmekdfleciejaaGreatDoorD7
set_option maxRecDepth 100000
set_option maxHeartbeats 16000000
set_option linter.unusedSimpArgs false
namespace Go.Proofs.YtlmekdfleciejaaGreatDoor
open Go.RowKit
section
theorem zmw (env:Env) (es:List (List AV)) (hl:Fits es.length 8):Con Tryz.prog env 73 [.seq 1 es] (.own 3 1 es):=by
 cases es with
 | nil=>exact ze0 env [] (by simp)
 | cons d l=>
   have g1:Fits ((l.length+1)) 8:=by simpa using hl
   refine zaa Tryz.func73 rfl Tryz.call73 (by rw [Tryz.ntmps73]; simp) ?_
   rw [Tryz.ntmps73,Tryz.results73]
   have F:=g1
   repeat refine st ?_
   exact aR
theorem zpF {c:ChD} (h:Full c) {parent:Int} (hp:zar c parent=true) {l:List Int} (hr:zdd l=true) (hz: ∀x∈l,aboveB c parent x=true):(∀x∈l,inZ c x=true)/\(deepA c parent l).Nodup/\(∀x∈deepA c parent l,inZ c x=true)/\l.length<=32:=by
 have hin: ∀x∈l,inZ c x=true:=fun x hx=>zaD (hz x hx)
 obtain⟨un,um⟩:=zdR (c:=c) (d:=parent) (l:=l)
 obtain⟨sp,hsp,_⟩:=zcH hp
 have hpz:inZ c parent=true:=by
  unfold at_ at hsp
  split at hsp
  ·rename_i h0
   have:=(List.getElem?_eq_some_iff.1 hsp).1
   exact zag.2 ⟨h0,by omega⟩
  ·cases hsp
 have habove: ∀x∈upsL c l parent,aboveB c parent x=true:=fun x hx=>by
  rcases (um x).1 hx with hx | ⟨_,_,_,_,hx⟩
  ·exact hz x hx
  ·exact hx
 have hnp:parent∉upsL c l parent:=fun hh=>by
  have:=habove _ hh
  unfold aboveB at this
  have:=(zeG h.toRight 40 parent parent (List.contains_iff_mem.1 this)).2
  omega
 refine⟨hin, ?_,fun x hx=> ?_, ?_⟩
 ·unfold deepA
  rw [List.nodup_append]
  refine⟨un,by simp,fun x hx y hy e=> ?_⟩
  rw [List.mem_singleton.1 hy] at e
  rw [e] at hx
  exact hnp hx
 ·unfold deepA at hx
  rcases List.mem_append.1 hx with hx | hx
  ·exact zaD (habove x hx)
  ·rw [List.mem_singleton.1 hx]; exact hpz
 ·have:=zc2 (zdE hr) hin
  have:=h.toRight.few
  omega
theorem zpE (env:Env) (c:ChD) (h:Full c) (hs:Small c) (parent:Int) (hp:zar c parent=true) (l:List Int) (hF:Fits l.length 8):Con Tryz.prog env 169 [zai c,I parent, .seq 1 (l.map intAV)] (B (deepB c parent l)):=by
 have hl63:l.length<=9223372036854775807:=hF.2
 have f0:=ziV env l hl63
 have f1:=zmw env (l.map intAV) (by rw [List.length_map]; exact hF)
 have g1:=zhh l hl63
 have hro:=zql l
 unfold deepB
 cases he:l with
 | nil=>
   rw [show zdd []=false from rfl,Bool.false_and,Bool.false_and,Bool.false_and]
   unfold zai
   refine zaa Tryz.func169 rfl Tryz.call169 (by rw [Tryz.ntmps169]; simp) ?_
   rw [Tryz.ntmps169,Tryz.results169]
   repeat refine st0 ?_
   exact aR0
 | cons d0 l0=>
 rw [<-he]
 have hemp:l.isEmpty=false:=by rw [he]; rfl
 have b0:((l.length:Int)==0)=false:=by rw [he]; simp; omega
 rw [hemp,Bool.not_false,Bool.true_and] at hro
 cases hso:zc9 l with
 | false=>
   rw [hso,Bool.false_and] at hro
   rw [hso] at f0
   rw [<-hro,Bool.false_and,Bool.false_and,Bool.false_and]
   unfold zai
   refine zaa Tryz.func169 rfl Tryz.call169 (by rw [Tryz.ntmps169]; simp) ?_
   rw [Tryz.ntmps169,Tryz.results169]
   have F:=b0
   repeat (first | refine st ?_ | refine cC f0 ?_)
   exact aR
 | true=>
 rw [hso,Bool.true_and] at hro
 rw [hso] at f0
 by_cases hcl:(Lib.compact l).length=l.length
 ·rw [decide_eq_true hcl] at hro
  have b1:(((Lib.compact l).length:Int)==(l.length:Int))=true:=by simp [hcl]
  rw [<-hro,Bool.true_and]
  have f2:=fun k:Int=>zdB env c h.toRight parent k
  have f3:=zbH env c
  unfold zal at f2 f3
  have fr:=fun(k:Int)=>zbI env c h k
  unfold zai at f3 fr |-
  refine zaa Tryz.func169 rfl Tryz.call169 (by rw [Tryz.ntmps169]; simp) ?_
  rw [Tryz.ntmps169,Tryz.results169]
  have F:=b0
  repeat (first | refine st ?_ | refine cC f0 ?_ | refine cC f1 ?_)
  refine zfP 21 rfl (row:=⟨1,l.map intAV,3,true⟩) g1 (Nat.succ_ne_zero 0) rfl (zbc _).symm (by simp only [go_sem]; exact iR) (by simp only [go_sem]; exact iR) (by simp only [go_sem]; exact iR) (by simp only [go_sem]; exact iR) iR ?_
  rw [zbc]
  have F:=ai b0<|ai b1<|bneA
  repeat refine st ?_
  refine zab (D:=Nat) (fun j vs=>[(0, .ref 9 [tabCells c] 0 0),(1,I parent),(2, .seq 1 (l.map intAV)),(28, .seq 1 (l.map intAV)),(29,I l.length),(30,I j)]) (fun _ _=>[]) (fun j _ _=>j<=l.length/\ ∀m (y:Int),m<j->l[m]? =some y->zb1 c parent y=true) (fun j=>l.length-j) 0 ?_ ?_ ?_ ?_
  ·exact⟨Nat.zero_le _,fun m y hm=>absurd hm (by omega)⟩
  ·(simp only [go_sem,F])
   try rfl
  ·(simp only [go_sem,F])
   try rfl
  rintro j ws esc ⟨hj,hall⟩
  by_cases hlt:j<l.length
  ·obtain⟨x,hx⟩: ∃x,l[j]? =some x:=⟨l[j],List.getElem?_eq_getElem hlt⟩
   have q1:=nlt hlt
   have q2:=zac hlt (by omega)
   have hxl:=List.mem_of_getElem? hx
   have e2:=f2 x
   have e4:=fr x
   have bad:zb1 c parent x=false->(l.all (zb1 c parent))=false:=fun hb=>List.all_eq_false.2 ⟨_,hxl,by rw [hb]; simp⟩
   cases ha:aboveB c parent x with
   | false=>
     rw [bad (by unfold zb1; rw [ha]; rfl),Bool.false_and,Bool.false_and]
     rw [ha] at e2
     have F:=ai hx<|q1
     repeat (first | refine st ?_ | refine cC f3 ?_ | refine cC e2 ?_)
     exact aR
   | true=>
     rw [ha] at e2
     rw [if_pos (.inr (zaD ha))] at e4
     cases hk:(kidsL c x true).isEmpty with
     | false=>
       rw [bad (by unfold zb1; rw [ha,hk]; rfl),Bool.false_and,Bool.false_and]
       have q3:(0:Int)< ((kidsL c x true).length:Int):=by
        cases hkk:kidsL c x true with
        | nil=>rw [hkk] at hk; cases hk
        | cons a b=>simp
       generalize kidsL c x true=K at*
       have F:=ai hx<|ai q1<|q3
       repeat (first | refine st ?_ | refine cC f3 ?_ | refine cC e2 ?_ | refine cC e4 ?_)
       exact aR
     | true=>
       have q3: ¬(0:Int)< ((kidsL c x true).length:Int):=by
        rw [List.isEmpty_iff.1 hk]; simp
       have hlf:zb1 c parent x=true:=by unfold zb1; rw [ha,hk]; rfl
       generalize kidsL c x true=K at*
       have F:=ai hx<|ai q1<|ai q2<|q3
       repeat (first | refine st ?_ | refine cC f3 ?_ | refine cC e2 ?_ | refine cC e4 ?_)
       refine⟨j+1,⟨hlt,fun m y hm hy=> ?_⟩, ?_, ?_,by omega⟩
       ·rcases Nat.lt_succ_iff_lt_or_eq.1 hm with e | e
        ·exact hall m y e hy
        ·rw [e,hx] at hy; cases hy; exact hlf
       ·(simp only [go_sem,F])
       ·(simp only [go_sem,F])
  ·obtain rfl:j=l.length:=by omega
   have q1: ¬(l.length:Int)< (l.length:Int):=by omega
   have hleaf:l.all (zb1 c parent)=true:=List.all_eq_true.2 fun y hy=>by
    obtain⟨m,hm⟩:=List.mem_iff_getElem?.1 hy
    exact hall m y (List.getElem?_eq_some_iff.1 hm).1 hm
   have hz: ∀x∈l,aboveB c parent x=true:=fun x hx=>by
    have:=List.all_eq_true.1 hleaf x hx
    unfold zb1 at this
    rw [Bool.and_eq_true] at this
    exact this.1
   obtain⟨k1,k2,k3,k4⟩:=zpF h hp hro.symm hz
   have f5:=zpY env c h.toRight l (by omega) k1 parent
   have f6:=zlf env c h hs (deepA c parent l) k2 k3
   have hgl:=zle h k2 k3
   have f7:=zmu env c h hs parent (growL c (deepA c parent l)) (by omega) fun x hx=>((zcV h k2).1 hx).in h k3
   have hul:(upsL c l parent).length<=32:=by
    have:=zc2 k2 k3
    unfold deepA at this
    rw [List.length_append] at this
    have:=h.toRight.few
    omega
   have hf:Fits ((upsL c l parent).length+1) 8:=zah (by omega) (by omega)
   have hA:(deepA c parent l).map intAV=(upsL c l parent).map intAV++[[I parent]]:=by unfold deepA; rw [List.map_append]; rfl
   have hAl:(deepA c parent l).length=(upsL c l parent).length+1:=by unfold deepA; simp
   rw [hleaf,Bool.true_and]
   rw [hA] at f6
   rw [hAl]
   unfold zai at f5 f6 f7
   generalize growL c (deepA c parent l)=G at*
   generalize upsL c l parent=U at*
   by_cases hg:G.length=U.length+1
   ·have b2:((G.length:Int)==((U.length+1:Nat):Int))=true:=by simp [hg]
    rw [decide_eq_true hg,Bool.true_and]
    have F:=ai q1<|ai hf<|b2
    repeat (first | refine st ?_ | refine cC f5 ?_ | refine cC f6 ?_ | refine cC f7 ?_)
    exact aR
   ·have b2:((G.length:Int)==((U.length+1:Nat):Int))=false:=by simp; omega
    rw [decide_eq_false hg,Bool.false_and]
    have F:=ai q1<|ai hf<|b2
    repeat (first | refine st ?_ | refine cC f5 ?_ | refine cC f6 ?_)
    exact aR
 ·rw [decide_eq_false hcl] at hro
  have b1:(((Lib.compact l).length:Int)==(l.length:Int))=false:=by simp; omega
  rw [<-hro,Bool.false_and,Bool.false_and,Bool.false_and]
  unfold zai
  refine zaa Tryz.func169 rfl Tryz.call169 (by rw [Tryz.ntmps169]; simp) ?_
  rw [Tryz.ntmps169,Tryz.results169]
  have F:=b0
  repeat (first | refine st ?_ | refine cC f0 ?_ | refine cC f1 ?_)
  refine zfP 21 rfl (row:=⟨1,l.map intAV,3,true⟩) g1 (Nat.succ_ne_zero 0) rfl (zbc _).symm (by simp only [go_sem]; exact iR) (by simp only [go_sem]; exact iR) (by simp only [go_sem]; exact iR) (by simp only [go_sem]; exact iR) iR ?_
  rw [zbc]
  have F:=ai b0<|ai b1<|bneA
  repeat refine st ?_
  exact aR
end
section
theorem zhQ {c:ChD} (h:Full c) {k:Nat} {s:StD} (hs:c.states[k]? =some s) (h45:s.kind=4\/s.kind=5):zar c s.parent=true/\inZ c s.parent=true:=by
 have hpl:zaB c s=true:=by
  rcases h.cases hs with⟨e,_⟩ | ⟨e,_⟩ | ⟨e,_⟩ | ⟨_,_,e,_⟩
  ·omega
  ·omega
  ·omega
  ·exact e
 unfold zaB at hpl
 cases ha:at_ c s.parent with
 | none=>rw [ha] at hpl; cases hpl
 | some p=>
   rw [ha] at hpl
   refine⟨?_, ?_⟩
   ·unfold zar
    rw [ha]
    unfold zbV
    simp only at hpl |-
    rw [hpl]
    rfl
   ·unfold at_ at ha
    split at ha
    ·rename_i h0
     have:=(List.getElem?_eq_some_iff.1 ha).1
     exact zag.2 ⟨h0,by omega⟩
    ·cases ha
theorem zqh {c:ChD} {i:Int} (h:inZ c i=false):at_ c i=none:=by
 unfold at_
 split
 ·rename_i h0
  refine List.getElem?_eq_none ?_
  have: ¬(0<=i/\i< (c.states.length:Int)):=fun q=>by rw [zag.2 q] at h; cases h
  omega
 ·rfl
theorem zl8 (env:Env) (c:ChD) (h:Full c) (hs:Small c) (m:MemD) (hF:Fits m.2.length 8):Con Tryz.prog env 115 [zai c, .agg (mmAV m)] (B (memB c m)):=by
 obtain⟨i,l⟩:=m
 have hF:Fits l.length 8:=hF
 have f0:=zaG env c hs
 unfold memB mmAV
 simp only
 cases hz:inZ c i with
 | false=>
   rw [zqh hz]
   simp only
   unfold zai at f0 |-
   by_cases h0:i<0
   ·refine zaa Tryz.func115 rfl Tryz.call115 (by rw [Tryz.ntmps115]; simp) ?_
    rw [Tryz.ntmps115,Tryz.results115]
    have F:=ai chAV.eq_1<|h0
    repeat (first | refine st ?_ | refine cC f0 ?_)
    exact aR
   ·have h1:(c.states.length:Int)<=i:=by
     have: ¬(0<=i/\i< (c.states.length:Int)):=fun q=>by rw [zag.2 q] at hz; cases hz
     omega
    refine zaa Tryz.func115 rfl Tryz.call115 (by rw [Tryz.ntmps115]; simp) ?_
    rw [Tryz.ntmps115,Tryz.results115]
    have F:=ai chAV.eq_1<|ai h0<|h1
    repeat (first | refine st ?_ | refine cC f0 ?_)
    exact aR
 | true=>
 obtain⟨k,s,rfl,hsk,hat⟩:=zb0 hz
 have hk:=(List.getElem?_eq_some_iff.1 hsk).1
 have q1: ¬(k:Int)<0:=by omega
 have q2: ¬(c.states.length:Int)<=(k:Int):=by omega
 have q3:((k:Nat):Int)< (c.states.length:Int):=by omega
 rw [hat]
 simp only
 have hlen:=h.few
 by_cases h4:s.kind=4
 ·rw [if_pos h4]
  have b4:(s.kind==4)=true:=by simp [h4]
  obtain⟨p1,p2⟩:=zhQ h hsk (.inl h4)
  have f2:=zbI env c h s.parent
  rw [if_pos (.inr p2), <-ze8] at f2
  have hK:=zbz h.toRight s.parent true
  by_cases h1:l.length=1
  ·obtain⟨y,rfl⟩: ∃y,l=[y]:=List.length_eq_one_iff.1 h1
   have f3:=zb6 env (zL (kidsL c s.parent true)) y (by rw [zdQ]; omega)
   show Con _ _ _ _ (B ((zL (kidsL c s.parent true)).contains y))
   generalize zL (kidsL c s.parent true)=Z at*
   unfold zai at f0 f2 |-
   refine zaa Tryz.func115 rfl Tryz.call115 (by rw [Tryz.ntmps115]; simp) ?_
   rw [Tryz.ntmps115,Tryz.results115]
   have F:=ai chAV.eq_1<|ai stAV.eq_1<|ai hsk<|ai q1<|ai q2<|ai q3<|b4
   repeat (first | refine st ?_ | refine cC f0 ?_ | refine cC f2 ?_ | refine cC f3 ?_)
   exact aR
  ·have b1:((l.length:Int)==1)=false:=by simp; omega
   rw [decide_eq_false h1,Bool.false_and]
   unfold zai at f0 |-
   refine zaa Tryz.func115 rfl Tryz.call115 (by rw [Tryz.ntmps115]; simp) ?_
   rw [Tryz.ntmps115,Tryz.results115]
   have F:=ai chAV.eq_1<|ai stAV.eq_1<|ai hsk<|ai q1<|ai q2<|ai q3<|ai b4<|b1
   repeat (first | refine st ?_ | refine cC f0 ?_)
   exact aR
 ·rw [if_neg h4]
  have b4:(s.kind==4)=false:=by simpa using h4
  cases b5:(s.kind==5) with
  | false=>
    rw [Bool.false_and]
    unfold zai at f0 |-
    refine zaa Tryz.func115 rfl Tryz.call115 (by rw [Tryz.ntmps115]; simp) ?_
    rw [Tryz.ntmps115,Tryz.results115]
    have F:=ai chAV.eq_1<|ai stAV.eq_1<|ai hsk<|ai q1<|ai q2<|ai q3<|ai b4<|b5
    repeat (first | refine st ?_ | refine cC f0 ?_)
    exact aR
  | true=>
    rw [Bool.true_and]
    obtain⟨p1,p2⟩:=zhQ h hsk (.inr (by simpa using b5))
    have f2:=zpE env c h hs s.parent p1 l hF
    unfold zai at f0 f2 |-
    generalize deepB c s.parent l=D at*
    refine zaa Tryz.func115 rfl Tryz.call115 (by rw [Tryz.ntmps115]; simp) ?_
    rw [Tryz.ntmps115,Tryz.results115]
    have F:=ai chAV.eq_1<|ai stAV.eq_1<|ai hsk<|ai q1<|ai q2<|ai q3<|ai b4<|b5
    repeat (first | refine st ?_ | refine cC f0 ?_ | refine cC f2 ?_)
    exact aR
def chkM (a1:Addr) (c:ChD) (mem:List MemD):AV:=if zc3 c mem=true then nilE else errV (-1) (sentV a1)
theorem zfE {c:ChD} {mem:List MemD} {j:Nat} (hj:j<mem.length) (h:zgN c mem j=false):zc3 c mem=false:=by
 unfold zc3
 rw [List.all_eq_false]
 exact⟨j,List.mem_range.2 hj,by rw [h]; simp⟩
theorem ziJ {c:ChD} {mem:List MemD} (h: ∀j,j<mem.length->zgN c mem j=true):zc3 c mem=true:=by
 unfold zc3
 rw [List.all_eq_true]
 exact fun j hj=>h j (List.mem_range.1 hj)
theorem zeE (env:Env) (a1 a8:Addr) (he:ChEnv env a1 a8) (c:ChD) (h:Full c) (hs:Small c) (mem:List MemD) (hl:mem.length<=1000000) (hF: ∀m∈mem,Fits m.2.length 8):Con Tryz.prog env 59 [zai c,memsAV mem] (chkM a1 c mem):=by
 have ff:=zg9 env a1 a8 he [101,110,116,101,114,46,67,104,101,99,107]
 unfold chkM
 generalize sentV a1=E at*
 unfold zai
 refine zaa Tryz.func59 rfl Tryz.call59 (by rw [Tryz.ntmps59]; simp) ?_
 rw [Tryz.ntmps59,Tryz.results59]
 repeat refine st0 ?_
 refine zab (D:=Nat) (fun j vs=>[(0, .ref 9 [tabCells c] 0 0),(1,memsAV mem),(11,memsAV mem),(12,I mem.length),(13,I j)]) (fun _ _=>[]) (fun j _ _=>j<=mem.length/\ ∀m,m<j->zgN c mem m=true) (fun j=>mem.length-j) 0 ?_ ?_ ?_ ?_
 ·exact⟨Nat.zero_le _,fun m hm=>absurd hm (by omega)⟩
 ·(simp only [go_sem])
  try rfl
 ·(simp only [go_sem])
  try rfl
 rintro j ws esc ⟨hj,hall⟩
 by_cases hlt:j<mem.length
 ·obtain⟨x,hx⟩: ∃x,mem[j]? =some x:=⟨mem[j],List.getElem?_eq_getElem hlt⟩
  have q1:=nlt hlt
  have q2:=zac hlt (by omega)
  have f1:=zl8 env c h hs x (hF x (List.mem_of_getElem? hx))
  have hat:zgN c mem j=(memB c x&&((j==0)||decide ((mem.getD (j-1) (0,[])).1<x.1))):=by unfold zgN; rw [hx]
  unfold zai mmAV at f1
  cases hb:memB c x with
  | false=>
    rw [hb] at f1
    rw [if_neg (by rw [zfE hlt (by rw [hat,hb]; rfl)]; simp)]
    have F:=ai mmAV.eq_1<|ai hx<|q1
    repeat (first | refine st ?_ | refine cC f1 ?_ | refine cC ff ?_)
    exact aR
  | true=>
    rw [hb] at f1
    rw [hb,Bool.true_and] at hat
    by_cases h0:j=0
    ·have g0: ¬(0:Int)< (j:Int):=by omega
     have F:=ai mmAV.eq_1<|ai hx<|ai q1<|ai q2<|g0
     repeat (first | refine st ?_ | refine cC f1 ?_)
     refine⟨j+1,⟨hlt,fun m hm=> ?_⟩, ?_, ?_,by omega⟩
     ·obtain rfl:m=j:=by omega
      rw [hat,h0]
      rfl
     ·(simp only [go_sem,F])
     ·(simp only [go_sem,F])
    ·obtain⟨i,rfl⟩: ∃i,j=i+1:=⟨j-1,by omega⟩
     obtain⟨p,hp⟩: ∃p,mem[i]? =some p:=⟨mem[i]'(by omega),List.getElem?_eq_getElem (by omega)⟩
     have g0:(0:Int)< ((i+1:Nat):Int):=by omega
     have g1:IntKind.i64.wrap (((i+1:Nat):Int)-1)=(i:Int):=by rw [IntWalk.i64_in _ (by omega)]; omega
     have g2:((i:Nat):Int)< (mem.length:Int):=by omega
     have hgd:mem.getD (i+1-1) (0,[])=p:=by rw [Nat.add_sub_cancel,List.getD_eq_getElem?_getD,hp]; rfl
     rw [hgd] at hat
     by_cases hlt2:x.1<=p.1
     ·rw [if_neg (by rw [zfE hlt (by rw [hat,decide_eq_false (by omega)]; rfl)]; simp)]
      have F:=ai mmAV.eq_1<|ai hx<|ai hp<|ai q1<|ai g0<|ai g1<|ai g2<|hlt2
      repeat (first | refine st ?_ | refine cC f1 ?_ | refine cC ff ?_)
      exact aR
     ·have F:=ai mmAV.eq_1<|ai hx<|ai hp<|ai q1<|ai q2<|ai g0<|ai g1<|ai g2<|hlt2
      repeat (first | refine st ?_ | refine cC f1 ?_)
      refine⟨i+1+1,⟨hlt,fun m hm=> ?_⟩, ?_, ?_,by omega⟩
      ·rcases Nat.lt_succ_iff_lt_or_eq.1 hm with e | e
       ·exact hall m e
       ·rw [e,hat,decide_eq_true (by omega)]; simp
      ·(simp only [go_sem,F])
      ·(simp only [go_sem,F])
 ·obtain rfl:j=mem.length:=by omega
  have q1: ¬(mem.length:Int)< (mem.length:Int):=by omega
  rw [if_pos (ziJ hall)]
  have F:=q1
  repeat refine st ?_
  exact aR
end

end Go.Proofs.YtlmekdfleciejaaGreatDoor