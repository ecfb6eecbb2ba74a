/- Memories, as the document checks them: the whole. -/
import Derived.Test.YtnbjaghjdeicmaaGreatDoorG19
import Derived.Test.YtnbjaghjdeicmaaGreatDoorG10
import Derived.Test.YtnbjaghjdeicmaaGreatDoorG5
set_option maxRecDepth 100000
set_option maxHeartbeats 16000000
set_option linter.unusedSimpArgs false
namespace Go.Proofs.YtnbjaghjdeicmaaGreatDoor
open Go.RowKit
section
theorem znP (env:Env) (es:List (List AV)) (hl:Fits es.length 8):Con Tryz.prog env 93 [.seq 1 es] (.own 3 1 es):=by
 cases es with
 | nil=>exact znO env [] (by simp)
 | cons d l=>
   have g1:Fits ((l.length+1)) 8:=by simpa using hl
   refine zaa Tryz.func93 rfl Tryz.call93 (by rw [Tryz.ntmps93]; simp) ?_
   rw [Tryz.ntmps93,Tryz.results93]
   have F:=g1
   repeat refine st ?_
   exact aR
theorem zrq {c:ChD} (h:Full c) {parent:Int} (hp:zaM c parent=true) {l:List Int} (hr:zeC l=true) (hz: ∀x∈l,zax c parent x=true):(∀x∈l,inZ c x=true)/\(deepA c parent l).Nodup/\(∀x∈deepA c parent l,inZ c x=true)/\l.length<=32:=by
 have hin: ∀x∈l,inZ c x=true:=fun x hx=>zhw (hz x hx)
 obtain⟨un,um⟩:=zn5 (c:=c) (d:=parent) (l:=l)
 obtain⟨sp,hsp,_⟩:=zeV hp
 have hpz:inZ c parent=true:=by
  unfold at_ at hsp
  split at hsp
  ·rename_i h0
   have:=(List.getElem?_eq_some_iff.1 hsp).1
   exact zan.2 ⟨h0,by omega⟩
  ·cases hsp
 have habove: ∀x∈upsL c l parent,zax c parent x=true:=fun x hx=>by
  rcases (um x).1 hx with hx | ⟨_,_,_,_,hx⟩
  ·exact hz x hx
  ·exact hx
 have hnp:parent∉upsL c l parent:=fun hh=>by
  have:=habove _ hh
  unfold zax at this
  have:=(zgG h.toRight 40 parent parent (List.contains_iff_mem.1 this)).2
  omega
 refine⟨hin, ?_,fun x hx=> ?_, ?_⟩
 ·unfold deepA
  rw [List.nodup_append]
  refine⟨un,by simp,fun x hx y hy e=> ?_⟩
  rw [List.mem_singleton.1 hy] at e
  rw [e] at hx
  exact hnp hx
 ·unfold deepA at hx
  rcases List.mem_append.1 hx with hx | hx
  ·exact zhw (habove x hx)
  ·rw [List.mem_singleton.1 hx]; exact hpz
 ·have:=zer (zhV hr) hin
  have:=h.toRight.few
  omega
theorem zro (env:Env) (c:ChD) (h:Full c) (hs:Small c) (parent:Int) (hp:zaM c parent=true) (l:List Int) (hF:Fits l.length 8):Con Tryz.prog env 239 [zaU c,I parent, .seq 1 (l.map intAV)] (B (deepB c parent l)):=by
 have hl63:l.length<=9223372036854775807:=hF.2
 have f0:=zj0 env l hl63
 have f1:=znP env (l.map intAV) (by rw [List.length_map]; exact hF)
 have g1:=znJ l hl63
 have hro:=zsf l
 unfold deepB
 cases he:l with
 | nil=>
   rw [show zeC []=false from rfl,Bool.false_and,Bool.false_and,Bool.false_and]
   unfold zaU
   refine zaa Tryz.func239 rfl Tryz.call239 (by rw [Tryz.ntmps239]; simp) ?_
   rw [Tryz.ntmps239,Tryz.results239]
   repeat refine st0 ?_
   exact aR0
 | cons d0 l0=>
 rw [<-he]
 have hemp:l.isEmpty=false:=by rw [he]; rfl
 have b0:((l.length:Int)==0)=false:=by rw [he]; simp; omega
 rw [hemp,Bool.not_false,Bool.true_and] at hro
 cases hso:zdD l with
 | false=>
   rw [hso,Bool.false_and] at hro
   rw [hso] at f0
   rw [<-hro,Bool.false_and,Bool.false_and,Bool.false_and]
   unfold zaU
   refine zaa Tryz.func239 rfl Tryz.call239 (by rw [Tryz.ntmps239]; simp) ?_
   rw [Tryz.ntmps239,Tryz.results239]
   have F:=b0
   repeat (first | refine st ?_ | refine cC f0 ?_)
   exact aR
 | true=>
 rw [hso,Bool.true_and] at hro
 rw [hso] at f0
 by_cases hcl:(Lib.compact l).length=l.length
 ·rw [decide_eq_true hcl] at hro
  have b1:(((Lib.compact l).length:Int)==(l.length:Int))=true:=by simp [hcl]
  rw [<-hro,Bool.true_and]
  have f2:=fun k:Int=>zhO env c h.toRight parent k
  have f3:=zew env c
  unfold zaw at f2 f3
  have fr:=fun(k:Int)=>zb0 env c h k
  unfold zaU at f3 fr |-
  refine zaa Tryz.func239 rfl Tryz.call239 (by rw [Tryz.ntmps239]; simp) ?_
  rw [Tryz.ntmps239,Tryz.results239]
  have F:=b0
  repeat (first | refine st ?_ | refine cC f0 ?_ | refine cC f1 ?_)
  refine zjc 21 rfl (row:=⟨1,l.map intAV,3,true⟩) g1 (Nat.succ_ne_zero 0) rfl (ze0 _).symm (by simp only [go_sem]; exact iR) (by simp only [go_sem]; exact iR) (by simp only [go_sem]; exact iR) (by simp only [go_sem]; exact iR) iR ?_
  rw [ze0]
  have F:=ai b0<|ai b1<|bneA
  repeat refine st ?_
  refine zac (D:=Nat) (fun j vs=>[(0, .ref 9 [zaF c] 0 0),(1,I parent),(2, .seq 1 (l.map intAV)),(28, .seq 1 (l.map intAV)),(29,I l.length),(30,I j)]) (fun _ _=>[]) (fun j _ _=>j<=l.length/\ ∀m (y:Int),m<j->l[m]? =some y->zcP c parent y=true) (fun j=>l.length-j) 0 ?_ ?_ ?_ ?_
  ·exact⟨Nat.zero_le _,fun m y hm=>absurd hm (by omega)⟩
  ·(simp only [go_sem,F])
   try rfl
  ·(simp only [go_sem,F])
   try rfl
  rintro j ws esc ⟨hj,hall⟩
  by_cases hlt:j<l.length
  ·obtain⟨x,hx⟩: ∃x,l[j]? =some x:=⟨l[j],List.getElem?_eq_getElem hlt⟩
   have q1:=nlt hlt
   have q2:=zab hlt (by omega)
   have hxl:=List.mem_of_getElem? hx
   have e2:=f2 x
   have e4:=fr x
   have bad:zcP c parent x=false->(l.all (zcP c parent))=false:=fun hb=>List.all_eq_false.2 ⟨_,hxl,by rw [hb]; simp⟩
   cases ha:zax c parent x with
   | false=>
     rw [bad (by unfold zcP; rw [ha]; rfl),Bool.false_and,Bool.false_and]
     rw [ha] at e2
     have F:=ai hx<|q1
     repeat (first | refine st ?_ | refine cC f3 ?_ | refine cC e2 ?_)
     exact aR
   | true=>
     rw [ha] at e2
     rw [if_pos (.inr (zhw ha))] at e4
     cases hk:(kidsL c x true).isEmpty with
     | false=>
       rw [bad (by unfold zcP; rw [ha,hk]; rfl),Bool.false_and,Bool.false_and]
       have q3:(0:Int)< ((kidsL c x true).length:Int):=by
        cases hkk:kidsL c x true with
        | nil=>rw [hkk] at hk; cases hk
        | cons a b=>simp
       generalize kidsL c x true=K at*
       have F:=ai hx<|ai q1<|q3
       repeat (first | refine st ?_ | refine cC f3 ?_ | refine cC e2 ?_ | refine cC e4 ?_)
       exact aR
     | true=>
       have q3: ¬(0:Int)< ((kidsL c x true).length:Int):=by
        rw [List.isEmpty_iff.1 hk]; simp
       have hlf:zcP c parent x=true:=by unfold zcP; rw [ha,hk]; rfl
       generalize kidsL c x true=K at*
       have F:=ai hx<|ai q1<|ai q2<|q3
       repeat (first | refine st ?_ | refine cC f3 ?_ | refine cC e2 ?_ | refine cC e4 ?_)
       refine⟨j+1,⟨hlt,fun m y hm hy=> ?_⟩, ?_, ?_,by omega⟩
       ·rcases Nat.lt_succ_iff_lt_or_eq.1 hm with e | e
        ·exact hall m y e hy
        ·rw [e,hx] at hy; cases hy; exact hlf
       ·(simp only [go_sem,F])
       ·(simp only [go_sem,F])
  ·obtain rfl:j=l.length:=by omega
   have q1: ¬(l.length:Int)< (l.length:Int):=by omega
   have hleaf:l.all (zcP c parent)=true:=List.all_eq_true.2 fun y hy=>by
    obtain⟨m,hm⟩:=List.mem_iff_getElem?.1 hy
    exact hall m y (List.getElem?_eq_some_iff.1 hm).1 hm
   have hz: ∀x∈l,zax c parent x=true:=fun x hx=>by
    have:=List.all_eq_true.1 hleaf x hx
    unfold zcP at this
    rw [Bool.and_eq_true] at this
    exact this.1
   obtain⟨k1,k2,k3,k4⟩:=zrq h hp hro.symm hz
   have f5:=zsI env c h.toRight l (by omega) k1 parent
   have f6:=zq8 env c h hs (deepA c parent l) k2 k3
   have hgl:=zq7 h k2 k3
   have f7:=znM env c h hs parent (growL c (deepA c parent l)) (by omega) fun x hx=>((zef h k2).1 hx).in h k3
   have hul:(upsL c l parent).length<=32:=by
    have:=zer k2 k3
    unfold deepA at this
    rw [List.length_append] at this
    have:=h.toRight.few
    omega
   have hf:Fits ((upsL c l parent).length+1) 8:=zar (by omega) (by omega)
   have hA:(deepA c parent l).map intAV=(upsL c l parent).map intAV++[[I parent]]:=by unfold deepA; rw [List.map_append]; rfl
   have hAl:(deepA c parent l).length=(upsL c l parent).length+1:=by unfold deepA; simp
   rw [hleaf,Bool.true_and]
   rw [hA] at f6
   rw [hAl]
   unfold zaU at f5 f6 f7
   generalize growL c (deepA c parent l)=G at*
   generalize upsL c l parent=U at*
   by_cases hg:G.length=U.length+1
   ·have b2:((G.length:Int)==((U.length+1:Nat):Int))=true:=by simp [hg]
    rw [decide_eq_true hg,Bool.true_and]
    have F:=ai q1<|ai hf<|b2
    repeat (first | refine st ?_ | refine cC f5 ?_ | refine cC f6 ?_ | refine cC f7 ?_)
    exact aR
   ·have b2:((G.length:Int)==((U.length+1:Nat):Int))=false:=by simp; omega
    rw [decide_eq_false hg,Bool.false_and]
    have F:=ai q1<|ai hf<|b2
    repeat (first | refine st ?_ | refine cC f5 ?_ | refine cC f6 ?_)
    exact aR
 ·rw [decide_eq_false hcl] at hro
  have b1:(((Lib.compact l).length:Int)==(l.length:Int))=false:=by simp; omega
  rw [<-hro,Bool.false_and,Bool.false_and,Bool.false_and]
  unfold zaU
  refine zaa Tryz.func239 rfl Tryz.call239 (by rw [Tryz.ntmps239]; simp) ?_
  rw [Tryz.ntmps239,Tryz.results239]
  have F:=b0
  repeat (first | refine st ?_ | refine cC f0 ?_ | refine cC f1 ?_)
  refine zjc 21 rfl (row:=⟨1,l.map intAV,3,true⟩) g1 (Nat.succ_ne_zero 0) rfl (ze0 _).symm (by simp only [go_sem]; exact iR) (by simp only [go_sem]; exact iR) (by simp only [go_sem]; exact iR) (by simp only [go_sem]; exact iR) iR ?_
  rw [ze0]
  have F:=ai b0<|ai b1<|bneA
  repeat refine st ?_
  exact aR
end
section
theorem ziN {c:ChD} (h:Full c) {k:Nat} {s:StD} (hs:c.states[k]? =some s) (h45:s.kind=4\/s.kind=5):zaM c s.parent=true/\inZ c s.parent=true:=by
 have hpl:zaW c s=true:=by
  rcases h.cases hs with⟨e,_⟩ | ⟨e,_⟩ | ⟨e,_⟩ | ⟨_,_,e,_⟩
  ·omega
  ·omega
  ·omega
  ·exact e
 unfold zaW at hpl
 cases ha:at_ c s.parent with
 | none=>rw [ha] at hpl; cases hpl
 | some p=>
   rw [ha] at hpl
   refine⟨?_, ?_⟩
   ·unfold zaM
    rw [ha]
    unfold zcq
    simp only at hpl |-
    rw [hpl]
    rfl
   ·unfold at_ at ha
    split at ha
    ·rename_i h0
     have:=(List.getElem?_eq_some_iff.1 ha).1
     exact zan.2 ⟨h0,by omega⟩
    ·cases ha
theorem zr8 {c:ChD} {i:Int} (h:inZ c i=false):at_ c i=none:=by
 unfold at_
 split
 ·rename_i h0
  refine List.getElem?_eq_none ?_
  have: ¬(0<=i/\i< (c.states.length:Int)):=fun q=>by rw [zan.2 q] at h; cases h
  omega
 ·rfl
theorem znn (env:Env) (c:ChD) (h:Full c) (hs:Small c) (m:MemD) (hF:Fits m.2.length 8):Con Tryz.prog env 176 [zaU c, .agg (mmAV m)] (B (memB c m)):=by
 obtain⟨i,l⟩:=m
 have hF:Fits l.length 8:=hF
 have f0:=zca env c hs
 unfold memB mmAV
 simp only
 cases hz:inZ c i with
 | false=>
   rw [zr8 hz]
   simp only
   unfold zaU at f0 |-
   by_cases h0:i<0
   ·refine zaa Tryz.func176 rfl Tryz.call176 (by rw [Tryz.ntmps176]; simp) ?_
    rw [Tryz.ntmps176,Tryz.results176]
    have F:=ai chAV.eq_1<|h0
    repeat (first | refine st ?_ | refine cC f0 ?_)
    exact aR
   ·have h1:(c.states.length:Int)<=i:=by
     have: ¬(0<=i/\i< (c.states.length:Int)):=fun q=>by rw [zan.2 q] at hz; cases hz
     omega
    refine zaa Tryz.func176 rfl Tryz.call176 (by rw [Tryz.ntmps176]; simp) ?_
    rw [Tryz.ntmps176,Tryz.results176]
    have F:=ai chAV.eq_1<|ai h0<|h1
    repeat (first | refine st ?_ | refine cC f0 ?_)
    exact aR
 | true=>
 obtain⟨k,s,rfl,hsk,hat⟩:=zfh hz
 have hk:=(List.getElem?_eq_some_iff.1 hsk).1
 have q1: ¬(k:Int)<0:=by omega
 have q2: ¬(c.states.length:Int)<=(k:Int):=by omega
 have q3:((k:Nat):Int)< (c.states.length:Int):=by omega
 rw [hat]
 simp only
 have hlen:=h.few
 by_cases h4:s.kind=4
 ·rw [if_pos h4]
  have b4:(s.kind==4)=true:=by simp [h4]
  obtain⟨p1,p2⟩:=ziN h hsk (.inl h4)
  have f2:=zb0 env c h s.parent
  rw [if_pos (.inr p2), <-zlR] at f2
  have hK:=zcr h.toRight s.parent true
  by_cases h1:l.length=1
  ·obtain⟨y,rfl⟩: ∃y,l=[y]:=List.length_eq_one_iff.1 h1
   have f3:=zdm env (zL (kidsL c s.parent true)) y (by rw [zlQ]; omega)
   show Con _ _ _ _ (B ((zL (kidsL c s.parent true)).contains y))
   generalize zL (kidsL c s.parent true)=Z at*
   unfold zaU at f0 f2 |-
   refine zaa Tryz.func176 rfl Tryz.call176 (by rw [Tryz.ntmps176]; simp) ?_
   rw [Tryz.ntmps176,Tryz.results176]
   have F:=ai chAV.eq_1<|ai stAV.eq_1<|ai hsk<|ai q1<|ai q2<|ai q3<|b4
   repeat (first | refine st ?_ | refine cC f0 ?_ | refine cC f2 ?_ | refine cC f3 ?_)
   exact aR
  ·have b1:((l.length:Int)==1)=false:=by simp; omega
   rw [decide_eq_false h1,Bool.false_and]
   unfold zaU at f0 |-
   refine zaa Tryz.func176 rfl Tryz.call176 (by rw [Tryz.ntmps176]; simp) ?_
   rw [Tryz.ntmps176,Tryz.results176]
   have F:=ai chAV.eq_1<|ai stAV.eq_1<|ai hsk<|ai q1<|ai q2<|ai q3<|ai b4<|b1
   repeat (first | refine st ?_ | refine cC f0 ?_)
   exact aR
 ·rw [if_neg h4]
  have b4:(s.kind==4)=false:=by simpa using h4
  cases b5:(s.kind==5) with
  | false=>
    rw [Bool.false_and]
    unfold zaU at f0 |-
    refine zaa Tryz.func176 rfl Tryz.call176 (by rw [Tryz.ntmps176]; simp) ?_
    rw [Tryz.ntmps176,Tryz.results176]
    have F:=ai chAV.eq_1<|ai stAV.eq_1<|ai hsk<|ai q1<|ai q2<|ai q3<|ai b4<|b5
    repeat (first | refine st ?_ | refine cC f0 ?_)
    exact aR
  | true=>
    rw [Bool.true_and]
    obtain⟨p1,p2⟩:=ziN h hsk (.inr (by simpa using b5))
    have f2:=zro env c h hs s.parent p1 l hF
    unfold zaU at f0 f2 |-
    generalize deepB c s.parent l=D at*
    refine zaa Tryz.func176 rfl Tryz.call176 (by rw [Tryz.ntmps176]; simp) ?_
    rw [Tryz.ntmps176,Tryz.results176]
    have F:=ai chAV.eq_1<|ai stAV.eq_1<|ai hsk<|ai q1<|ai q2<|ai q3<|ai b4<|b5
    repeat (first | refine st ?_ | refine cC f0 ?_ | refine cC f2 ?_)
    exact aR
def chkM (a1:Addr) (c:ChD) (mem:List MemD):AV:=if ziM c mem=true then nilE else errV (-1) (sentV a1)
theorem zgs {c:ChD} {mem:List MemD} {j:Nat} (hj:j<mem.length) (h:ziP c mem j=false):ziM c mem=false:=by
 unfold ziM
 rw [List.all_eq_false]
 exact⟨j,List.mem_range.2 hj,by rw [h]; simp⟩
theorem zjN {c:ChD} {mem:List MemD} (h: ∀j,j<mem.length->ziP c mem j=true):ziM c mem=true:=by
 unfold ziM
 rw [List.all_eq_true]
 exact fun j hj=>h j (List.mem_range.1 hj)
theorem zqq (env:Env) (a1 a8:Addr) (he:ChEnv env a1 a8) (c:ChD) (h:Full c) (hs:Small c) (mem:List MemD) (hl:mem.length<=1000000) (hF: ∀m∈mem,Fits m.2.length 8):Con Tryz.prog env 89 [zaU c,memsAV mem] (chkM a1 c mem):=by
 have ff:=znA env a1 a8 he [101,110,116,101,114,46,67,104,101,99,107]
 unfold chkM
 generalize sentV a1=E at*
 unfold zaU
 refine zaa Tryz.func89 rfl Tryz.call89 (by rw [Tryz.ntmps89]; simp) ?_
 rw [Tryz.ntmps89,Tryz.results89]
 repeat refine st0 ?_
 refine zac (D:=Nat) (fun j vs=>[(0, .ref 9 [zaF c] 0 0),(1,memsAV mem),(11,memsAV mem),(12,I mem.length),(13,I j)]) (fun _ _=>[]) (fun j _ _=>j<=mem.length/\ ∀m,m<j->ziP c mem m=true) (fun j=>mem.length-j) 0 ?_ ?_ ?_ ?_
 ·exact⟨Nat.zero_le _,fun m hm=>absurd hm (by omega)⟩
 ·(simp only [go_sem])
  try rfl
 ·(simp only [go_sem])
  try rfl
 rintro j ws esc ⟨hj,hall⟩
 by_cases hlt:j<mem.length
 ·obtain⟨x,hx⟩: ∃x,mem[j]? =some x:=⟨mem[j],List.getElem?_eq_getElem hlt⟩
  have q1:=nlt hlt
  have q2:=zab hlt (by omega)
  have f1:=znn env c h hs x (hF x (List.mem_of_getElem? hx))
  have hat:ziP c mem j=(memB c x&&((j==0)||decide ((mem.getD (j-1) (0,[])).1<x.1))):=by unfold ziP; rw [hx]
  unfold zaU mmAV at f1
  cases hb:memB c x with
  | false=>
    rw [hb] at f1
    rw [if_neg (by rw [zgs hlt (by rw [hat,hb]; rfl)]; simp)]
    have F:=ai mmAV.eq_1<|ai hx<|q1
    repeat (first | refine st ?_ | refine cC f1 ?_ | refine cC ff ?_)
    exact aR
  | true=>
    rw [hb] at f1
    rw [hb,Bool.true_and] at hat
    by_cases h0:j=0
    ·have g0: ¬(0:Int)< (j:Int):=by omega
     have F:=ai mmAV.eq_1<|ai hx<|ai q1<|ai q2<|g0
     repeat (first | refine st ?_ | refine cC f1 ?_)
     refine⟨j+1,⟨hlt,fun m hm=> ?_⟩, ?_, ?_,by omega⟩
     ·obtain rfl:m=j:=by omega
      rw [hat,h0]
      rfl
     ·(simp only [go_sem,F])
     ·(simp only [go_sem,F])
    ·obtain⟨i,rfl⟩: ∃i,j=i+1:=⟨j-1,by omega⟩
     obtain⟨p,hp⟩: ∃p,mem[i]? =some p:=⟨mem[i]'(by omega),List.getElem?_eq_getElem (by omega)⟩
     have g0:(0:Int)< ((i+1:Nat):Int):=by omega
     have g1:IntKind.i64.wrap (((i+1:Nat):Int)-1)=(i:Int):=by rw [IntWalk.i64_in _ (by omega)]; omega
     have g2:((i:Nat):Int)< (mem.length:Int):=by omega
     have hgd:mem.getD (i+1-1) (0,[])=p:=by rw [Nat.add_sub_cancel,List.getD_eq_getElem?_getD,hp]; rfl
     rw [hgd] at hat
     by_cases hlt2:x.1<=p.1
     ·rw [if_neg (by rw [zgs hlt (by rw [hat,decide_eq_false (by omega)]; rfl)]; simp)]
      have F:=ai mmAV.eq_1<|ai hx<|ai hp<|ai q1<|ai g0<|ai g1<|ai g2<|hlt2
      repeat (first | refine st ?_ | refine cC f1 ?_ | refine cC ff ?_)
      exact aR
     ·have F:=ai mmAV.eq_1<|ai hx<|ai hp<|ai q1<|ai q2<|ai g0<|ai g1<|ai g2<|hlt2
      repeat (first | refine st ?_ | refine cC f1 ?_)
      refine⟨i+1+1,⟨hlt,fun m hm=> ?_⟩, ?_, ?_,by omega⟩
      ·rcases Nat.lt_succ_iff_lt_or_eq.1 hm with e | e
       ·exact hall m e
       ·rw [e,hat,decide_eq_true (by omega)]; simp
      ·(simp only [go_sem,F])
      ·(simp only [go_sem,F])
 ·obtain rfl:j=mem.length:=by omega
  have q1: ¬(mem.length:Int)< (mem.length:Int):=by omega
  rw [if_pos (zjN hall)]
  have F:=q1
  repeat refine st ?_
  exact aR
end
section
theorem zqF {l:List Int} {j:Nat} (hj:j<l.length) (h:upB l j=false):zeC l=false:=by
 unfold zeC
 rw [Bool.and_eq_false_iff]
 right
 rw [List.all_eq_false]
 exact⟨j,List.mem_range.2 hj,by rw [h]; simp⟩
theorem zqE {l:List Int} (h: ∀j,j<l.length->upB l j=true):zeC l=decide ((0:Int)< (l.length:Int)):=by
 unfold zeC
 rw [List.all_eq_true.2 fun j hj=>h j (List.mem_range.1 hj),Bool.and_true]
 cases l with
 | nil=>rfl
 | cons a b=>rw [decide_eq_true (by simp only [List.length_cons]; omega)]; rfl
theorem zlb (env:Env) (l:List Int) (hl:l.length<=9223372036854775807):Con Tryz.prog env 266 [.seq 1 (l.map intAV)] (B (zeC l)):=by
 refine zaa Tryz.func266 rfl Tryz.call266 (by rw [Tryz.ntmps266]; simp) ?_
 rw [Tryz.ntmps266,Tryz.results266]
 repeat refine st0 ?_
 refine zac (D:=Nat) (fun j vs=>[(0, .seq 1 (l.map intAV)),(3,I ((j+1:Nat):Int))]) (fun _ _=>[]) (fun j _ _=>j<=l.length/\ ∀m,m<=j->m<l.length->upB l m=true) (fun j=>l.length-j) 0 ?_ ?_ ?_ ?_
 ·refine⟨Nat.zero_le _,fun m h1 _=> ?_⟩
  obtain rfl:m=0:=by omega
  rfl
 ·(simp only [go_sem])
  try rfl
 ·(simp only [go_sem])
  try rfl
 rintro j ws esc ⟨hj,hall⟩
 by_cases hlt:j+1<l.length
 ·have h1:j<l.length:=by omega
  have x1:l[j+1]? =some (l.getD (j+1) 0):=by rw [List.getD_eq_getElem?_getD,List.getElem?_eq_getElem hlt]; rfl
  have x2:l[j]? =some (l.getD j 0):=by rw [List.getD_eq_getElem?_getD,List.getElem?_eq_getElem h1]; rfl
  have e3:IntKind.i64.wrap (((j+1:Nat):Int)-1)=(j:Int):=by rw [IntWalk.i64_in _ (by omega)]; omega
  have q1:((j+1:Nat):Int)< (l.length:Int):=by omega
  have q2:((j:Nat):Int)< (l.length:Int):=by omega
  have q3:=zab hlt (by omega)
  have hd:upB l (j+1)=decide (l.getD j 0<l.getD (j+1) 0):=by
   unfold upB
   rw [show (j+1==0)=false by simp,Bool.false_or,Nat.add_sub_cancel]
  generalize hX:l.getD (j+1) 0=X at*
  generalize hY:l.getD j 0=Y at*
  by_cases hb:X<=Y
  ·rw [zqF hlt (by rw [hd,decide_eq_false (by omega)])]
   have F:=ai q1<|ai q2<|ai x1<|ai x2<|ai e3<|hb
   repeat refine st ?_
   exact aR
  ·have F:=ai q1<|ai q2<|ai q3<|ai x1<|ai x2<|ai e3<|hb
   repeat refine st ?_
   refine⟨j+1,⟨by omega,fun m g1 g2=> ?_⟩, ?_, ?_,by omega⟩
   ·by_cases hm:m=j+1
    ·rw [hm,hd,decide_eq_true (by omega)]
    ·exact hall m (by omega) g2
   ·(simp only [go_sem,F])
   ·(simp only [go_sem,F])
 ·have q1: ¬((j+1:Nat):Int)< (l.length:Int):=by omega
  rw [zqE fun m hm=>hall m (by omega) hm]
  have F:=q1
  repeat refine st ?_
  exact aR
def zeS (c:ChD) (l:List Int) (d:Int) (j:Nat):List Nat:=(List.range j).filter (ziJ c l d)
theorem zlg (c:ChD) (l:List Int) (d:Int) (j:Nat):zeS c l d (j+1)=if ziJ c l d j then zeS c l d j++[j] else zeS c l d j:=by
 unfold zeS
 rw [List.range_succ,List.filter_append]
 cases hb:ziJ c l d j<;>simp [hb]
def pathIn (c:ChD) (l:List Int) (d:Int) (i:Nat) (m:Nat):Bool:=l.contains (i:Int)||(l.take m).any fun k=>zax c i k&&zax c d i
theorem zlh {c:ChD} {l:List Int} {d:Int} {i m:Nat} {y:Int} (h:l[m]? =some y):pathIn c l d i (m+1)=(pathIn c l d i m||(zax c i y&&zax c d i)):=by
 unfold pathIn
 rw [List.take_add_one,h,List.any_append]
 simp only [Option.toList_some,List.any_cons,List.any_nil,Bool.or_false,Bool.or_assoc]
theorem zoE (env:Env) (c:ChD) (hc:Right c) (l:List Int) (hl:l.length<=1000000) (d:Int):Con Tryz.prog env 161 [.agg (chAV c), .seq 1 (l.map intAV),I d] (.own 3 1 ((pathL c l d).map zaj)):=by
 have hlen:=hc.few
 have fA:=fun(k i:Int)=>zfR env c hc k i
 unfold chAV at fA
 refine zaa Tryz.func161 rfl Tryz.call161 (by rw [Tryz.ntmps161]; simp) ?_
 rw [Tryz.ntmps161,Tryz.results161]
 have F:=chAV.eq_1
 repeat refine st ?_
 refine zac (D:=Nat) (fun j vs=>[(1, .seq 1 (l.map intAV)),(2,I d),(3, .loc 3 (vs 3) 0 0),(7, .row 11 (vs 11)),(8,I j)]) (fun j _=>[(3,⟨5,[chAV c],26,false⟩),(11,⟨1,(zeS c l d j).map zaj,3,true⟩)]) (fun j _ esc=>j<=c.states.length/\esc 11=false) (fun j=>c.states.length-j) 0 ?_ ?_ ?_ ?_
 ·exact⟨Nat.zero_le _,rfl⟩
 ·(simp only [go_sem,F])
  try rfl
 ·have F:=chAV.eq_1
  (simp only [go_sem,F])
  try rfl
 rintro j ws esc ⟨hj,e0⟩
 by_cases hlt:j<c.states.length
 ·have q1:=nlt hlt
  have q2:=zab hlt (by omega)
  have f0:=zeR env l (j:Int) hl
  have hp:=zlg c l d j
  have hpl:(zeS c l d j).length<=32:=Nat.le_trans (List.length_filter_le ..) (by simp; omega)
  have hf:Fits ((zeS c l d j).length+1) 8:=zar (by omega) (by omega)
  have hpb:ziJ c l d j=pathIn c l d j l.length:=by unfold ziJ pathIn; rw [List.take_length]
  have z0:pathIn c l d j 0=l.contains (j:Int):=by unfold pathIn; simp
  generalize hPT:zeS c l d j=PT at*
  rw [<-z0] at f0
  have F:=ai chAV.eq_1<|ai q1<|e0
  repeat (first | refine st ?_ | refine cC f0 ?_)
  refine zac (D:=Nat) (fun m vs=>[(1, .seq 1 (l.map intAV)),(2,I d),(3, .loc 3 (vs 3) 0 0),(7, .row 11 (vs 11)),(8,I j),(9,B (pathIn c l d j m)),(10,I m)]) (fun m _=>[(3,⟨5,[chAV c],26,false⟩),(11,⟨1,PT.map zaj,3,true⟩)]) (fun m _ esc=>m<=l.length/\esc 11=false) (fun m=>l.length-m) 0 ?_ ?_ ?_ ?_
  ·exact⟨Nat.zero_le _,by simp only [go_sem,e0]⟩
  ·(simp only [go_sem,F])
   try rfl
  ·have F:=chAV.eq_1
   (simp only [go_sem,F])
   try rfl
  try clear e0
  rintro m us es ⟨hm,e0⟩
  by_cases hml:m<l.length
  ·obtain⟨y,hy⟩: ∃y,l[m]? =some y:=⟨l[m],List.getElem?_eq_getElem hml⟩
   have p1:=nlt hml
   have p2:=zab hml (by omega)
   have hn:=zlh (c:=c) (d:=d) (i:=j) hy
   have g1:=fA (j:Int) y
   have g2:=fA d (j:Int)
   generalize pathIn c l d j m=b at*
   cases b with
   | true=>
     rw [Bool.true_or] at hn
     have F:=ai chAV.eq_1<|ai hy<|ai p1<|ai p2<|e0
     repeat refine st ?_
     refine⟨m+1,⟨hml,by simp only [go_sem,e0]⟩, ?_, ?_,by omega⟩
     ·have F:=hn
      (simp only [go_sem,F])
     ·have F:=chAV.eq_1
      (simp only [go_sem,F])
   | false=>
     rw [Bool.false_or] at hn
     cases ha:zax c (j:Int) y with
     | false=>
       rw [ha] at g1
       rw [ha,Bool.false_and] at hn
       have F:=ai chAV.eq_1<|ai hy<|ai p1<|ai p2<|e0
       repeat (first | refine st ?_ | refine cC g1 ?_)
       refine⟨m+1,⟨hml,by simp only [go_sem,e0]⟩, ?_, ?_,by omega⟩
       ·have F:=hn
        (simp only [go_sem,F])
       ·have F:=chAV.eq_1
        (simp only [go_sem,F])
     | true=>
       rw [ha] at g1
       rw [ha,Bool.true_and] at hn
       have F:=ai chAV.eq_1<|ai hy<|ai p1<|ai p2<|e0
       repeat (first | refine st ?_ | refine cC g1 ?_ | refine cC g2 ?_)
       refine⟨m+1,⟨hml,by simp only [go_sem,e0]⟩, ?_, ?_,by omega⟩
       ·have F:=hn
        (simp only [go_sem,F])
       ·have F:=chAV.eq_1
        (simp only [go_sem,F])
  ·obtain rfl:m=l.length:=by omega
   have p1: ¬(l.length:Int)< (l.length:Int):=by omega
   rw [<-hpb]
   cases hb:ziJ c l d j with
   | true=>
     rw [hb] at hp
     have F:=ai chAV.eq_1<|ai p1<|ai q2<|ai e0<|hf
     repeat refine st ?_
     refine⟨j+1,⟨hlt,by simp only [go_sem,e0]⟩, ?_, ?_,by omega⟩
     ·(simp only [go_sem,F])
     ·have F:=ai chAV.eq_1<|ai hp<|zaj.eq_1
      (simp only [go_sem,List.map_append,F])
   | false=>
     rw [hb] at hp
     have F:=ai chAV.eq_1<|ai p1<|ai q2<|e0
     repeat refine st ?_
     refine⟨j+1,⟨hlt,by simp only [go_sem,e0]⟩, ?_, ?_,by omega⟩
     ·(simp only [go_sem,F])
     ·have F:=ai chAV.eq_1<|hp
      (simp only [go_sem,F])
 ·obtain rfl:j=c.states.length:=by omega
  have q1: ¬(c.states.length:Int)< (c.states.length:Int):=by omega
  rw [show pathL c l d=zeS c l d c.states.length from rfl]
  have F:=ai chAV.eq_1<|ai q1<|e0
  repeat refine st ?_
  exact aR
end
section
theorem zqO (c:ChD) (l:List Int) (d:Int):(pathL c l d).length<=c.states.length:=Nat.le_trans (List.length_filter_le ..) (by simp)
theorem zpZ {c:ChD} {parent:Int} (hp:inZ c parent=true) (l:List Int): ∀x∈deepRA c parent l,inZ c x=true:=fun x hx=>by
 unfold deepRA at hx
 rcases List.mem_append.1 hx with hx | hx
 ·obtain⟨k,hk,rfl⟩:=List.mem_map.1 hx
  exact zbF.2 (List.mem_range.1 (List.mem_filter.1 hk).1)
 ·rw [List.mem_singleton.1 hx]; exact hp
theorem zoG (env:Env) (c:ChD) (h:Full c) (parent:Int) (hp:inZ c parent=true) (l:List Int) (hF:Fits l.length 8):Con Tryz.prog env 213 [.agg (chAV c),I parent, .seq 1 (l.map intAV)] (B (zrp c parent l)):=by
 have hl63:l.length<=9223372036854775807:=hF.2
 have f0:=zlb env l hl63
 have hlen:=h.few
 have fA:=fun(i:Int)=>zfR env c h.toRight parent i
 have fK:=fun(i:Int)=>zbS env c i true (by omega)
 have fM:=fun(s:StD)=>zbi env s
 unfold chAV at fA fK
 unfold stAV at fM
 unfold zrp
 cases hr:zeC l with
 | false=>
   rw [hr] at f0
   rw [Bool.false_and,Bool.false_and]
   refine zaa Tryz.func213 rfl Tryz.call213 (by rw [Tryz.ntmps213]; simp) ?_
   rw [Tryz.ntmps213,Tryz.results213]
   have F:=chAV.eq_1
   repeat (first | refine st ?_ | refine cC f0 ?_)
   exact aR
 | true=>
 rw [hr] at f0
 rw [Bool.true_and]
 refine zaa Tryz.func213 rfl Tryz.call213 (by rw [Tryz.ntmps213]; simp) ?_
 rw [Tryz.ntmps213,Tryz.results213]
 have F:=chAV.eq_1
 repeat (first | refine st ?_ | refine cC f0 ?_)
 refine zac (D:=Nat) (fun j vs=>[(1,I parent),(2, .seq 1 (l.map intAV)),(3, .loc 3 (vs 3) 0 0),(7,I j)]) (fun _ _=>[(3,⟨5,[chAV c],26,false⟩)]) (fun j _ _=>j<=l.length/\ ∀m (y:Int),m<j->l[m]? =some y->zb2 c parent y=true) (fun j=>l.length-j) 0 ?_ ?_ ?_ ?_
 ·exact⟨Nat.zero_le _,fun m y hm=>absurd hm (by omega)⟩
 ·(simp only [go_sem,F])
  try rfl
 ·have F:=chAV.eq_1
  (simp only [go_sem,F])
  try rfl
 rintro j ws esc ⟨hj,hall⟩
 by_cases hlt:j<l.length
 ·obtain⟨x,hx⟩: ∃x,l[j]? =some x:=⟨l[j],List.getElem?_eq_getElem hlt⟩
  have q1:=nlt hlt
  have q2:=zab hlt (by omega)
  have hxl:=List.mem_of_getElem? hx
  have bad:zb2 c parent x=false->(l.all (zb2 c parent))=false:=fun hb=>List.all_eq_false.2 ⟨_,hxl,by rw [hb]; simp⟩
  have e2:=fA x
  cases ha:zax c parent x with
  | false=>
    rw [bad (by unfold zb2; rw [ha]; rfl),Bool.false_and]
    rw [ha] at e2
    have F:=ai chAV.eq_1<|ai hx<|q1
    repeat (first | refine st ?_ | refine cC e2 ?_)
    exact aR
  | true=>
    rw [ha] at e2
    obtain⟨k,s,rfl,hsk,hat⟩:=zfh (zhw ha)
    have hk:=(List.getElem?_eq_some_iff.1 hsk).1
    have q3:((k:Nat):Int)< (c.states.length:Int):=by omega
    have e3:=fM s
    have e4:=fK (k:Int)
    have hrl:zb2 c parent (k:Int)=(!zbh s&&(kidsL c k true).isEmpty):=by unfold zb2; rw [ha,hat,Bool.true_and]
    cases hm:zbh s with
    | true=>
      rw [bad (by rw [hrl,hm]; rfl),Bool.false_and]
      rw [hm] at e3
      have F:=ai chAV.eq_1<|ai stAV.eq_1<|ai hx<|ai q1<|ai q3<|hsk
      repeat (first | refine st ?_ | refine cC e2 ?_ | refine cC e3 ?_)
      exact aR
    | false=>
      rw [hm] at e3 hrl
      cases hkk:(kidsL c k true).isEmpty with
      | false=>
        rw [bad (by rw [hrl,hkk]; rfl),Bool.false_and]
        have q4:(0:Int)< ((kidsL c k true).length:Int):=by
         cases hh:kidsL c k true with
         | nil=>rw [hh] at hkk; cases hkk
         | cons a b=>simp
        generalize kidsL c (k:Int) true=K at*
        have F:=ai chAV.eq_1<|ai stAV.eq_1<|ai hx<|ai q1<|ai q3<|ai q4<|hsk
        repeat (first | refine st ?_ | refine cC e2 ?_ | refine cC e3 ?_ | refine cC e4 ?_)
        exact aR
      | true=>
        rw [hkk] at hrl
        have q4: ¬(0:Int)< ((kidsL c k true).length:Int):=by
         rw [List.isEmpty_iff.1 hkk]; simp
        generalize kidsL c (k:Int) true=K at*
        have F:=ai chAV.eq_1<|ai stAV.eq_1<|ai hx<|ai q1<|ai q2<|ai q3<|ai q4<|hsk
        repeat (first | refine st ?_ | refine cC e2 ?_ | refine cC e3 ?_ | refine cC e4 ?_)
        refine⟨j+1,⟨hlt,fun m y hm hy=> ?_⟩, ?_, ?_,by omega⟩
        ·rcases Nat.lt_succ_iff_lt_or_eq.1 hm with e | e
         ·exact hall m y e hy
         ·rw [e,hx] at hy; cases hy; rw [hrl]; rfl
        ·(simp only [go_sem,F])
        ·have F:=chAV.eq_1
         (simp only [go_sem,F])
 ·obtain rfl:j=l.length:=by omega
  have q1: ¬(l.length:Int)< (l.length:Int):=by omega
  have hleaf:l.all (zb2 c parent)=true:=List.all_eq_true.2 fun y hy=>by
   obtain⟨m,hm⟩:=List.mem_iff_getElem?.1 hy
   exact hall m y (List.getElem?_eq_some_iff.1 hm).1 hm
  have hz: ∀x∈l,inZ c x=true:=fun x hx=>by
   have:=List.all_eq_true.1 hleaf x hx
   unfold zb2 at this
   rw [Bool.and_eq_true,Bool.and_eq_true] at this
   exact zhw this.1.1
  have hl32:l.length<=32:=by
   have:=zer (zhV hr) hz
   omega
  have f5:=zoE env c h.toRight l (by omega) parent
  have hpl:=zqO c l parent
  have hf:Fits ((pathL c l parent).length+1) 8:=zar (by omega) (by omega)
  have hAin:=zpZ hp l
  have hA:(deepRA c parent l).map intAV=(pathL c l parent).map zaj++[[I parent]]:=by unfold deepRA; rw [List.map_append,zlR]; rfl
  have hAl:(deepRA c parent l).length<=40:=by unfold deepRA; rw [List.length_append,zlQ]; simp; omega
  rw [hleaf,Bool.true_and]
  unfold chAV at f5
  generalize deepRA c parent l=A at*
  generalize pathL c l parent=U at*
  try clear hall hleaf
  have F:=ai chAV.eq_1<|ai q1<|hf
  repeat (first | refine st ?_ | refine cC f5 ?_)
  refine zac (D:=Nat) (fun j vs=>[(3, .loc 3 (vs 3) 0 0),(8, .row 53 (vs 53)),(9,I j)]) (fun _ _=>[(3,⟨5,[chAV c],26,false⟩),(53,⟨1,A.map intAV,3,true⟩)]) (fun j _ _=>j<=A.length/\ ∀m (y:Int),m<j->A[m]? =some y->zb3 c A y=true) (fun j=>A.length-j) 0 ?_ ?_ ?_ ?_
  ·exact⟨Nat.zero_le _,fun m y hm=>absurd hm (by omega)⟩
  ·(simp only [go_sem,F])
   try rfl
  ·have F:=ai chAV.eq_1<|hA
   (simp only [go_sem,F])
   try rfl
  try clear q1 hlt hj hf
  rintro j us es ⟨hj,hall⟩
  by_cases hlt:j<A.length
  ·obtain⟨x,hx⟩: ∃x,A[j]? =some x:=⟨A[j],List.getElem?_eq_getElem hlt⟩
   have q1:=nlt hlt
   have q2:=zab hlt (by omega)
   have hxl:=List.mem_of_getElem? hx
   obtain⟨k,s,rfl,hsk,hat⟩:=zfh (hAin x hxl)
   have hk:=(List.getElem?_eq_some_iff.1 hsk).1
   have q3:((k:Nat):Int)< (c.states.length:Int):=by omega
   have e4:=fK (k:Int)
   have hK:=zcr h.toRight k true
   have e5:=zg0 env A (kidsL c k true) (by omega) (by omega)
   have hcv:zb3 c A (k:Int)= !(((s.kind==1)&&decide (manyI A (kidsL c k true)≠min (kidsL c k true).length 1))||((s.kind==2)&&decide (manyI A (kidsL c k true)≠(kidsL c k true).length))):=by unfold zb3; rw [hat]
   generalize kidsL c (k:Int) true=K at*
   generalize manyI A K=N at*
   have g1:((N:Int) != if (1:Int)< (K.length:Int) then 1 else(K.length:Int))=decide (N≠min K.length 1):=by
    have e:(if (1:Int)< (K.length:Int) then(1:Int) else(K.length:Int))=((min K.length 1:Nat):Int):=by split<;>omega
    rw [e]
    by_cases hh:N=min K.length 1
    ·rw [decide_eq_false (by simp [hh]), <-hh]; simp
    ·rw [decide_eq_true hh]; simp; omega
   have g2:((N:Int) != (K.length:Int))=decide (N≠K.length):=by
    by_cases hh:N=K.length
    ·rw [decide_eq_false (by simp [hh]), <-hh]; simp
    ·rw [decide_eq_true hh]; simp; omega
   generalize decide (N≠min K.length 1)=v1 at*
   generalize decide (N≠K.length)=v2 at*
   cases hC:zb3 c A (k:Int) with
   | false=>
     rw [show A.all (zb3 c A)=false from List.all_eq_false.2 ⟨_,hxl,by rw [hC]; simp⟩]
     cases h1:(s.kind==1)<;>cases h2:(s.kind==2)<;>cases v1<;>cases v2
     all_goals first
      |(exfalso; simp [hcv,h1,h2] at hC; done)
      | skip
     all_goals
      have F:=ai chAV.eq_1<|ai stAV.eq_1<|ai hx<|ai q1<|ai q3<|ai hsk<|ai h1<|ai h2<|ai g1<|g2
      repeat (first | refine st ?_ | refine cC e4 ?_ | refine cC e5 ?_)
      exact aR
   | true=>
     cases h1:(s.kind==1)<;>cases h2:(s.kind==2)<;>cases v1<;>cases v2
     all_goals first
      |(exfalso; simp [hcv,h1,h2] at hC; done)
      | skip
     all_goals
      have F:=ai chAV.eq_1<|ai stAV.eq_1<|ai hx<|ai q1<|ai q2<|ai q3<|ai hsk<|ai h1<|ai h2<|ai g1<|g2
      repeat (first | refine st ?_ | refine cC e4 ?_ | refine cC e5 ?_)
      refine⟨j+1,⟨hlt,fun m y hm hy=> ?_⟩, ?_, ?_,by omega⟩
      ·rcases Nat.lt_succ_iff_lt_or_eq.1 hm with e | e
       ·exact hall m y e hy
       ·rw [e,hx] at hy; cases hy; exact hC
      ·(simp only [go_sem,F])
      ·have F:=chAV.eq_1
       (simp only [go_sem,F])
  ·obtain rfl:j=A.length:=by omega
   have q1: ¬(A.length:Int)< (A.length:Int):=by omega
   rw [show A.all (zb3 c A)=true from List.all_eq_true.2 fun y hy=>by
    obtain⟨m,hm⟩:=List.mem_iff_getElem?.1 hy
    exact hall m y (List.getElem?_eq_some_iff.1 hm).1 hm]
   have F:=q1
   repeat refine st ?_
   exact aR
end
section
theorem ziH (env:Env) (c:ChD) (h:Full c) (m:MemD) (hF:Fits m.2.length 8):Con Tryz.prog env 137 [.agg (chAV c), .agg (mmAV m)] (B (memB c m)):=by
 obtain⟨i,l⟩:=m
 have hF:Fits l.length 8:=hF
 have f0:=zld env c i
 have hlen:=h.few
 unfold chAV at f0
 unfold memB mmAV
 simp only
 cases hz:inZ c i with
 | false=>
   rw [zr8 hz]
   rw [hz] at f0
   simp only
   refine zaa Tryz.func137 rfl Tryz.call137 (by rw [Tryz.ntmps137]; simp) ?_
   rw [Tryz.ntmps137,Tryz.results137]
   have F:=chAV.eq_1
   repeat (first | refine st ?_ | refine cC f0 ?_)
   exact aR
 | true=>
 rw [hz] at f0
 obtain⟨k,s,rfl,hsk,hat⟩:=zfh hz
 have hk:=(List.getElem?_eq_some_iff.1 hsk).1
 have q3:((k:Nat):Int)< (c.states.length:Int):=by omega
 rw [hat]
 simp only
 by_cases h4:s.kind=4
 ·rw [if_pos h4]
  have b4:(s.kind==4)=true:=by simp [h4]
  obtain⟨p1,p2⟩:=ziN h hsk (.inl h4)
  have f2:=zbS env c s.parent true (by omega)
  rw [<-zlR] at f2
  have hK:=zcr h.toRight s.parent true
  by_cases h1:l.length=1
  ·obtain⟨y,rfl⟩: ∃y,l=[y]:=List.length_eq_one_iff.1 h1
   have f3:=zeR env (zL (kidsL c s.parent true)) y (by rw [zlQ]; omega)
   show Con _ _ _ _ (B ((zL (kidsL c s.parent true)).contains y))
   unfold chAV at f2
   generalize zL (kidsL c s.parent true)=Z at*
   refine zaa Tryz.func137 rfl Tryz.call137 (by rw [Tryz.ntmps137]; simp) ?_
   rw [Tryz.ntmps137,Tryz.results137]
   have F:=ai chAV.eq_1<|ai stAV.eq_1<|ai hsk<|ai q3<|b4
   repeat (first | refine st ?_ | refine cC f0 ?_ | refine cC f2 ?_ | refine cC f3 ?_)
   exact aR
  ·have b1:((l.length:Int)==1)=false:=by simp; omega
   rw [decide_eq_false h1,Bool.false_and]
   refine zaa Tryz.func137 rfl Tryz.call137 (by rw [Tryz.ntmps137]; simp) ?_
   rw [Tryz.ntmps137,Tryz.results137]
   have F:=ai chAV.eq_1<|ai stAV.eq_1<|ai hsk<|ai q3<|ai b4<|b1
   repeat (first | refine st ?_ | refine cC f0 ?_)
   exact aR
 ·rw [if_neg h4]
  have b4:(s.kind==4)=false:=by simpa using h4
  cases b5:(s.kind==5) with
  | false=>
    rw [Bool.false_and]
    refine zaa Tryz.func137 rfl Tryz.call137 (by rw [Tryz.ntmps137]; simp) ?_
    rw [Tryz.ntmps137,Tryz.results137]
    have F:=ai chAV.eq_1<|ai stAV.eq_1<|ai hsk<|ai q3<|ai b4<|b5
    repeat (first | refine st ?_ | refine cC f0 ?_)
    exact aR
  | true=>
    rw [Bool.true_and]
    obtain⟨p1,p2⟩:=ziN h hsk (.inr (by simpa using b5))
    have f2:=zoG env c h s.parent p2 l hF
    rw [<-zpY h p1] at f2
    unfold chAV at f2
    generalize deepB c s.parent l=D at*
    refine zaa Tryz.func137 rfl Tryz.call137 (by rw [Tryz.ntmps137]; simp) ?_
    rw [Tryz.ntmps137,Tryz.results137]
    have F:=ai chAV.eq_1<|ai stAV.eq_1<|ai hsk<|ai q3<|ai b4<|b5
    repeat (first | refine st ?_ | refine cC f0 ?_ | refine cC f2 ?_)
    exact aR
theorem zjE (env:Env) (c:ChD) (h:Full c) (mem:List MemD) (hl:mem.length<=1000000) (hF: ∀m∈mem,Fits m.2.length 8):Con Tryz.prog env 58 [.agg (chAV c),memsAV mem] (B (ziM c mem)):=by
 refine zaa Tryz.func58 rfl Tryz.call58 (by rw [Tryz.ntmps58]; simp) ?_
 rw [Tryz.ntmps58,Tryz.results58]
 repeat refine st0 ?_
 refine zac (D:=Nat) (fun j vs=>[(1,memsAV mem),(2, .loc 2 (vs 2) 0 0),(5,I j)]) (fun _ _=>[(2,⟨5,[chAV c],26,false⟩)]) (fun j _ _=>j<=mem.length/\ ∀m,m<j->ziP c mem m=true) (fun j=>mem.length-j) 0 ?_ ?_ ?_ ?_
 ·exact⟨Nat.zero_le _,fun m hm=>absurd hm (by omega)⟩
 ·(simp only [go_sem])
  try rfl
 ·have F:=chAV.eq_1
  (simp only [go_sem,F])
  try rfl
 rintro j ws esc ⟨hj,hall⟩
 by_cases hlt:j<mem.length
 ·obtain⟨x,hx⟩: ∃x,mem[j]? =some x:=⟨mem[j],List.getElem?_eq_getElem hlt⟩
  have q1:=nlt hlt
  have q2:=zab hlt (by omega)
  have f1:=ziH env c h x (hF x (List.mem_of_getElem? hx))
  have hat:ziP c mem j=(memB c x&&((j==0)||decide ((mem.getD (j-1) (0,[])).1<x.1))):=by unfold ziP; rw [hx]
  unfold chAV mmAV at f1
  cases hb:memB c x with
  | false=>
    rw [hb] at f1
    rw [zgs hlt (by rw [hat,hb]; rfl)]
    have F:=ai chAV.eq_1<|ai mmAV.eq_1<|ai hx<|q1
    repeat (first | refine st ?_ | refine cC f1 ?_)
    exact aR
  | true=>
    rw [hb] at f1
    rw [hb,Bool.true_and] at hat
    by_cases h0:j=0
    ·have g0: ¬(0:Int)< (j:Int):=by omega
     have F:=ai chAV.eq_1<|ai mmAV.eq_1<|ai hx<|ai q1<|ai q2<|g0
     repeat (first | refine st ?_ | refine cC f1 ?_)
     refine⟨j+1,⟨hlt,fun m hm=> ?_⟩, ?_, ?_,by omega⟩
     ·obtain rfl:m=j:=by omega
      rw [hat,h0]
      rfl
     ·(simp only [go_sem,F])
     ·have F:=chAV.eq_1
      (simp only [go_sem,F])
    ·obtain⟨i,rfl⟩: ∃i,j=i+1:=⟨j-1,by omega⟩
     obtain⟨p,hp⟩: ∃p,mem[i]? =some p:=⟨mem[i]'(by omega),List.getElem?_eq_getElem (by omega)⟩
     have g0:(0:Int)< ((i+1:Nat):Int):=by omega
     have g1:IntKind.i64.wrap (((i+1:Nat):Int)-1)=(i:Int):=by rw [IntWalk.i64_in _ (by omega)]; omega
     have g2:((i:Nat):Int)< (mem.length:Int):=by omega
     have hgd:mem.getD (i+1-1) (0,[])=p:=by rw [Nat.add_sub_cancel,List.getD_eq_getElem?_getD,hp]; rfl
     rw [hgd] at hat
     by_cases hlt2:x.1<=p.1
     ·rw [zgs hlt (by rw [hat,decide_eq_false (by omega)]; rfl)]
      have F:=ai chAV.eq_1<|ai mmAV.eq_1<|ai hx<|ai hp<|ai q1<|ai g0<|ai g1<|ai g2<|hlt2
      repeat (first | refine st ?_ | refine cC f1 ?_)
      exact aR
     ·have F:=ai chAV.eq_1<|ai mmAV.eq_1<|ai hx<|ai hp<|ai q1<|ai q2<|ai g0<|ai g1<|ai g2<|hlt2
      repeat (first | refine st ?_ | refine cC f1 ?_)
      refine⟨i+1+1,⟨hlt,fun m hm=> ?_⟩, ?_, ?_,by omega⟩
      ·rcases Nat.lt_succ_iff_lt_or_eq.1 hm with e | e
       ·exact hall m e
       ·rw [e,hat,decide_eq_true (by omega)]; simp
      ·(simp only [go_sem,F])
      ·have F:=chAV.eq_1
       (simp only [go_sem,F])
 ·obtain rfl:j=mem.length:=by omega
  have q1: ¬(mem.length:Int)< (mem.length:Int):=by omega
  rw [zjN hall]
  have F:=q1
  repeat refine st ?_
  exact aR
end

end Go.Proofs.YtnbjaghjdeicmaaGreatDoor