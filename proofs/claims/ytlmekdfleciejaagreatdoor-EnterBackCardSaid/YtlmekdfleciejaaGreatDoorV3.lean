/- The law EnterBack. -/
import Derived.Test.YtlmekdfleciejaaGreatDoorV1
import Derived.Test.YtlmekdfleciejaaGreatDoorD7
set_option maxRecDepth 100000
set_option maxHeartbeats 16000000
set_option linter.unusedSimpArgs false
namespace Go.Proofs.YtlmekdfleciejaaGreatDoor
open Go.RowKit
theorem zss (c:ChD) (p y:Int) (mem:List MemD):Strs [.agg (chAV c), .agg [I p,Sg [],nilS,nilS,I y],memsAV mem] [.agg (chAV c), .agg (trAV ⟨p,[],[],[],y⟩),memsAV mem]:=
 .cons (.refl _) (.cons (.agg (.cons (.refl _) (.cons (.refl _) (.cons (.nil 2) (.cons (.nil 4) (.cons (.refl _) .nil)))))) (.cons (.refl _) .nil))
theorem zrF (env:Env) (a1 a8:Addr) (he:ChEnv env a1 a8) (hT: ∀W,env.inv W->TabAt W) (c:ChD) (hcf:zdq c) (act:List Int) (n:Int) (mem:List MemD) (hh:Int) (hF: ∀m∈mem,Fits m.2.length 8):Con Tryz.prog env 6 [.agg (zbG c act n mem),I hh] (B true):=by
 have fa:=zgA env a1 a8 he hT
 have fr:=zf3 env c act n mem
 cases hg:zfx c with
 | false=>
   have fm:=zge env c hg
   unfold zfc at fr
   rw [hg,Bool.not_false,Bool.true_or,Bool.true_or] at fr
   unfold chAV at fm
   unfold zbG at fr |-
   refine zaa Tryz.func6 rfl Tryz.call6 (by rw [Tryz.ntmps6]; simp) ?_
   rw [Tryz.ntmps6,Tryz.results6]
   repeat (first | refine st0 ?_ | refine cC0 fm ?_ | refine cC0 fr ?_ | refine cC0 fa ?_)
   exact aR0
 | true=>
 have h:=zi7 hg
 have hs:=zfA (zn8 hg)
 have fm:=zg1 env a1 a8 he hT c hcf hg
 cases hr:zfc c act mem with
 | true=>
   rw [hr] at fr
   unfold chAV zai at fm
   unfold zbG at fr |-
   refine zaa Tryz.func6 rfl Tryz.call6 (by rw [Tryz.ntmps6]; simp) ?_
   rw [Tryz.ntmps6,Tryz.results6]
   repeat (first | refine st0 ?_ | refine cC0 fm ?_ | refine cC0 fr ?_ | refine cC0 fa ?_)
   exact aR0
 | false=>
 rw [hr] at fr
 unfold zfc at hr
 rw [hg,Bool.not_true,Bool.false_or,Bool.or_eq_false_iff,decide_eq_false_iff_not,decide_eq_false_iff_not] at hr
 have hl:act.length<=1000:=by omega
 have hml:mem.length<=1000000:=by omega
 have fL:=zrs env c h act (by omega)
 have fC:=zfe env c h mem hml hF
 have fi:=zng env c n
 have fz:=zka env c hh
 unfold chAV at fL fC fi fz
 unfold chAV zai at fm
 unfold zbG at fr |-
 cases hb:lgB c act with
 | false=>
   rw [hb] at fL
   refine zaa Tryz.func6 rfl Tryz.call6 (by rw [Tryz.ntmps6]; simp) ?_
   rw [Tryz.ntmps6,Tryz.results6]
   repeat (first | refine st0 ?_ | refine cC0 fm ?_ | refine cC0 fr ?_ | refine cC0 fL ?_ | refine cC0 fC ?_ | refine cC0 fi ?_ | refine cC0 fz ?_ | refine cC0 fa ?_)
   exact aR0
 | true=>
 rw [hb] at fL
 cases hm:zc3 c mem with
 | false=>
   rw [hm] at fC
   refine zaa Tryz.func6 rfl Tryz.call6 (by rw [Tryz.ntmps6]; simp) ?_
   rw [Tryz.ntmps6,Tryz.results6]
   repeat (first | refine st0 ?_ | refine cC0 fm ?_ | refine cC0 fr ?_ | refine cC0 fL ?_ | refine cC0 fC ?_ | refine cC0 fi ?_ | refine cC0 fz ?_ | refine cC0 fa ?_)
   exact aR0
 | true=>
 rw [hm] at fC
 cases ht:isT c n with
 | false=>
   rw [ht] at fi
   refine zaa Tryz.func6 rfl Tryz.call6 (by rw [Tryz.ntmps6]; simp) ?_
   rw [Tryz.ntmps6,Tryz.results6]
   repeat (first | refine st0 ?_ | refine cC0 fm ?_ | refine cC0 fr ?_ | refine cC0 fL ?_ | refine cC0 fC ?_ | refine cC0 fi ?_ | refine cC0 fz ?_ | refine cC0 fa ?_)
   exact aR0
 | true=>
 rw [ht] at fi
 obtain⟨k,t,rfl,hk⟩:=zqV ht
 have hk1:=(List.getElem?_eq_some_iff.1 hk).1
 have q0:((k:Nat):Int)< (c.trans.length:Int):=by omega
 cases hz:inZ c hh with
 | false=>
   rw [hz] at fz
   refine zaa Tryz.func6 rfl Tryz.call6 (by rw [Tryz.ntmps6]; simp) ?_
   rw [Tryz.ntmps6,Tryz.results6]
   repeat (first | refine st0 ?_ | refine cC0 fm ?_ | refine cC0 fr ?_ | refine cC0 fL ?_ | refine cC0 fC ?_ | refine cC0 fi ?_ | refine cC0 fz ?_ | refine cC0 fa ?_)
   exact aR0
 | true=>
 rw [hz] at fz
 obtain⟨y,sy,rfl,hsy, -⟩:=zb0 hz
 have hyl:=(List.getElem?_eq_some_iff.1 hsy).1
 have q1:((y:Nat):Int)< (c.states.length:Int):=by omega
 have fY:=za1 env sy
 unfold stAV at fY
 cases hmy:zat sy with
 | false=>
   rw [hmy] at fY
   refine zaa Tryz.func6 rfl Tryz.call6 (by rw [Tryz.ntmps6]; simp) ?_
   rw [Tryz.ntmps6,Tryz.results6]
   have F:=ai stAV.eq_1<|ai hsy<|q1
   repeat (first | refine st ?_ | refine cC fm ?_ | refine cC fr ?_ | refine cC fL ?_ | refine cC fC ?_ | refine cC fi ?_ | refine cC fz ?_ | refine cC fY ?_ | refine cC fa ?_)
   exact aR
 | true=>
 rw [hmy] at fY
 obtain⟨-, -, -,hpz, -⟩:=zqw h hsy hmy
 have fl:=zrU env a1 a8 he c h hs act hl k t hk mem hml hF hb hm
 have hgood:=(zru (t:=t) h hb hm).2
 have hRl:=zrw (zrO hgood)
 have hfew:=h.few
 have hrl:(riseL c (outL c act t mem)).length<=32:=Nat.le_trans (List.length_filter_le ..) (by rw [List.length_range]; omega)
 rw [zrH h hb,ze8] at fl
 have fL2:=zrs env c h (zL (riseL c (outL c act t mem))) (by rw [zdQ]; omega)
 rw [ze8] at fL2
 have hgood':=hgood
 unfold chAV at fL2
 unfold zai at fl
 have fI1:=zdF env act sy.parent (by omega)
 have fI2:=zdF env (zL (riseL c (outL c act t mem))) sy.parent (by rw [zdQ]; omega)
 rw [ze8] at fI2
 cases h1:act.contains sy.parent with
 | false=>
   rw [h1] at fI1
   generalize nowL c act t mem=R at*
   generalize riseL c (outL c act t mem)=W at*
   refine zaa Tryz.func6 rfl Tryz.call6 (by rw [Tryz.ntmps6]; simp) ?_
   rw [Tryz.ntmps6,Tryz.results6]
   have F:=ai stAV.eq_1<|ai hsy<|q1
   repeat (first | refine st ?_ | refine cC fm ?_ | refine cC fr ?_ | refine cC fL ?_ | refine cC fC ?_ | refine cC fi ?_ | refine cC fz ?_ | refine cC fY ?_ | refine cC fl ?_ | refine cC fI1 ?_ | refine cC fa ?_)
   exact aR
 | true=>
 rw [h1] at fI1
 cases h2:(zL (riseL c (outL c act t mem))).contains sy.parent with
 | true=>
   rw [h2] at fI2
   generalize nowL c act t mem=R at*
   generalize riseL c (outL c act t mem)=W at*
   refine zaa Tryz.func6 rfl Tryz.call6 (by rw [Tryz.ntmps6]; simp) ?_
   rw [Tryz.ntmps6,Tryz.results6]
   have F:=ai stAV.eq_1<|ai hsy<|q1
   repeat (first | refine st ?_ | refine cC fm ?_ | refine cC fr ?_ | refine cC fL ?_ | refine cC fC ?_ | refine cC fi ?_ | refine cC fz ?_ | refine cC fY ?_ | refine cC fl ?_ | refine cC fI1 ?_ | refine cC fI2 ?_ | refine cC fa ?_)
   exact aR
 | false=>
 rw [h2] at fI2
 cases h3:lgB c (zL (riseL c (outL c act t mem))) with
 | false=>
   rw [h3] at fL2
   generalize nowL c act t mem=R at*
   generalize riseL c (outL c act t mem)=W at*
   refine zaa Tryz.func6 rfl Tryz.call6 (by rw [Tryz.ntmps6]; simp) ?_
   rw [Tryz.ntmps6,Tryz.results6]
   have F:=ai stAV.eq_1<|ai hsy<|q1
   repeat (first | refine st ?_ | refine cC fm ?_ | refine cC fr ?_ | refine cC fL ?_ | refine cC fC ?_ | refine cC fi ?_ | refine cC fz ?_ | refine cC fY ?_ | refine cC fl ?_ | refine cC fI1 ?_ | refine cC fI2 ?_ | refine cC fL2 ?_ | refine cC fa ?_)
   exact aR
 | true=>
 rw [h3] at fL2
 have hp:sy.parent∈leaveR c act t:=Classical.byContradiction fun hn=>by
  have:=(zr2 (mem:=mem) h hb).2 (.inr ⟨List.contains_iff_mem.1 h1,hn⟩)
  rw [List.contains_iff_mem.2 this] at h2
  cases h2
 have hback: ∀x:Int,x=sy.parent\/(sy.kind=5/\x∈underL c act sy.parent)\/(x∈kidZ c sy.parent/\x∈act)->(zL (tgtL c sy.parent y (nowL c act t mem))).contains x=true:=fun x hx=>
  List.contains_iff_mem.2 ((zsg h hpz hz hgood).2 (back_of h (lg_out hb) hm (fun z hz'=>zrI h hb hz') hsy hmy hp hx))
 have hz0: ∀x∈act,0<=x:=fun x hx=>by
  obtain⟨_,_,hz,_⟩:=(lg_out hb).of hx
  exact(zag.1 hz).1
 have fT:Con Tryz.prog env 53 _ _:=(zhJ env c h ⟨sy.parent,[],[],[],(y:Int)⟩ hpz hz (nowL c act t mem) (by omega) hgood).args (zss c sy.parent y (nowL c act t mem))
 have fU:=rUnder30_con env c h.toRight act (by omega) hz0 sy.parent
 have fK:=zbw env c sy.parent true (by omega)
 have hUm: ∀x∈undR c act sy.parent,x∈act/\x∈underL c act sy.parent:=fun x hx=>by
  unfold undR at hx
  have h4:=List.mem_filter.1 hx
  have h5:=(sort_memI h.toRight fun y hy=>by
   obtain⟨_,_,hz,_⟩:=(lg_out hb).of hy
   exact hz).1 h4.1
  exact⟨h5,List.mem_filter.2 ⟨h5,h4.2⟩⟩
 have hUl:(undR c act sy.parent).length<=32:=Nat.le_trans (List.length_filter_le ..) (by rw [zdQ]; exact zin h.toRight act)
 have hKl:=zbz h.toRight sy.parent true
 have hTl:(tgtL c sy.parent y (nowL c act t mem)).length<=32:=zj3 h
 have hKZ:kidZ c sy.parent=zL (kidsL c sy.parent true):=rfl
 have fB:=fun x:Int=>zdF env (zL (tgtL c sy.parent y (nowL c act t mem))) x (by rw [zdQ]; omega)
 have fJ:=fun x:Int=>zdF env (zL (kidsL c sy.parent true)) x (by rw [zdQ]; omega)
 rw [hKZ] at hback
 rw [ze8] at fB fJ
 unfold chAV at fT fU fK
 generalize underL c act sy.parent=V at*
 generalize undR c act sy.parent=U at*
 generalize kidsL c sy.parent true=K at*
 generalize tgtL c sy.parent y (nowL c act t mem)=T at*
 generalize nowL c act t mem=R at*
 generalize riseL c (outL c act t mem)=W at*
 refine zaa Tryz.func6 rfl Tryz.call6 (by rw [Tryz.ntmps6]; simp) ?_
 rw [Tryz.ntmps6,Tryz.results6]
 have F:=ai stAV.eq_1<|ai hsy<|q1
 repeat (first | refine st ?_ | refine cC fm ?_ | refine cC fr ?_ | refine cC fL ?_ | refine cC fC ?_ | refine cC fi ?_ | refine cC fz ?_ | refine cC fY ?_ | refine cC fl ?_ | refine cC fI1 ?_ | refine cC fI2 ?_ | refine cC fL2 ?_ | refine cC fT ?_ | refine cC fU ?_ | refine cC fK ?_)
 refine zab (D:=Nat) (fun j vs=>[(1,I y),(2, .loc 2 (vs 2) 0 0),(6,I sy.parent),(10, .row 113 (vs 113)),(11, .row 119 (vs 119)),(12, .row 123 (vs 123)),(13,I j)]) (fun _ _=>[(2,⟨8,[[Sg c.name,I c.initial,varsAV c.vars,stsAV c.states,trsAV c.trans, .seq 1 (act.map intAV),I k,memsAV mem]],65,false⟩),(113,⟨1,T.map zae,3,true⟩),(119,⟨1,U.map intAV,3,true⟩),(123,⟨1,K.map zae,3,true⟩)]) (fun j _ _=>j<=U.length) (fun j=>U.length-j) 0 ?_ ?_ ?_ ?_
 ·exact Nat.zero_le _
 ·(simp only [go_sem,F])
  try rfl
 ·(simp only [go_sem,F])
  try rfl
 rintro j ws esc hj
 by_cases hlt:j<U.length
 ·obtain⟨x,hx⟩: ∃x,U[j]? =some x:=⟨U[j],List.getElem?_eq_getElem hlt⟩
  have p1:=nlt hlt
  have p2:=zac hlt (by omega)
  obtain⟨u1,u2⟩:=hUm x (List.mem_of_getElem? hx)
  have g1:=fJ x
  have g2:=fB x
  by_cases hk5:sy.kind=5
  ·have b5:(sy.kind==5)=true:=by simp [hk5]
   rw [hback x (.inr (.inl ⟨hk5,u2⟩))] at g2
   cases hc:(zL K).contains x with
   | true=>
     rw [hc] at g1
     have F:=ai stAV.eq_1<|ai hsy<|ai hx<|ai q1<|ai p1<|ai p2<|b5
     repeat (first | refine st ?_ | refine cC g1 ?_ | refine cC g2 ?_)
     refine⟨j+1,hlt, ?_, ?_,by omega⟩
     ·(simp only [go_sem,F])
     ·(simp only [go_sem,F])
   | false=>
     rw [hc] at g1
     have F:=ai stAV.eq_1<|ai hsy<|ai hx<|ai q1<|ai p1<|ai p2<|b5
     repeat (first | refine st ?_ | refine cC g1 ?_ | refine cC g2 ?_)
     refine⟨j+1,hlt, ?_, ?_,by omega⟩
     ·(simp only [go_sem,F])
     ·(simp only [go_sem,F])
  ·have b5:(sy.kind==5)=false:=by simpa using hk5
   cases hc:(zL K).contains x with
   | true=>
     rw [hc] at g1
     rw [hback x (.inr (.inr ⟨List.contains_iff_mem.1 hc,u1⟩))] at g2
     have F:=ai stAV.eq_1<|ai hsy<|ai hx<|ai q1<|ai p1<|ai p2<|b5
     repeat (first | refine st ?_ | refine cC g1 ?_ | refine cC g2 ?_)
     refine⟨j+1,hlt, ?_, ?_,by omega⟩
     ·(simp only [go_sem,F])
     ·(simp only [go_sem,F])
   | false=>
     rw [hc] at g1
     have F:=ai stAV.eq_1<|ai hsy<|ai hx<|ai q1<|ai p1<|ai p2<|b5
     repeat (first | refine st ?_ | refine cC g1 ?_)
     refine⟨j+1,hlt, ?_, ?_,by omega⟩
     ·(simp only [go_sem,F])
     ·(simp only [go_sem,F])
 ·obtain rfl:j=U.length:=by omega
  have p1: ¬(U.length:Int)< (U.length:Int):=by omega
  have g2:=fB sy.parent
  rw [hback _ (.inl rfl)] at g2
  have F:=p1
  repeat (first | refine st ?_ | refine cC g2 ?_ | refine cC fa ?_)
  exact aR
end Go.Proofs.YtlmekdfleciejaaGreatDoor
