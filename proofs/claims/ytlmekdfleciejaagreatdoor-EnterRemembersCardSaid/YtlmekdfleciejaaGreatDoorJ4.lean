/- A list of ints that came in. -/
import Derived.Test.YtlmekdfleciejaaGreatDoorJ1
import Derived.Test.YtlmekdfleciejaaGreatDoorJ3
import Derived.Test.YtlmekdfleciejaaGreatDoorD7
import Derived.Test.YtlmekdfleciejaaGreatDoorD47
import Derived.Test.YtlmekdfleciejaaGreatDoorD50
set_option maxRecDepth 100000
set_option maxHeartbeats 16000000
set_option linter.unusedSimpArgs false
namespace Go.Proofs.YtlmekdfleciejaaGreatDoor
section
open Go.RowKit
theorem zrG (env:Env) (c:ChD) (h:Full c) (act:List Int) (hl:act.length<=1000000):Con Tryz.prog env 46 [.agg (chAV c), .seq 1 (act.map intAV)] (B (lgB c act)):=by
 have f0:=rCheck29g_con env c h act hl
 unfold lgB
 refine zaa Tryz.func46 rfl Tryz.call46 (by rw [Tryz.ntmps46]; simp) ?_
 rw [Tryz.ntmps46,Tryz.results46]
 have F:=chAV.eq_1
 repeat (first | refine st ?_ | refine cC f0 ?_)
 exact aR
def cgI (act gone:List Int) (j:Nat):Int:=if ((gone.take j).all fun x=>act.contains x)=true then 0 else 1
theorem zsC {act gone:List Int} {j:Nat} {x:Int} (h:gone[j]? =some x):cgI act gone (j+1)=if act.contains x=true then cgI act gone j else 1:=by
 have e:((gone.take (j+1)).all fun x=>act.contains x)=(((gone.take j).all fun x=>act.contains x)&&act.contains x):=by
  rw [List.take_add_one,h,List.all_append]
  simp only [Option.toList_some,List.all_cons,List.all_nil,Bool.and_true]
 unfold cgI
 rw [e]
 generalize ((gone.take j).all fun x=>act.contains x)=d
 generalize act.contains x=b
 cases b<;>cases d<;>rfl
theorem zsK {act gone:List Int} :cgI act gone gone.length=if zrW act gone=true then 0 else 1:=by unfold cgI zrW; rw [List.take_length]
theorem zrt (ad:Nat->Addr) (c:ChD) (hcf:zdq c) (act:List Int) (n:Int) (mem:List MemD) (gone:List Int) (hF: ∀m∈mem,Fits m.2.length 8):Con Tryz.prog (zaI ad zaJ) 11 [.agg (zbG c act n mem), .seq 1 (gone.map intAV)] (B true):=by
 have he:=zk8 ad
 have fa:=zgA (zaI ad zaJ) (ad 1) (ad 8) he (zem ad)
 have fr:=zf3 (zaI ad zaJ) c act n mem
 cases hg:zfx c with
 | false=>
   have fm:=zge (zaI ad zaJ) c hg
   unfold zfc at fr
   rw [hg,Bool.not_false,Bool.true_or,Bool.true_or] at fr
   unfold chAV at fm
   unfold zbG at fr |-
   by_cases hG:60< (gone.length:Int)
   ·refine zaa Tryz.func11 rfl Tryz.call11 (by rw [Tryz.ntmps11]; simp) ?_
    rw [Tryz.ntmps11,Tryz.results11]
    have F:=hG
    repeat (first | refine st ?_ | refine cC fm ?_ | refine cC fr ?_ | refine cC fa ?_)
    exact aR
   ·refine zaa Tryz.func11 rfl Tryz.call11 (by rw [Tryz.ntmps11]; simp) ?_
    rw [Tryz.ntmps11,Tryz.results11]
    have F:=hG
    repeat (first | refine st ?_ | refine cC fm ?_ | refine cC fr ?_ | refine cC fa ?_)
    exact aR
 | true=>
 have h:=zi7 hg
 have hs:=zfA (zn8 hg)
 have fm:=zg1 (zaI ad zaJ) (ad 1) (ad 8) he (zem ad) c hcf hg
 cases hr:zfc c act mem with
 | true=>
   rw [hr] at fr
   unfold chAV zai at fm
   unfold zbG at fr |-
   by_cases hG:60< (gone.length:Int)
   ·refine zaa Tryz.func11 rfl Tryz.call11 (by rw [Tryz.ntmps11]; simp) ?_
    rw [Tryz.ntmps11,Tryz.results11]
    have F:=hG
    repeat (first | refine st ?_ | refine cC fm ?_ | refine cC fr ?_ | refine cC fa ?_)
    exact aR
   ·refine zaa Tryz.func11 rfl Tryz.call11 (by rw [Tryz.ntmps11]; simp) ?_
    rw [Tryz.ntmps11,Tryz.results11]
    have F:=hG
    repeat (first | refine st ?_ | refine cC fm ?_ | refine cC fr ?_ | refine cC fa ?_)
    exact aR
 | false=>
 rw [hr] at fr
 unfold zfc at hr
 rw [hg,Bool.not_true,Bool.false_or,Bool.or_eq_false_iff,decide_eq_false_iff_not,decide_eq_false_iff_not] at hr
 by_cases hG:60< (gone.length:Int)
 ·unfold chAV zai at fm
  unfold zbG at fr |-
  refine zaa Tryz.func11 rfl Tryz.call11 (by rw [Tryz.ntmps11]; simp) ?_
  rw [Tryz.ntmps11,Tryz.results11]
  have F:=hG
  repeat (first | refine st ?_ | refine cC fm ?_ | refine cC fr ?_ | refine cC fa ?_)
  exact aR
 have hl:act.length<=4000:=by omega
 have hml:mem.length<=1000000:=by omega
 have hgl:gone.length<=1000000:=by omega
 have fL:=zrG (zaI ad zaJ) c h act (by omega)
 have fC:=zfe (zaI ad zaJ) c h mem hml hF
 have fI:=fun x:Int=>zdF (zaI ad zaJ) act x (by omega)
 cases hb:lgB c act with
 | false=>
   rw [hb] at fL
   have fl:=zrS (zaI ad zaJ) (ad 1) (ad 8) he c h hs act gone (by omega) mem hb
   generalize (ziO c act).2=p at*
   have ft:Con Tryz.prog (zaI ad zaJ) 58 [errV (-1) (errV p (sentV (ad 1))),I 1] (B true):=zdZ ad zaJ 1 (by omega) (-1) [p]
   generalize sentV (ad 1)=E at*
   unfold chAV at fL fC
   unfold chAV zai at fm
   unfold zai at fl
   unfold zbG at fr |-
   refine zaa Tryz.func11 rfl Tryz.call11 (by rw [Tryz.ntmps11]; simp) ?_
   rw [Tryz.ntmps11,Tryz.results11]
   have F:=hG
   repeat (first | refine st ?_ | refine cC fm ?_ | refine cC fr ?_ | refine cC fl ?_ | refine cC fL ?_ | refine cC fC ?_)
   refine zab (D:=Nat) (fun j vs=>[(1, .seq 1 (gone.map intAV)),(2, .loc 2 (vs 2) 0 0),(6,nilS),(7,errV (-1) (errV p E)),(8,I 1),(9,I j)]) (fun _ _=>[(2,⟨8,[[Sg c.name,I c.initial,varsAV c.vars,stsAV c.states,trsAV c.trans, .seq 1 (act.map intAV),I n,memsAV mem]],65,false⟩)]) (fun j _ _=>j<=gone.length) (fun j=>gone.length-j) 0 ?_ ?_ ?_ ?_
   ·exact Nat.zero_le _
   ·(simp only [go_sem,F])
    try rfl
   ·(simp only [go_sem,F])
    try rfl
   rintro j ws esc hj
   by_cases hlt:j<gone.length
   ·obtain⟨x,hx⟩: ∃x,gone[j]? =some x:=⟨gone[j],List.getElem?_eq_getElem hlt⟩
    have q1:=nlt hlt
    have q2:=zac hlt (by omega)
    have f0:=fI x
    cases hc:act.contains x with
    | false=>
      rw [hc] at f0
      have F:=ai hx<|ai q1<|q2
      repeat (first | refine st ?_ | refine cC f0 ?_)
      refine⟨j+1,hlt, ?_, ?_,by omega⟩
      ·(simp only [go_sem,F])
      ·(simp only [go_sem,F])
    | true=>
      rw [hc] at f0
      have F:=ai hx<|ai q1<|q2
      repeat (first | refine st ?_ | refine cC f0 ?_)
      refine⟨j+1,hlt, ?_, ?_,by omega⟩
      ·(simp only [go_sem,F])
      ·(simp only [go_sem,F])
   ·obtain rfl:j=gone.length:=by omega
    have q1: ¬(gone.length:Int)< (gone.length:Int):=by omega
    have F:=q1
    repeat (first | refine st ?_ | refine cC ft ?_ | refine cC fa ?_)
    exact aR
 | true=>
 rw [hb] at fL
 cases hm:zc3 c mem with
 | false=>
   rw [hm] at fC
   have fl:=zrR (zaI ad zaJ) (ad 1) (ad 8) he c h hs act gone (by omega) mem hml hF hb hm
   have ft:Con Tryz.prog (zaI ad zaJ) 58 [errV (-1) (errV (-1) (sentV (ad 1))),I 1] (B true):=zdZ ad zaJ 1 (by omega) (-1) [-1]
   generalize sentV (ad 1)=E at*
   unfold chAV at fL fC
   unfold chAV zai at fm
   unfold zai at fl
   unfold zbG at fr |-
   refine zaa Tryz.func11 rfl Tryz.call11 (by rw [Tryz.ntmps11]; simp) ?_
   rw [Tryz.ntmps11,Tryz.results11]
   have F:=hG
   repeat (first | refine st ?_ | refine cC fm ?_ | refine cC fr ?_ | refine cC fl ?_ | refine cC fL ?_ | refine cC fC ?_)
   refine zab (D:=Nat) (fun j vs=>[(1, .seq 1 (gone.map intAV)),(2, .loc 2 (vs 2) 0 0),(6,nilS),(7,errV (-1) (errV (-1) E)),(8,I 1),(9,I j)]) (fun _ _=>[(2,⟨8,[[Sg c.name,I c.initial,varsAV c.vars,stsAV c.states,trsAV c.trans, .seq 1 (act.map intAV),I n,memsAV mem]],65,false⟩)]) (fun j _ _=>j<=gone.length) (fun j=>gone.length-j) 0 ?_ ?_ ?_ ?_
   ·exact Nat.zero_le _
   ·(simp only [go_sem,F])
    try rfl
   ·(simp only [go_sem,F])
    try rfl
   rintro j ws esc hj
   by_cases hlt:j<gone.length
   ·obtain⟨x,hx⟩: ∃x,gone[j]? =some x:=⟨gone[j],List.getElem?_eq_getElem hlt⟩
    have q1:=nlt hlt
    have q2:=zac hlt (by omega)
    have f0:=fI x
    cases hc:act.contains x with
    | false=>
      rw [hc] at f0
      have F:=ai hx<|ai q1<|q2
      repeat (first | refine st ?_ | refine cC f0 ?_)
      refine⟨j+1,hlt, ?_, ?_,by omega⟩
      ·(simp only [go_sem,F])
      ·(simp only [go_sem,F])
    | true=>
      rw [hc] at f0
      have F:=ai hx<|ai q1<|q2
      repeat (first | refine st ?_ | refine cC f0 ?_)
      refine⟨j+1,hlt, ?_, ?_,by omega⟩
      ·(simp only [go_sem,F])
      ·(simp only [go_sem,F])
   ·obtain rfl:j=gone.length:=by omega
    have q1: ¬(gone.length:Int)< (gone.length:Int):=by omega
    have F:=q1
    repeat (first | refine st ?_ | refine cC ft ?_ | refine cC fa ?_)
    exact aR
 | true=>
 rw [hm] at fC
 have fl:=zrY (zaI ad zaJ) (ad 1) (ad 8) he c h hs act gone hl hgl mem hml hF hb hm
 unfold remE at fl
 cases hgb:zrW act gone with
 | false=>
   rw [hgb,if_neg Bool.false_ne_true] at fl
   have hca:cgI act gone gone.length=1:=by rw [zsK,hgb]; rfl
   have ft:Con Tryz.prog (zaI ad zaJ) 58 [errV (-1) (sentV (ad 1)),I 1] (B true):=zdZ ad zaJ 1 (by omega) (-1) []
   generalize sentV (ad 1)=E at*
   unfold chAV at fL fC
   unfold chAV zai at fm
   unfold zai at fl
   unfold zbG at fr |-
   refine zaa Tryz.func11 rfl Tryz.call11 (by rw [Tryz.ntmps11]; simp) ?_
   rw [Tryz.ntmps11,Tryz.results11]
   have F:=hG
   repeat (first | refine st ?_ | refine cC fm ?_ | refine cC fr ?_ | refine cC fl ?_ | refine cC fL ?_ | refine cC fC ?_)
   refine zab (D:=Nat) (fun j vs=>[(1, .seq 1 (gone.map intAV)),(2, .loc 2 (vs 2) 0 0),(6,nilS),(7,errV (-1) E),(8,I (cgI act gone j)),(9,I j)]) (fun _ _=>[(2,⟨8,[[Sg c.name,I c.initial,varsAV c.vars,stsAV c.states,trsAV c.trans, .seq 1 (act.map intAV),I n,memsAV mem]],65,false⟩)]) (fun j _ _=>j<=gone.length) (fun j=>gone.length-j) 0 ?_ ?_ ?_ ?_
   ·exact Nat.zero_le _
   ·(simp only [go_sem,F])
    try rfl
   ·(simp only [go_sem,F])
    try rfl
   rintro j ws esc hj
   by_cases hlt:j<gone.length
   ·obtain⟨x,hx⟩: ∃x,gone[j]? =some x:=⟨gone[j],List.getElem?_eq_getElem hlt⟩
    have q1:=nlt hlt
    have q2:=zac hlt (by omega)
    have f0:=fI x
    have hcs:=zsC (act:=act) hx
    cases hc:act.contains x with
    | false=>
      rw [hc] at f0
      rw [hc,if_neg Bool.false_ne_true] at hcs
      have F:=ai hx<|ai q1<|q2
      repeat (first | refine st ?_ | refine cC f0 ?_)
      refine⟨j+1,hlt, ?_, ?_,by omega⟩
      ·have F:=hcs
       (simp only [go_sem,F])
      ·(simp only [go_sem,hcs])
    | true=>
      rw [hc] at f0
      rw [hc,if_pos rfl] at hcs
      have F:=ai hx<|ai q1<|q2
      repeat (first | refine st ?_ | refine cC f0 ?_)
      refine⟨j+1,hlt, ?_, ?_,by omega⟩
      ·have F:=hcs
       (simp only [go_sem,F])
      ·(simp only [go_sem,hcs])
   ·obtain rfl:j=gone.length:=by omega
    have q1: ¬(gone.length:Int)< (gone.length:Int):=by omega
    have F:=ai q1<|hca
    repeat (first | refine st ?_ | refine cC ft ?_ | refine cC fa ?_)
    exact aR
 | true=>
   rw [hgb,if_pos rfl] at fl
   have hall: ∀x∈gone,act.contains x=true:=fun x hx=>List.all_eq_true.1 hgb x hx
   have hin: ∀x∈gone,x∈act:=fun x hx=>List.contains_iff_mem.1 (hall x hx)
   have hz: ∀x∈act,0<=x:=fun x hx=>by
    obtain⟨s,hs,_⟩:=(lg_out hb).fit x hx
    unfold at_ at hs
    split at hs
    ·assumption
    ·cases hs
   have fw:=zrx (zaI ad zaJ) c h act gone (by omega) hz hgl mem hml
   obtain⟨hsame,hgood⟩:=remember_same h hb hm hin
   rw [<-hsame] at fw
   have hRl:=zrz (zrU hgood)
   have hfew:=h.few
   generalize remL c act gone mem=R at*
   have hRs: ∀m∈R,m.2.length<=32:=fun m hm'=>(znD h hgood m hm').2
   have fS:=zrT (zaI ad zaJ) R (by omega) (fun m hm'=>by have:=hRs m hm'; omega)
   have fD:=zfe (zaI ad zaJ) c h R (by omega) (fun m hm'=>zah (by have:=hRs m hm'; omega) (by omega))
   rw [hgood] at fD
   change Con _ _ _ _ (.tuple [.seq 2 (R.map mmAV),nilE]) at fl
   change Con _ _ _ [.seq 2 (R.map mmAV), .seq 2 (R.map mmAV)] _ at fS
   change Con _ _ _ [_, .seq 2 (R.map mmAV)] _ at fD
   unfold chAV at fD fw
   unfold chAV at fL fC
   unfold chAV zai at fm
   unfold zai at fl
   unfold zbG at fr |-
   refine zaa Tryz.func11 rfl Tryz.call11 (by rw [Tryz.ntmps11]; simp) ?_
   rw [Tryz.ntmps11,Tryz.results11]
   have F:=hG
   repeat (first | refine st ?_ | refine cC fm ?_ | refine cC fr ?_ | refine cC fl ?_ | refine cC fL ?_ | refine cC fC ?_)
   refine zab (D:=Nat) (fun j vs=>[(1, .seq 1 (gone.map intAV)),(2, .loc 2 (vs 2) 0 0),(6, .seq 2 (R.map mmAV)),(7,nilE),(8,I 0),(9,I j)]) (fun _ _=>[(2,⟨8,[[Sg c.name,I c.initial,varsAV c.vars,stsAV c.states,trsAV c.trans, .seq 1 (act.map intAV),I n,memsAV mem]],65,false⟩)]) (fun j _ _=>j<=gone.length) (fun j=>gone.length-j) 0 ?_ ?_ ?_ ?_
   ·exact Nat.zero_le _
   ·(simp only [go_sem,F])
    try rfl
   ·(simp only [go_sem,F])
    try rfl
   rintro j ws esc hj
   by_cases hlt:j<gone.length
   ·obtain⟨x,hx⟩: ∃x,gone[j]? =some x:=⟨gone[j],List.getElem?_eq_getElem hlt⟩
    have q1:=nlt hlt
    have q2:=zac hlt (by omega)
    have f0:=fI x
    rw [hall x (List.mem_of_getElem? hx)] at f0
    have F:=ai hx<|ai q1<|q2
    repeat (first | refine st ?_ | refine cC f0 ?_)
    refine⟨j+1,hlt, ?_, ?_,by omega⟩
    ·(simp only [go_sem,F])
    ·(simp only [go_sem,F])
   ·obtain rfl:j=gone.length:=by omega
    have q1: ¬(gone.length:Int)< (gone.length:Int):=by omega
    have F:=q1
    repeat (first | refine st ?_ | refine cC fw ?_ | refine cC fS ?_ | refine cC fD ?_ | refine cC fa ?_)
    exact aR
end
section
open Go.RowKit Go.ChangeShapes Go.WideShapes Go.ChangeAt
section
variable {H:Type} {enc:TypeId×Value->H} {w:World} {base:Nat} {spare:Nat->Bool} {held:Bool}
theorem zsb {r0:Reach} {b0:Nat} {v:Value} {d:DataW H} {p:List MemPlace} (hv:Value.okWide Tryz.prog w r0 b0 35 v) (h:DataW.Trod enc Tryz.prog w base spare held 35 v d p):
 ∃act:List Int,act.length<=9223372036854775807/\RV (fun b _=>b<w.heap.size) w v (.seq 1 (act.map intAV)):=by
 obtain⟨A,n,c,rfl⟩:=okWide_slice Tryz.underlying35 hv
 obtain⟨fuel,hf⟩:=h
 obtain⟨v',l,e,r,hn, -⟩:=zbx (size:=1) intAV (fun _=>True) (fun _=>rfl) Tryz.underlying35 c_int (by decide) open_int1 hf
 have e2:Value.slice A n c=v':=by
  have:[Value.slice A n c]=[v']:=e
  cases this
  rfl
 subst e2
 exact⟨l,ziK hn,r.2⟩
end
end

end Go.Proofs.YtlmekdfleciejaaGreatDoor