/- A case that came in: how long its memories' rows are. -/
import Derived.Test.YtlmekdfleciejaaGreatDoorD46
import Derived.Test.YtlmekdfleciejaaGreatDoorD7
import Derived.Test.YtlmekdfleciejaaGreatDoorD16
import Derived.Test.YtlmekdfleciejaaGreatDoorD38
import Derived.Test.YtlmekdfleciejaaGreatDoorD44
import Derived.Test.YtlmekdfleciejaaGreatDoorD5
import Derived.Test.YtlmekdfleciejaaGreatDoorD23
import Derived.Test.YtlmekdfleciejaaGreatDoorD32
import Derived.Test.YtlmekdfleciejaaGreatDoorD41
set_option maxRecDepth 100000
set_option maxHeartbeats 16000000
set_option linter.unusedSimpArgs false
namespace Go.Proofs.YtlmekdfleciejaaGreatDoor
section
open Go.RowKit
theorem zhL (env:Env) (c:ChD) (h:Full c) (m:MemD) (hF:Fits m.2.length 8):Con Tryz.prog env 101 [.agg (chAV c), .agg (mmAV m)] (B (memB c m)):=by
 obtain⟨i,l⟩:=m
 have hF:Fits l.length 8:=hF
 have f0:=zka env c i
 have hlen:=h.few
 unfold chAV at f0
 unfold memB mmAV
 simp only
 cases hz:inZ c i with
 | false=>
   rw [zqh hz]
   rw [hz] at f0
   simp only
   refine zaa Tryz.func101 rfl Tryz.call101 (by rw [Tryz.ntmps101]; simp) ?_
   rw [Tryz.ntmps101,Tryz.results101]
   have F:=chAV.eq_1
   repeat (first | refine st ?_ | refine cC f0 ?_)
   exact aR
 | true=>
 rw [hz] at f0
 obtain⟨k,s,rfl,hsk,hat⟩:=zb0 hz
 have hk:=(List.getElem?_eq_some_iff.1 hsk).1
 have q3:((k:Nat):Int)< (c.states.length:Int):=by omega
 rw [hat]
 simp only
 by_cases h4:s.kind=4
 ·rw [if_pos h4]
  have b4:(s.kind==4)=true:=by simp [h4]
  obtain⟨p1,p2⟩:=zhQ h hsk (.inl h4)
  have f2:=zbw env c s.parent true (by omega)
  rw [<-ze8] at f2
  have hK:=zbz h.toRight s.parent true
  by_cases h1:l.length=1
  ·obtain⟨y,rfl⟩: ∃y,l=[y]:=List.length_eq_one_iff.1 h1
   have f3:=zdF env (zL (kidsL c s.parent true)) y (by rw [zdQ]; omega)
   show Con _ _ _ _ (B ((zL (kidsL c s.parent true)).contains y))
   unfold chAV at f2
   generalize zL (kidsL c s.parent true)=Z at*
   refine zaa Tryz.func101 rfl Tryz.call101 (by rw [Tryz.ntmps101]; simp) ?_
   rw [Tryz.ntmps101,Tryz.results101]
   have F:=ai chAV.eq_1<|ai stAV.eq_1<|ai hsk<|ai q3<|b4
   repeat (first | refine st ?_ | refine cC f0 ?_ | refine cC f2 ?_ | refine cC f3 ?_)
   exact aR
  ·have b1:((l.length:Int)==1)=false:=by simp; omega
   rw [decide_eq_false h1,Bool.false_and]
   refine zaa Tryz.func101 rfl Tryz.call101 (by rw [Tryz.ntmps101]; simp) ?_
   rw [Tryz.ntmps101,Tryz.results101]
   have F:=ai chAV.eq_1<|ai stAV.eq_1<|ai hsk<|ai q3<|ai b4<|b1
   repeat (first | refine st ?_ | refine cC f0 ?_)
   exact aR
 ·rw [if_neg h4]
  have b4:(s.kind==4)=false:=by simpa using h4
  cases b5:(s.kind==5) with
  | false=>
    rw [Bool.false_and]
    refine zaa Tryz.func101 rfl Tryz.call101 (by rw [Tryz.ntmps101]; simp) ?_
    rw [Tryz.ntmps101,Tryz.results101]
    have F:=ai chAV.eq_1<|ai stAV.eq_1<|ai hsk<|ai q3<|ai b4<|b5
    repeat (first | refine st ?_ | refine cC f0 ?_)
    exact aR
  | true=>
    rw [Bool.true_and]
    obtain⟨p1,p2⟩:=zhQ h hsk (.inr (by simpa using b5))
    have f2:=znj env c h s.parent p2 l hF
    rw [<-zjy h p1] at f2
    unfold chAV at f2
    generalize deepB c s.parent l=D at*
    refine zaa Tryz.func101 rfl Tryz.call101 (by rw [Tryz.ntmps101]; simp) ?_
    rw [Tryz.ntmps101,Tryz.results101]
    have F:=ai chAV.eq_1<|ai stAV.eq_1<|ai hsk<|ai q3<|ai b4<|b5
    repeat (first | refine st ?_ | refine cC f0 ?_ | refine cC f2 ?_)
    exact aR
theorem zfe (env:Env) (c:ChD) (h:Full c) (mem:List MemD) (hl:mem.length<=1000000) (hF: ∀m∈mem,Fits m.2.length 8):Con Tryz.prog env 47 [.agg (chAV c),memsAV mem] (B (zc3 c mem)):=by
 refine zaa Tryz.func47 rfl Tryz.call47 (by rw [Tryz.ntmps47]; simp) ?_
 rw [Tryz.ntmps47,Tryz.results47]
 repeat refine st0 ?_
 refine zab (D:=Nat) (fun j vs=>[(1,memsAV mem),(2, .loc 2 (vs 2) 0 0),(5,I j)]) (fun _ _=>[(2,⟨5,[chAV c],26,false⟩)]) (fun j _ _=>j<=mem.length/\ ∀m,m<j->zgN c mem m=true) (fun j=>mem.length-j) 0 ?_ ?_ ?_ ?_
 ·exact⟨Nat.zero_le _,fun m hm=>absurd hm (by omega)⟩
 ·(simp only [go_sem])
  try rfl
 ·have F:=chAV.eq_1
  (simp only [go_sem,F])
  try rfl
 rintro j ws esc ⟨hj,hall⟩
 by_cases hlt:j<mem.length
 ·obtain⟨x,hx⟩: ∃x,mem[j]? =some x:=⟨mem[j],List.getElem?_eq_getElem hlt⟩
  have q1:=nlt hlt
  have q2:=zac hlt (by omega)
  have f1:=zhL env c h x (hF x (List.mem_of_getElem? hx))
  have hat:zgN c mem j=(memB c x&&((j==0)||decide ((mem.getD (j-1) (0,[])).1<x.1))):=by unfold zgN; rw [hx]
  unfold chAV mmAV at f1
  cases hb:memB c x with
  | false=>
    rw [hb] at f1
    rw [zfE hlt (by rw [hat,hb]; rfl)]
    have F:=ai chAV.eq_1<|ai mmAV.eq_1<|ai hx<|q1
    repeat (first | refine st ?_ | refine cC f1 ?_)
    exact aR
  | true=>
    rw [hb] at f1
    rw [hb,Bool.true_and] at hat
    by_cases h0:j=0
    ·have g0: ¬(0:Int)< (j:Int):=by omega
     have F:=ai chAV.eq_1<|ai mmAV.eq_1<|ai hx<|ai q1<|ai q2<|g0
     repeat (first | refine st ?_ | refine cC f1 ?_)
     refine⟨j+1,⟨hlt,fun m hm=> ?_⟩, ?_, ?_,by omega⟩
     ·obtain rfl:m=j:=by omega
      rw [hat,h0]
      rfl
     ·(simp only [go_sem,F])
     ·have F:=chAV.eq_1
      (simp only [go_sem,F])
    ·obtain⟨i,rfl⟩: ∃i,j=i+1:=⟨j-1,by omega⟩
     obtain⟨p,hp⟩: ∃p,mem[i]? =some p:=⟨mem[i]'(by omega),List.getElem?_eq_getElem (by omega)⟩
     have g0:(0:Int)< ((i+1:Nat):Int):=by omega
     have g1:IntKind.i64.wrap (((i+1:Nat):Int)-1)=(i:Int):=by rw [IntWalk.i64_in _ (by omega)]; omega
     have g2:((i:Nat):Int)< (mem.length:Int):=by omega
     have hgd:mem.getD (i+1-1) (0,[])=p:=by rw [Nat.add_sub_cancel,List.getD_eq_getElem?_getD,hp]; rfl
     rw [hgd] at hat
     by_cases hlt2:x.1<=p.1
     ·rw [zfE hlt (by rw [hat,decide_eq_false (by omega)]; rfl)]
      have F:=ai chAV.eq_1<|ai mmAV.eq_1<|ai hx<|ai hp<|ai q1<|ai g0<|ai g1<|ai g2<|hlt2
      repeat (first | refine st ?_ | refine cC f1 ?_)
      exact aR
     ·have F:=ai chAV.eq_1<|ai mmAV.eq_1<|ai hx<|ai hp<|ai q1<|ai q2<|ai g0<|ai g1<|ai g2<|hlt2
      repeat (first | refine st ?_ | refine cC f1 ?_)
      refine⟨i+1+1,⟨hlt,fun m hm=> ?_⟩, ?_, ?_,by omega⟩
      ·rcases Nat.lt_succ_iff_lt_or_eq.1 hm with e | e
       ·exact hall m e
       ·rw [e,hat,decide_eq_true (by omega)]; simp
      ·(simp only [go_sem,F])
      ·have F:=chAV.eq_1
       (simp only [go_sem,F])
 ·obtain rfl:j=mem.length:=by omega
  have q1: ¬(mem.length:Int)< (mem.length:Int):=by omega
  rw [ziJ hall]
  have F:=q1
  repeat refine st ?_
  exact aR
end
section
open Go.RowKit Go.Extern.Stop Go.Stop Go.Extern
end
section
open Go.RowKit
end
section
open Go.RowKit
end
section
open Go.RowKit
def zfc (c:ChD) (act:List Int) (mem:List MemD):Bool:= !zfx c||decide (60< (act.length:Int))||decide (60< (mem.length:Int))
theorem zf3 (env:Env) (c:ChD) (act:List Int) (n:Int) (mem:List MemD):Con Tryz.prog env 44 [.agg (zbG c act n mem)] (B (zfc c act mem)):=by
 have f0:=zd4 env c
 have f1:=zeO env c
 unfold chAV at f0 f1
 unfold zfc zfx
 cases h1:zgf c
 ·rw [h1] at f0
  refine zaa Tryz.func44 rfl Tryz.call44 (by rw [Tryz.ntmps44]; simp) ?_
  rw [Tryz.ntmps44,Tryz.results44]
  have F:=zbG.eq_1
  repeat (first | refine st ?_ | refine cC f0 ?_ | refine cC f1 ?_)
  exact aR
 rw [h1] at f0
 cases h2:((chk c).1==0)
 ·rw [h2] at f1
  refine zaa Tryz.func44 rfl Tryz.call44 (by rw [Tryz.ntmps44]; simp) ?_
  rw [Tryz.ntmps44,Tryz.results44]
  have F:=zbG.eq_1
  repeat (first | refine st ?_ | refine cC f0 ?_ | refine cC f1 ?_)
  exact aR
 rw [h2] at f1
 by_cases h3:60< (act.length:Int)
 ·rw [decide_eq_true h3]
  refine zaa Tryz.func44 rfl Tryz.call44 (by rw [Tryz.ntmps44]; simp) ?_
  rw [Tryz.ntmps44,Tryz.results44]
  have F:=ai zbG.eq_1<|h3
  repeat (first | refine st ?_ | refine cC f0 ?_ | refine cC f1 ?_)
  exact aR
 rw [decide_eq_false h3]
 by_cases h4:60< (mem.length:Int)
 ·rw [decide_eq_true h4]
  refine zaa Tryz.func44 rfl Tryz.call44 (by rw [Tryz.ntmps44]; simp) ?_
  rw [Tryz.ntmps44,Tryz.results44]
  have F:=ai zbG.eq_1<|ai h3<|h4
  repeat (first | refine st ?_ | refine cC f0 ?_ | refine cC f1 ?_)
  exact aR
 ·rw [decide_eq_false h4]
  refine zaa Tryz.func44 rfl Tryz.call44 (by rw [Tryz.ntmps44]; simp) ?_
  rw [Tryz.ntmps44,Tryz.results44]
  have F:=ai zbG.eq_1<|ai h3<|h4
  repeat (first | refine st ?_ | refine cC f0 ?_ | refine cC f1 ?_)
  exact aR
end
section
open Go.RowKit Go.ChangeShapes
theorem zoC (env:Env):Con Tryz.prog env 97 [nilE] (I 0):=
 zkx Tryz.call97 fun w S vs hE hl hv=>by
  match vs,hl with
  | [v],_=>
    obtain rfl:=(hv 0 v _ rfl rfl).lit_inv
    refine(zpH w).mono ?_
    rintro e w' ⟨rfl,rfl⟩
    exact⟨rfl,Below.refl _ _⟩
end
section
open Go.RowKit
theorem zih (env:Env):Con Tryz.prog env 58 [nilE,I 0] (B true):=by
 have f1:=zoC env
 refine zaa Tryz.func58 rfl Tryz.call58 (by rw [Tryz.ntmps58]; simp) ?_
 rw [Tryz.ntmps58,Tryz.results58]
 repeat (first | refine st0 ?_ | refine cC0 f1 ?_)
 exact aR0
theorem zen (ad:Nat->Addr) (c:ChD) (hcf:zdq c) (act:List Int) (n:Int) (mem:List MemD) (hF: ∀m∈mem,Fits m.2.length 8):Con Tryz.prog (zaI ad zaJ) 8 [.agg (zbG c act n mem)] (B true):=by
 have he:=zk8 ad
 have fa:=zgA (zaI ad zaJ) (ad 1) (ad 8) he (zem ad)
 have fr:=zf3 (zaI ad zaJ) c act n mem
 cases hg:zfx c with
 | false=>
   have fm:=zge (zaI ad zaJ) c hg
   unfold zfc at fr
   rw [hg,Bool.not_false,Bool.true_or,Bool.true_or] at fr
   unfold chAV at fm
   unfold zbG at fr |-
   refine zaa Tryz.func8 rfl Tryz.call8 (by rw [Tryz.ntmps8]; simp) ?_
   rw [Tryz.ntmps8,Tryz.results8]
   repeat (first | refine st0 ?_ | refine cC0 fm ?_ | refine cC0 fr ?_ | refine cC0 fa ?_)
   exact aR0
 | true=>
 have h:=zi7 hg
 have hs:=zfA (zn8 hg)
 have fm:=zg1 (zaI ad zaJ) (ad 1) (ad 8) he (zem ad) c hcf hg
 cases hr:zfc c act mem with
 | true=>
   rw [hr] at fr
   unfold chAV zai at fm
   unfold zbG at fr |-
   refine zaa Tryz.func8 rfl Tryz.call8 (by rw [Tryz.ntmps8]; simp) ?_
   rw [Tryz.ntmps8,Tryz.results8]
   repeat (first | refine st0 ?_ | refine cC0 fm ?_ | refine cC0 fr ?_ | refine cC0 fa ?_)
   exact aR0
 | false=>
 rw [hr] at fr
 unfold zfc at hr
 rw [hg,Bool.not_true,Bool.false_or,Bool.or_eq_false_iff,decide_eq_false_iff_not,decide_eq_false_iff_not] at hr
 have hl:mem.length<=1000000:=by omega
 have fc:=zeE (zaI ad zaJ) (ad 1) (ad 8) he c h hs mem hl hF
 have fd:=zfe (zaI ad zaJ) c h mem hl hF
 unfold chkM at fc
 cases hb:zc3 c mem with
 | false=>
   rw [hb] at fd
   rw [hb,if_neg Bool.false_ne_true] at fc
   have ft:Con Tryz.prog (zaI ad zaJ) 58 [errV (-1) (sentV (ad 1)),I 1] (B true):=zdZ ad zaJ 1 (by omega) (-1) []
   generalize sentV (ad 1)=E at*
   unfold chAV at fd
   unfold chAV zai at fm
   unfold zai at fc
   unfold zbG at fr |-
   refine zaa Tryz.func8 rfl Tryz.call8 (by rw [Tryz.ntmps8]; simp) ?_
   rw [Tryz.ntmps8,Tryz.results8]
   repeat (first | refine st0 ?_ | refine cC0 fm ?_ | refine cC0 fr ?_ | refine cC0 fc ?_ | refine cC0 fd ?_ | refine cC0 ft ?_ | refine cC0 fa ?_)
   exact aR0
 | true=>
   rw [hb] at fd
   rw [hb,if_pos rfl] at fc
   have ft:=zih (zaI ad zaJ)
   unfold chAV at fd
   unfold chAV zai at fm
   unfold zai at fc
   unfold zbG at fr |-
   refine zaa Tryz.func8 rfl Tryz.call8 (by rw [Tryz.ntmps8]; simp) ?_
   rw [Tryz.ntmps8,Tryz.results8]
   repeat (first | refine st0 ?_ | refine cC0 fm ?_ | refine cC0 fr ?_ | refine cC0 fc ?_ | refine cC0 fd ?_ | refine cC0 ft ?_ | refine cC0 fa ?_)
   exact aR0
end
section
open Go.RowKit Go.ChangeShapes Go.WideShapes Go.ChangeAt Go.Deep
def WB {H:Type} (P:Program) (t:TypeId) (d:DataW H):Prop:= ∀z∈DataW.weights P t d,z<=reachBytes
section
variable {H:Type} {enc:TypeId×Value->H} {P:Program} {w:World} {base:Nat} {spare:Nat->Bool} {held:Bool}
theorem zkO {e:TypeId} {d:DataW H} : ∀ {l:List (DataW H)},d∈l-> ∀z∈DataW.weights P e d,z∈DataW.weightsAll P e l
 | a::r,h,z,hz=>by
   unfold DataW.weightsAll
   rcases List.mem_cons.1 h with rfl | h
   ·exact List.mem_append_left _ hz
   ·exact List.mem_append_right _ (zkO h z hz)
theorem WB.elem {t e:TypeId} {es rs:List (DataW H)} (ht:P.underlying t=some (.slice e)) (h:WB P t (.slice es rs)) {d:DataW H} (hd:d∈es):WB P e d:=fun z hz=>by
 refine h z ?_
 unfold DataW.weights
 rw [ht]
 exact List.mem_cons_of_mem _ (List.mem_append_left _ (zkO hd z hz))
theorem WB.size {t e:TypeId} {es rs:List (DataW H)} (ht:P.underlying t=some (.slice e)) (h:WB P t (.slice es rs)):es.length*P.bytesOf e<=reachBytes:=by
 refine Nat.le_trans ?_ (h ((es.length+rs.length)*P.bytesOf e) ?_)
 ·exact Nat.mul_le_mul_right _ (Nat.le_add_right ..)
 ·unfold DataW.weights
  rw [ht]
  exact List.mem_cons_self ..
theorem zeb: ∀ {ts:List TypeId} {l:List (DataW H)} {i:Nat} {t:TypeId} {d:DataW H},ts[i]? =some t->l[i]? =some d-> ∀z∈DataW.weights P t d,z∈DataW.weightsEach P ts l
 | t::ts,d::l,0,_,_,rfl,rfl,z,hz=>by unfold DataW.weightsEach; exact List.mem_append_left _ hz
 | t::ts,d::l,i+1,_,_,h1,h2,z,hz=>by
   unfold DataW.weightsEach
   exact List.mem_append_right _ (zeb (i:=i) (by simpa using h1) (by simpa using h2) z hz)
 | [],_,i,_,_,h1,_,z,hz=>by simp at h1
 | _::_,[],i,_,_,_,h2,z,hz=>by simp at h2
theorem WB.part {t:TypeId} {fs:Array Field} {ps:List (DataW H)} (ht:P.underlying t=some (.struct fs)) (h:WB P t (.agg ps)) {i:Nat} {f:Field} {d:DataW H} (hf:fs[i]? =some f) (hd:ps[i]? =some d):WB P f.type d:=fun z hz=>by
 refine h z ?_
 unfold DataW.weights
 rw [ht]
 refine zeb (i:=i) ?_ hd z hz
 rw [List.getElem?_map,Array.getElem?_toList,hf]
 rfl
theorem zl6 {α:Type} {t e:TypeId} {size fuel:Nat} {R:List Value->α->Prop} {cs:List Value} {x:DataW H×List MemPlace} (ht:P.underlying t=some (.slice e)) (hC:P.cellsOf e=size) (hpos:0<size)
 (hR: ∀(m:Nat) (cs:List Value) (y:DataW H×List MemPlace),DataW.trod enc P w base spare held m e cs=some y->WB P e y.1-> ∃a,R cs a) (hw:WB P t x.1)
 (h:DataW.trod enc P w base spare held fuel t cs=some x): ∃v l,cs=[v]/\zco w w.heap.size size R v l:=by
 rcases open_slice ht h with⟨rfl,_⟩ | ⟨a,len,cap,m,n,D,Pl,rfl,hb,hl,hm,hmm,rfl,hx⟩
 ·exact⟨_,[],rfl,none,0,[],rfl,Nat.le_refl _,Nat.zero_le _,Reads.empty _ _ _ _,by simp,fun i hi=>by simp at hi⟩
 have hlm:len<=m:=by rw [hmm]; split<;>omega
 rw [hC] at hx
 have hch: ∀i,∃cs':List Value,i<len->w.cells? base (a.add (i*size)) size=some cs'/\DataW.trod enc P w base spare held n e cs'=some (D i,Pl i):=fun i=>by
  by_cases hi:i<len
  ·obtain⟨cs',h1,h2⟩:=hx i (by omega)
   exact⟨cs',fun _=>⟨h1,h2⟩⟩
  ·exact⟨[],fun h=>absurd h hi⟩
 let f:Nat->List Value:=fun i=>(hch i).choose
 have hf: ∀i,i<len->w.cells? base (a.add (i*size)) size=some (f i)/\DataW.trod enc P w base spare held n e (f i)=some (D i,Pl i):=fun i hi=>(hch i).choose_spec hi
 have hfl: ∀i,i<len->(f i).length=size:=fun i hi=>(World.cells?_some (hf i hi).1).2.1
 obtain⟨l,hll,hl2⟩:=znK (n:=len) (p:=fun i a=>R (f i) a) fun i hi=>hR _ _ _ (hf i hi).2 (WB.elem ht hw (List.mem_map.2 ⟨i,List.mem_range.2 hi,rfl⟩))
 refine⟨_,l,rfl,some a,cap,(List.range len).flatMap f,by rw [hll],by omega,by omega,⟨by rw [hll,flat_len f size len hfl],fun hn=> ?_⟩,by rw [hll,flat_len f size len hfl],fun i hi=> ?_⟩
 ·rw [hll] at hn
  have h0:=World.cells?_some (hf 0 hn).1
  have hc0:=h0.2.2 0 hpos
  have hsp:a.spot=none:=by
   rw [Nat.zero_mul] at hc0
   have:(f 0)[0]? =some ((f 0)[0]'(by rw [hfl 0 hn]; exact hpos)):=List.getElem?_eq_getElem _
   rw [this] at hc0
   have e:(a.add 0).add 0=a:=rfl
   rw [e] at hc0
   unfold World.cell? at hc0
   cases hs:a.spot with
   | none=>rfl
   | some s=>
     rw [hs] at hc0
     split at hc0<;>simp at hc0
  obtain⟨b,off,sp⟩:=a
  simp only at hsp
  subst hsp
  have hcell: ∀j u,((List.range len).flatMap f)[j]? =some u->w.cell? ⟨b,off+j,none⟩=some u:=by
   intro j u hu
   have hj:j<len*size:=by
    rcases Nat.lt_or_ge j (len*size) with h | h
    ·exact h
    ·rw [List.getElem?_eq_none (by rw [flat_len f size len hfl]; exact h)] at hu
     cases hu
   have hq:j/size<len:=Nat.div_lt_of_lt_mul (by rw [Nat.mul_comm]; exact hj)
   have hr:j%size<size:=Nat.mod_lt _ hpos
   have hpart:=zdo f size len hfl (j/size) hq
   have e:j=j/size*size+j%size:=by rw [Nat.mul_comm]; exact(Nat.div_add_mod j size).symm
   have hget:(f (j/size))[j%size]? =some u:=by
    rw [<-hpart,List.getElem?_take,if_pos hr,List.getElem?_drop, <-e]
    exact hu
   have:=(World.cells?_some (hf _ hq).1).2.2 (j%size) hr
   rw [hget,add_plain,add_plain,Nat.add_assoc, <-e] at this
   exact this
  refine⟨b,off,rfl, ?_,hcell⟩
  have hx0:((List.range len).flatMap f)[0]? =some (((List.range len).flatMap f)[0]'(by rw [flat_len f size len hfl]; exact Nat.mul_pos hn hpos)):=List.getElem?_eq_getElem _
  exact World.block_lt_of_cell? w ⟨b,off+0,none⟩ (hcell 0 _ hx0)
 ·rw [zdo f size len hfl i (by omega)]
  exact hl2 i hi
end
section
variable {H:Type} {enc:TypeId×Value->H} {P:Program} {w:World} {base:Nat} {spare:Nat->Bool} {held:Bool}
theorem zgW {α:Type} {t e:TypeId} {size fuel:Nat} {cs:List Value} {x:DataW H×List MemPlace} (en:α->List AV) (few:α->Prop) (hen: ∀a,(en a).length=size) (ht:P.underlying t=some (.slice e)) (hC:P.cellsOf e=size) (hpos:0<size)
 (hR: ∀(m:Nat) (cs:List Value) (y:DataW H×List MemPlace),DataW.trod enc P w base spare held m e cs=some y->WB P e y.1-> ∃a,RE w en few cs a) (hw:WB P t x.1)
 (h:DataW.trod enc P w base spare held fuel t cs=some x): ∃(v:Value) (l:List α),cs=[v]/\(v.oneCell'=true/\RV (fun b _=>b<w.heap.size) w v (.seq size (l.map en)))/\(l.length<=maxLen/\l.length*P.bytesOf e<=reachBytes)/\ ∀a∈l,few a:=by
 obtain⟨v,l,e1,hl⟩:=zl6 (R:=RE w en few) ht hC hpos hR hw h
 have hrv:=znJ en hen hl fun cs a _ hr j u c hu hc=>hr.1.at_.2 j u c hu hc
 obtain⟨A,c,xs,rfl,_,h2,_,hrow⟩:=hl
 refine⟨_,l,e1,⟨rfl,hrv⟩,⟨h2, ?_⟩,fun a ha=> ?_⟩
 ·rcases DataW.trod_slice ht h with⟨e2,_⟩ | ⟨a,len,cap,elems,rest,n,_,e2,e3,_,_,_,hlen,_⟩
  ·rw [e1] at e2
   have e4:l.length=0:=by injection e2 with q1 _; injection q1
   rw [e4,Nat.zero_mul]
   exact Nat.zero_le _
  ·rw [e1] at e2
   have e4:l.length=len:=by injection e2 with q1 _; injection q1
   rw [e3] at hw
   have:=hw.size ht
   rw [List.length_map,hlen] at this
   rw [e4]
   exact this
 ·obtain⟨i,hi,rfl⟩:=List.getElem_of_mem ha
  exact(hrow.2 i hi).2
end
theorem zrb:Tryz.prog.bytesOf 3=8:=by kernel_rfl
def zod (m:MemD):Prop:=m.2.length<=maxLen/\m.2.length*8<=reachBytes
section
variable {H:Type} {enc:TypeId×Value->H} {w:World} {base:Nat} {spare:Nat->Bool} {held:Bool}
theorem znw (m:Nat) (cs:List Value) (y:DataW H×List MemPlace) (h:DataW.trod enc Tryz.prog w base spare held m 133 cs=some y) (hw:WB Tryz.prog 133 y.1): ∃a:MemD,RE w mmAV zod cs a:=by
 obtain⟨xs,n,_,hx,hl,hxl,hg⟩:=DataW.trod_struct Tryz.underlying133 h
 rw [zq9] at hl
 obtain⟨c0,c1,rfl⟩:=zqu hl
 obtain⟨y0,h0⟩:=zbs hxl hg 0 _ rfl 3 0 1 rfl rfl c_int
 obtain⟨x0,e0, -, -⟩:=DataW.trod_int Tryz.underlying3 (show DataW.trod enc Tryz.prog w base spare held n 3 [c0]=some y0 from h0)
 cases e0
 have hx2:xs.length=2:=hxl
 obtain⟨y1,hy1⟩: ∃y1,xs[1]? =some y1:=⟨xs[1]'(by omega),List.getElem?_eq_getElem _⟩
 obtain⟨y2,h1⟩:=zbs hxl hg 1 _ rfl 35 1 1 rfl rfl zqc
 have h2:DataW.trod enc Tryz.prog w base spare held n 35 [c1]=xs[1]? :=by
  have:=hg 1 _ rfl
  exact this
 have h1:DataW.trod enc Tryz.prog w base spare held n 35 [c1]=some y1:=h2.trans hy1
 rw [hx] at hw
 have hw1:WB Tryz.prog 35 y1.1:=WB.part (i:=1) Tryz.underlying133 hw rfl (by rw [List.getElem?_map,hy1]; rfl)
 obtain⟨x1,l1,e1,r1,⟨n1,n2⟩, -⟩:=zgW (size:=1) intAV (fun _=>True) (fun _=>rfl) Tryz.underlying35 c_int (by decide) (fun m cs y h _=>open_int1 m cs y h) hw1 h1
 cases e1
 rw [zrb] at n2
 exact⟨(x0,l1),⟨⟨rfl, .lit _⟩,r1,trivial⟩,n1,n2⟩
theorem zgX {r0:Reach} {b0:Nat} {v:Value} {d:DataW H} {p:List MemPlace} (hv:Value.okWide Tryz.prog w r0 b0 65 v) (hw:WB Tryz.prog 65 d) (h:DataW.Trod enc Tryz.prog w base spare held 65 v d p):
 ∃(c:ChD) (act:List Int) (n:Int) (mem:List MemD),zdq c/\(∀m∈mem,m.2.length*8<=140737488355328/\m.2.length<=9223372036854775807)/\RV (fun b _=>b<w.heap.size) w v (.agg (zbG c act n mem)):=by
 obtain⟨cs,rfl,hsz⟩:=okWide_struct Tryz.underlying65 hv
 obtain⟨l⟩:=cs
 obtain⟨fuel,hf⟩:=h
 obtain⟨xs,n,_,hx,hl,hxl,hg⟩:=DataW.trod_struct Tryz.underlying65 hf
 rw [zra] at hl
 obtain⟨c0,c1,c2,c3,c4,c5,c6,c7,rfl⟩:=zrk (show l.length=8 from hl)
 obtain⟨y0,h0⟩:=zbs hxl hg 0 _ rfl 26 0 5 rfl rfl c_ch
 obtain⟨c,q1,q2⟩:=zqq _ _ _ h0
 obtain⟨y1,h1⟩:=zbs hxl hg 1 _ rfl 35 5 1 rfl rfl zqc
 obtain⟨x1,l1,e1,r1,n1, -⟩:=zbx (size:=1) intAV (fun _=>True) (fun _=>rfl) Tryz.underlying35 c_int (by decide) open_int1 (show DataW.trod enc Tryz.prog w base spare held n 35 [c5]=some y1 from h1)
 cases e1
 obtain⟨y2,h2⟩:=zbs hxl hg 2 _ rfl 3 6 1 rfl rfl c_int
 obtain⟨x2,e2, -, -⟩:=DataW.trod_int Tryz.underlying3 (show DataW.trod enc Tryz.prog w base spare held n 3 [c6]=some y2 from h2)
 cases e2
 have hx4:xs.length=4:=hxl
 obtain⟨y3,hy3⟩: ∃y3,xs[3]? =some y3:=⟨xs[3]'(by omega),List.getElem?_eq_getElem _⟩
 have h3:DataW.trod enc Tryz.prog w base spare held n 63 [c7]=some y3:=by
  have:=hg 3 _ rfl
  exact Eq.trans (show DataW.trod enc Tryz.prog w base spare held n 63 [c7]=xs[3]? from this) hy3
 have hd:d= .agg (xs.map (·.1)):=congrArg (·.1) hx
 rw [hd] at hw
 have hw3:WB Tryz.prog 63 y3.1:=WB.part (i:=3) Tryz.underlying65 hw rfl (by rw [List.getElem?_map,hy3]; rfl)
 obtain⟨x3,l3,e3,r3,_,p3⟩:=zgW (size:=2) mmAV zod (fun _=>rfl) Tryz.underlying63 zq9 (by decide) znw hw3 h3
 cases e3
 refine⟨c,l1,x2,l3,q2,fun m hm=>⟨Nat.le_trans (p3 m hm).2 (by decide),ziK (p3 m hm).1⟩,RVs.agg (show RVs _ w ([c0,c1,c2,c3,c4]++[c5, .int .i64 x2,c7]) (chAV c++[.seq 1 (l1.map intAV),I x2, .seq 2 (l3.map mmAV)]) from RVs.app q1 ⟨r1,⟨rfl, .lit _⟩,r3,trivial⟩)⟩
end
end

end Go.Proofs.YtlmekdfleciejaaGreatDoor