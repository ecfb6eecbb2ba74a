/- What MicroEnabled's list of variables gives. -/
import Derived.Test.YtnbjaghjdeicmaaGreatDoorD26
import Derived.Test.YtnbjaghjdeicmaaGreatDoorD8
import Derived.Test.YtnbjaghjdeicmaaGreatDoorD6
import Derived.Test.YtnbjaghjdeicmaaGreatDoorD14
import Derived.Test.YtnbjaghjdeicmaaGreatDoorD24
import Derived.Test.YtnbjaghjdeicmaaGreatDoorD25
import Derived.Test.YtnbjaghjdeicmaaGreatDoorD23
import Derived.Test.YtnbjaghjdeicmaaGreatDoorD21
import Derived.Test.YtnbjaghjdeicmaaGreatDoorD10
set_option maxRecDepth 100000
set_option maxHeartbeats 16000000
set_option linter.unusedSimpArgs false
namespace Go.Proofs.YtnbjaghjdeicmaaGreatDoor
section
open Go.RowKit
theorem zin (env:Env):Con Tryz.prog env 65 [I 0] (B true):=by
 refine zaa Tryz.func65 rfl Tryz.call65 (by rw [Tryz.ntmps65]; simp) ?_
 rw [Tryz.ntmps65,Tryz.results65]
 repeat refine st0 ?_
 exact aR0
theorem zpc (env:Env) (h:Full wakeM) (hs:Small wakeM):Con Tryz.prog env 32 [zaj wakeM,I 0] (.tuple [.agg wkI, .agg [nilS,nilS],nilE]):=by
 have f0:=zin env
 have f1:=zax env wakeM hs
 have f2:=zgY env wakeM hs
 rw [zix] at f1 f2
 have f3:Con Tryz.prog env 86 [zaj wakeM,I (-1)] (.own 3 1 [[I 0]]):=by
  have:=zjN env wakeM h (-1)
  rw [zpm] at this
  exact this
 have f4:=zij env 0 (by omega)
 rw [show ((0:Nat):Int)=0 from rfl] at f4
 unfold RMl RMe at f4
 unfold wkI
 unfold zaj at f1 f3 |-
 refine zaa Tryz.func32 rfl Tryz.call32 (by rw [Tryz.ntmps32]; simp) ?_
 rw [Tryz.ntmps32,Tryz.results32]
 repeat (first | refine st0 ?_ | refine cC0 f0 ?_ | refine cC0 f1 ?_ | refine cC0 f2 ?_)
 refine zaN 29 9001 0 0 ⟨15,[[nilS,nilS,nilS,nilS,B false,nilS,nilS, .ref 9 [tabCells wakeM] 0 0,Sg [99],I 0, .seq 2 [], .seq 6 wkS, .seq 5 wkT,I 0,I 0]],129,false⟩ _ 3 1 (by decide) (by decide) (Nat.succ_ne_zero 14) rfl rfl rfl (by simp only [go_sem]; exact iR) (by simp only [go_sem]; exact iR) ?_
 refine zaN 29 9002 0 1 ⟨15,[[.row 9001 1,nilS,nilS,nilS,B false,nilS,nilS, .ref 9 [tabCells wakeM] 0 0,Sg [99],I 0, .seq 2 [], .seq 6 wkS, .seq 5 wkT,I 0,I 0]],129,false⟩ _ 3 1 (by decide) (by decide) (Nat.succ_ne_zero 14) rfl rfl rfl (by simp only [go_sem]; exact iR) (by simp only [go_sem]; exact iR) ?_
 refine zaN 29 9003 0 2 ⟨15,[[.row 9001 1, .row 9002 1,nilS,nilS,B false,nilS,nilS, .ref 9 [tabCells wakeM] 0 0,Sg [99],I 0, .seq 2 [], .seq 6 wkS, .seq 5 wkT,I 0,I 0]],129,false⟩ _ 85 2 (by decide) (by decide) (Nat.succ_ne_zero 14) rfl rfl rfl (by simp only [go_sem]; exact iR) (by simp only [go_sem]; exact iR) ?_
 refine zaN 29 9004 0 3 ⟨15,[[.row 9001 1, .row 9002 1, .row 9003 1,nilS,B false,nilS,nilS, .ref 9 [tabCells wakeM] 0 0,Sg [99],I 0, .seq 2 [], .seq 6 wkS, .seq 5 wkT,I 0,I 0]],129,false⟩ _ 114 2 (by decide) (by decide) (Nat.succ_ne_zero 14) rfl rfl rfl (by simp only [go_sem]; exact iR) (by simp only [go_sem]; exact iR) ?_
 refine zdg [(9003,⟨2,[],85,true⟩),(9004,⟨2,[],114,true⟩)] ?_ ?_
 ·(simp only [go_sem])
 refine zfq [(0, .ref 9 [tabCells wakeM] 0 0),(4, .loc 4 1 0 0),(5, .loc 5 1 0 0),(6,nilE),(7, .loc 29 1 0 0),(34, .seq 2 []),(35,I 0),(36,I 0)] [(4,⟨5,[[nilS,nilS,nilS,nilS,B false]],31,false⟩),(5,⟨2,[[nilS,nilS]],56,false⟩),(29,⟨15,[[.row 9001 1, .row 9002 1, .seq 2 [], .seq 2 [],B false,nilS,nilS, .ref 9 [tabCells wakeM] 0 0,Sg [99],I 0, .seq 2 [], .seq 6 wkS, .seq 5 wkT,I 0,I 0]],129,false⟩),(9001,⟨1,[],3,true⟩),(9002,⟨1,[],3,true⟩)] ?_ ?_ ?_
 ·simp only [seenSt,seesR,zcq,Row.see,AV.see,AV.see.seeL,Option.getD_none,Option.getD_some,go_sem]
  try rfl
 ·simp only [seenSt,seesR,zcq,Row.see,AV.see,AV.see.seeL,Option.getD_none,Option.getD_some,go_sem]
  try rfl
 have b0:(True):=trivial
 have F:=b0
 repeat (first | refine zap ?_ | refine st ?_ | refine cC f3 ?_ | refine zam 40 ?_)
 refine zaV [(1000,29),(1001,9001),(1002,9002),(1003,56)] rfl (f4) (by decide) (by decide) (by simp only [go_sem,seenSt,seesR,List.any_cons,List.any_nil,F]<;>rfl) (by simp only [go_sem,seenSt,seesR,List.any_cons,List.any_nil,F,and_self]<;>trivial) (by simp only [go_sem,seenSt,seesR,List.any_cons,List.any_nil,F,and_self]<;>trivial) (by intro o; simp only [go_sem,seenSt,seesR,List.any_cons,List.any_nil,F,behind,and_self]<;>trivial) (by intro o; simp only [go_sem,seenSt,seesR,List.any_cons,List.any_nil,F]<;>rfl) (by simp only [go_sem,seenSt,seesR,List.any_cons,List.any_nil,F,behind]; exact iR) (by simp only [go_sem,seenSt,seesR,List.any_cons,List.any_nil,F,behind]; exact iR) ?_
 repeat (first | refine zap ?_ | refine st ?_ | refine zam 40 ?_)
 (refine zaf ?_; show (zao _ _ _).run _=some _; simp only [go_sem,seenSt,seesR,List.any_cons,List.any_nil,F])
theorem zrN (env:Env) (a1 a8:Addr) (he:ChEnv env a1 a8) (h:Full wakeM) (hs:Small wakeM):Con Tryz.prog env 22 [zaj wakeM, .agg wkI, .seq 1 [[I 0]],I 0,I 0] (.tuple [.agg [.seq 1 [[I 1]], .seq 1 [], .seq 2 [], .seq 2 [],B false], .agg [nilS,nilS],nilE]):=by
 have f0:=zhX env a1 a8 he h hs [109,105,99,114,111,46,83,116,101,112]
 have f1:=zax env wakeM hs
 rw [zix] at f1
 have f2:=zoC env ([0],[],[],[],false) (by simp) (by simp) (by simp) (by simp) (zai (by simp) (by omega))
 have f3:=zin env
 have f4:=zsC env
 have f5:=zpE env a1 a8 he h hs
 unfold RM RMe at f4 f5
 unfold wkI at f0 |-
 unfold zaj at f0 f1 |-
 refine zaa Tryz.func22 rfl Tryz.call22 (by rw [Tryz.ntmps22]; simp) ?_
 rw [Tryz.ntmps22,Tryz.results22]
 have F:=f3
 repeat (first | refine oO rfl (by simp only [go_sem,intAV,F]; exact⟨rfl,rfl⟩) ?_ | refine gR ?_ | refine gO ?_ | refine oC rfl (f0) (by simp only [go_sem,intAV,F]; exact iR) (by simp only [go_sem,intAV,F]; exact⟨rfl,rfl⟩) ?_ | refine oC rfl (f1) (by simp only [go_sem,intAV,F]; exact iR) (by simp only [go_sem,intAV,F]; exact⟨rfl,rfl⟩) ?_ | refine oZ (zas ?_) | refine oZ ?_ | refine oS ?_ | refine gT ?_ | refine gD Tryz.mixed ?_ | refine oB ?_ | refine oK ?_ | (refine oX ?_; simp only [zal,zah, ↓reduceIte,Nat.reduceEqDiff,reduceCtorEq]) | refine oY (by simp only [go_sem,intAV,F]; exact iR) ?_ | refine oN (by simp only [go_sem,intAV,F]; exact iR) ?_)
 refine zaV [(8,9001),(11,9002)] rfl (f2) (by decide) (by decide) (by simp only [go_sem,intAV,F]<;>rfl) (by simp only [go_sem,intAV,F,and_self]<;>trivial) (by simp only [go_sem,intAV,F,and_self]<;>trivial) (by intro o; simp only [go_sem,intAV,F,behind,and_self]<;>trivial) (by intro o; simp only [go_sem,intAV,F]<;>rfl) (by simp only [go_sem,intAV,F,behind]; exact iR) (by simp only [go_sem,intAV,F,behind]; exact iR) ?_
 repeat (first | refine oO rfl (by simp only [go_sem,intAV,F]; exact⟨rfl,rfl⟩) ?_ | refine gR ?_ | refine gO ?_ | refine oC rfl (f1) (by simp only [go_sem,intAV,F]; exact iR) (by simp only [go_sem,intAV,F]; exact⟨rfl,rfl⟩) ?_ | refine oC rfl (f3) (by simp only [go_sem,intAV,F]; exact iR) (by simp only [go_sem,intAV,F]; exact⟨rfl,rfl⟩) ?_ | refine oZ (zas ?_) | refine oZ ?_ | refine oS ?_ | refine gT ?_ | refine gD Tryz.mixed ?_ | refine oB ?_ | refine oK ?_ | (refine oX ?_; simp only [zal,zah, ↓reduceIte,Nat.reduceEqDiff,reduceCtorEq]) | refine oY (by simp only [go_sem,intAV,F]; exact iR) ?_ | refine oN (by simp only [go_sem,intAV,F]; exact iR) ?_)
 refine zaV [(1000,33),(1001,9001),(1002,9002)] rfl (f4) (by decide) (by decide) (by simp only [go_sem,intAV,F]<;>rfl) (by simp only [go_sem,intAV,F,and_self]<;>trivial) (by simp only [go_sem,intAV,F,and_self]<;>trivial) (by intro o; simp only [go_sem,intAV,F,behind,and_self]<;>trivial) (by intro o; simp only [go_sem,intAV,F]<;>rfl) (by simp only [go_sem,intAV,F,behind]; exact iR) (by simp only [go_sem,intAV,F,behind]; exact iR) ?_
 repeat (first | refine oO rfl (by simp only [go_sem,intAV,F]; exact⟨rfl,rfl⟩) ?_ | refine gR ?_ | refine gO ?_ | refine oZ (zas ?_) | refine oZ ?_ | refine oS ?_ | refine gT ?_ | refine gD Tryz.mixed ?_ | refine oB ?_ | refine oK ?_ | (refine oX ?_; simp only [zal,zah, ↓reduceIte,Nat.reduceEqDiff,reduceCtorEq]) | refine oY (by simp only [go_sem,intAV,F]; exact iR) ?_ | refine oN (by simp only [go_sem,intAV,F]; exact iR) ?_)
 refine zaV [(1000,33),(1001,9001),(1002,9002)] rfl (f5) (by decide) (by decide) (by simp only [go_sem,intAV,F]<;>rfl) (by simp only [go_sem,intAV,F,and_self]<;>trivial) (by simp only [go_sem,intAV,F,and_self]<;>trivial) (by intro o; simp only [go_sem,intAV,F,behind,and_self]<;>trivial) (by intro o; simp only [go_sem,intAV,F]<;>rfl) (by simp only [go_sem,intAV,F,behind]; exact iR) (by simp only [go_sem,intAV,F,behind]; exact iR) ?_
 repeat (first | refine oO rfl (by simp only [go_sem,intAV,F]; exact⟨rfl,rfl⟩) ?_ | refine gR ?_ | refine gO ?_ | refine oZ (zas ?_) | refine oZ ?_ | refine oS ?_ | refine gT ?_ | refine gD Tryz.mixed ?_ | refine oB ?_ | refine oK ?_ | (refine oX ?_; simp only [zal,zah, ↓reduceIte,Nat.reduceEqDiff,reduceCtorEq]) | refine oY (by simp only [go_sem,intAV,F]; exact iR) ?_ | refine oN (by simp only [go_sem,intAV,F]; exact iR) ?_)
 (refine zaf ?_; show (zao _ _ _).run _=some _; simp only [go_sem,intAV,F])
end
section
open Go.RowKit
theorem zhZ (env:Env) (n:List UInt8):Con Tryz.prog env 62 [Sg n] (.agg [Sg n,I 1,I (-1),I (-1),nilS,nilS]):=by
 refine zaa Tryz.func62 rfl Tryz.call62 (by rw [Tryz.ntmps62]; simp) ?_
 rw [Tryz.ntmps62,Tryz.results62]
 repeat refine st0 ?_
 exact aR0
theorem zmA (env:Env) (a1 a8:Addr) (he:ChEnv env a1 a8) (hT: ∀W,env.inv W->TabAt W):Con Tryz.prog env 21 [] (B true):=by
 have h0:(chk wakeM).1=0:=by rw [zgC]
 have h:=full_of h0
 have hs:=ziO h0
 have f0:=(zjM env a1 a8 he hT wakeM zgC zpl).args zpk
 have f1:=zpc env h hs
 have f2:=zlo env a1 a8 he h hs
 have f3:=zrN env a1 a8 he h hs
 have f4:Con Tryz.prog env 31 [.seq 1 [[I 1]], .seq 1 [[I 1]]] (B true):=by
  have:=zfX env [1] [1] (by decide)
  rw [decide_eq_true rfl] at this
  exact this
 have p1:=zhZ env [97]
 have p2:=zhZ env [98]
 unfold zpn at f0
 unfold wkI at f1 f2 f3
 unfold zaj at f0 f1 f2 f3
 generalize tabCells wakeM=T at*
 refine zaa Tryz.func21 rfl Tryz.call21 (by rw [Tryz.ntmps21]; simp) ?_
 rw [Tryz.ntmps21,Tryz.results21]
 repeat (first | refine st0 ?_ | refine cC0 p1 ?_ | refine cC0 p2 ?_ | refine cC0 f0 ?_ | refine cC0 f1 ?_ | refine cC0 f2 ?_ | refine cC0 f3 ?_ | refine cC0 f4 ?_)
 exact aR0
end
section
open Go.RowKit Go.ChangeShapes Go.WideShapes Go.ChangeAt Go.Deep
def WB {H:Type} (P:Program) (t:TypeId) (d:DataW H):Prop:= ∀z∈DataW.weights P t d,z<=reachBytes
section
variable {H:Type} {enc:TypeId×Value->H} {P:Program} {w:World} {base:Nat} {spare:Nat->Bool} {held:Bool}
theorem zmL {e:TypeId} {d:DataW H} : ∀ {l:List (DataW H)},d∈l-> ∀z∈DataW.weights P e d,z∈DataW.weightsAll P e l
 | a::r,h,z,hz=>by
   unfold DataW.weightsAll
   rcases List.mem_cons.1 h with rfl | h
   ·exact List.mem_append_left _ hz
   ·exact List.mem_append_right _ (zmL h z hz)
theorem WB.elem {t e:TypeId} {es rs:List (DataW H)} (ht:P.underlying t=some (.slice e)) (h:WB P t (.slice es rs)) {d:DataW H} (hd:d∈es):WB P e d:=fun z hz=>by
 refine h z ?_
 unfold DataW.weights
 rw [ht]
 exact List.mem_cons_of_mem _ (List.mem_append_left _ (zmL hd z hz))
theorem WB.size {t e:TypeId} {es rs:List (DataW H)} (ht:P.underlying t=some (.slice e)) (h:WB P t (.slice es rs)):es.length*P.bytesOf e<=reachBytes:=by
 refine Nat.le_trans ?_ (h ((es.length+rs.length)*P.bytesOf e) ?_)
 ·exact Nat.mul_le_mul_right _ (Nat.le_add_right ..)
 ·unfold DataW.weights
  rw [ht]
  exact List.mem_cons_self ..
theorem zgD: ∀ {ts:List TypeId} {l:List (DataW H)} {i:Nat} {t:TypeId} {d:DataW H},ts[i]? =some t->l[i]? =some d-> ∀z∈DataW.weights P t d,z∈DataW.weightsEach P ts l
 | t::ts,d::l,0,_,_,rfl,rfl,z,hz=>by unfold DataW.weightsEach; exact List.mem_append_left _ hz
 | t::ts,d::l,i+1,_,_,h1,h2,z,hz=>by
   unfold DataW.weightsEach
   exact List.mem_append_right _ (zgD (i:=i) (by simpa using h1) (by simpa using h2) z hz)
 | [],_,i,_,_,h1,_,z,hz=>by simp at h1
 | _::_,[],i,_,_,_,h2,z,hz=>by simp at h2
theorem WB.part {t:TypeId} {fs:Array Field} {ps:List (DataW H)} (ht:P.underlying t=some (.struct fs)) (h:WB P t (.agg ps)) {i:Nat} {f:Field} {d:DataW H} (hf:fs[i]? =some f) (hd:ps[i]? =some d):WB P f.type d:=fun z hz=>by
 refine h z ?_
 unfold DataW.weights
 rw [ht]
 refine zgD (i:=i) ?_ hd z hz
 rw [List.getElem?_map,Array.getElem?_toList,hf]
 rfl
theorem zoq {α:Type} {t e:TypeId} {size fuel:Nat} {R:List Value->α->Prop} {cs:List Value} {x:DataW H×List MemPlace} (ht:P.underlying t=some (.slice e)) (hC:P.cellsOf e=size) (hpos:0<size)
 (hR: ∀(m:Nat) (cs:List Value) (y:DataW H×List MemPlace),DataW.trod enc P w base spare held m e cs=some y->WB P e y.1-> ∃a,R cs a) (hw:WB P t x.1)
 (h:DataW.trod enc P w base spare held fuel t cs=some x): ∃v l,cs=[v]/\zcN w w.heap.size size R v l:=by
 rcases open_slice ht h with⟨rfl,_⟩ | ⟨a,len,cap,m,n,D,Pl,rfl,hb,hl,hm,hmm,rfl,hx⟩
 ·exact⟨_,[],rfl,none,0,[],rfl,Nat.le_refl _,Nat.zero_le _,Reads.empty _ _ _ _,by simp,fun i hi=>by simp at hi⟩
 have hlm:len<=m:=by rw [hmm]; split<;>omega
 rw [hC] at hx
 have hch: ∀i,∃cs':List Value,i<len->w.cells? base (a.add (i*size)) size=some cs'/\DataW.trod enc P w base spare held n e cs'=some (D i,Pl i):=fun i=>by
  by_cases hi:i<len
  ·obtain⟨cs',h1,h2⟩:=hx i (by omega)
   exact⟨cs',fun _=>⟨h1,h2⟩⟩
  ·exact⟨[],fun h=>absurd h hi⟩
 let f:Nat->List Value:=fun i=>(hch i).choose
 have hf: ∀i,i<len->w.cells? base (a.add (i*size)) size=some (f i)/\DataW.trod enc P w base spare held n e (f i)=some (D i,Pl i):=fun i hi=>(hch i).choose_spec hi
 have hfl: ∀i,i<len->(f i).length=size:=fun i hi=>(World.cells?_some (hf i hi).1).2.1
 obtain⟨l,hll,hl2⟩:=zqt (n:=len) (p:=fun i a=>R (f i) a) fun i hi=>hR _ _ _ (hf i hi).2 (WB.elem ht hw (List.mem_map.2 ⟨i,List.mem_range.2 hi,rfl⟩))
 refine⟨_,l,rfl,some a,cap,(List.range len).flatMap f,by rw [hll],by omega,by omega,⟨by rw [hll,flat_len f size len hfl],fun hn=> ?_⟩,by rw [hll,flat_len f size len hfl],fun i hi=> ?_⟩
 ·rw [hll] at hn
  have h0:=World.cells?_some (hf 0 hn).1
  have hc0:=h0.2.2 0 hpos
  have hsp:a.spot=none:=by
   rw [Nat.zero_mul] at hc0
   have:(f 0)[0]? =some ((f 0)[0]'(by rw [hfl 0 hn]; exact hpos)):=List.getElem?_eq_getElem _
   rw [this] at hc0
   have e:(a.add 0).add 0=a:=rfl
   rw [e] at hc0
   unfold World.cell? at hc0
   cases hs:a.spot with
   | none=>rfl
   | some s=>
     rw [hs] at hc0
     split at hc0<;>simp at hc0
  obtain⟨b,off,sp⟩:=a
  simp only at hsp
  subst hsp
  have hcell: ∀j u,((List.range len).flatMap f)[j]? =some u->w.cell? ⟨b,off+j,none⟩=some u:=by
   intro j u hu
   have hj:j<len*size:=by
    rcases Nat.lt_or_ge j (len*size) with h | h
    ·exact h
    ·rw [List.getElem?_eq_none (by rw [flat_len f size len hfl]; exact h)] at hu
     cases hu
   have hq:j/size<len:=Nat.div_lt_of_lt_mul (by rw [Nat.mul_comm]; exact hj)
   have hr:j%size<size:=Nat.mod_lt _ hpos
   have hpart:=zd0 f size len hfl (j/size) hq
   have e:j=j/size*size+j%size:=by rw [Nat.mul_comm]; exact(Nat.div_add_mod j size).symm
   have hget:(f (j/size))[j%size]? =some u:=by
    rw [<-hpart,List.getElem?_take,if_pos hr,List.getElem?_drop, <-e]
    exact hu
   have:=(World.cells?_some (hf _ hq).1).2.2 (j%size) hr
   rw [hget,add_plain,add_plain,Nat.add_assoc, <-e] at this
   exact this
  refine⟨b,off,rfl, ?_,hcell⟩
  have hx0:((List.range len).flatMap f)[0]? =some (((List.range len).flatMap f)[0]'(by rw [flat_len f size len hfl]; exact Nat.mul_pos hn hpos)):=List.getElem?_eq_getElem _
  exact World.block_lt_of_cell? w ⟨b,off+0,none⟩ (hcell 0 _ hx0)
 ·rw [zd0 f size len hfl i (by omega)]
  exact hl2 i hi
end
section
variable {H:Type} {enc:TypeId×Value->H} {P:Program} {w:World} {base:Nat} {spare:Nat->Bool} {held:Bool}
theorem zfC {α:Type} {t e:TypeId} {size fuel:Nat} {cs:List Value} {x:DataW H×List MemPlace} (en:α->List AV) (few:α->Prop) (hen: ∀a,(en a).length=size) (ht:P.underlying t=some (.slice e)) (hC:P.cellsOf e=size) (hpos:0<size)
 (hR: ∀(m:Nat) (cs:List Value) (y:DataW H×List MemPlace),DataW.trod enc P w base spare held m e cs=some y->WB P e y.1-> ∃a,RE w en few cs a) (hw:WB P t x.1)
 (h:DataW.trod enc P w base spare held fuel t cs=some x): ∃(v:Value) (l:List α),cs=[v]/\(v.oneCell'=true/\RV (fun b _=>b<w.heap.size) w v (.seq size (l.map en)))/\(l.length<=maxLen/\l.length*P.bytesOf e<=reachBytes)/\ ∀a∈l,few a:=by
 obtain⟨v,l,e1,hl⟩:=zoq (R:=RE w en few) ht hC hpos hR hw h
 have hrv:=zqs en hen hl fun cs a _ hr j u c hu hc=>hr.1.at_.2 j u c hu hc
 obtain⟨A,c,xs,rfl,_,h2,_,hrow⟩:=hl
 refine⟨_,l,e1,⟨rfl,hrv⟩,⟨h2, ?_⟩,fun a ha=> ?_⟩
 ·rcases DataW.trod_slice ht h with⟨e2,_⟩ | ⟨a,len,cap,elems,rest,n,_,e2,e3,_,_,_,hlen,_⟩
  ·rw [e1] at e2
   have e4:l.length=0:=by injection e2 with q1 _; injection q1
   rw [e4,Nat.zero_mul]
   exact Nat.zero_le _
  ·rw [e1] at e2
   have e4:l.length=len:=by injection e2 with q1 _; injection q1
   rw [e3] at hw
   have:=hw.size ht
   rw [List.length_map,hlen] at this
   rw [e4]
   exact this
 ·obtain⟨i,hi,rfl⟩:=List.getElem_of_mem ha
  exact(hrow.2 i hi).2
end
theorem zuR:Tryz.prog.bytesOf 3=8:=by kernel_rfl
def zq1 (m:MemD):Prop:=m.2.length<=maxLen/\m.2.length*8<=reachBytes
section
variable {H:Type} {enc:TypeId×Value->H} {w:World} {base:Nat} {spare:Nat->Bool} {held:Bool}
theorem zqf (m:Nat) (cs:List Value) (y:DataW H×List MemPlace) (h:DataW.trod enc Tryz.prog w base spare held m 85 cs=some y) (hw:WB Tryz.prog 85 y.1): ∃a:MemD,RE w mmAV zq1 cs a:=by
 obtain⟨xs,n,_,hx,hl,hxl,hg⟩:=DataW.trod_struct Tryz.underlying85 h
 rw [zuO] at hl
 obtain⟨c0,c1,rfl⟩:=zsq hl
 obtain⟨y0,h0⟩:=zbd hxl hg 0 _ rfl 3 0 1 rfl rfl c_int
 obtain⟨x0,e0, -, -⟩:=DataW.trod_int Tryz.underlying3 (show DataW.trod enc Tryz.prog w base spare held n 3 [c0]=some y0 from h0)
 cases e0
 have hx2:xs.length=2:=hxl
 obtain⟨y1,hy1⟩: ∃y1,xs[1]? =some y1:=⟨xs[1]'(by omega),List.getElem?_eq_getElem _⟩
 obtain⟨y2,h1⟩:=zbd hxl hg 1 _ rfl 27 1 1 rfl rfl zrs
 have h2:DataW.trod enc Tryz.prog w base spare held n 27 [c1]=xs[1]? :=by
  have:=hg 1 _ rfl
  exact this
 have h1:DataW.trod enc Tryz.prog w base spare held n 27 [c1]=some y1:=h2.trans hy1
 rw [hx] at hw
 have hw1:WB Tryz.prog 27 y1.1:=WB.part (i:=1) Tryz.underlying85 hw rfl (by rw [List.getElem?_map,hy1]; rfl)
 obtain⟨x1,l1,e1,r1,⟨n1,n2⟩, -⟩:=zfC (size:=1) intAV (fun _=>True) (fun _=>rfl) Tryz.underlying27 c_int (by decide) (fun m cs y h _=>open_int1 m cs y h) hw1 h1
 cases e1
 rw [zuR] at n2
 exact⟨(x0,l1),⟨⟨rfl, .lit _⟩,r1,trivial⟩,n1,n2⟩
end
end
section
open Go.RowKit Go.ChangeShapes Go.WideShapes Go.ChangeAt Go.Deep
theorem zu7:Tryz.prog.bytesOf 114=24:=by kernel_rfl
theorem zt7:Tryz.prog.cellsOf 50=13:=by kernel_rfl
def zjo (x:InD):Prop:=zuy x/\(∀m∈x.2.2.1,m.2.length*8<=reachBytes)/\x.2.2.2.1.length*24<=reachBytes
theorem zuv {l:List Value} (h:l.length=13): ∃a b c d e f g i j k m n o,l=[a,b,c,d,e,f,g,i,j,k,m,n,o]:=by
 match l,h with
 | [a,b,c,d,e,f,g,i,j,k,m,n,o],_=>exact⟨a,b,c,d,e,f,g,i,j,k,m,n,o,rfl⟩
section
variable {H:Type} {enc:TypeId×Value->H} {w:World} {base:Nat} {spare:Nat->Bool} {held:Bool}
theorem zor (m:Nat) (cs:List Value) (y:DataW H×List MemPlace) (h:DataW.trod enc Tryz.prog w base spare held m 31 cs=some y) (hw:WB Tryz.prog 31 y.1): ∃a:InD,RE w inE zjo cs a:=by
 obtain⟨xs,n,_,hx,hl,hxl,hg⟩:=DataW.trod_struct Tryz.underlying31 h
 rw [hx] at hw
 have hxk:xs.length=5:=hxl
 rw [zuP] at hl
 obtain⟨c0,c1,c2,c3,c4,rfl⟩:=ztU hl
 obtain⟨y0,h0⟩:=zbd hxl hg 0 _ rfl 27 0 1 rfl rfl zrs
 obtain⟨x0,l0,e0,r0,n0, -⟩:=zbv (size:=1) intAV (fun _=>True) (fun _=>rfl) Tryz.underlying27 c_int (by decide) open_int1 (show DataW.trod enc Tryz.prog w base spare held n 27 [c0]=some y0 from h0)
 cases e0
 obtain⟨y1,h1⟩:=zbd hxl hg 1 _ rfl 27 1 1 rfl rfl zrs
 obtain⟨x1,l1,e1,r1,n1, -⟩:=zbv (size:=1) intAV (fun _=>True) (fun _=>rfl) Tryz.underlying27 c_int (by decide) open_int1 (show DataW.trod enc Tryz.prog w base spare held n 27 [c1]=some y1 from h1)
 cases e1
 obtain⟨y2,hy2⟩: ∃z,xs[2]? =some z:=⟨xs[2]'(by omega),List.getElem?_eq_getElem _⟩
 have h2:DataW.trod enc Tryz.prog w base spare held n 28 [c2]=some y2:=by
  have:=hg 2 _ rfl
  exact Eq.trans (show DataW.trod enc Tryz.prog w base spare held n 28 [c2]=xs[2]? from this) hy2
 have hw2:WB Tryz.prog 28 y2.1:=WB.part (i:=2) Tryz.underlying31 hw rfl (by rw [List.getElem?_map,hy2]; rfl)
 obtain⟨x2,l2,e2,r2,⟨n2, -⟩,p2⟩:=zfC (size:=2) mmAV zq1 (fun _=>rfl) Tryz.underlying28 zuO (by decide) zqf hw2 h2
 cases e2
 obtain⟨y3,hy3⟩: ∃z,xs[3]? =some z:=⟨xs[3]'(by omega),List.getElem?_eq_getElem _⟩
 have h3:DataW.trod enc Tryz.prog w base spare held n 29 [c3]=some y3:=by
  have:=hg 3 _ rfl
  exact Eq.trans (show DataW.trod enc Tryz.prog w base spare held n 29 [c3]=xs[3]? from this) hy3
 have hw3:WB Tryz.prog 29 y3.1:=WB.part (i:=3) Tryz.underlying31 hw rfl (by rw [List.getElem?_map,hy3]; rfl)
 obtain⟨x3,l3,e3,r3,⟨n3,k3⟩,p3⟩:=zfC (size:=2) tmAV zno (fun _=>rfl) Tryz.underlying29 c_tm (by decide) (fun m cs y h _=>ztM m cs y h) hw3 h3
 cases e3
 rw [zu7] at k3
 obtain⟨y4,h4⟩:=zbd hxl hg 4 _ rfl 4 4 1 rfl rfl zuQ
 obtain⟨x4,e4, -⟩:=DataW.trod_bool Tryz.underlying4 (show DataW.trod enc Tryz.prog w base spare held n 4 [c4]=some y4 from h4)
 cases e4
 exact⟨(l0,l1,l2,l3,x4),⟨r0,r1,r2,r3,⟨rfl, .lit _⟩,trivial⟩,⟨⟨n0,n1⟩,⟨n2,fun m hm=>(p2 m hm).1⟩,n3,p3⟩,fun m hm=>(p2 m hm).2,k3⟩
theorem zos {r0:Reach} {b0:Nat} {v:Value} {d:DataW H} {p:List MemPlace} (hv:Value.okWide Tryz.prog w r0 b0 50 v) (hw:WB Tryz.prog 50 d) (h:DataW.Trod enc Tryz.prog w base spare held 50 v d p):
 ∃(c:ChD) (x:InD) (ev:List UInt8) (dt n:Int),zeA c/\zjo x/\RV (fun b _=>b<w.heap.size) w v (.agg (zar c x ev dt n)):=by
 obtain⟨cs,rfl,hsz⟩:=okWide_struct Tryz.underlying50 hv
 obtain⟨l⟩:=cs
 obtain⟨fuel,hf⟩:=h
 obtain⟨xs,n,_,hx,hl,hxl,hg⟩:=DataW.trod_struct Tryz.underlying50 hf
 rw [zt7] at hl
 obtain⟨c0,c1,c2,c3,c4,c5,c6,c7,c8,c9,c10,c11,c12,rfl⟩:=zuv (show l.length=13 from hl)
 have hxk:xs.length=5:=hxl
 have hd:d= .agg (xs.map (·.1)):=congrArg (·.1) hx
 rw [hd] at hw
 obtain⟨y0,h0⟩:=zbd hxl hg 0 _ rfl 26 0 5 rfl rfl c_ch
 obtain⟨c,q1,q2⟩:=ztN _ _ _ h0
 obtain⟨y1,hy1⟩: ∃z,xs[1]? =some z:=⟨xs[1]'(by omega),List.getElem?_eq_getElem _⟩
 have h1:DataW.trod enc Tryz.prog w base spare held n 31 [c5,c6,c7,c8,c9]=some y1:=by
  have:=hg 1 _ rfl
  exact Eq.trans (show DataW.trod enc Tryz.prog w base spare held n 31 [c5,c6,c7,c8,c9]=xs[1]? from this) hy1
 have hw1:WB Tryz.prog 31 y1.1:=WB.part (i:=1) Tryz.underlying50 hw rfl (by rw [List.getElem?_map,hy1]; rfl)
 obtain⟨x,k1,k2⟩:=zor _ _ _ h1 hw1
 obtain⟨y2,h2⟩:=zbd hxl hg 2 _ rfl 9 10 1 rfl rfl zdu
 obtain⟨x2,e2, -,s2⟩:=DataW.trod_string Tryz.underlying9 (show DataW.trod enc Tryz.prog w base spare held n 9 [c10]=some y2 from h2)
 cases e2
 obtain⟨⟨t2⟩⟩:=x2
 obtain⟨y3,h3⟩:=zbd hxl hg 3 _ rfl 3 11 1 rfl rfl c_int
 obtain⟨x3,e3, -, -⟩:=DataW.trod_int Tryz.underlying3 (show DataW.trod enc Tryz.prog w base spare held n 3 [c11]=some y3 from h3)
 cases e3
 obtain⟨y4,h4⟩:=zbd hxl hg 4 _ rfl 3 12 1 rfl rfl c_int
 obtain⟨x4,e4, -, -⟩:=DataW.trod_int Tryz.underlying3 (show DataW.trod enc Tryz.prog w base spare held n 3 [c12]=some y4 from h4)
 cases e4
 exact⟨c,x,t2,x3,x4,q2,k2,RVs.agg (show RVs _ w ([c0,c1,c2,c3,c4]++([c5,c6,c7,c8,c9]++[.string ⟨⟨t2⟩⟩, .int .i64 x3, .int .i64 x4])) (chAV c++(inE x++[Sg t2,I x3,I x4])) from RVs.app q1 (RVs.app k1 ⟨⟨rfl, .lit _⟩,⟨rfl, .lit _⟩,⟨rfl, .lit _⟩,trivial⟩))⟩
end
end
section
open Go.RowKit
theorem zl4 (env:Env) (c:ChD) (h:zhh c=false):Con Tryz.prog env 18 [.agg (chAV c)] (.lit (.pointer none)):=by
 have f0:=zeJ env c
 have f1:=zfA env c
 unfold zhh at h
 cases h1:zg3 c
 ·rw [h1] at f0
  refine zaa Tryz.func18 rfl Tryz.call18 (by rw [Tryz.ntmps18]; simp) ?_
  rw [Tryz.ntmps18,Tryz.results18]
  repeat (first | refine st0 ?_ | refine cC0 f0 ?_ | refine cC0 f1 ?_)
  exact aR0
 rw [h1] at f0
 rw [h1,Bool.true_and] at h
 rw [h] at f1
 refine zaa Tryz.func18 rfl Tryz.call18 (by rw [Tryz.ntmps18]; simp) ?_
 rw [Tryz.ntmps18,Tryz.results18]
 repeat (first | refine st0 ?_ | refine cC0 f0 ?_ | refine cC0 f1 ?_)
 exact aR0
theorem zsA {x:InD} (h:zjo x):(∀m∈x.2.2.1,Fits m.2.length 8)/\Fits x.2.2.2.1.length 24:=⟨fun m hm=>⟨Nat.le_trans (h.2.1 m hm) (by decide),zhL (h.1.2.1.2 m hm)⟩,Nat.le_trans h.2.2 (by decide),zhL h.1.2.2.1⟩
theorem zcS (env:Env) (ad:Nat->Addr) (hS: ∀w,env.inv w->Sents w ad) (k:Nat) (hk:1<=k/\k<=9) (p:Int) (ps:List Int):Con Tryz.prog env 29 [errV p (chainV ps (sentV (ad k))),I k] (B true):=by
 have f0:Con Tryz.prog env 42 [errV p (chainV ps (sentV (ad k)))] (I k):=zms env ad hS k hk (p::ps)
 have b0:(((k:Nat):Int)==0)=false:=by simp; omega
 generalize chainV ps (sentV (ad k))=X at*
 refine zaa Tryz.func29 rfl Tryz.call29 (by rw [Tryz.ntmps29]; simp) ?_
 rw [Tryz.ntmps29,Tryz.results29]
 have F:=b0
 repeat (first | refine st ?_ | refine cC f0 ?_)
 exact aR
def rdyI (c:ChD) (x:InD) (d:Int):Int:=if zbw c (rcI x)=false then 1 else if x.2.2.2.2=true then 7 else if zau d=false then 1 else 0
theorem zlM (env:Env) (c:ChD) (h:Full c) (x:InD) (hL:LiteI (rcI x)) (hF: ∀m∈x.2.2.1,Fits m.2.length 8) (ev:List UInt8) (d n:Int):Con Tryz.prog env 20 [.agg (zar c x ev d n)] (I (rdyI c x d)):=by
 have f0:=zj3 env c h (rcI x) hL hF
 have f1:=zbS env d
 rw [zg9] at f0
 unfold rdyI
 unfold chAV inE at f0
 cases h1:zbw c (rcI x) with
 | false=>
   rw [h1] at f0
   show Con _ _ _ _ (I 1)
   refine zaa Tryz.func20 rfl Tryz.call20 (by rw [Tryz.ntmps20]; simp) ?_
   rw [Tryz.ntmps20,Tryz.results20]
   repeat (first | refine oO rfl (by simp only [go_sem,zar]; exact⟨rfl,rfl⟩) ?_ | refine gR ?_ | refine gO ?_ | refine oC rfl (f0) (by simp only [go_sem,zar]; exact iR) (by simp only [go_sem,zar]; exact⟨rfl,rfl⟩) ?_ | refine oZ (zas ?_) | refine oZ ?_ | refine oS ?_ | refine gT ?_ | refine gD Tryz.mixed ?_ | refine oB ?_ | refine oK ?_ | (refine oX ?_; simp only [zal,zah, ↓reduceIte,Nat.reduceEqDiff,reduceCtorEq]) | refine oY (by simp only [go_sem,zar]; exact iR) ?_ | refine oN (by simp only [go_sem,zar]; exact iR) ?_)
   (refine zaf ?_; show (zao _ _ _).run _=some _; simp only [go_sem,zar])
 | true=>
 rw [h1] at f0
 cases h2:x.2.2.2.2 with
 | true=>
   rw [h2] at f0
   show Con _ _ _ _ (I 7)
   refine zaa Tryz.func20 rfl Tryz.call20 (by rw [Tryz.ntmps20]; simp) ?_
   rw [Tryz.ntmps20,Tryz.results20]
   have F:=h2
   repeat (first | refine oO rfl (by simp only [go_sem,zar,F]; exact⟨rfl,rfl⟩) ?_ | refine gR ?_ | refine gO ?_ | refine oC rfl (f0) (by simp only [go_sem,zar,F]; exact iR) (by simp only [go_sem,zar,F]; exact⟨rfl,rfl⟩) ?_ | refine oZ (zas ?_) | refine oZ ?_ | refine oS ?_ | refine gT ?_ | refine gD Tryz.mixed ?_ | refine oB ?_ | refine oK ?_ | (refine oX ?_; simp only [zal,zah, ↓reduceIte,Nat.reduceEqDiff,reduceCtorEq]) | refine oY (by simp only [go_sem,zar,F]; exact iR) ?_ | refine oN (by simp only [go_sem,zar,F]; exact iR) ?_)
   (refine zaf ?_; show (zao _ _ _).run _=some _; simp only [go_sem,zar,F])
 | false=>
 rw [h2] at f0
 cases h3:zau d with
 | false=>
   rw [h3] at f1
   show Con _ _ _ _ (I 1)
   refine zaa Tryz.func20 rfl Tryz.call20 (by rw [Tryz.ntmps20]; simp) ?_
   rw [Tryz.ntmps20,Tryz.results20]
   have F:=h2
   repeat (first | refine oO rfl (by simp only [go_sem,zar,F]; exact⟨rfl,rfl⟩) ?_ | refine gR ?_ | refine gO ?_ | refine oC rfl (f0) (by simp only [go_sem,zar,F]; exact iR) (by simp only [go_sem,zar,F]; exact⟨rfl,rfl⟩) ?_ | refine oC rfl (f1) (by simp only [go_sem,zar,F]; exact iR) (by simp only [go_sem,zar,F]; exact⟨rfl,rfl⟩) ?_ | refine oZ (zas ?_) | refine oZ ?_ | refine oS ?_ | refine gT ?_ | refine gD Tryz.mixed ?_ | refine oB ?_ | refine oK ?_ | (refine oX ?_; simp only [zal,zah, ↓reduceIte,Nat.reduceEqDiff,reduceCtorEq]) | refine oY (by simp only [go_sem,zar,F]; exact iR) ?_ | refine oN (by simp only [go_sem,zar,F]; exact iR) ?_)
   (refine zaf ?_; show (zao _ _ _).run _=some _; simp only [go_sem,zar,F])
 | true=>
   rw [h3] at f1
   show Con _ _ _ _ (I 0)
   refine zaa Tryz.func20 rfl Tryz.call20 (by rw [Tryz.ntmps20]; simp) ?_
   rw [Tryz.ntmps20,Tryz.results20]
   have F:=h2
   repeat (first | refine oO rfl (by simp only [go_sem,zar,F]; exact⟨rfl,rfl⟩) ?_ | refine gR ?_ | refine gO ?_ | refine oC rfl (f0) (by simp only [go_sem,zar,F]; exact iR) (by simp only [go_sem,zar,F]; exact⟨rfl,rfl⟩) ?_ | refine oC rfl (f1) (by simp only [go_sem,zar,F]; exact iR) (by simp only [go_sem,zar,F]; exact⟨rfl,rfl⟩) ?_ | refine oZ (zas ?_) | refine oZ ?_ | refine oS ?_ | refine gT ?_ | refine gD Tryz.mixed ?_ | refine oB ?_ | refine oK ?_ | (refine oX ?_; simp only [zal,zah, ↓reduceIte,Nat.reduceEqDiff,reduceCtorEq]) | refine oY (by simp only [go_sem,zar,F]; exact iR) ?_ | refine oN (by simp only [go_sem,zar,F]; exact iR) ?_)
   (refine zaf ?_; show (zao _ _ _).run _=some _; simp only [go_sem,zar,F])
theorem zd9 (env:Env) (c:ChD) (x:InD) (d:Int) (ev:List UInt8) (p:Int) (e:AV) (fr:Con Tryz.prog env 63 [Sg [109,105,99,114,111,46,69,110,97,98,108,101,100],zaj c, .agg (inE x),I d] (errV p e)):Con Tryz.prog env 24 [zaj c, .agg (inE x),Sg ev,I d] (.tuple [nilS,errV p e]):=by
 unfold zaj inE at fr |-
 refine zaa Tryz.func24 rfl Tryz.call24 (by rw [Tryz.ntmps24]; simp) ?_
 rw [Tryz.ntmps24,Tryz.results24]
 repeat (first | refine st0 ?_ | refine cC0 fr ?_)
 exact aR0
theorem zs2 {c:ChD} {x:InD} {d:Int} (hb:zbw c (rcI x)=true) (hd:zau d=true) (hl:x.1.length<=60):Asked c x d:=by
 unfold zbw at hb
 simp only [Bool.and_eq_true,beq_iff_eq] at hb
 obtain⟨⟨⟨⟨⟨b1,b2⟩,b3⟩,b4⟩,b5⟩,b6⟩:=hb
 exact⟨by omega,b3,List.all_eq_true.1 b6,hd,b1⟩
theorem zeK (ad:Nat->Addr) (c:ChD) (hcf:zeA c) (x:InD) (hx:zjo x) (ev:List UInt8) (d n:Int):Con Tryz.prog (zaP ad) 8 [.agg (zar c x ev d n)] (B true):=by
 have he:=zqh ad
 have hE:=zkh ad
 have h2:(zaP ad) 2=some (sentV (ad 2)):=rfl
 have h7:(zaP ad) 0=some (sentV (ad 7)):=rfl
 have fa:=zmA (zaP ad) (ad 1) (ad 8) he (zh3 ad)
 have fr:=zlI (zaP ad) c x ev d n
 cases hg:zhh c with
 | false=>
   have fm:=zl4 (zaP ad) c hg
   unfold ze1 at fr
   rw [hg,Bool.not_false,Bool.true_or,Bool.true_or,Bool.true_or] at fr
   unfold chAV at fm
   unfold zar at fr |-
   refine zaa Tryz.func8 rfl Tryz.call8 (by rw [Tryz.ntmps8]; simp) ?_
   rw [Tryz.ntmps8,Tryz.results8]
   repeat (first | refine st0 ?_ | refine cC0 fm ?_ | refine cC0 fr ?_ | refine cC0 fa ?_)
   exact aR0
 | true=>
 have h:=zqR hg
 have hs:=ziO (zt2 hg)
 have fm:=zoB (zaP ad) (ad 1) (ad 8) he (zh3 ad) c hcf hg
 cases hr:ze1 c x with
 | true=>
   rw [hr] at fr
   unfold chAV zaj at fm
   unfold zar at fr |-
   refine zaa Tryz.func8 rfl Tryz.call8 (by rw [Tryz.ntmps8]; simp) ?_
   rw [Tryz.ntmps8,Tryz.results8]
   repeat (first | refine st0 ?_ | refine cC0 fm ?_ | refine cC0 fr ?_ | refine cC0 fa ?_)
   exact aR0
 | false=>
 rw [hr] at fr
 unfold ze1 at hr
 rw [hg,Bool.not_true,Bool.false_or,Bool.or_eq_false_iff,Bool.or_eq_false_iff,decide_eq_false_iff_not,decide_eq_false_iff_not,decide_eq_false_iff_not] at hr
 obtain⟨⟨l1,l2⟩,l3⟩:=hr
 obtain⟨hF,hT⟩:=zsA hx
 have hL:LiteI (rcI x):=⟨show x.1.length<=1000000 by omega,show x.2.1.length<=1000000 by omega,show x.2.2.1.length<=1000000 by omega,hT.2⟩
 have hn: ∀t∈x.2.2.2.1,t.1.length<=9223372036854775807:=fun t ht=>zhL (hx.1.2.2.2 t ht)
 have fy:=zlM (zaP ad) c h x hL hF ev d n
 cases b1:zbw c (rcI x) with
 | false=>
   have fe:=zd9 (zaP ad) c x d ev _ _ (zod (zaP ad) (ad 1) (ad 8) he c h hs x hL hn hF _ d b1)
   have ft:Con Tryz.prog (zaP ad) 29 [errV (-1) (errV (-1) (sentV (ad 1))),I 1] (B true):=zcS (zaP ad) ad hE 1 (by omega) (-1) [-1]
   rw [show rdyI c x d=1 by unfold rdyI; rw [if_pos b1]] at fy
   generalize sentV (ad 1)=E1 at*
   unfold chAV zaj at fm
   unfold zaj inE at fe
   unfold zar at fr fy |-
   refine zaa Tryz.func8 rfl Tryz.call8 (by rw [Tryz.ntmps8]; simp) ?_
   rw [Tryz.ntmps8,Tryz.results8]
   repeat (first | refine st0 ?_ | refine cC0 fm ?_ | refine cC0 fr ?_ | refine cC0 fe ?_ | refine cC0 fy ?_ | refine cC0 ft ?_ | refine cC0 fa ?_)
   exact aR0
 | true=>
 cases b2:x.2.2.2.2 with
 | true=>
   have fe:=zd9 (zaP ad) c x d ev _ _ (zoc (zaP ad) (ad 1) (ad 7) (ad 8) he h7 c h hs x hL hn hF _ d b1 b2)
   have ft:Con Tryz.prog (zaP ad) 29 [errV (-1) (sentV (ad 7)),I 7] (B true):=zcS (zaP ad) ad hE 7 (by omega) (-1) []
   rw [show rdyI c x d=7 by unfold rdyI; rw [if_neg (by rw [b1]; simp),if_pos b2]] at fy
   generalize sentV (ad 7)=E7 at*
   unfold chAV zaj at fm
   unfold zaj inE at fe
   unfold zar at fr fy |-
   refine zaa Tryz.func8 rfl Tryz.call8 (by rw [Tryz.ntmps8]; simp) ?_
   rw [Tryz.ntmps8,Tryz.results8]
   repeat (first | refine st0 ?_ | refine cC0 fm ?_ | refine cC0 fr ?_ | refine cC0 fe ?_ | refine cC0 fy ?_ | refine cC0 ft ?_ | refine cC0 fa ?_)
   exact aR0
 | false=>
 cases b3:zau d with
 | false=>
   have fe:=zd9 (zaP ad) c x d ev _ _ (zoe (zaP ad) (ad 1) (ad 8) he c h hs x hL hn hF _ d b1 b2 b3)
   have ft:Con Tryz.prog (zaP ad) 29 [errV (-1) (sentV (ad 1)),I 1] (B true):=zcS (zaP ad) ad hE 1 (by omega) (-1) []
   rw [show rdyI c x d=1 by unfold rdyI; rw [if_neg (by rw [b1]; simp),if_neg (by rw [b2]; simp),if_pos b3]] at fy
   generalize sentV (ad 1)=E1 at*
   unfold chAV zaj at fm
   unfold zaj inE at fe
   unfold zar at fr fy |-
   refine zaa Tryz.func8 rfl Tryz.call8 (by rw [Tryz.ntmps8]; simp) ?_
   rw [Tryz.ntmps8,Tryz.results8]
   repeat (first | refine st0 ?_ | refine cC0 fm ?_ | refine cC0 fr ?_ | refine cC0 fe ?_ | refine cC0 fy ?_ | refine cC0 ft ?_ | refine cC0 fa ?_)
   exact aR0
 | true=>
 rw [show rdyI c x d=0 by unfold rdyI; rw [if_neg (by rw [b1]; simp),if_neg (by rw [b2]; simp),if_neg (by rw [b3]; simp)]] at fy
 have hA:Asked c x d:=zs2 b1 b3 (by omega)
 obtain⟨l,hl,hk⟩:=ztT hA.lg
 have fe:=zmG (zaP ad) (ad 1) (ad 2) (ad 8) he h2 c h hs x d hA ev (zpU (zaP ad) (ad 1) (ad 8) he c h hs x hL hn hF _ d b1 b2 b3) l hl hk
 have fd:=zj7 (zaP ad) c h hs x d hA ev l hl hk
 have hz: ∀y∈x.1,inZ c y=true:=fun y hy=>by
  obtain⟨_,_,hz,_⟩:=(zth hA.lg).of hy
  exact hz
 have hi: ∀i∈innL c l,(i:Int)∈x.1:=fun i hi=>by
  rw [hl]
  exact List.mem_map.2 ⟨i,ztZ h hk hi,rfl⟩
 have hfit: ∀f,zk7 c x.1 (woX c x.1 x.2.1 d) ev (innL c l)= .ok f->Fit c x.1 f:=fun f hf=>zsK h (zth hA.lg) hi hf
 cases hv:zk7 c x.1 (woX c x.1 x.2.1 d) ev (innL c l) with
 | error m=>
   rw [hv] at fe fd
   simp only [enAV] at fe
   simp only [erR] at fd
   have ft:Con Tryz.prog (zaP ad) 29 [errV (1000+(m:Nat)) (sentV (ad 2)),I 2] (B true):=zcS (zaP ad) ad hE 2 (by omega) (1000+(m:Nat)) []
   have fp:=zsd (zaP ad) rfl (1000+(m:Int)) (by omega) (sentV (ad 2))
   have q0:((1000+(m:Int))==(1000+(m:Int)))=true:=beq_self_eq_true _
   generalize sentV (ad 2)=E2 at*
   generalize 1000+(m:Int)=P at*
   unfold chAV zaj at fm
   unfold zaj inE at fe
   unfold chAV inE at fd
   unfold zar at fr fy |-
   refine zaa Tryz.func8 rfl Tryz.call8 (by rw [Tryz.ntmps8]; simp) ?_
   rw [Tryz.ntmps8,Tryz.results8]
   have F:=q0
   repeat (first | refine st ?_ | refine cC fm ?_ | refine cC fr ?_ | refine cC fe ?_ | refine cC fy ?_ | refine cC fd ?_ | refine cC ft ?_ | refine cC fp ?_ | refine cC fa ?_)
   exact aR
 | ok f=>
   have hF2:=hfit f hv
   rw [hv] at fe fd
   simp only [enAV] at fe
   simp only [erR] at fd
   have hfl:f.length<=64:=by
    have hnd:f.Nodup:=hF2.two.imp fun h=>h.1
    have:=hnd.length_le_of_subset (l₂:=List.range c.trans.length) fun n hn=>by
     obtain⟨t,ht,_⟩:=hF2.real n hn
     exact List.mem_range.2 (List.getElem?_eq_some_iff.1 ht).1
    have hftr:=h.ftr
    simp at this
    omega
   have fs:=zfX (zaP ad) f f (by omega)
   rw [decide_eq_true rfl] at fs
   have fF:=zoj (zaP ad) c h x.1 (by omega) hz f (by omega) hF2
   unfold chAV zaj at fm
   unfold zaj inE at fe
   unfold chAV inE at fd
   unfold chAV at fF
   unfold zar at fr fy |-
   refine zaa Tryz.func8 rfl Tryz.call8 (by rw [Tryz.ntmps8]; simp) ?_
   rw [Tryz.ntmps8,Tryz.results8]
   repeat (first | refine st0 ?_ | refine cC0 fm ?_ | refine cC0 fr ?_ | refine cC0 fe ?_ | refine cC0 fy ?_ | refine cC0 fd ?_ | refine cC0 fs ?_ | refine cC0 fF ?_ | refine cC0 fa ?_)
   exact aR0
end
section
open Go.RowKit Go.ChangeShapes
theorem Tryz.etName:Tryz.prog.globalNamed "errors.errorType" =some 9:=by kernel_rfl
theorem Tryz.rtRow:(Tryz.prog.cutTypes.find? (·.1 == "internal/reflectlite.rtype")).map (·.2)=some 297:=by kernel_rfl
theorem Tryz.errRow:((List.range Tryz.prog.types.size).filter fun t=>Tryz.prog.rowNamed t [101,114,114,111,114])=[37]:=by kernel_rfl
theorem zmc {W:World} {l:List (String×DataW Unit)} (h':handlesMet Tryz.prog l W) (hm:("errors.errorType",Rows.laid_errors_errorType)∈l):W.cell? ⟨9,0,none⟩=some errT:=by
 obtain⟨name,u,ty,e1,e2,e3,e4,e5⟩:=h' _ hm
 have en:name=[101,114,114,111,114]:=(Option.some.inj e1).symm
 subst en
 obtain rfl:=Option.some.inj (Tryz.rtRow.symm.trans e2)
 have hm:ty∈(List.range Tryz.prog.types.size).filter fun t=>Tryz.prog.rowNamed t [101,114,114,111,114]:=List.mem_filter.2 ⟨List.mem_range.2 e3,e4⟩
 rw [Tryz.errRow] at hm
 obtain rfl:=List.mem_singleton.1 hm
 have hh:typeHandle Tryz.prog 37= .pointer (some ⟨11,37,none⟩):=by kernel_rfl
 rw [hh] at e5
 simpa using World.var?_cell Tryz.etName e5 0
theorem zqA {W:World} (h:laidMetH Tryz.prog [("math/bits.deBruijn32tab",Rows.laid_math_bits_deBruijn32tab),("errors.errorType",Rows.laid_errors_errorType),("scrinium/api.ErrForm",Rows.laid_scrinium_api_ErrForm),("scrinium/api.ErrRange",Rows.laid_scrinium_api_ErrRange),("scrinium/api.ErrFull",Rows.laid_scrinium_api_ErrFull),("scrinium/api.ErrNone",Rows.laid_scrinium_api_ErrNone),("scrinium/api.ErrCorrupt",Rows.laid_scrinium_api_ErrCorrupt),("scrinium/api.ErrFuel",Rows.laid_scrinium_api_ErrFuel),("scrinium/api.ErrState",Rows.laid_scrinium_api_ErrState),("scrinium/api.ErrLong",Rows.laid_scrinium_api_ErrLong),("scrinium/api.ErrTwice",Rows.laid_scrinium_api_ErrTwice)] W):(∃ad,Sents W ad)/\TabAt W/\W.cell? ⟨9,0,none⟩=some errT:=by
 have h':laidMet Tryz.prog [("math/bits.deBruijn32tab",Rows.laid_math_bits_deBruijn32tab),("scrinium/api.ErrForm",Rows.laid_scrinium_api_ErrForm),("scrinium/api.ErrRange",Rows.laid_scrinium_api_ErrRange),("scrinium/api.ErrFull",Rows.laid_scrinium_api_ErrFull),("scrinium/api.ErrNone",Rows.laid_scrinium_api_ErrNone),("scrinium/api.ErrCorrupt",Rows.laid_scrinium_api_ErrCorrupt),("scrinium/api.ErrFuel",Rows.laid_scrinium_api_ErrFuel),("scrinium/api.ErrState",Rows.laid_scrinium_api_ErrState),("scrinium/api.ErrLong",Rows.laid_scrinium_api_ErrLong),("scrinium/api.ErrTwice",Rows.laid_scrinium_api_ErrTwice)] W/\handlesMet Tryz.prog [("errors.errorType",Rows.laid_errors_errorType)] W:=h
 have hT:=zmc h'.2 (by simp)
 obtain⟨ps,hv,hnd,hrows⟩:=h'.1
 obtain⟨g0,t0,cs0,f0,p0,q0,hg0,ht0,hv0,hd0,hrest,rfl⟩:=hv
 refine⟨ziQ ?_,zul hg0 ht0 hv0 hd0,hT⟩
 rw [MakeChecks.laidMetH_plain _ _ _ (by kernel_rfl)]
 exact⟨q0,hrest,(List.nodup_append.1 hnd).2.1,fun b off hh=>hrows b off (List.mem_append_right _ hh)⟩
end

end Go.Proofs.YtnbjaghjdeicmaaGreatDoor