/- The law EnterTargets. -/
import Derived.Test.YtlmekdfleciejaaGreatDoorD49
import Derived.Test.YtlmekdfleciejaaGreatDoorD7
import Derived.Test.YtlmekdfleciejaaGreatDoorD47
set_option maxRecDepth 100000
set_option maxHeartbeats 8000000
set_option linter.unusedSimpArgs false
namespace Go.Proofs.YtlmekdfleciejaaGreatDoor
open Go.RowKit
theorem zkJ (env:Env) (a1 a8:Addr) (he:ChEnv env a1 a8) (c:ChD) (h:Full c) (hs:Small c) (mem:List MemD) (hl:mem.length<=1000000) (hF: ∀m∈mem,Fits m.2.length 8) (n:Int) (hb:zc3 c mem=false):Con Tryz.prog env 62 [zai c,I n,memsAV mem] (.tuple [nilS,errV (-1) (errV (-1) (sentV a1))]):=by
 have f0:=zeE env a1 a8 he c h hs mem hl hF
 unfold chkM at f0
 rw [hb,if_neg Bool.false_ne_true] at f0
 have f1:=zoZ env [101,110,116,101,114,46,84,97,114,103,101,116] (-1) (sentV a1)
 unfold zai at f0 |-
 refine zaa Tryz.func62 rfl Tryz.call62 (by rw [Tryz.ntmps62]; simp) ?_
 rw [Tryz.ntmps62,Tryz.results62]
 repeat (first | refine st0 ?_ | refine cC0 f0 ?_ | refine cC0 f1 ?_)
 exact aR0
theorem zkI (env:Env) (a1 a8:Addr) (he:ChEnv env a1 a8) (c:ChD) (h:Full c) (hs:Small c) (mem:List MemD) (hl:mem.length<=1000000) (hF: ∀m∈mem,Fits m.2.length 8) (n:Int) (hb:zc3 c mem=true) (hn:isT c n=false):Con Tryz.prog env 62 [zai c,I n,memsAV mem] (.tuple [nilS,errV (-1) (sentV a1)]):=by
 have f0:=zeE env a1 a8 he c h hs mem hl hF
 unfold chkM at f0
 rw [hb,if_pos rfl] at f0
 have f1:=zmX env c hs n hn
 have f2:=zg9 env a1 a8 he [101,110,116,101,114,46,84,97,114,103,101,116]
 unfold zai at f0 f1 |-
 refine zaa Tryz.func62 rfl Tryz.call62 (by rw [Tryz.ntmps62]; simp) ?_
 rw [Tryz.ntmps62,Tryz.results62]
 repeat (first | refine st0 ?_ | refine cC0 f0 ?_ | refine cC0 f1 ?_ | refine cC0 f2 ?_)
 exact aR0
def targetR (c:ChD) (t:TrD) (mem:List MemD):List Nat:=if t.target<0 then [] else tgtL c t.src t.target mem
theorem zmI (env:Env) (a1 a8:Addr) (he:ChEnv env a1 a8) (c:ChD) (h:Full c) (hs:Small c) (mem:List MemD) (hl:mem.length<=1000000) (hF: ∀m∈mem,Fits m.2.length 8) (k:Nat) (t:TrD) (ht:c.trans[k]? =some t) (hb:zc3 c mem=true):Con Tryz.prog env 62 [zai c,I k,memsAV mem] (.tuple [.seq 1 ((targetR c t mem).map zae),nilE]):=by
 have f0:=zeE env a1 a8 he c h hs mem hl hF
 unfold chkM at f0
 rw [hb,if_pos rfl] at f0
 have f1:=zhx env c hs k t ht
 unfold targetR
 unfold trAV at f1
 by_cases h0:t.target<0
 ·rw [if_pos h0]
  unfold zai at f0 f1 |-
  refine zaj Tryz.func62 rfl Tryz.call62 (by rw [Tryz.ntmps62]; simp) ?_
  rw [Tryz.ntmps62,Tryz.results62]
  have F:=h0
  repeat (first | refine st ?_ | refine cC f0 ?_ | refine cC f1 ?_)
  (refine zak ?_; refine⟨_,(by show (zaz _ _ _).run _=some _; simp only [go_sem,F]; rfl), ?_⟩)
  exact .of (.tuple (.cons (.nil 1) (.cons (.refl _) .nil))) (fun _ _ _ h=>by cases h) (fun _ _ _ h=>by cases h)
 ·rw [if_neg h0]
  have htg:inZ c t.target=true:=by
   rcases (h.src ht).2 with e | e
   ·omega
   ·exact e
  have f2:=zgR env c h hs t (h.src ht).1 htg mem hl (fun m hm=>by have:=(znD h hb m hm).2; omega) hb
  unfold trAV at f2
  unfold zai at f0 f1 f2 |-
  refine zaa Tryz.func62 rfl Tryz.call62 (by rw [Tryz.ntmps62]; simp) ?_
  rw [Tryz.ntmps62,Tryz.results62]
  have F:=h0
  repeat (first | refine st ?_ | refine cC f0 ?_ | refine cC f1 ?_ | refine cC f2 ?_)
  exact aR
theorem ziw (env:Env) (c:ChD) (h:Full c) (mem:List MemD) (hl:mem.length<=1000000) (k:Nat) (t:TrD) (ht:c.trans[k]? =some t) (hb:zc3 c mem=true):Con Tryz.prog env 53 [.agg (chAV c), .agg (trAV t),memsAV mem] (.own 3 1 ((targetR c t mem).map zae)):=by
 unfold targetR
 by_cases h0:t.target<0
 ·rw [if_pos h0]
  refine zaj Tryz.func53 rfl Tryz.call53 (by rw [Tryz.ntmps53]; simp) ?_
  rw [Tryz.ntmps53,Tryz.results53]
  have F:=ai chAV.eq_1<|ai trAV.eq_1<|h0
  repeat refine st ?_
  (refine zak ?_; refine⟨_,(by show (zaz _ _ _).run _=some _; simp only [go_sem,F]; rfl), ?_⟩)
  exact RStr.own_nil _ _ (by decide)
 ·rw [if_neg h0]
  have htg:inZ c t.target=true:=by
   rcases (h.src ht).2 with e | e
   ·omega
   ·exact e
  exact zhJ env c h t (h.src ht).1 htg mem hl hb
theorem zj3 {c:ChD} (h:Full c) {l:List Int} :(sortL c l).length<=32:=zin h.toRight l
theorem zd5 (ad:Nat->Addr) (c:ChD) (hcf:zdq c) (act:List Int) (n:Int) (mem:List MemD) (hF: ∀m∈mem,Fits m.2.length 8):Con Tryz.prog (zaI ad zaJ) 10 [.agg (zbG c act n mem)] (B true):=by
 have he:=zk8 ad
 have fa:=zgA (zaI ad zaJ) (ad 1) (ad 8) he (zem ad)
 have fr:=zf3 (zaI ad zaJ) c act n mem
 cases hg:zfx c with
 | false=>
   have fm:=zge (zaI ad zaJ) c hg
   unfold zfc at fr
   rw [hg,Bool.not_false,Bool.true_or,Bool.true_or] at fr
   unfold chAV at fm
   unfold zbG at fr |-
   refine zaa Tryz.func10 rfl Tryz.call10 (by rw [Tryz.ntmps10]; simp) ?_
   rw [Tryz.ntmps10,Tryz.results10]
   repeat (first | refine st0 ?_ | refine cC0 fm ?_ | refine cC0 fr ?_ | refine cC0 fa ?_)
   exact aR0
 | true=>
 have h:=zi7 hg
 have hs:=zfA (zn8 hg)
 have fm:=zg1 (zaI ad zaJ) (ad 1) (ad 8) he (zem ad) c hcf hg
 cases hr:zfc c act mem with
 | true=>
   rw [hr] at fr
   unfold chAV zai at fm
   unfold zbG at fr |-
   refine zaa Tryz.func10 rfl Tryz.call10 (by rw [Tryz.ntmps10]; simp) ?_
   rw [Tryz.ntmps10,Tryz.results10]
   repeat (first | refine st0 ?_ | refine cC0 fm ?_ | refine cC0 fr ?_ | refine cC0 fa ?_)
   exact aR0
 | false=>
 rw [hr] at fr
 unfold zfc at hr
 rw [hg,Bool.not_true,Bool.false_or,Bool.or_eq_false_iff,decide_eq_false_iff_not,decide_eq_false_iff_not] at hr
 have hl:mem.length<=1000000:=by omega
 have fd:=zfe (zaI ad zaJ) c h mem hl hF
 have fi:=zng (zaI ad zaJ) c n
 cases hb:zc3 c mem with
 | false=>
   rw [hb] at fd
   have fl:=zkJ (zaI ad zaJ) (ad 1) (ad 8) he c h hs mem hl hF n hb
   have ft:Con Tryz.prog (zaI ad zaJ) 58 [errV (-1) (errV (-1) (sentV (ad 1))),I 1] (B true):=zdZ ad zaJ 1 (by omega) (-1) [-1]
   generalize sentV (ad 1)=E at*
   unfold chAV at fd
   unfold chAV zai at fm
   unfold zai at fl
   unfold zbG at fr |-
   refine zaa Tryz.func10 rfl Tryz.call10 (by rw [Tryz.ntmps10]; simp) ?_
   rw [Tryz.ntmps10,Tryz.results10]
   repeat (first | refine st0 ?_ | refine cC0 fm ?_ | refine cC0 fr ?_ | refine cC0 fl ?_ | refine cC0 fd ?_ | refine cC0 ft ?_ | refine cC0 fa ?_)
   exact aR0
 | true=>
 rw [hb] at fd
 cases ht:isT c n with
 | false=>
   rw [ht] at fi
   have fl:=zkI (zaI ad zaJ) (ad 1) (ad 8) he c h hs mem hl hF n hb ht
   have ft:Con Tryz.prog (zaI ad zaJ) 58 [errV (-1) (sentV (ad 1)),I 1] (B true):=zdZ ad zaJ 1 (by omega) (-1) []
   generalize sentV (ad 1)=E at*
   unfold chAV at fd fi
   unfold chAV zai at fm
   unfold zai at fl
   unfold zbG at fr |-
   refine zaa Tryz.func10 rfl Tryz.call10 (by rw [Tryz.ntmps10]; simp) ?_
   rw [Tryz.ntmps10,Tryz.results10]
   repeat (first | refine st0 ?_ | refine cC0 fm ?_ | refine cC0 fr ?_ | refine cC0 fl ?_ | refine cC0 fd ?_ | refine cC0 fi ?_ | refine cC0 ft ?_ | refine cC0 fa ?_)
   exact aR0
 | true=>
   rw [ht] at fi
   obtain⟨k,t,rfl,hk⟩:=zqV ht
   have hk1:=(List.getElem?_eq_some_iff.1 hk).1
   have q0:((k:Nat):Int)< (c.trans.length:Int):=by omega
   have fl:=zmI (zaI ad zaJ) (ad 1) (ad 8) he c h hs mem hl hF k t hk hb
   have fq:=ziw (zaI ad zaJ) c h mem hl k t hk hb
   have hn:(targetR c t mem).length<=1000000:=by
    unfold targetR
    split
    ·simp
    ·have:=zj3 h (l:=growL c (upsL c (leadL c t.target mem) (domE c t.src t.target)))
     unfold tgtL
     omega
   generalize targetR c t mem=M at*
   have fs:=zfb (zaI ad zaJ) M M hn
   rw [decide_eq_true rfl] at fs
   unfold chAV at fd fi fq
   unfold trAV at fq
   unfold chAV zai at fm
   unfold zai at fl
   unfold zbG at fr |-
   refine zaa Tryz.func10 rfl Tryz.call10 (by rw [Tryz.ntmps10]; simp) ?_
   rw [Tryz.ntmps10,Tryz.results10]
   have F:=ai trAV.eq_1<|ai hk<|q0
   repeat (first | refine st ?_ | refine cC fm ?_ | refine cC fr ?_ | refine cC fl ?_ | refine cC fd ?_ | refine cC fi ?_ | refine cC fq ?_ | refine cC fs ?_ | refine cC fa ?_)
   exact aR
end Go.Proofs.YtlmekdfleciejaaGreatDoor
