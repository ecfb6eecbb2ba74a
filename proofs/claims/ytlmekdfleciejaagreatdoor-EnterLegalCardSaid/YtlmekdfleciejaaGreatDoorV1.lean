/- The law EnterLegal. -/
import Derived.Test.YtlmekdfleciejaaGreatDoorD44
import Derived.Test.YtlmekdfleciejaaGreatDoorS1
import Derived.Test.YtlmekdfleciejaaGreatDoorD42
import Derived.Test.YtlmekdfleciejaaGreatDoorD7
set_option maxRecDepth 100000
set_option maxHeartbeats 16000000
set_option linter.unusedSimpArgs false
namespace Go.Proofs.YtlmekdfleciejaaGreatDoor
section
open Go.RowKit Go.ChangeShapes
structure TbW (w:World) (a1 a8:Addr):Prop where
 s1:Sent w 1 a1
 s8:Sent w 7 a8
 tab:TabAt w
def tbAt (a1 a8:Addr) (g:Nat):Option AV:=
 if g=1 then some (sentV a1) else
 if g=7 then some (sentV a8) else none
def tbEnv (a1 a8:Addr):Env:=⟨tbAt a1 a8,fun w=>TbW w a1 a8,fun _ _ h hb=>⟨h.s1.below hb,h.s8.below hb,h.tab.below hb⟩⟩
theorem tbEnv_ch (a1 a8:Addr):ChEnv (tbEnv a1 a8) a1 a8:=⟨rfl,rfl⟩
theorem tbEnv_tab (a1 a8:Addr): ∀W,(tbEnv a1 a8).inv W->TabAt W:=fun _ h=>TbW.tab h
theorem tbEnv_ok {a1 a8:Addr} {w:World} (h:TbW w a1 a8):EnvOk (tbEnv a1 a8) (fun b _=>b<w.heap.size) w:=by
 refine⟨h,fun b o hb=>hb,fun g c hg=> ?_⟩
 have hg:tbAt a1 a8 g=some c:=hg
 unfold tbAt at hg
 split at hg
 ·rename_i e; subst e; cases hg; exact⟨_,h.s1.1,rfl,zoE h.s1.1, .lit _⟩
 split at hg
 ·rename_i e; subst e; cases hg; exact⟨_,h.s8.1,rfl,zoE h.s8.1, .lit _⟩
 cases hg
end
section
open Go.RowKit Go.ChangeShapes
theorem laid_first {W:World} (h:laidMetH Tryz.prog [("math/bits.deBruijn32tab",Rows.laid_math_bits_deBruijn32tab),("scrinium/api.ErrForm",Rows.laid_scrinium_api_ErrForm),("scrinium/api.ErrState",Rows.laid_scrinium_api_ErrState),("scrinium/api.ErrLong",Rows.laid_scrinium_api_ErrLong)] W): ∃a1 a8,TbW W a1 a8:=by
 rw [MakeChecks.laidMetH_plain _ _ _ (by kernel_rfl)] at h
 obtain⟨ps,hv,hnd,hrows⟩:=h
 obtain⟨g0,t0,cs0,f0,p0,q0,hg0,ht0,hv0,hd0,hrest,rfl⟩:=hv
 have hT:=zqM hg0 ht0 hv0 hd0
 obtain⟨adl,h1,h2,h3⟩:=ziQ (nm:= "*errors.errorString") Tryz.underlying51 Tryz.row160 Tryz.underlying261 Tryz.underlying281 rfl rfl Tryz.underlying9 (by kernel_rfl) (by kernel_rfl)
  [("scrinium/api.ErrForm",[102,111,114,109]),("scrinium/api.ErrState",[115,116,97,116,101]),("scrinium/api.ErrLong",[108,111,110,103])] [1,0,7] q0 hrest (by kernel_rfl) (by
    intro g hg
    simp at hg
    rcases hg with rfl | rfl | rfl<;>kernel_rfl) (fun b off hh=>hrows b off (List.mem_append_right _ hh))
 match adl,h1 with
 | [a1,a7,a8],_=>exact⟨a1,a8,h2 0 _ _ rfl rfl,h2 2 _ _ rfl rfl,hT⟩
end
section
open Go.RowKit
theorem zsg {c:ChD} (h:Full c) {src tg:Int} (hs:inZ c src=true) (ht:inZ c tg=true) {mem:List MemD} (hm:zc3 c mem=true) {x:Int} :x∈zL (tgtL c src tg mem)↔Gr c (upsL c (leadL c tg mem) (domE c src tg)) x:=by
 obtain⟨d1,_,d3⟩:=zqW h hs ht
 have hu:=zpm h ht hm d1 (by rcases d3 with e | e<;>omega)
 have hin: ∀y∈upsL c (leadL c tg mem) (domE c src tg),inZ c y=true:=fun y hy=>zaD (hu.bel y hy)
 have hn:=(zdR (c:=c) (d:=domE c src tg) (l:=leadL c tg mem)).1
 unfold tgtL
 rw [sort_memI h.toRight fun y hy=>((zcV h hn).1 hy).in h hin,zcV h hn]
theorem zr2 {c:ChD} (h:Full c) {act:List Int} (hb:lgB c act=true) {t:TrD} {mem:List MemD} {x:Int} :x∈zL (riseL c (outL c act t mem))↔x∈zL (targetR c t (nowL c act t mem))\/(x∈act/\x∉leaveR c act t):=by
 have hz: ∀x∈stayL (leaveR c act t) act,0<=x:=fun x hx=>by
  obtain⟨_,_,hz,_⟩:=(lg_out hb).of (List.mem_filter.1 hx).1
  exact(zag.1 hz).1
 have e:zL (outL c act t mem)=zL (targetR c t (nowL c act t mem))++stayL (leaveR c act t) act:=by
  unfold outL
  conv=>rhs; rw [zri hz]
  unfold zL
  rw [List.map_append]
 have e2:x∈zL (riseL c (outL c act t mem))↔x∈zL (outL c act t mem):=by
  unfold zL
  rw [List.mem_map,List.mem_map]
  constructor
  ·rintro⟨k,hk,rfl⟩
   exact⟨k,(rise_mem.1 hk).2,rfl⟩
  ·rintro⟨k,hk,rfl⟩
   exact⟨k,rise_mem.2 ⟨zsD h hb hk,hk⟩,rfl⟩
 rw [e2,e,List.mem_append]
 refine or_congr Iff.rfl ?_
 unfold stayL
 rw [List.mem_filter]
 simp
theorem zsl {c:ChD} (h:Full c) {act:List Int} (hb:lgB c act=true) {t:TrD} (h0:0<=t.target) {x:Int} :x∈leaveR c act t↔x∈act/\aboveB c (domE c t.src t.target) x=true:=by
 unfold leaveR
 rw [if_neg (by omega),List.mem_reverse]
 unfold undR
 rw [List.mem_filter,sort_memI h.toRight fun y hy=>by
  obtain⟨_,_,hz,_⟩:=(lg_out hb).of hy
  exact hz]
theorem zr3 {c:ChD} (h:Full c) {act:List Int} (hb:lgB c act=true) {k:Nat} {t:TrD} (ht:c.trans[k]? =some t) {mem:List MemD} (hm:zc3 c mem=true) (h0:0<=t.target) (hsrc:t.src∈act):
 lgB c (zL (riseL c (outL c act t mem)))=true/\ ∀x,aboveB c (domE c t.src t.target) x=false->(x∈zL (riseL c (outL c act t mem))↔x∈act):=by
 have hg:=lg_out hb
 obtain⟨s1,s2⟩:=h.src ht
 have htz:inZ c t.target=true:=by
  rcases s2 with e | e
  ·omega
  ·exact e
 obtain⟨d1,d2,d3⟩:=zqW h s1 htz
 have hgood:=(zru (t:=t) h hb hm).2
 have hd: -1<=domE c t.src t.target:=by rcases d3 with e | e<;>omega
 have hu:=zpm h htz hgood d1 hd
 refine move_legal h hg hu (d3.imp id fun e=>⟨hg.up h.toRight (t.src.toNat+1) t.src _ (by have:=(zag.1 s1).1; omega) hsrc d2 e.1,e.2⟩) (rises ..) fun x=> ?_
 rw [zr2 h hb,zsl h hb h0]
 have ht2:targetR c t (nowL c act t mem)=tgtL c t.src t.target (nowL c act t mem):=by unfold targetR; rw [if_neg (by omega)]
 rw [ht2,zsg h s1 htz hgood]
 constructor
 ·rintro(q | ⟨q1,q2⟩)
  ·exact .inr q
  ·refine .inl ⟨q1, ?_⟩
   cases hab:aboveB c (domE c t.src t.target) x
   ·rfl
   ·exact absurd ⟨q1,hab⟩ q2
 ·rintro(⟨q1,q2⟩ | q)
  ·exact .inr ⟨q1,fun e=>by rw [e.2] at q2; cases q2⟩
  ·exact .inl q
theorem zsb {c:ChD} (h:Full c) {act:List Int} (hb:lgB c act=true) {t:TrD} {mem:List MemD} (h0:t.target<0):zL (riseL c (outL c act t mem))=act:=by
 refine rise_eq (zL_rise ..) (lg_out hb).rise fun x=> ?_
 rw [zr2 h hb]
 unfold targetR leaveR
 rw [if_pos h0,if_pos h0]
 simp [zL]
end
section
open Go.RowKit
theorem zrB (env:Env) (a1 a8:Addr) (he:ChEnv env a1 a8) (hT: ∀W,env.inv W->TabAt W) (c:ChD) (hcf:zdq c) (act:List Int) (n:Int) (mem:List MemD) (hF: ∀m∈mem,Fits m.2.length 8):Con Tryz.prog env 7 [.agg (zbG c act n mem)] (B true):=by
 have fa:=zgA env a1 a8 he hT
 have fr:=zf3 env c act n mem
 cases hg:zfx c with
 | false=>
   have fm:=zge env c hg
   unfold zfc at fr
   rw [hg,Bool.not_false,Bool.true_or,Bool.true_or] at fr
   unfold chAV at fm
   unfold zbG at fr |-
   refine zaa Tryz.func7 rfl Tryz.call7 (by rw [Tryz.ntmps7]; simp) ?_
   rw [Tryz.ntmps7,Tryz.results7]
   repeat (first | refine st0 ?_ | refine cC0 fm ?_ | refine cC0 fr ?_ | refine cC0 fa ?_)
   exact aR0
 | true=>
 have h:=zi7 hg
 have hs:=zfA (zn8 hg)
 have fm:=zg1 env a1 a8 he hT c hcf hg
 cases hr:zfc c act mem with
 | true=>
   rw [hr] at fr
   unfold chAV zai at fm
   unfold zbG at fr |-
   refine zaa Tryz.func7 rfl Tryz.call7 (by rw [Tryz.ntmps7]; simp) ?_
   rw [Tryz.ntmps7,Tryz.results7]
   repeat (first | refine st0 ?_ | refine cC0 fm ?_ | refine cC0 fr ?_ | refine cC0 fa ?_)
   exact aR0
 | false=>
 rw [hr] at fr
 unfold zfc at hr
 rw [hg,Bool.not_true,Bool.false_or,Bool.or_eq_false_iff,decide_eq_false_iff_not,decide_eq_false_iff_not] at hr
 have hl:act.length<=1000:=by omega
 have hml:mem.length<=1000000:=by omega
 have fL:=zrs env c h act (by omega)
 have fC:=zfe env c h mem hml hF
 have fi:=zng env c n
 unfold chAV at fL fC fi
 unfold chAV zai at fm
 unfold zbG at fr |-
 cases hb:lgB c act with
 | false=>
   rw [hb] at fL
   refine zaa Tryz.func7 rfl Tryz.call7 (by rw [Tryz.ntmps7]; simp) ?_
   rw [Tryz.ntmps7,Tryz.results7]
   repeat (first | refine st0 ?_ | refine cC0 fm ?_ | refine cC0 fr ?_ | refine cC0 fL ?_ | refine cC0 fC ?_ | refine cC0 fi ?_ | refine cC0 fa ?_)
   exact aR0
 | true=>
 rw [hb] at fL
 cases hm:zc3 c mem with
 | false=>
   rw [hm] at fC
   refine zaa Tryz.func7 rfl Tryz.call7 (by rw [Tryz.ntmps7]; simp) ?_
   rw [Tryz.ntmps7,Tryz.results7]
   repeat (first | refine st0 ?_ | refine cC0 fm ?_ | refine cC0 fr ?_ | refine cC0 fL ?_ | refine cC0 fC ?_ | refine cC0 fi ?_ | refine cC0 fa ?_)
   exact aR0
 | true=>
 rw [hm] at fC
 cases ht:isT c n with
 | false=>
   rw [ht] at fi
   refine zaa Tryz.func7 rfl Tryz.call7 (by rw [Tryz.ntmps7]; simp) ?_
   rw [Tryz.ntmps7,Tryz.results7]
   repeat (first | refine st0 ?_ | refine cC0 fm ?_ | refine cC0 fr ?_ | refine cC0 fL ?_ | refine cC0 fC ?_ | refine cC0 fi ?_ | refine cC0 fa ?_)
   exact aR0
 | true=>
 rw [ht] at fi
 obtain⟨k,t,rfl,hk⟩:=zqV ht
 have hk1:=(List.getElem?_eq_some_iff.1 hk).1
 have q0:((k:Nat):Int)< (c.trans.length:Int):=by omega
 have fI:=zdF env act t.src (by omega)
 cases hsrc:act.contains t.src with
 | false=>
   rw [hsrc] at fI
   refine zaa Tryz.func7 rfl Tryz.call7 (by rw [Tryz.ntmps7]; simp) ?_
   rw [Tryz.ntmps7,Tryz.results7]
   have F:=ai trAV.eq_1<|ai hk<|q0
   repeat (first | refine st ?_ | refine cC fm ?_ | refine cC fr ?_ | refine cC fL ?_ | refine cC fC ?_ | refine cC fi ?_ | refine cC fI ?_ | refine cC fa ?_)
   exact aR
 | true=>
 rw [hsrc] at fI
 have fl:=zrU env a1 a8 he c h hs act hl k t hk mem hml hF hb hm
 have hgood:=(zru (t:=t) h hb hm).2
 have hRl:=zrw (zrO hgood)
 have hfew:=h.few
 have hrl:(riseL c (outL c act t mem)).length<=32:=Nat.le_trans (List.length_filter_le ..) (by rw [List.length_range]; omega)
 rw [zrH h hb,ze8] at fl
 have fL2:=zrs env c h (zL (riseL c (outL c act t mem))) (by rw [zdQ]; omega)
 rw [ze8] at fL2
 have fC2:=zfe env c h (nowL c act t mem) (by omega) (fun m hm'=>zah (by have:=(znD h hgood m hm').2; omega) (by omega))
 rw [hgood] at fC2
 unfold chAV at fL2 fC2
 by_cases h0:t.target<0
 ·have hW:=zsb (mem:=mem) h hb h0
  rw [hW,hb] at fL2
  have fs:=zfb env (riseL c (outL c act t mem)) (riseL c (outL c act t mem)) (by omega)
  have hWa:(riseL c (outL c act t mem)).map zae=act.map intAV:=by rw [<-ze8,hW]
  rw [decide_eq_true rfl,hWa] at fs
  rw [hWa] at fl fL2
  generalize nowL c act t mem=R at*
  unfold zai at fl
  refine zaa Tryz.func7 rfl Tryz.call7 (by rw [Tryz.ntmps7]; simp) ?_
  rw [Tryz.ntmps7,Tryz.results7]
  have F:=ai trAV.eq_1<|ai hk<|ai q0<|h0
  repeat (first | refine st ?_ | refine cC fm ?_ | refine cC fr ?_ | refine cC fL ?_ | refine cC fC ?_ | refine cC fi ?_ | refine cC fI ?_ | refine cC fl ?_ | refine cC fL2 ?_ | refine cC fC2 ?_ | refine cC fs ?_ | refine cC fa ?_)
  exact aR
 ·obtain⟨hLW,hst⟩:=zr3 h hb hk hm (by omega) (List.contains_iff_mem.1 hsrc)
  rw [hLW] at fL2
  have fD:=Domain_con env c h hs k t hk
  rw [if_neg h0,decide_eq_false h0] at fD
  have fA:=fun j:Int=>zdh env c h.toRight (domE c t.src t.target) j
  have fI1:=fun j:Int=>zdF env act j (by omega)
  have fI2:=fun j:Int=>zdF env (zL (riseL c (outL c act t mem))) j (by rw [zdQ]; omega)
  have heq: ∀j,aboveB c (domE c t.src t.target) j=false->(zL (riseL c (outL c act t mem))).contains j=act.contains j:=fun j hj=>by
   rw [Bool.eq_iff_iff,List.contains_iff_mem,List.contains_iff_mem]
   exact hst j hj
  rw [ze8] at fI2
  unfold chAV at fA
  generalize nowL c act t mem=R at*
  generalize domE c t.src t.target=d at*
  generalize riseL c (outL c act t mem)=W at*
  unfold zai at fl fD
  refine zaa Tryz.func7 rfl Tryz.call7 (by rw [Tryz.ntmps7]; simp) ?_
  rw [Tryz.ntmps7,Tryz.results7]
  have F:=ai trAV.eq_1<|ai hk<|ai q0<|h0
  repeat (first | refine st ?_ | refine cC fm ?_ | refine cC fr ?_ | refine cC fL ?_ | refine cC fC ?_ | refine cC fi ?_ | refine cC fI ?_ | refine cC fl ?_ | refine cC fL2 ?_ | refine cC fC2 ?_ | refine cC fD ?_ | refine cC fa ?_)
  refine zab (D:=Nat) (fun j vs=>[(1, .loc 1 (vs 1) 0 0),(4, .seq 1 (W.map zae)),(7,I d),(9,I j)]) (fun _ _=>[(1,⟨8,[[Sg c.name,I c.initial,varsAV c.vars,stsAV c.states,trsAV c.trans, .seq 1 (act.map intAV),I k,memsAV mem]],65,false⟩)]) (fun j _ _=>j<=c.states.length) (fun j=>c.states.length-j) 0 ?_ ?_ ?_ ?_
  ·exact Nat.zero_le _
  ·(simp only [go_sem,F])
   try rfl
  ·(simp only [go_sem,F])
   try rfl
  rintro j ws esc hj
  by_cases hlt:j<c.states.length
  ·have q1:=nlt hlt
   have q2:=zac hlt (by omega)
   have f0:=fA (j:Int)
   cases hab:aboveB c d (j:Int) with
   | true=>
     rw [hab] at f0
     have F:=ai q1<|q2
     repeat (first | refine st ?_ | refine cC f0 ?_)
     refine⟨j+1,hlt, ?_, ?_,by omega⟩
     ·(simp only [go_sem,F])
     ·(simp only [go_sem,F])
   | false=>
     rw [hab] at f0
     have g1:=fI1 (j:Int)
     have g2:=fI2 (j:Int)
     rw [heq _ hab] at g2
     cases hc:act.contains (j:Int) with
     | true=>
       rw [hc] at g1 g2
       have F:=ai q1<|q2
       repeat (first | refine st ?_ | refine cC f0 ?_ | refine cC g1 ?_ | refine cC g2 ?_)
       refine⟨j+1,hlt, ?_, ?_,by omega⟩
       ·(simp only [go_sem,F])
       ·(simp only [go_sem,F])
     | false=>
       rw [hc] at g1 g2
       have F:=ai q1<|q2
       repeat (first | refine st ?_ | refine cC f0 ?_ | refine cC g1 ?_ | refine cC g2 ?_)
       refine⟨j+1,hlt, ?_, ?_,by omega⟩
       ·(simp only [go_sem,F])
       ·(simp only [go_sem,F])
  ·obtain rfl:j=c.states.length:=by omega
   have q1: ¬(c.states.length:Int)< (c.states.length:Int):=by omega
   have F:=q1
   repeat (first | refine st ?_ | refine cC fa ?_)
   exact aR
end

end Go.Proofs.YtlmekdfleciejaaGreatDoor