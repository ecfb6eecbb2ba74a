/- The law TableReaches. -/
import Derived.Test.YtlmekdfleciejaaGreatDoorD10
import Derived.Test.YtlmekdfleciejaaGreatDoorD15
import Derived.Test.YtlmekdfleciejaaGreatDoorD26
import Derived.Test.YtlmekdfleciejaaGreatDoorD27
import Derived.Test.YtlmekdfleciejaaGreatDoorD28
import Derived.Test.YtlmekdfleciejaaGreatDoorD33
import Derived.Test.YtlmekdfleciejaaGreatDoorD34
import Derived.Test.YtlmekdfleciejaaGreatDoorD38
import Derived.Test.YtlmekdfleciejaaGreatDoorD41
import Derived.Test.YtlmekdfleciejaaGreatDoorD44
import Derived.Test.YtlmekdfleciejaaGreatDoorD7
import Derived.Test.YtlmekdfleciejaaGreatDoorD37
import Derived.Test.YtlmekdfleciejaaGreatDoorD36
import Derived.Deep.AppendSrc
import Derived.Test.YtlmekdfleciejaaGreatDoorD40
set_option maxRecDepth 100000
set_option maxHeartbeats 16000000
set_option linter.unusedSimpArgs false
namespace Go.Proofs.YtlmekdfleciejaaGreatDoor
section
open Go.RowKit
def mark (c:ChD) (n:Nat) (l:List Nat) (k:Nat):Int:=if low c n k=true\/k∈l then 1 else 0
end
section
open Go.RowKit
/-! The way up -/
/-! What is above a state, as bits -/
/-! The walk -/
/-! Sorting by the walk -/
theorem sort_mem {c:ChD} (h:Right c) {l:List Int} (hl:l.all (inZ c)=true) {k:Nat} :k∈sortL c l↔(k:Int)∈l:=by
 unfold sortL
 rw [if_pos hl,List.mem_filter,zkL h]
 simp only [List.contains_iff_mem]
 refine⟨fun h=>h.2,fun hk=>⟨zaM.1 (List.all_eq_true.1 hl _ hk),hk⟩⟩
theorem sort_nodup {c:ChD} (h:Right c) (l:List Int):(sortL c l).Nodup:=by
 unfold sortL
 split
 ·exact List.Nodup.sublist List.filter_sublist (zeF h 40 (-1) (by omega) (by have:=h.few; omega))
 ·simp
end
section
open Go.RowKit
/-! What begins with a state -/
theorem bg_in {c:ChD} (h:Full c): ∀(n i m:Nat),i<c.states.length->c.states.length<=i+n->m∈bgL c i->i<=m/\m<c.states.length
 | 0,i,m,hi,hn,_=>by omega
 | n+1,i,m,hi,hn,hm=>by
   obtain⟨s,hs⟩: ∃s,c.states[i]? =some s:=⟨c.states[i],List.getElem?_eq_getElem hi⟩
   rw [zqe h hs,List.mem_cons,List.mem_flatMap] at hm
   rcases hm with rfl | ⟨k,hk,hm⟩
   ·exact⟨Nat.le_refl _,hi⟩
   ·have hg:=za0 h.toRight (zaO hk).1
    split at hm
    ·have:=bg_in h n k m (by omega) (by omega) hm
     omega
    ·simp at hm
theorem bg_all {c:ChD} (h:Full c) {i:Nat} (hi:i<c.states.length):(zL (bgL c i)).all (inZ c)=true:=by
 have hf:=h.few
 rw [List.all_eq_true]
 intro x hx
 obtain⟨k,hk,rfl⟩:=List.mem_map.1 hx
 exact zaM.2 (bg_in h 40 i k hi (by omega) hk).2
theorem sb_mem {c:ChD} (h:Full c) {i:Nat} (hi:i<c.states.length) {k:Nat} :k∈sbL c i↔k∈bgL c i:=by
 unfold sbL
 rw [sort_mem h.toRight (bg_all h hi),List.mem_map]
 constructor
 ·rintro⟨j,hj,e⟩
  have:j=k:=by omega
  exact this ▸ hj
 ·exact fun hk=>⟨k,hk,rfl⟩
theorem sb_alone {c:ChD} (h:Full c) {i:Nat} {s:StD} (hs:c.states[i]? =some s) (hm:zat s=true):sbL c i=[i]:=by
 have hi:=(List.getElem?_eq_some_iff.1 hs).1
 have hb:bgL c i=[i]:=by
  rw [zqe h hs]
  unfold zat at hm
  simp only [Bool.or_eq_true,beq_iff_eq] at hm
  rcases h.cases hs with⟨e,_⟩ | ⟨e,_⟩ | ⟨e,_⟩ | ⟨e,e1,_⟩
  ·omega
  ·omega
  ·omega
  ·rw [zeR e1]; rfl
 have hn:=sort_nodup h.toRight (zL (bgL c i))
 have hmem: ∀k,k∈sbL c i↔k=i:=fun k=>by rw [sb_mem h hi,hb,List.mem_singleton]
 have hn:(sbL c i).Nodup:=hn
 generalize sbL c i=l at hn hmem
 match l,hn,hmem with
 | [],_,hmem=>have:=(hmem i).2 rfl; simp at this
 | [a],_,hmem=>rw [(hmem a).1 (by simp)]
 | a::b::l,hn,hmem=>
   have h1:=(hmem a).1 (by simp)
   have h2:=(hmem b).1 (by simp)
   rw [h1,h2] at hn
   simp at hn
end
section
open Go.RowKit
theorem tunder_con (env:Env) (c:ChD) (hc:Right c):Con Tryz.prog env 129 [zal c,I (-1)] (.tuple [U32 (2^c.states.length-1),B true]):=by
 have hlen:=hc.few
 have f0:=zkP env c
 have g0:IntKind.u32.wrap (IntKind.u32.wrap (1*2^min c.states.length 32)-1)=((2^c.states.length-1:Nat):Int):=by
  rcases Nat.lt_or_ge c.states.length 32 with h | h
  ·have h1:=zdb c.states.length h
   have h2:0<2^c.states.length:=Nat.pow_pos (by decide)
   rw [zhE h,IntKind.wrap_u32]
   generalize 2^c.states.length=q at*
   omega
  ·have e:c.states.length=32:=by omega
   rw [e]
   decide+kernel
 refine zaa Tryz.func129 rfl Tryz.call129 (by rw [Tryz.ntmps129]; simp) ?_
 rw [Tryz.ntmps129,Tryz.results129]
 have F:=ai zal.eq_1<|g0
 repeat (first | refine st ?_ | refine cC f0 ?_)
 exact aR
theorem tbeneath_con (env:Env) (c:ChD) (hc:Right c):Con Tryz.prog env 80 [zal c,I (-1)] (.own 3 1 ((walkL c (-1)).map zae)):=by
 have hlen:=hc.few
 have f0:=tunder_con env c hc
 have hsm:2^c.states.length-1<4294967296:=by
  have:2^c.states.length<=2^32:=Nat.pow_le_pow_right (by decide) hlen
  omega
 have f1:=zjQ env c hc _ hsm
 have hall:((walkL c (-1)).filter fun k=>(2^c.states.length-1).testBit k)=walkL c (-1):=by
  rw [List.filter_eq_self]
  intro k hk
  rw [Nat.testBit_two_pow_sub_one,decide_eq_true_eq]
  exact(zkL hc k).1 hk
 rw [hall] at f1
 refine zaa Tryz.func80 rfl Tryz.call80 (by rw [Tryz.ntmps80]; simp) ?_
 rw [Tryz.ntmps80,Tryz.results80]
 repeat (first | refine st0 ?_ | refine cC0 f0 ?_ | refine cC0 f1 ?_)
 exact aR0
end
section
open Go.RowKit
/-! Texts in the order of bytes -/
/-! Where a text stands, or would stand -/
/-! A state's transitions -/
def atL (c:ChD) (i e:Int):List Nat:=zed c c.trans.length (i,e)
end
section
open Go.RowKit
/-! What is active at first -/
def iniN (c:ChD):Nat:=c.initial.toNat
theorem Full.topS {c:ChD} (h:Full c): ∃s,c.states[iniN c]? =some s/\c.initial=(iniN c:Nat)/\s.parent= -1/\(s.kind=1\/s.kind=2):=by
 have:=h.ini
 unfold topB at this
 cases ha:at_ c c.initial with
 | none=>rw [ha] at this; simp at this
 | some s=>
   rw [ha] at this
   unfold at_ at ha
   split at ha
   ·rename_i h0
    refine⟨s,ha,by unfold iniN; omega, ?_⟩
    simp only [zbV,Bool.and_eq_true,beq_iff_eq,Bool.or_eq_true] at this
    exact⟨this.1,this.2⟩
   ·cases ha
/-! What begins is few -/
theorem sb_len {c:ChD} (h:Full c) (i:Nat):(sbL c i).length<=32:=by
 have hf:=h.few
 have:=(sort_nodup h.toRight (zL (bgL c i))).length_le_of_subset (l₂:=List.range c.states.length) fun m hm=>by
  unfold sortL at hm
  split at hm
  ·exact List.mem_range.2 ((zkL h.toRight m).1 (List.mem_filter.1 hm).1)
  ·simp at hm
 unfold sbL
 simp at this
 omega
end
section
open Go.RowKit
theorem mfind_E (c:ChD) (a b:Int):mfind Tryz.prog 105 (.agg [I a,I b]) (zdS c) 0=some (idxP (a,b) (keysTo c c.trans.length) 0):=by
 have:zdS c=(keysTo c c.trans.length).mapIdx fun q k=>[.agg [I k.1,I k.2],((zdS c)[q]?.bind (·[1]?)).getD .any]:=by
  apply List.ext_getElem?
  intro q
  rw [List.getElem?_mapIdx]
  unfold zdS
  rw [List.getElem?_map]
  cases (keysTo c c.trans.length)[q]? with
  | none=>rfl
  | some p=>rfl
 rw [this]
 exact znC (a,b) _ _ 0
/-! The state at the head of the loop -/
/-! The map, frozen -/
end
section
open Go.RowKit
theorem cloneN_con (env:Env):Con Tryz.prog env 73 [nilS] (.own 3 1 []):=(ze0 env [] (by simp)).args (Strs.cons (Str.nil 1) Strs.nil)
theorem tabEvent_con (env:Env) (c:ChD) (hc:c.trans.length<=4096) (s:List UInt8):Con Tryz.prog env 29 [zai c,Sg s] (I (evI c s)):=zoj env c (by omega) _ _ s
def tatL (c:ChD) (i e:Int):List Nat:=if e<0 then [] else atL c i e
theorem atL_len (c:ChD) (i e:Int):(atL c i e).length<=c.trans.length:=zqk ..
theorem atL_some {c:ChD} {i e:Int} {q:Nat} (hq:idxP (i,e) (keysTo c c.trans.length) 0=some q):(zdS c)[q]? =some [.agg [I i,I e], .seq 1 ((atL c i e).map zae)]:=by
 have:=(zi0 hq).2
 unfold zdS
 rw [List.getElem?_map,Nat.sub_zero] at*
 rw [this]
 rfl
theorem tabAt_con (env:Env) (c:ChD) (hc:c.trans.length<=4096) (i e:Int):Con Tryz.prog env 32 [zai c,I i,I e] (.own 3 1 ((tatL c i e).map zae)):=by
 have hl:=atL_len c i e
 have hm:=mfind_E c i e
 unfold tatL
 by_cases h:e<0
 ·rw [if_pos h]
  refine zaj Tryz.func32 rfl Tryz.call32 (by rw [Tryz.ntmps32]; simp) ?_
  rw [Tryz.ntmps32,Tryz.results32]
  have F:=ai zai.eq_1<|ai tabCells.eq_1<|h
  repeat refine st ?_
  (refine zak ?_; refine⟨_,(by show (zaz _ _ _).run _=some _; simp only [go_sem,F]; rfl), ?_⟩)
  exact RStr.own_nil _ _ (by decide)
 ·rw [if_neg h]
  cases hq:idxP (i,e) (keysTo c c.trans.length) 0 with
  | none=>
    rw [hq] at hm
    have f0:=cloneN_con env
    rw [show atL c i e=[] from zo6 (zi1 hq)]
    refine zaa Tryz.func32 rfl Tryz.call32 (by rw [Tryz.ntmps32]; simp) ?_
    rw [Tryz.ntmps32,Tryz.results32]
    have F:=ai zai.eq_1<|ai tabCells.eq_1<|ai h<|hm
    repeat (first | refine st ?_ | refine cC f0 ?_)
    exact aR
  | some q=>
    rw [hq] at hm
    have hk:=atL_some hq
    have f0:=ze0 env ((atL c i e).map zae) (by rw [List.length_map]; omega)
    refine zaa Tryz.func32 rfl Tryz.call32 (by rw [Tryz.ntmps32]; simp) ?_
    rw [Tryz.ntmps32,Tryz.results32]
    have F:=ai zai.eq_1<|ai tabCells.eq_1<|ai h<|ai hm<|hk
    repeat (first | refine st ?_ | refine cC f0 ?_)
    exact aR
theorem tabAuto_con (env:Env) (c:ChD) (hc:c.trans.length<=4096) (i:Int):Con Tryz.prog env 19 [zai c,I i] (.own 3 1 ((atL c i (-1)).map zae)):=by
 have hl:=atL_len c i (-1)
 have hm:=mfind_E c i (-1)
 cases hq:idxP (i, -1) (keysTo c c.trans.length) 0 with
 | none=>
   rw [hq] at hm
   have f0:=cloneN_con env
   rw [show atL c i (-1)=[] from zo6 (zi1 hq)]
   refine zaa Tryz.func19 rfl Tryz.call19 (by rw [Tryz.ntmps19]; simp) ?_
   rw [Tryz.ntmps19,Tryz.results19]
   have F:=ai zai.eq_1<|ai tabCells.eq_1<|hm
   repeat (first | refine st ?_ | refine cC f0 ?_)
   exact aR
 | some q=>
   rw [hq] at hm
   have hk:=atL_some hq
   have f0:=ze0 env ((atL c i (-1)).map zae) (by rw [List.length_map]; omega)
   refine zaa Tryz.func19 rfl Tryz.call19 (by rw [Tryz.ntmps19]; simp) ?_
   rw [Tryz.ntmps19,Tryz.results19]
   have F:=ai zai.eq_1<|ai tabCells.eq_1<|ai hm<|hk
   repeat (first | refine st ?_ | refine cC f0 ?_)
   exact aR
def tbegL (c:ChD) (i:Int):List Nat:=if inZ c (if i= -1 then c.initial else i)=true then sbL c (if i= -1 then c.initial else i).toNat else []
theorem tabBegin_con (env:Env) (c:ChD) (h:Full c) (i:Int):Con Tryz.prog env 18 [zai c,I i] (.own 3 1 ((tbegL c i).map zae)):=by
 have hlen:=h.few
 unfold tbegL
 by_cases e:i= -1
 ·subst e
  simp only [if_true]
  obtain⟨s,hs,hini,_⟩:=h.topS
  have hi:=(List.getElem?_eq_some_iff.1 hs).1
  have f0:=zij env c c.initial
  have hz:inZ c c.initial=true:=by rw [hini]; exact zaM.2 hi
  rw [hz] at f0
  rw [hz,if_pos rfl]
  have f1:=ze0 env ((sbL c (iniN c)).map zae) (by rw [List.length_map]; have:=sb_len h (iniN c); omega)
  have hb:(begE c c.states.length)[iniN c]? =some [.seq 1 ((sbL c (iniN c)).map zae)]:=by unfold begE; rw [List.getElem?_map,List.getElem?_range hi]; rfl
  have hbl:(begE c c.states.length).length=c.states.length:=by simp [begE]
  have g0:((iniN c:Nat):Int)< (c.states.length:Int):=by omega
  rw [hini] at f0 |-
  rw [Int.toNat_natCast]
  unfold zai tabCells at f0 |-
  rw [hini] at f0 |-
  refine zaa Tryz.func18 rfl Tryz.call18 (by rw [Tryz.ntmps18]; simp) ?_
  rw [Tryz.ntmps18,Tryz.results18]
  have F:=ai hb<|ai hbl<|g0
  repeat (first | refine st ?_ | refine cC f0 ?_ | refine cC f1 ?_)
  exact aR
 ·rw [if_neg e]
  have e1:(i == -1)=false:=by simpa using e
  have f0:=zij env c i
  cases hz:inZ c i with
  | false=>
    rw [hz] at f0
    rw [if_neg (by simp)]
    unfold zai tabCells at f0 |-
    refine zaj Tryz.func18 rfl Tryz.call18 (by rw [Tryz.ntmps18]; simp) ?_
    rw [Tryz.ntmps18,Tryz.results18]
    have F:=e1
    repeat (first | refine st ?_ | refine cC f0 ?_)
    (refine zak ?_; refine⟨_,(by show (zaz _ _ _).run _=some _; simp only [go_sem,F]; rfl), ?_⟩)
    exact RStr.own_nil _ _ (by decide)
  | true=>
    obtain⟨k,s,rfl,hs,ha⟩:=zb0 hz
    have hi:=(List.getElem?_eq_some_iff.1 hs).1
    rw [hz] at f0
    rw [if_pos rfl,Int.toNat_natCast]
    have f1:=ze0 env ((sbL c k).map zae) (by rw [List.length_map]; have:=sb_len h k; omega)
    have hb:(begE c c.states.length)[k]? =some [.seq 1 ((sbL c k).map zae)]:=by unfold begE; rw [List.getElem?_map,List.getElem?_range hi]; rfl
    have hbl:(begE c c.states.length).length=c.states.length:=by simp [begE]
    have g0:((k:Nat):Int)< (c.states.length:Int):=by omega
    unfold zai tabCells at f0 |-
    refine zaa Tryz.func18 rfl Tryz.call18 (by rw [Tryz.ntmps18]; simp) ?_
    rw [Tryz.ntmps18,Tryz.results18]
    have F:=ai hb<|ai hbl<|ai g0<|e1
    repeat (first | refine st ?_ | refine cC f0 ?_ | refine cC f1 ?_)
    exact aR
end
section
open Go.RowKit
theorem light28_con (env:Env) (c:ChD):Con Tryz.prog env 28 [.agg (chAV c)] (B (zgf c)):=by
 unfold zgf
 by_cases h1:(c.states.length:Int)<=40<;>by_cases h2:(c.trans.length:Int)<=70<;>by_cases h3:(c.vars.length:Int)<=10
 all_goals (refine zaa Tryz.func28 rfl Tryz.call28 (by rw [Tryz.ntmps28]; simp) ?_
            rw [Tryz.ntmps28,Tryz.results28])
 all_goals have F:=ai chAV.eq_1<|ai h1<|ai h2<|h3
 all_goals (repeat refine st ?_)
 all_goals ((refine zak ?_; show (zaz _ _ _).run _=some _; simp only [go_sem,F]))
theorem rests28_con (env:Env) (c:ChD):Con Tryz.prog env 15 [.agg (chAV c)] (B (!zfx c)):=by
 have f0:=light28_con env c
 have f1:=zeO env c
 unfold zfx
 cases h1:zgf c<;>cases h2:((chk c).1==0)
 all_goals (rw [h1] at f0; rw [h2] at f1)
 all_goals (refine zaa Tryz.func15 rfl Tryz.call15 (by rw [Tryz.ntmps15]; simp) ?_
            rw [Tryz.ntmps15,Tryz.results15])
 all_goals (repeat (first | refine st0 ?_ | refine cC0 f0 ?_ | refine cC0 f1 ?_))
 all_goals ((refine zak ?_; show (zaz _ _ _).run _=some _; simp only [go_sem]))
theorem made28_none (env:Env) (c:ChD) (h:zfx c=false):Con Tryz.prog env 14 [.agg (chAV c)] (.lit (.pointer none)):=by
 have f0:=light28_con env c
 have f1:=zeO env c
 unfold zfx at h
 cases h1:zgf c
 ·rw [h1] at f0
  refine zaa Tryz.func14 rfl Tryz.call14 (by rw [Tryz.ntmps14]; simp) ?_
  rw [Tryz.ntmps14,Tryz.results14]
  repeat (first | refine st0 ?_ | refine cC0 f0 ?_ | refine cC0 f1 ?_)
  exact aR0
 ·rw [h1] at f0
  rw [h1,Bool.true_and] at h
  rw [h] at f1
  refine zaa Tryz.func14 rfl Tryz.call14 (by rw [Tryz.ntmps14]; simp) ?_
  rw [Tryz.ntmps14,Tryz.results14]
  repeat (first | refine st0 ?_ | refine cC0 f0 ?_ | refine cC0 f1 ?_)
  exact aR0
theorem made28_con (env:Env) (a1 a8:Addr) (he:ChEnv env a1 a8) (hT: ∀W,env.inv W->TabAt W) (c:ChD) (hcf:zdq c) (h:zfx c=true):Con Tryz.prog env 14 [.agg (chAV c)] (zai c):=by
 have f0:=light28_con env c
 have f1:=zeO env c
 unfold zfx at h
 rw [Bool.and_eq_true] at h
 rw [h.1] at f0
 rw [h.2] at f1
 rw [beq_iff_eq] at h
 have f2:=zii env a1 a8 he hT c (zq6 h.2) hcf
 unfold zai at f2 |-
 refine zaa Tryz.func14 rfl Tryz.call14 (by rw [Tryz.ntmps14]; simp) ?_
 rw [Tryz.ntmps14,Tryz.results14]
 repeat (first | refine st0 ?_ | refine cC0 f0 ?_ | refine cC0 f1 ?_ | refine cC0 f2 ?_)
 exact aR0
def wakeD:ChD:=⟨[99],0,[],[⟨[97],1, -1, -1,[],[]⟩],[⟨0,[120],[],[], -1⟩,⟨0,[],[],[],0⟩]⟩
def wakeAV:List AV:=[Sg [99],I 0,nilS, .seq 6 [[Sg [97],I 1,I (-1),I (-1),nilS,nilS]], .seq 5 [[I 0,Sg [120],nilS,nilS,I (-1)],[I 0,Sg [],nilS,nilS,I 0]]]
theorem wake_str:Strs [.agg wakeAV] [.agg (chAV wakeD)]:=by
 refine .one (.agg (.cons (.refl _) (.cons (.refl _) (.cons (.nil 2) (.cons (.seqs ?_) (.cons (.seqs ?_) .nil))))))
 ·exact .cons (.cons (.refl _) (.cons (.refl _) (.cons (.refl _) (.cons (.refl _) (.cons (.nil 4) (.cons (.nil 4) .nil)))))) .nil
 ·exact .cons (.cons (.refl _) (.cons (.refl _) (.cons (.nil 2) (.cons (.nil 4) (.cons (.refl _) .nil))))) (.cons (.cons (.refl _) (.cons (.refl _) (.cons (.nil 2) (.cons (.nil 4) (.cons (.refl _) .nil))))) .nil)
theorem wake_few:zdq wakeD:=by simp [zdq,zji,zjh,wakeD,maxLen]
theorem wake_chk:chk wakeD=(0, -1):=by decide+kernel
theorem awake28_con (env:Env) (a1 a8:Addr) (he:ChEnv env a1 a8) (hT: ∀W,env.inv W->TabAt W):Con Tryz.prog env 16 [] (B true):=by
 have f0:=(zii env a1 a8 he hT wakeD wake_chk wake_few).args wake_str
 have f1:=tabEvent_con env wakeD (by decide) [120]
 have f2:=tabAt_con env wakeD (by decide) 0 0
 have f3:=tabAuto_con env wakeD (by decide) 0
 have f4:=zbH env wakeD
 have f5:=zkP env wakeD
 rw [show evI wakeD [120]=0 by decide+kernel] at f1
 rw [show tatL wakeD 0 0=[0] by decide+kernel] at f2
 rw [show atL wakeD 0 (-1)=[1] by decide+kernel] at f3
 rw [show wakeD.states.length=1 from rfl] at f5
 unfold wakeAV at f0
 unfold zal at f4 f5
 unfold zai at f0 f1 f2 f3 f4
 generalize tabCells wakeD=T at*
 refine zaa Tryz.func16 rfl Tryz.call16 (by rw [Tryz.ntmps16]; simp) ?_
 rw [Tryz.ntmps16,Tryz.results16]
 repeat (first | refine st0 ?_ | refine cC0 f0 ?_ | refine cC0 f1 ?_ | refine cC0 f2 ?_ | refine cC0 f3 ?_ | refine cC0 f4 ?_ | refine cC0 f5 ?_)
 exact aR0
end
section
open Go.RowKit
theorem rBegins_con (env:Env) (c:ChD) (h:Full c): ∀(n i:Nat),i<c.states.length->c.states.length<=i+n->Con Tryz.prog env 78 [.agg (chAV c),I i] (.own 3 1 ((bgL c i).map zae))
 | 0,i,hi,hn=>by omega
 | n+1,i,hi,hn=>by
   have hlen:=h.few
   obtain⟨s,hs⟩: ∃s,c.states[i]? =some s:=⟨c.states[i],List.getElem?_eq_getElem hi⟩
   have hb:=zqe h hs
   have hbl:=zqf h hi
   have g0:((i:Nat):Int)< (c.states.length:Int):=by omega
   have f0:=zbw env c i true (by omega)
   have hKl:=zbz h.toRight i true
   have hKm: ∀k∈kidsL c i true,i<k/\k<c.states.length:=fun k hk=>by
    have:=za0 h.toRight (zaO hk).1
    omega
   generalize kidsL c i true=K at*
   rw [hb]
   rw [hb] at hbl
   simp only [List.length_cons] at hbl
   refine zaa Tryz.func78 rfl Tryz.call78 (by rw [Tryz.ntmps78]; simp) ?_
   rw [Tryz.ntmps78,Tryz.results78]
   have F:=ai chAV.eq_1<|zae.eq_1
   repeat (first | refine st ?_ | refine cC f0 ?_)
   refine zab (D:=Nat) (fun j vs=>[(1,I i),(2, .loc 2 (vs 2) 0 0),(5, .row 9 (vs 9)),(6, .row 12 (vs 12)),(7,I j)]) (fun j _=>[(2,⟨5,[chAV c],26,false⟩),(9,⟨1,(i::(K.take j).flatMap fun k=>if s.kind=2\/s.initial=(k:Nat) then bgL c k else []).map zae,3,true⟩),(12,⟨1,K.map zae,3,true⟩)]) (fun j _ esc=>j<=K.length/\esc 9=false) (fun j=>K.length-j) 0 ?_ ?_ ?_ ?_
   ·exact⟨Nat.zero_le _,rfl⟩
   ·(simp only [go_sem,F])
   ·have F:=ai chAV.eq_1<|zae.eq_1
    (simp only [go_sem,List.flatMap_nil,F])
    try rfl
   rintro j ws esc ⟨hj,e0⟩
   by_cases hlt:j<K.length
   ·obtain⟨k,hk⟩: ∃k,K[j]? =some k:=⟨K[j],List.getElem?_eq_getElem hlt⟩
    have hkm:=hKm k (List.mem_of_getElem? hk)
    have q1:=nlt hlt
    have q2:=zac hlt (by omega)
    have f1:=rBegins_con env c h n k (by omega) (by omega)
    have hp:=zpt (fun k:Nat=>if s.kind=2\/s.initial=(k:Nat) then bgL c k else []) K (j+1)
    have hsu:=zoa (fun k:Nat=>if s.kind=2\/s.initial=(k:Nat) then bgL c k else []) hk
    rw [hsu] at hp
    simp only [List.length_append] at hp
    generalize hA:(K.take j).flatMap (fun k:Nat=>if s.kind=2\/s.initial=(k:Nat) then bgL c k else [])=A at*
    by_cases h2:s.kind=2
    ·have b1:(s.kind==2)=true:=by simpa using h2
     rw [if_pos (.inl h2)] at hp hsu
     have hf:Fits (A.length+1+(bgL c k).length) 8:=zah (by omega) (by omega)
     have F:=ai chAV.eq_1<|ai stAV.eq_1<|ai zae.eq_1<|ai hs<|ai hk<|ai q1<|ai q2<|ai g0<|ai b1<|ai hf<|e0
     repeat (first | refine st ?_ | refine cC f1 ?_)
     refine⟨j+1,⟨hlt,by simp only [go_sem,e0]⟩, ?_, ?_,by omega⟩
     ·(simp only [go_sem,F])
     ·have F:=ai chAV.eq_1<|ai zae.eq_1<|hsu
      (simp only [go_sem,List.map_append,F])
    ·have b1:(s.kind==2)=false:=by simpa using h2
     by_cases h3:s.initial=(k:Nat)
     ·have b2:(s.initial==((k:Nat):Int))=true:=by simpa using h3
      rw [if_pos (.inr h3)] at hp hsu
      have hf:Fits (A.length+1+(bgL c k).length) 8:=zah (by omega) (by omega)
      have F:=ai chAV.eq_1<|ai stAV.eq_1<|ai zae.eq_1<|ai hs<|ai hk<|ai q1<|ai q2<|ai g0<|ai b1<|ai b2<|ai hf<|e0
      repeat (first | refine st ?_ | refine cC f1 ?_)
      refine⟨j+1,⟨hlt,by simp only [go_sem,e0]⟩, ?_, ?_,by omega⟩
      ·(simp only [go_sem,F])
      ·have F:=ai chAV.eq_1<|ai zae.eq_1<|hsu
       (simp only [go_sem,List.map_append,F])
     ·have b2:(s.initial==((k:Nat):Int))=false:=by simpa using h3
      rw [if_neg (by simp [h2,h3]),List.append_nil] at hsu
      have F:=ai chAV.eq_1<|ai stAV.eq_1<|ai zae.eq_1<|ai hs<|ai hk<|ai q1<|ai q2<|ai g0<|ai b1<|ai b2<|e0
      repeat (first | refine st ?_ | refine cC f1 ?_)
      refine⟨j+1,⟨hlt,by simp only [go_sem,e0]⟩, ?_, ?_,by omega⟩
      ·(simp only [go_sem,F])
      ·have F:=ai chAV.eq_1<|ai zae.eq_1<|hsu
       (simp only [go_sem,List.map_append,F])
   ·obtain rfl:j=K.length:=by omega
    have q1: ¬(K.length:Int)< (K.length:Int):=by omega
    have hta:K.take K.length=K:=List.take_length
    have F:=ai zae.eq_1<|ai q1<|ai hta<|e0
    repeat refine st ?_
    exact aR
theorem rBegin_con (env:Env) (c:ChD) (h:Full c) (i:Int):Con Tryz.prog env 22 [.agg (chAV c),I i] (.own 3 1 ((tbegL c i).map zae)):=by
 have hlen:=h.few
 have key: ∀(k:Nat),k<c.states.length-> ∀(x:Int),(x= -1/\c.initial=k\/x=k)->Con Tryz.prog env 22 [.agg (chAV c),I x] (.own 3 1 ((sbL c k).map zae)):=fun k hk x hx=>by
  obtain⟨s,hs⟩: ∃s,c.states[k]? =some s:=⟨c.states[k],List.getElem?_eq_getElem hk⟩
  have f0:=zka env c k
  rw [show inZ c k=true from zaM.2 hk] at f0
  have f1:=za1 env s
  have f2:=rBegins_con env c h 40 k hk (by omega)
  have f3:=znf env c h.toRight (bgL c k) (by have:=zqf h hk; omega)
  change Con _ _ _ _ (.own _ 1 ((sbL c k).map zae)) at f3
  have g0:((k:Nat):Int)< (c.states.length:Int):=by omega
  rcases hx with⟨rfl,hx⟩ | rfl
  ·cases hm:zat s with
   | true=>
     rw [hm] at f1
     rw [sb_alone h hs hm]
     refine zaa Tryz.func22 rfl Tryz.call22 (by rw [Tryz.ntmps22]; simp) ?_
     rw [Tryz.ntmps22,Tryz.results22]
     have F:=ai chAV.eq_1<|ai stAV.eq_1<|ai hx<|ai hs<|ai g0<|zae.eq_1
     repeat (first | refine st ?_ | refine cC f0 ?_ | refine cC f1 ?_)
     exact aR
   | false=>
     rw [hm] at f1
     refine zaa Tryz.func22 rfl Tryz.call22 (by rw [Tryz.ntmps22]; simp) ?_
     rw [Tryz.ntmps22,Tryz.results22]
     have F:=ai chAV.eq_1<|ai stAV.eq_1<|ai hx<|ai hs<|g0
     repeat (first | refine st ?_ | refine cC f0 ?_ | refine cC f1 ?_ | refine cC f2 ?_ | refine cC f3 ?_)
     exact aR
  ·have b0:((k:Int) == -1)=false:=beq_false_of_ne (by omega)
   cases hm:zat s with
   | true=>
     rw [hm] at f1
     rw [sb_alone h hs hm]
     refine zaa Tryz.func22 rfl Tryz.call22 (by rw [Tryz.ntmps22]; simp) ?_
     rw [Tryz.ntmps22,Tryz.results22]
     have F:=ai chAV.eq_1<|ai stAV.eq_1<|ai hs<|ai g0<|ai zae.eq_1<|b0
     repeat (first | refine st ?_ | refine cC f0 ?_ | refine cC f1 ?_)
     exact aR
   | false=>
     rw [hm] at f1
     refine zaa Tryz.func22 rfl Tryz.call22 (by rw [Tryz.ntmps22]; simp) ?_
     rw [Tryz.ntmps22,Tryz.results22]
     have F:=ai chAV.eq_1<|ai stAV.eq_1<|ai hs<|ai g0<|b0
     repeat (first | refine st ?_ | refine cC f0 ?_ | refine cC f1 ?_ | refine cC f2 ?_ | refine cC f3 ?_)
     exact aR
 unfold tbegL
 by_cases e:i= -1
 ·subst e
  simp only [if_true]
  obtain⟨s,hs,hini,_⟩:=h.topS
  have hi:=(List.getElem?_eq_some_iff.1 hs).1
  rw [hini,if_pos (zaM.2 hi),Int.toNat_natCast]
  exact key _ hi (-1) (.inl ⟨rfl,hini⟩)
 ·rw [if_neg e]
  cases hz:inZ c i with
  | false=>
    have f0:=zka env c i
    rw [hz] at f0
    rw [if_neg (by simp)]
    have b0:(i == -1)=false:=by simpa using e
    refine zaj Tryz.func22 rfl Tryz.call22 (by rw [Tryz.ntmps22]; simp) ?_
    rw [Tryz.ntmps22,Tryz.results22]
    have F:=ai chAV.eq_1<|b0
    repeat (first | refine st ?_ | refine cC f0 ?_)
    (refine zak ?_; refine⟨_,(by show (zaz _ _ _).run _=some _; simp only [go_sem,F]; rfl), ?_⟩)
    exact RStr.own_nil _ _ (by decide)
  | true=>
    obtain⟨k,s,rfl,hs,ha⟩:=zb0 hz
    rw [if_pos rfl,Int.toNat_natCast]
    exact key k (List.getElem?_eq_some_iff.1 hs).1 k (.inr rfl)
end
section
open Go.RowKit
/-! Legal states -/
theorem sort_memI {c:ChD} (hr:Right c) {l:List Int} (hl: ∀x∈l,inZ c x=true) {x:Int} :x∈zL (sortL c l)↔x∈l:=by
 have ha:l.all (inZ c)=true:=List.all_eq_true.2 hl
 unfold sortL
 rw [if_pos ha]
 constructor
 ·intro hx
  obtain⟨k,hk,rfl⟩:=List.mem_map.1 hx
  simpa using (List.mem_filter.1 hk).2
 ·intro hx
  have hz:=zag.1 (hl x hx)
  refine List.mem_map.2 ⟨x.toNat,List.mem_filter.2 ⟨?_, ?_⟩,by omega⟩
  ·exact(zkL hr _).2 (by omega)
  ·have e:((x.toNat:Nat):Int)=x:=by omega
   rw [e]
   simpa using hx
/-! Memories in their order -/
/-! What is remembered -/
/-! As the document says -/
/-! Moves -/
end
section
open Go.RowKit Go.ChangeShapes Go.WideShapes Go.Deep
section
variable {H:Type} {enc:TypeId×Value->H} {P:Program} {w:World} {base:Nat} {spare:Nat->Bool} {held:Bool}
end
section
variable {H:Type} {enc:TypeId×Value->H} {w:World} {base:Nat} {spare:Nat->Bool} {held:Bool}
theorem open_chart {r0:Reach} {b0:Nat} {v:Value} {d:DataW H} {p:List MemPlace} (hv:Value.okWide Tryz.prog w r0 b0 26 v) (h:DataW.Trod enc Tryz.prog w base spare held 26 v d p):
 ∃c:ChD,zdq c/\RV (fun b _=>b<w.heap.size) w v (.agg (chAV c)):=by
 obtain⟨cs,rfl,hsz⟩:=okWide_struct Tryz.underlying26 hv
 obtain⟨l⟩:=cs
 obtain⟨fuel,hf⟩:=h
 obtain⟨c,h1,h2⟩:=zqq _ _ _ hf
 exact⟨c,h2,RVs.agg h1⟩
end
end
section
open Go.RowKit Go.ChangeShapes
structure TbW (w:World) (a1 a8:Addr):Prop where
 s1:Sent w 1 a1
 s8:Sent w 7 a8
 tab:TabAt w
def tbAt (a1 a8:Addr) (g:Nat):Option AV:=
 if g=1 then some (sentV a1) else
 if g=7 then some (sentV a8) else none
def tbEnv (a1 a8:Addr):Env:=⟨tbAt a1 a8,fun w=>TbW w a1 a8,fun _ _ h hb=>⟨h.s1.below hb,h.s8.below hb,h.tab.below hb⟩⟩
theorem tbEnv_ch (a1 a8:Addr):ChEnv (tbEnv a1 a8) a1 a8:=⟨rfl,rfl⟩
theorem tbEnv_tab (a1 a8:Addr): ∀W,(tbEnv a1 a8).inv W->TabAt W:=fun _ h=>TbW.tab h
theorem tbEnv_ok {a1 a8:Addr} {w:World} (h:TbW w a1 a8):EnvOk (tbEnv a1 a8) (fun b _=>b<w.heap.size) w:=by
 refine⟨h,fun b o hb=>hb,fun g c hg=> ?_⟩
 have hg:tbAt a1 a8 g=some c:=hg
 unfold tbAt at hg
 split at hg
 ·rename_i e; subst e; cases hg; exact⟨_,h.s1.1,rfl,zoE h.s1.1, .lit _⟩
 split at hg
 ·rename_i e; subst e; cases hg; exact⟨_,h.s8.1,rfl,zoE h.s8.1, .lit _⟩
 cases hg
theorem laid_tab {W:World} (h:laidMetH Tryz.prog [("math/bits.deBruijn32tab",Rows.laid_math_bits_deBruijn32tab),("scrinium/api.ErrForm",Rows.laid_scrinium_api_ErrForm),("scrinium/api.ErrLong",Rows.laid_scrinium_api_ErrLong)] W): ∃a1 a8,TbW W a1 a8:=by
 rw [MakeChecks.laidMetH_plain _ _ _ (by kernel_rfl)] at h
 obtain⟨ps,hv,hnd,hrows⟩:=h
 obtain⟨g0,t0,cs0,f0,p0,q0,hg0,ht0,hv0,hd0,hrest,rfl⟩:=hv
 have hT:=zqM hg0 ht0 hv0 hd0
 obtain⟨adl,h1,h2,h3⟩:=ziQ (nm:= "*errors.errorString") Tryz.underlying51 Tryz.row160 Tryz.underlying261 Tryz.underlying281 rfl rfl Tryz.underlying9 (by kernel_rfl) (by kernel_rfl)
  [("scrinium/api.ErrForm",[102,111,114,109]),("scrinium/api.ErrLong",[108,111,110,103])] [1,7] q0 hrest (by kernel_rfl) (by
    intro g hg
    simp at hg
    rcases hg with rfl | rfl<;>kernel_rfl) (fun b off hh=>hrows b off (List.mem_append_right _ hh))
 match adl,h1 with
 | [a1,a2],_=>exact⟨a1,a2,h2 0 _ _ rfl rfl,h2 1 _ _ rfl rfl,hT⟩
end
section
open Go.RowKit
theorem zr0 {c:ChD} (h:Full c) (i:Int):(tbegL c i).length<=32:=by
 unfold tbegL
 generalize (if i= -1 then c.initial else i)=k
 cases inZ c k with
 | true=>exact sb_len h _
 | false=>exact Nat.zero_le _
end
section
open Go.RowKit
def ldK (c:ChD) (k:Int):List Int:=if 0<=k then k::zL (sbL c k.toNat) else []
def ldTo (c:ChD) (K:List Int) (j:Nat):List Int:=(K.take j).flatMap (ldK c)
theorem zrv {c:ChD} {K:List Int} {j:Nat} {x:Int} (h:K[j]? =some x):ldTo c K (j+1)=ldTo c K j++ldK c x:=by
 unfold ldTo
 rw [List.take_add_one,h,List.flatMap_append]
 simp
theorem zrr {c:ChD} (h:Full c) (K:List Int): ∀j,(ldTo c K j).length<=33*j
 | 0=>by simp [ldTo]
 | j+1=>by
   have ih:=zrr h K j
   cases hx:K[j]? with
   | none=>
     have:ldTo c K (j+1)=ldTo c K j:=by unfold ldTo; rw [List.take_add_one,hx]; simp
     rw [this]
     omega
   | some x=>
     rw [zrv hx,List.length_append]
     have:(ldK c x).length<=33:=by
      unfold ldK
      split
      ·rw [List.length_cons,zdQ]
       have:=sb_len h x.toNat
       omega
      ·simp
     omega
def ldL (c:ChD) (K:List Int):List Int:=ldTo c K K.length
def leadsL (c:ChD) (i:Int):List Int:=match at_ c i with
 | some s=>if zat s=true then ldL c (s.initial::upL c s.initial)++ldL c (upL c i) else ldL c (i::upL c i)
 | none=>[]
theorem zrZ {c:ChD} {k:Nat} (hk:k<c.states.length):tbegL c (k:Int)=sbL c k:=by
 unfold tbegL
 have e: ¬((k:Nat):Int)= -1:=by omega
 simp only [if_neg e]
 rw [if_pos (zaM.2 hk),Int.toNat_natCast]
theorem zr9 {c:ChD} (h:Right c): ∀(n:Nat) (i:Int),inZ c i=true->i<n->(upL c i).length<=n/\ ∀k∈upL c i,k= -1\/inZ c k=true
 | 0,i,hz,hn=>by
   have:=zag.1 hz
   omega
 | n+1,i,hz,hn=>by
   have h2:=zag.1 hz
   have h3:=zbF h hz
   rw [zhw h hz]
   cases hp:inZ c (parZ c i) with
   | true=>
     obtain⟨a1,a2⟩:=zr9 h n (parZ c i) hp (by omega)
     refine⟨by rw [List.length_cons]; omega,fun k hk=> ?_⟩
     rcases List.mem_cons.1 hk with rfl | hk
     ·exact .inr hp
     ·exact a2 k hk
   | false=>
     have hm:parZ c i= -1:=by
      by_cases h0:0<=parZ c i
      ·rw [zag.2 ⟨h0,by omega⟩] at hp
       cases hp
      ·omega
     rw [zbq hp,hm]
     exact⟨by simp,fun k hk=> .inl (by simpa using hk)⟩
theorem zrA {c:ChD} (h:Right c) {i:Int} (hz:inZ c i=true):(upL c i).length<=32/\ ∀k∈upL c i,k= -1\/inZ c k=true:=by
 have h2:=zag.1 hz
 have h3:=h.few
 exact zr9 h 32 i hz (by omega)
theorem zrM (env:Env) (c:ChD) (h:Full c) (i:Nat) (s:StD) (hs:c.states[i]? =some s) (hm:zat s=false):Con Tryz.prog env 79 [zai c,I (i:Int)] (.own 3 1 ((leadsL c i).map intAV)):=by
 have hi:=(List.getElem?_eq_some_iff.1 hs).1
 have g0:((i:Nat):Int)< (c.states.length:Int):=by omega
 have hz:inZ c (i:Int)=true:=zaM.2 hi
 obtain⟨u1,u2⟩:=zrA h.toRight hz
 have f1:Con Tryz.prog env 128 [zal c,I (i:Int)] (.own 3 1 ((upL c i).map intAV)):=zmW env c h.toRight i
 have f0:=zbH env c
 have hL:leadsL c i=[]++ldL c ((i:Int)::upL c i):=by
  have e1:at_ c (i:Int)=some s:=by rw [zbp]; exact hs
  unfold leadsL
  rw [e1]
  simp only [hm,Bool.false_eq_true,if_false,List.nil_append]
 rw [hL]
 generalize hPP:([]:List Int)=P
 have hPl:P.length<=1200:=by rw [<-hPP]; simp
 have hKK:((i:Int)::upL c i).map intAV=[I (i:Int)]::(upL c i).map intAV:=rfl
 have hKn:((i:Int)::upL c i).length=(upL c i).length+1:=rfl
 have hf0:Fits (1+(upL c i).length) 8:=zah (by omega) (by omega)
 have hKl:((i:Int)::upL c i).length<=33:=by simp only [List.length_cons]; omega
 have hKz: ∀x∈((i:Int)::upL c i),x= -1\/inZ c x=true:=fun x hx=>by
  rcases List.mem_cons.1 hx with rfl | hx
  ·exact .inr hz
  ·exact u2 x hx
 have b45:(s.kind==4)=false/\(s.kind==5)=false:=by unfold zat at hm; simpa using hm
 obtain⟨b4,b5⟩:=b45
 unfold zai
 refine zaa Tryz.func79 rfl Tryz.call79 (by rw [Tryz.ntmps79]; simp) ?_
 rw [Tryz.ntmps79,Tryz.results79]
 have F:=ai tabCells.eq_1<|ai stAV.eq_1<|ai hs<|ai g0<|ai b4<|ai b5<|hf0
 repeat (first | refine st ?_ | refine cC f1 ?_)
 refine zbo 5 5 3 1 ?_
 generalize hKK2:(i:Int)::upL c i=K at*
 refine zab (D:=Nat) (fun j vs=>[(0, .ref 9 [tabCells c] 0 0),(5, .row 5 (vs 5)),(40, .row 37 (vs 37)),(41,I K.length),(42,I j)]) (fun j _=>[(5,⟨1,(P++ldTo c K j).map intAV,3,true⟩),(37,⟨1,K.map intAV,3,true⟩)]) (fun j _ esc=>j<=K.length/\esc 5=false) (fun j=>K.length-j) 0 ?_ ?_ ?_ ?_
 ·exact⟨Nat.zero_le _,by simp only [go_sem]⟩
 ·simp only [hKn]
  (simp only [go_sem,F])
  try rfl
 ·subst hPP
  simp only [hKK,show ldTo c K 0=[] from rfl,List.append_nil,List.map_nil]
  (simp only [go_sem,F])
  try exact⟨by rw [show ldTo c K 0=[] from rfl,List.append_nil],rfl⟩
  try rw [show ldTo c K 0=[] from rfl,List.append_nil]
 rintro j ws esc ⟨hj,e0⟩
 by_cases hlt:j<K.length
 ·obtain⟨x,hx⟩: ∃x,K[j]? =some x:=⟨K[j],List.getElem?_eq_getElem hlt⟩
  have q1:=nlt hlt
  have q2:=zac hlt (by omega)
  have hn:=zrv (c:=c) hx
  have hal:=zrr h K j
  rcases hKz x (List.mem_of_getElem? hx) with rfl | hxz
  ·have h0:ldK c (-1)=[]:=rfl
   rw [h0,List.append_nil] at hn
   have F:=ai hx<|ai q1<|ai q2<|e0
   repeat refine st ?_
   refine⟨j+1,⟨hlt,by simp only [go_sem,e0]⟩, ?_, ?_,by omega⟩
   ·(simp only [go_sem,F])
   ·have F:=hn
    (simp only [go_sem,F])
  ·obtain⟨k,s,rfl,hsk, -⟩:=zb0 hxz
   have hk:=(List.getElem?_eq_some_iff.1 hsk).1
   have h0:ldK c (k:Int)=(k:Int)::zL (sbL c k):=by unfold ldK; rw [if_pos (by omega),Int.toNat_natCast]
   rw [h0] at hn
   have hn2:(P++ldTo c K (j+1)).map intAV=(P++ldTo c K j).map intAV++[I (k:Int)]::(sbL c k).map zae:=by rw [hn, <-List.append_assoc,List.map_append,List.map_cons,ze8]
   have hbl:=sb_len h k
   have hpl:(P++ldTo c K j).length<=2500:=by rw [List.length_append]; omega
   have q3:((k:Nat):Int)< (c.states.length:Int):=by omega
   have q4:(0:Int)<=(k:Int):=by omega
   have hb:(begE c c.states.length)[k]? =some [.seq 1 ((sbL c k).map zae)]:=by unfold begE; rw [List.getElem?_map,List.getElem?_range hk]; rfl
   have hbe:(begE c c.states.length).length=c.states.length:=by simp [begE]
   generalize hPE:P++ldTo c K j=E at*
   have hf1:Fits (E.length+1) 8:=zah (by omega) (by omega)
   have hf2:Fits (E.length+1+(sbL c k).length) 8:=zah (by omega) (by omega)
   have F:=ai hx<|ai q1<|ai q2<|ai q3<|ai q4<|ai e0<|ai hf1<|ai hf2<|ai tabCells.eq_1<|ai hb<|hbe
   repeat refine st ?_
   refine⟨j+1,⟨hlt,by simp only [go_sem,e0]⟩, ?_, ?_,by omega⟩
   ·(simp only [go_sem,F])
   ·have F:=ai hn2<|zae.eq_1
    (simp only [go_sem,List.append_assoc,F])
 ·obtain rfl:j=K.length:=by omega
  have q1: ¬(K.length:Int)< (K.length:Int):=by omega
  rw [show ldTo c K K.length=ldL c K from rfl] at*
  have F:=ai q1<|e0
  repeat refine st ?_
  exact aR
theorem zrR {c:ChD} (h:Full c) {i:Nat} {s:StD} (hs:c.states[i]? =some s) (hm:zat s=false):(leadsL c i).length<=1200:=by
 have hz:inZ c (i:Int)=true:=zaM.2 (List.getElem?_eq_some_iff.1 hs).1
 have e1:at_ c (i:Int)=some s:=by rw [zbp]; exact hs
 have:=(zrA h.toRight hz).1
 have h2:=zrr h ((i:Int)::upL c i) ((i:Int)::upL c i).length
 unfold leadsL
 rw [e1]
 simp only [hm,Bool.false_eq_true,if_false]
 unfold ldL
 simp only [List.length_cons] at*
 omega
theorem zrF {c:ChD} (h:Full c) {i:Nat} {s:StD} (hs:c.states[i]? =some s) (hm:zat s=true): ∃(i2:Nat) (s2:StD),s.initial=(i2:Int)/\c.states[i2]? =some s2/\zat s2=false:=by
 have hk:s.kind=4\/s.kind=5:=by unfold zat at hm; simpa using hm
 rcases h.cases hs with⟨e,_⟩ | ⟨e,_⟩ | ⟨e,_⟩ | ⟨_,_,_,hi⟩
 ·omega
 ·omega
 ·omega
 ·obtain⟨j,hj,e⟩:=zhV.1 hi
  obtain⟨h1,h2⟩:=zep hj
  obtain⟨q,hq,_⟩:=zam h1
  refine⟨j,q,e.symm,hq, ?_⟩
  unfold zbL at h2
  rw [hq] at h2
  simp only [Bool.and_eq_true,Bool.or_eq_true,Bool.not_eq_true',Bool.true_eq_false,Bool.false_eq_true,false_or,Bool.not_true] at h2
  exact h2.2
theorem zr8 (env:Env) (c:ChD) (h:Full c) (i:Nat) (s:StD) (hs:c.states[i]? =some s) (hm:zat s=true):Con Tryz.prog env 79 [zai c,I (i:Int)] (.own 3 1 ((leadsL c i).map intAV)):=by
 have hi:=(List.getElem?_eq_some_iff.1 hs).1
 have g0:((i:Nat):Int)< (c.states.length:Int):=by omega
 have hz:inZ c (i:Int)=true:=zaM.2 hi
 obtain⟨u1,u2⟩:=zrA h.toRight hz
 have f1:Con Tryz.prog env 128 [zal c,I (i:Int)] (.own 3 1 ((upL c i).map intAV)):=zmW env c h.toRight i
 have f0:=zbH env c
 have hk45:s.kind=4\/s.kind=5:=by unfold zat at hm; simpa using hm
 obtain⟨i2,s2,hini,hs2,hm2⟩:=zrF h hs hm
 have f3:=zrM env c h i2 s2 hs2 hm2
 have hL:leadsL c i=leadsL c i2++ldL c (upL c i):=by
  have e1:at_ c (i:Int)=some s:=by rw [zbp]; exact hs
  have e2:at_ c (i2:Int)=some s2:=by rw [zbp]; exact hs2
  unfold leadsL
  rw [e1,e2]
  simp only [hm,hm2,if_true,Bool.false_eq_true,if_false]
  rw [hini]
 rw [hL]
 have hPl:(leadsL c i2).length<=1200:=zrR h hs2 hm2
 generalize leadsL c (i2:Int)=P at*
 generalize hKK:upL c (i:Int)=K at*
 have hKl:K.length<=33:=by omega
 have hKz: ∀x∈K,x= -1\/inZ c x=true:=u2
 unfold zai at f3 |-
 rcases hk45 with hk | hk
 ·have b4:(s.kind==4)=true:=by simp [hk]
  have b5:(s.kind==5)=false:=by simp [hk]
  refine zaa Tryz.func79 rfl Tryz.call79 (by rw [Tryz.ntmps79]; simp) ?_
  rw [Tryz.ntmps79,Tryz.results79]
  have F:=ai tabCells.eq_1<|ai stAV.eq_1<|ai hs<|ai g0<|ai b4<|ai b5<|hini
  repeat (first | refine st ?_ | refine cC f1 ?_ | refine cC f3 ?_)
  refine zab (D:=Nat) (fun j vs=>[(0, .ref 9 [tabCells c] 0 0),(5, .row 35 (vs 35)),(40, .row 23 (vs 23)),(41,I K.length),(42,I j)]) (fun j _=>[(35,⟨1,(P++ldTo c K j).map intAV,3,true⟩),(23,⟨1,K.map intAV,3,true⟩)]) (fun j _ esc=>j<=K.length/\esc 35=false) (fun j=>K.length-j) 0 ?_ ?_ ?_ ?_
  ·exact⟨Nat.zero_le _,by simp only [go_sem]⟩
  ·(simp only [go_sem,F])
   try rfl
  ·(simp only [go_sem,F])
   try exact⟨by rw [show ldTo c K 0=[] from rfl,List.append_nil],rfl⟩
   try rw [show ldTo c K 0=[] from rfl,List.append_nil]
  rintro j ws esc ⟨hj,e0⟩
  by_cases hlt:j<K.length
  ·obtain⟨x,hx⟩: ∃x,K[j]? =some x:=⟨K[j],List.getElem?_eq_getElem hlt⟩
   have q1:=nlt hlt
   have q2:=zac hlt (by omega)
   have hn:=zrv (c:=c) hx
   have hal:=zrr h K j
   rcases hKz x (List.mem_of_getElem? hx) with rfl | hxz
   ·have h0:ldK c (-1)=[]:=rfl
    rw [h0,List.append_nil] at hn
    have F:=ai hx<|ai q1<|ai q2<|e0
    repeat refine st ?_
    refine⟨j+1,⟨hlt,by simp only [go_sem,e0]⟩, ?_, ?_,by omega⟩
    ·(simp only [go_sem,F])
    ·have F:=hn
     (simp only [go_sem,F])
   ·obtain⟨k,s,rfl,hsk, -⟩:=zb0 hxz
    have hk:=(List.getElem?_eq_some_iff.1 hsk).1
    have h0:ldK c (k:Int)=(k:Int)::zL (sbL c k):=by unfold ldK; rw [if_pos (by omega),Int.toNat_natCast]
    rw [h0] at hn
    have hn2:(P++ldTo c K (j+1)).map intAV=(P++ldTo c K j).map intAV++[I (k:Int)]::(sbL c k).map zae:=by rw [hn, <-List.append_assoc,List.map_append,List.map_cons,ze8]
    have hbl:=sb_len h k
    have hpl:(P++ldTo c K j).length<=2500:=by rw [List.length_append]; omega
    have q3:((k:Nat):Int)< (c.states.length:Int):=by omega
    have q4:(0:Int)<=(k:Int):=by omega
    have hb:(begE c c.states.length)[k]? =some [.seq 1 ((sbL c k).map zae)]:=by unfold begE; rw [List.getElem?_map,List.getElem?_range hk]; rfl
    have hbe:(begE c c.states.length).length=c.states.length:=by simp [begE]
    generalize hPE:P++ldTo c K j=E at*
    have hf1:Fits (E.length+1) 8:=zah (by omega) (by omega)
    have hf2:Fits (E.length+1+(sbL c k).length) 8:=zah (by omega) (by omega)
    have F:=ai hx<|ai q1<|ai q2<|ai q3<|ai q4<|ai e0<|ai hf1<|ai hf2<|ai tabCells.eq_1<|ai hb<|hbe
    repeat refine st ?_
    refine⟨j+1,⟨hlt,by simp only [go_sem,e0]⟩, ?_, ?_,by omega⟩
    ·(simp only [go_sem,F])
    ·have F:=ai hn2<|zae.eq_1
     (simp only [go_sem,List.append_assoc,F])
  ·obtain rfl:j=K.length:=by omega
   have q1: ¬(K.length:Int)< (K.length:Int):=by omega
   rw [show ldTo c K K.length=ldL c K from rfl] at*
   have F:=ai q1<|e0
   repeat refine st ?_
   exact aR
 ·have b4:(s.kind==4)=false:=by simp [hk]
  have b5:(s.kind==5)=true:=by simp [hk]
  refine zaa Tryz.func79 rfl Tryz.call79 (by rw [Tryz.ntmps79]; simp) ?_
  rw [Tryz.ntmps79,Tryz.results79]
  have F:=ai tabCells.eq_1<|ai stAV.eq_1<|ai hs<|ai g0<|ai b4<|ai b5<|hini
  repeat (first | refine st ?_ | refine cC f1 ?_ | refine cC f3 ?_)
  refine zab (D:=Nat) (fun j vs=>[(0, .ref 9 [tabCells c] 0 0),(5, .row 35 (vs 35)),(40, .row 23 (vs 23)),(41,I K.length),(42,I j)]) (fun j _=>[(35,⟨1,(P++ldTo c K j).map intAV,3,true⟩),(23,⟨1,K.map intAV,3,true⟩)]) (fun j _ esc=>j<=K.length/\esc 35=false) (fun j=>K.length-j) 0 ?_ ?_ ?_ ?_
  ·exact⟨Nat.zero_le _,by simp only [go_sem]⟩
  ·(simp only [go_sem,F])
   try rfl
  ·(simp only [go_sem,F])
   try exact⟨by rw [show ldTo c K 0=[] from rfl,List.append_nil],rfl⟩
   try rw [show ldTo c K 0=[] from rfl,List.append_nil]
  rintro j ws esc ⟨hj,e0⟩
  by_cases hlt:j<K.length
  ·obtain⟨x,hx⟩: ∃x,K[j]? =some x:=⟨K[j],List.getElem?_eq_getElem hlt⟩
   have q1:=nlt hlt
   have q2:=zac hlt (by omega)
   have hn:=zrv (c:=c) hx
   have hal:=zrr h K j
   rcases hKz x (List.mem_of_getElem? hx) with rfl | hxz
   ·have h0:ldK c (-1)=[]:=rfl
    rw [h0,List.append_nil] at hn
    have F:=ai hx<|ai q1<|ai q2<|e0
    repeat refine st ?_
    refine⟨j+1,⟨hlt,by simp only [go_sem,e0]⟩, ?_, ?_,by omega⟩
    ·(simp only [go_sem,F])
    ·have F:=hn
     (simp only [go_sem,F])
   ·obtain⟨k,s,rfl,hsk, -⟩:=zb0 hxz
    have hk:=(List.getElem?_eq_some_iff.1 hsk).1
    have h0:ldK c (k:Int)=(k:Int)::zL (sbL c k):=by unfold ldK; rw [if_pos (by omega),Int.toNat_natCast]
    rw [h0] at hn
    have hn2:(P++ldTo c K (j+1)).map intAV=(P++ldTo c K j).map intAV++[I (k:Int)]::(sbL c k).map zae:=by rw [hn, <-List.append_assoc,List.map_append,List.map_cons,ze8]
    have hbl:=sb_len h k
    have hpl:(P++ldTo c K j).length<=2500:=by rw [List.length_append]; omega
    have q3:((k:Nat):Int)< (c.states.length:Int):=by omega
    have q4:(0:Int)<=(k:Int):=by omega
    have hb:(begE c c.states.length)[k]? =some [.seq 1 ((sbL c k).map zae)]:=by unfold begE; rw [List.getElem?_map,List.getElem?_range hk]; rfl
    have hbe:(begE c c.states.length).length=c.states.length:=by simp [begE]
    generalize hPE:P++ldTo c K j=E at*
    have hf1:Fits (E.length+1) 8:=zah (by omega) (by omega)
    have hf2:Fits (E.length+1+(sbL c k).length) 8:=zah (by omega) (by omega)
    have F:=ai hx<|ai q1<|ai q2<|ai q3<|ai q4<|ai e0<|ai hf1<|ai hf2<|ai tabCells.eq_1<|ai hb<|hbe
    repeat refine st ?_
    refine⟨j+1,⟨hlt,by simp only [go_sem,e0]⟩, ?_, ?_,by omega⟩
    ·(simp only [go_sem,F])
    ·have F:=ai hn2<|zae.eq_1
     (simp only [go_sem,List.append_assoc,F])
  ·obtain rfl:j=K.length:=by omega
   have q1: ¬(K.length:Int)< (K.length:Int):=by omega
   rw [show ldTo c K K.length=ldL c K from rfl] at*
   have F:=ai q1<|e0
   repeat refine st ?_
   exact aR
theorem zrI (env:Env) (c:ChD) (h:Full c) (i:Nat) (s:StD) (hs:c.states[i]? =some s) (hm:zat s=false):Con Tryz.prog env 81 [.agg (chAV c),I (i:Int)] (.own 3 1 ((leadsL c i).map intAV)):=by
 have hi:=(List.getElem?_eq_some_iff.1 hs).1
 have g0:((i:Nat):Int)< (c.states.length:Int):=by omega
 have hz:inZ c (i:Int)=true:=zaM.2 hi
 obtain⟨u1,u2⟩:=zrA h.toRight hz
 have f1:=ziv env c h.toRight i
 have f2:=za1 env s
 rw [hm] at f2
 have fB:=fun k:Int=>rBegin_con env c h k
 have hL:leadsL c i=[]++ldL c ((i:Int)::upL c i):=by
  have e1:at_ c (i:Int)=some s:=by rw [zbp]; exact hs
  unfold leadsL
  rw [e1]
  simp only [hm,Bool.false_eq_true,if_false,List.nil_append]
 rw [hL]
 generalize hPP:([]:List Int)=P
 have hPl:P.length<=1200:=by rw [<-hPP]; simp
 have hKK:((i:Int)::upL c i).map intAV=[I (i:Int)]::(upL c i).map intAV:=rfl
 have hKn:((i:Int)::upL c i).length=(upL c i).length+1:=rfl
 have hf0:Fits (1+(upL c i).length) 8:=zah (by omega) (by omega)
 have hKl:((i:Int)::upL c i).length<=33:=by simp only [List.length_cons]; omega
 have hKz: ∀x∈((i:Int)::upL c i),x= -1\/inZ c x=true:=fun x hx=>by
  rcases List.mem_cons.1 hx with rfl | hx
  ·exact .inr hz
  ·exact u2 x hx
 unfold chAV at f1
 unfold stAV at f2
 unfold chAV at fB
 refine zaa Tryz.func81 rfl Tryz.call81 (by rw [Tryz.ntmps81]; simp) ?_
 rw [Tryz.ntmps81,Tryz.results81]
 have F:=ai chAV.eq_1<|ai stAV.eq_1<|ai hs<|ai g0<|hf0
 repeat (first | refine st ?_ | refine cC f1 ?_ | refine cC f2 ?_)
 generalize hKK2:(i:Int)::upL c i=K at*
 refine zab (D:=Nat) (fun j vs=>[(2, .loc 2 (vs 2) 0 0),(5, .row 8 (vs 8)),(6, .row 27 (vs 27)),(7,I j)]) (fun j _=>[(2,⟨5,[chAV c],26,false⟩),(8,⟨1,(P++ldTo c K j).map intAV,3,true⟩),(27,⟨1,K.map intAV,3,true⟩)]) (fun j _ esc=>j<=K.length/\esc 8=false) (fun j=>K.length-j) 0 ?_ ?_ ?_ ?_
 ·exact⟨Nat.zero_le _,by simp only [go_sem]⟩
 ·simp only [hKn]
  (simp only [go_sem,F])
  try rfl
 ·subst hPP
  simp only [hKK,show ldTo c K 0=[] from rfl,List.append_nil,List.map_nil]
  have F:=chAV.eq_1
  (simp only [go_sem,F])
  try exact⟨by rw [show ldTo c K 0=[] from rfl,List.append_nil],rfl⟩
  try rw [show ldTo c K 0=[] from rfl,List.append_nil]
 rintro j ws esc ⟨hj,e0⟩
 by_cases hlt:j<K.length
 ·obtain⟨x,hx⟩: ∃x,K[j]? =some x:=⟨K[j],List.getElem?_eq_getElem hlt⟩
  have q1:=nlt hlt
  have q2:=zac hlt (by omega)
  have hn:=zrv (c:=c) hx
  have hal:=zrr h K j
  rcases hKz x (List.mem_of_getElem? hx) with rfl | hxz
  ·have h0:ldK c (-1)=[]:=rfl
   rw [h0,List.append_nil] at hn
   have F:=ai chAV.eq_1<|ai hx<|ai q1<|ai q2<|e0
   repeat refine st ?_
   refine⟨j+1,⟨hlt,by simp only [go_sem,e0]⟩, ?_, ?_,by omega⟩
   ·(simp only [go_sem,F])
   ·have F:=ai chAV.eq_1<|hn
    (simp only [go_sem,F])
  ·obtain⟨k,s,rfl,hsk, -⟩:=zb0 hxz
   have hk:=(List.getElem?_eq_some_iff.1 hsk).1
   have h0:ldK c (k:Int)=(k:Int)::zL (sbL c k):=by unfold ldK; rw [if_pos (by omega),Int.toNat_natCast]
   rw [h0] at hn
   have hn2:(P++ldTo c K (j+1)).map intAV=(P++ldTo c K j).map intAV++[I (k:Int)]::(sbL c k).map zae:=by rw [hn, <-List.append_assoc,List.map_append,List.map_cons,ze8]
   have hbl:=sb_len h k
   have hpl:(P++ldTo c K j).length<=2500:=by rw [List.length_append]; omega
   have q3:((k:Nat):Int)< (c.states.length:Int):=by omega
   have q4:(0:Int)<=(k:Int):=by omega
   have f9:=fB (k:Int)
   rw [zrZ hk] at f9
   generalize hPE:P++ldTo c K j=E at*
   have hf1:Fits (E.length+1) 8:=zah (by omega) (by omega)
   have hf2:Fits (E.length+1+(sbL c k).length) 8:=zah (by omega) (by omega)
   have F:=ai chAV.eq_1<|ai hx<|ai q1<|ai q2<|ai q3<|ai q4<|ai e0<|ai hf1<|hf2
   repeat (first | refine st ?_ | refine cC f9 ?_)
   refine⟨j+1,⟨hlt,by simp only [go_sem,e0]⟩, ?_, ?_,by omega⟩
   ·(simp only [go_sem,F])
   ·have F:=ai chAV.eq_1<|ai hn2<|zae.eq_1
    (simp only [go_sem,List.append_assoc,F])
 ·obtain rfl:j=K.length:=by omega
  have q1: ¬(K.length:Int)< (K.length:Int):=by omega
  rw [show ldTo c K K.length=ldL c K from rfl] at*
  have F:=ai chAV.eq_1<|ai q1<|e0
  repeat refine st ?_
  exact aR
theorem zrW (env:Env) (c:ChD) (h:Full c) (i:Nat) (s:StD) (hs:c.states[i]? =some s) (hm:zat s=true):Con Tryz.prog env 81 [.agg (chAV c),I (i:Int)] (.own 3 1 ((leadsL c i).map intAV)):=by
 have hi:=(List.getElem?_eq_some_iff.1 hs).1
 have g0:((i:Nat):Int)< (c.states.length:Int):=by omega
 have hz:inZ c (i:Int)=true:=zaM.2 hi
 obtain⟨u1,u2⟩:=zrA h.toRight hz
 have f1:=ziv env c h.toRight i
 have f2:=za1 env s
 rw [hm] at f2
 have fB:=fun k:Int=>rBegin_con env c h k
 have hk45:s.kind=4\/s.kind=5:=by unfold zat at hm; simpa using hm
 obtain⟨i2,s2,hini,hs2,hm2⟩:=zrF h hs hm
 have f3:=zrI env c h i2 s2 hs2 hm2
 have hL:leadsL c i=leadsL c i2++ldL c (upL c i):=by
  have e1:at_ c (i:Int)=some s:=by rw [zbp]; exact hs
  have e2:at_ c (i2:Int)=some s2:=by rw [zbp]; exact hs2
  unfold leadsL
  rw [e1,e2]
  simp only [hm,hm2,if_true,Bool.false_eq_true,if_false]
  rw [hini]
 rw [hL]
 have hPl:(leadsL c i2).length<=1200:=zrR h hs2 hm2
 generalize leadsL c (i2:Int)=P at*
 generalize hKK:upL c (i:Int)=K at*
 have hKl:K.length<=33:=by omega
 have hKz: ∀x∈K,x= -1\/inZ c x=true:=u2
 unfold chAV at f1
 unfold stAV at f2
 unfold chAV at fB
 unfold chAV at f3
 refine zaa Tryz.func81 rfl Tryz.call81 (by rw [Tryz.ntmps81]; simp) ?_
 rw [Tryz.ntmps81,Tryz.results81]
 have F:=ai chAV.eq_1<|ai stAV.eq_1<|ai hs<|ai g0<|hini
 repeat (first | refine st ?_ | refine cC f1 ?_ | refine cC f2 ?_ | refine cC f3 ?_)
 refine zab (D:=Nat) (fun j vs=>[(2, .loc 2 (vs 2) 0 0),(5, .row 25 (vs 25)),(6, .row 11 (vs 11)),(7,I j)]) (fun j _=>[(2,⟨5,[chAV c],26,false⟩),(25,⟨1,(P++ldTo c K j).map intAV,3,true⟩),(11,⟨1,K.map intAV,3,true⟩)]) (fun j _ esc=>j<=K.length/\esc 25=false) (fun j=>K.length-j) 0 ?_ ?_ ?_ ?_
 ·exact⟨Nat.zero_le _,by simp only [go_sem]⟩
 ·(simp only [go_sem,F])
  try rfl
 ·have F:=chAV.eq_1
  (simp only [go_sem,F])
  try exact⟨by rw [show ldTo c K 0=[] from rfl,List.append_nil],rfl⟩
  try rw [show ldTo c K 0=[] from rfl,List.append_nil]
 rintro j ws esc ⟨hj,e0⟩
 by_cases hlt:j<K.length
 ·obtain⟨x,hx⟩: ∃x,K[j]? =some x:=⟨K[j],List.getElem?_eq_getElem hlt⟩
  have q1:=nlt hlt
  have q2:=zac hlt (by omega)
  have hn:=zrv (c:=c) hx
  have hal:=zrr h K j
  rcases hKz x (List.mem_of_getElem? hx) with rfl | hxz
  ·have h0:ldK c (-1)=[]:=rfl
   rw [h0,List.append_nil] at hn
   have F:=ai chAV.eq_1<|ai hx<|ai q1<|ai q2<|e0
   repeat refine st ?_
   refine⟨j+1,⟨hlt,by simp only [go_sem,e0]⟩, ?_, ?_,by omega⟩
   ·(simp only [go_sem,F])
   ·have F:=ai chAV.eq_1<|hn
    (simp only [go_sem,F])
  ·obtain⟨k,s,rfl,hsk, -⟩:=zb0 hxz
   have hk:=(List.getElem?_eq_some_iff.1 hsk).1
   have h0:ldK c (k:Int)=(k:Int)::zL (sbL c k):=by unfold ldK; rw [if_pos (by omega),Int.toNat_natCast]
   rw [h0] at hn
   have hn2:(P++ldTo c K (j+1)).map intAV=(P++ldTo c K j).map intAV++[I (k:Int)]::(sbL c k).map zae:=by rw [hn, <-List.append_assoc,List.map_append,List.map_cons,ze8]
   have hbl:=sb_len h k
   have hpl:(P++ldTo c K j).length<=2500:=by rw [List.length_append]; omega
   have q3:((k:Nat):Int)< (c.states.length:Int):=by omega
   have q4:(0:Int)<=(k:Int):=by omega
   have f9:=fB (k:Int)
   rw [zrZ hk] at f9
   generalize hPE:P++ldTo c K j=E at*
   have hf1:Fits (E.length+1) 8:=zah (by omega) (by omega)
   have hf2:Fits (E.length+1+(sbL c k).length) 8:=zah (by omega) (by omega)
   have F:=ai chAV.eq_1<|ai hx<|ai q1<|ai q2<|ai q3<|ai q4<|ai e0<|ai hf1<|hf2
   repeat (first | refine st ?_ | refine cC f9 ?_)
   refine⟨j+1,⟨hlt,by simp only [go_sem,e0]⟩, ?_, ?_,by omega⟩
   ·(simp only [go_sem,F])
   ·have F:=ai chAV.eq_1<|ai hn2<|zae.eq_1
    (simp only [go_sem,List.append_assoc,F])
 ·obtain rfl:j=K.length:=by omega
  have q1: ¬(K.length:Int)< (K.length:Int):=by omega
  rw [show ldTo c K K.length=ldL c K from rfl] at*
  have F:=ai chAV.eq_1<|ai q1<|e0
  repeat refine st ?_
  exact aR
end
section
open Go.RowKit
theorem zsp {c:ChD} (h:Full c) {i:Nat} (hi:i<c.states.length) {x:Int} (hx:x∈zL (sbL c i)):inZ c x=true:=by
 unfold zL at hx
 obtain⟨k,hk,rfl⟩:=List.mem_map.1 hx
 exact zaM.2 (bg_in h c.states.length i k hi (by omega) ((sb_mem h hi).1 hk)).2
theorem zsb {c:ChD} (h:Full c) {i x:Int} (hx:x∈zL (tbegL c i)):inZ c x=true:=by
 unfold tbegL at hx
 generalize (if i= -1 then c.initial else i)=k at hx
 cases hz:inZ c k with
 | true=>
   rw [hz,if_pos rfl] at hx
   have:=zag.1 hz
   exact zsp h (by omega) hx
 | false=>
   rw [hz] at hx
   simp [zL] at hx
theorem zsf {c:ChD} (h:Full c) {K:List Int} (hK: ∀k∈K,k= -1\/inZ c k=true) {x:Int} (hx:x∈ldL c K):inZ c x=true:=by
 unfold ldL ldTo at hx
 rw [List.take_length,List.mem_flatMap] at hx
 obtain⟨k,hk,hx⟩:=hx
 unfold ldK at hx
 split at hx
 ·rename_i h0
  rcases hK k hk with rfl | hz
  ·omega
  ·rcases List.mem_cons.1 hx with rfl | hx
   ·exact hz
   ·have:=zag.1 hz
    exact zsp h (by omega) hx
 ·cases hx
theorem zr2 {c:ChD} (h:Full c) {i:Int} (hz:inZ c i=true) {x:Int} (hx:x∈leadsL c i):inZ c x=true:=by
 obtain⟨k,s,rfl,hs,ha⟩:=zb0 hz
 have hu:=(zrA h.toRight hz).2
 unfold leadsL at hx
 rw [ha] at hx
 simp only at hx
 split at hx
 ·rename_i hm
  obtain⟨j,s2,e,hs2, -⟩:=zrF h hs hm
  have hjz:inZ c s.initial=true:=by rw [e]; exact zaM.2 (List.getElem?_eq_some_iff.1 hs2).1
  rcases List.mem_append.1 hx with hx | hx
  ·refine zsf h (fun y hy=> ?_) hx
   rcases List.mem_cons.1 hy with rfl | hy
   ·exact .inr hjz
   ·exact(zrA h.toRight hjz).2 y hy
  ·exact zsf h hu hx
 ·refine zsf h (fun y hy=> ?_) hx
  rcases List.mem_cons.1 hy with rfl | hy
  ·exact .inr hz
  ·exact hu y hy
inductive Cl (c:ChD):Int->Prop
 | beg {x:Int} (h:x∈zL (tbegL c (-1))):Cl c x
 | tr {t:TrD} {x:Int} (ht:t∈c.trans) (hs:Cl c t.src) (h0:0<=t.target) (hx:x∈leadsL c t.target):Cl c x
theorem zsa {c:ChD} (h:Full c) {t:TrD} (ht:t∈c.trans) (h0:0<=t.target):inZ c t.target=true:=by
 obtain⟨k,hk⟩:=List.mem_iff_getElem?.1 ht
 rcases (h.src hk).2 with e | e
 ·omega
 ·exact e
theorem Cl.in {c:ChD} (h:Full c) {x:Int} (hx:Cl c x):inZ c x=true:=by
 cases hx with
 | beg h1=>exact zsb h h1
 | tr ht hs h0 h1=>exact zr2 h (zsa h ht h0) h1
def goR (c:ChD) (H:List Int) (t:TrD):List Int:=if H.contains t.src=true/\0<=t.target then leadsL c t.target else []
def goTo (c:ChD) (H:List Int) (j:Nat):List Int:=(c.trans.take j).flatMap (goR c H)
theorem zrK {c:ChD} {H:List Int} {j:Nat} {t:TrD} (h:c.trans[j]? =some t):goTo c H (j+1)=goTo c H j++goR c H t:=by
 unfold goTo
 rw [List.take_add_one,h,List.flatMap_append]
 simp
def goL (c:ChD) (H:List Int):List Int:=goTo c H c.trans.length
theorem zru {c:ChD} {H:List Int} {x:Int} :x∈goL c H↔ ∃t∈c.trans,t.src∈H/\0<=t.target/\x∈leadsL c t.target:=by
 unfold goL goTo
 rw [List.take_length,List.mem_flatMap]
 constructor
 ·rintro⟨t,ht,hx⟩
  unfold goR at hx
  split at hx
  ·rename_i h1
   exact⟨t,ht,List.contains_iff_mem.1 h1.1,h1.2,hx⟩
  ·cases hx
 ·rintro⟨t,ht,h1,h2,hx⟩
  refine⟨t,ht, ?_⟩
  unfold goR
  rw [if_pos ⟨List.contains_iff_mem.2 h1,h2⟩]
  exact hx
theorem zrS {c:ChD} (h:Full c) {H:List Int} {x:Int} (hx:x∈goL c H):inZ c x=true:=by
 obtain⟨t,ht,_,h0,hx⟩:=zru.1 hx
 exact zr2 h (zsa h ht h0) hx
def zso (c:ChD) (l:List Nat):List Nat:=sortL c (zL l++goL c (zL l))
def iterR (c:ChD):Nat->List Nat
 | 0=>tbegL c (-1)
 | n+1=>zso c (iterR c n)
def zrq (c:ChD):List Nat:=iterR c (c.states.length+1)
theorem zrN {c:ChD} (h:Full c): ∀(n:Nat),∀x∈zL (iterR c n),inZ c x=true
 | 0,x,hx=>zsb h hx
 | n+1,x,hx=>by
   have hl: ∀y∈zL (iterR c n)++goL c (zL (iterR c n)),inZ c y=true:=fun y hy=>by
    rcases List.mem_append.1 hy with hy | hy
    ·exact zrN h n y hy
    ·exact zrS h hy
   exact hl x ((sort_memI h.toRight hl).1 hx)
theorem zrx {c:ChD} (h:Full c) {n:Nat} {x:Int} :x∈zL (iterR c (n+1))↔x∈zL (iterR c n)\/x∈goL c (zL (iterR c n)):=by
 have hl: ∀y∈zL (iterR c n)++goL c (zL (iterR c n)),inZ c y=true:=fun y hy=>by
  rcases List.mem_append.1 hy with hy | hy
  ·exact zrN h n y hy
  ·exact zrS h hy
 rw [<-List.mem_append]
 exact sort_memI h.toRight hl
theorem zrY {c:ChD} (h:Full c): ∀(n:Nat),∀x∈zL (iterR c n),Cl c x
 | 0,x,hx=> .beg hx
 | n+1,x,hx=>by
   rcases (zrx h).1 hx with hx | hx
   ·exact zrY h n x hx
   ·obtain⟨t,ht,h1,h0,hx⟩:=zru.1 hx
    exact .tr ht (zrY h n _ h1) h0 hx
theorem zr4 {c:ChD} (h:Full c): ∀(n:Nat),∀x∈zL (tbegL c (-1)),x∈zL (iterR c n)
 | 0,_,hx=>hx
 | n+1,x,hx=>(zrx h).2 (.inl (zr4 h n x hx))
theorem zsi {c:ChD} {l m:List Int} (h: ∀x∈l,x∈m):missL c m<=missL c l:=by
 unfold missL
 have:(List.range c.states.length).filter (fun k:Nat=> !m.contains (k:Int))=((List.range c.states.length).filter (fun k:Nat=> !l.contains (k:Int))).filter (fun k:Nat=> !m.contains (k:Int)):=by
  rw [List.filter_filter]
  apply List.filter_congr
  intro k _
  cases hm:m.contains (k:Int) with
  | true=>simp
  | false=>
    cases hl:l.contains (k:Int) with
    | false=>simp
    | true=>
      rw [List.contains_iff_mem.2 (h _ (List.contains_iff_mem.1 hl))] at hm
      cases hm
 rw [this]
 exact List.length_filter_le ..
theorem zr3 {c:ChD} (h:Full c): ∀(n:Nat),(∀x∈goL c (zL (iterR c n)),x∈zL (iterR c n))\/missL c (zL (iterR c n))+n<=c.states.length
 | 0=> .inr (znA c _)
 | n+1=>by
   by_cases hc: ∀x∈goL c (zL (iterR c n)),x∈zL (iterR c n)
   ·refine .inl fun x hx=> ?_
    obtain⟨t,ht,h1,h0,hx⟩:=zru.1 hx
    have h2:t.src∈zL (iterR c n):=by
     rcases (zrx h).1 h1 with h1 | h1
     ·exact h1
     ·exact hc _ h1
    exact(zrx h).2 (.inl (hc x (zru.2 ⟨t,ht,h2,h0,hx⟩)))
   ·rcases zr3 h n with hh | hh
    ·exact absurd hh hc
    ·refine .inr ?_
     obtain⟨x,hx⟩:=Classical.not_forall.1 hc
     obtain⟨hx1,hx2⟩:=Classical.not_imp.1 hx
     have h1:=zeh (c:=c) (l:=zL (iterR c n)) (a:=[x]) (by simp) fun k hk=>by
      rw [List.mem_singleton] at hk
      rw [hk]
      exact⟨hx2,zrS h hx1⟩
     have h2:=zsi (c:=c) (l:=zL (iterR c n)++[x]) (m:=zL (iterR c (n+1))) fun y hy=>by
      rcases List.mem_append.1 hy with hy | hy
      ·exact(zrx h).2 (.inl hy)
      ·rw [List.mem_singleton] at hy
       rw [hy]
       exact(zrx h).2 (.inr hx1)
     simp only [List.length_singleton] at h1
     omega
theorem zrQ {c:ChD} (h:Full c) {x:Int} :x∈zL (zrq c)↔Cl c x:=by
 refine⟨zrY h _ x,fun hx=> ?_⟩
 have hc: ∀x∈goL c (zL (zrq c)),x∈zL (zrq c):=by
  rcases zr3 h (c.states.length+1) with hh | hh
  ·exact hh
  ·omega
 induction hx with
 | beg hb=>exact zr4 h _ _ hb
 | tr ht _ h0 hx ih=>exact hc _ (zru.2 ⟨_,ht,ih,h0,hx⟩)
theorem zrD {c:ChD} (h:Full c) {H:List Int} (hH: ∀x,x∈H↔Cl c x):((walkL c (-1)).filter fun k:Nat=>H.contains (k:Int))=zrq c:=by
 have hl: ∀y∈zL (iterR c c.states.length)++goL c (zL (iterR c c.states.length)),inZ c y=true:=fun y hy=>by
  rcases List.mem_append.1 hy with hy | hy
  ·exact zrN h _ y hy
  ·exact zrS h hy
 have hr:zrq c=(walkL c (-1)).filter fun k:Nat=>(zL (iterR c c.states.length)++goL c (zL (iterR c c.states.length))).contains (k:Int):=by
  show sortL c _=_
  unfold sortL
  rw [if_pos (List.all_eq_true.2 hl)]
 rw [hr]
 apply List.filter_congr
 intro k _
 rw [Bool.eq_iff_iff,List.contains_iff_mem,List.contains_iff_mem,hH, <-zrQ h]
 exact sort_memI h.toRight hl
theorem zrH {c:ChD} (h:Full c):(zrq c).length<=32:=by
 have h2:=zkM h.toRight
 have h1:=(zrD h (fun x=>zrQ h)).symm
 rw [h1]
 exact Nat.le_trans (List.length_filter_le ..) (Nat.le_trans h2 h.few)
structure Rch (c:ChD) (H T:List Int):Prop where
 nd:H.Nodup
 cl: ∀x,x∈H\/x∈T->Cl c x
 beg: ∀x∈zL (tbegL c (-1)),x∈H\/x∈T
 out: ∀x∈goL c H,x∈H\/x∈T
theorem Rch.first (c:ChD):Rch c [] (zL (tbegL c (-1))):=by
 refine⟨List.nodup_nil,fun x hx=> ?_,fun x hx=> .inr hx,fun x hx=> ?_⟩
 ·rcases hx with hx | hx
  ·cases hx
  ·exact .beg hx
 ·obtain⟨t,_,h1,_⟩:=zru.1 hx
  cases h1
theorem Rch.skip {c:ChD} {H r:List Int} {x:Int} (h:Rch c H (x::r)) (hx:x∈H):Rch c H r:=by
 have k: ∀y,y∈H\/y∈x::r->y∈H\/y∈r:=fun y hy=>by
  rcases hy with hy | hy
  ·exact .inl hy
  ·rcases List.mem_cons.1 hy with rfl | hy
   ·exact .inl hx
   ·exact .inr hy
 exact⟨h.nd,fun y hy=>h.cl y (hy.imp id (List.mem_cons_of_mem _)),fun y hy=>k y (h.beg y hy),fun y hy=>k y (h.out y hy)⟩
theorem Rch.mark {c:ChD} {H r:List Int} {x:Int} (h:Rch c H (x::r)) (hx:x∉H):Rch c (H++[x]) (r++goL c [x]):=by
 have k: ∀y,y∈H\/y∈x::r->y∈H++[x]\/y∈r++goL c [x]:=fun y hy=>by
  rcases hy with hy | hy
  ·exact .inl (List.mem_append_left _ hy)
  ·rcases List.mem_cons.1 hy with rfl | hy
   ·exact .inl (by simp)
   ·exact .inr (List.mem_append_left _ hy)
 refine⟨?_,fun y hy=> ?_,fun y hy=>k y (h.beg y hy),fun y hy=> ?_⟩
 ·rw [List.nodup_append]
  refine⟨h.nd,by simp,fun a ha b hb e=> ?_⟩
  rw [List.mem_singleton] at hb
  subst hb
  subst e
  exact hx ha
 ·have hxc:=h.cl x (.inr (by simp))
  rcases hy with hy | hy
  ·rcases List.mem_append.1 hy with hy | hy
   ·exact h.cl y (.inl hy)
   ·rw [List.mem_singleton] at hy; rw [hy]; exact hxc
  ·rcases List.mem_append.1 hy with hy | hy
   ·exact h.cl y (.inr (List.mem_cons_of_mem _ hy))
   ·obtain⟨t,ht,h1,h0,hy⟩:=zru.1 hy
    rw [List.mem_singleton] at h1
    exact .tr ht (by rw [h1]; exact hxc) h0 hy
 ·obtain⟨t,ht,h1,h0,hy⟩:=zru.1 hy
  rcases List.mem_append.1 h1 with h1 | h1
  ·exact k y (h.out y (zru.2 ⟨t,ht,h1,h0,hy⟩))
  ·exact .inr (List.mem_append_right _ (zru.2 ⟨t,ht,h1,h0,hy⟩))
theorem Rch.done {c:ChD} {H:List Int} (h:Rch c H []) (x:Int):x∈H↔Cl c x:=by
 refine⟨fun hx=>h.cl x (.inl hx),fun hx=> ?_⟩
 induction hx with
 | beg hb=>exact(h.beg _ hb).resolve_right (by simp)
 | tr ht _ h0 hx ih=>exact(h.out _ (zru.2 ⟨_,ht,ih,h0,hx⟩)).resolve_right (by simp)
end
section
open Go.RowKit
def OpN (P:Program) (env:Env) (s:St) (o:Oper) (K:St->Prop):Prop:=
 (∀c,o.op≠ .defer c)/\ ∀(x:Ctx) (a:Act) (w:World) (m:Mem),x.env=env->Sim x s a w m-> ∃w' m' v s1 c,(execOp a.eval o).run P w= .ok (.value v) w'/\Sim x s1 a w' m'/\RL w' m' s1 v c/\K (s1.put o.dst c)
section
variable {P:Program} {env:Env} {nt:Nat} {Q:Exit->St->Prop} {s:St} {ops:Array Oper}
theorem zrP {x:Ctx} {ro:Option Nat} {Q:Exit->Act->World->Prop} (hd:(ops.all fun o=>o.dst.all (· <x.nt))=true): ∀ {qs:List Stp} {s:St} {K:St->List Foot->Prop} (k:Nat) (rest:List Nat) {a:Act} {w:World} {m:Mem},aops P x.env qs s K->(∀(j:Nat) (q:Stp),qs[j]? =some q->ops[k+j]? =some q.o/\q.g=gdOf ops q.o)->Sim x s a w m->
 (∀s' fts a' w' m',K s' fts->Sim x s' a' w' m'->wpOpsIn (fen ro) 3 P ops Q rest a' w')->wpOpsIn (fen ro) 3 P ops Q (List.range' k qs.length++rest) a w
 | [],s,K,k,rest,a,w,m,h,hq,hS,hK=>hK s [] a w m h hS
 | q::qs,s,K,k,rest,a,w,m,h,hq,hS,hK=>by
   obtain⟨s1,ft,h1,h2⟩:=h
   obtain⟨q1,q2⟩:=hq 0 q rfl
   rw [Nat.add_zero] at q1
   rw [q2] at h1
   rw [List.length_cons,List.range'_succ,List.cons_append,wpOpsIn_cons]
   refine zfV q1 hS (fun t ht=> ?_) h1 fun a' w' m' hS'=>zrP hd (k+1) rest h2 (fun j q' hj=>by
    have:=hq (j+1) q' (by simpa using hj)
    rwa [show k+(j+1)=k+1+j by omega] at this) hS' fun s' fts a2 w2 m2 hk=>hK s' (ft::fts) a2 w2 m2 hk
   have:=(Array.all_eq_true_iff_forall_mem.1 hd) _ (Array.mem_of_getElem? q1)
   rw [ht] at this
   simpa using this
theorem zrs {id:Nat} {A B:List Stp} {o:Oper} (hq:prep ops=A++⟨o, .always⟩::B) (hd:(ops.all fun o=>o.dst.all (· <nt))=true) (h:aops P env A s fun s1 _=>OpN P env s1 o fun s2=>aops P env B s2 fun s3 _=>Q .normal s3):awp P env nt (.region id ops false) Q s:=fun ro x he hn a w m hS=>by
 subst he
 subst hn
 refine wpIn_region ?_
 have hl:ops.size=A.length+(B.length+1):=by
  have:=congrArg List.length hq
  simpa [prep] using this
 have hat: ∀(j:Nat) (q:Stp),(A++⟨o, .always⟩::B)[j]? =some q->ops[j]? =some q.o/\q.g=gdOf ops q.o:=fun j q hj=>by
  rw [<-hq] at hj
  have:=znk j q hj
  rwa [Nat.zero_add] at this
 have hr:List.range ops.size=List.range' 0 A.length++A.length::List.range' (A.length+1) B.length:=by
  rw [hl,List.range_eq_range',List.range'_append_1 .. |>.symm,Nat.zero_add,List.range'_succ]
 rw [hr]
 refine zrP hd 0 _ h (fun j q hj=>by
  have hj':=(List.getElem?_eq_some_iff.1 hj).1
  have:=hat j q (by rw [List.getElem?_append_left hj']; exact hj)
  rwa [Nat.zero_add]) hS fun s1 fts a1 w1 m1 hK hS1=> ?_
 obtain⟨o1,o2⟩:=hat A.length ⟨o, .always⟩ (by rw [List.getElem?_append_right (Nat.le_refl _),Nat.sub_self]; rfl)
 rw [wpOpsIn_cons]
 unfold wpOpIn
 rw [o1]
 simp only
 have hw:Region.wanted o (yielded ops a1.tmps)=true:=by
  unfold gdOf at o2
  cases hog:o.guard with
  | none=>simp [Region.wanted,hog]
  | some jw=>
    simp only [hog] at o2
    split at o2<;>cases o2
 rw [if_pos hw]
 obtain⟨w2,m2,v,s2,c,r1,r2,r3,r4⟩:=hK.2 x a1 w1 m1 rfl hS1
 refine zqO hK.1 ?_
 unfold Oper.wp
 rw [r1]
 have hp:=r2.put o.dst (fun t ht=>by
  have:=(Array.all_eq_true_iff_forall_mem.1 hd) _ (Array.mem_of_getElem? o1)
  rw [ht] at this
  simpa using this) r3
 have:=zrP (Q:=fun e a' w'=> ∃s' m',Q e s'/\Sim x s' a' w' m') (ro:=ro) hd (A.length+1) [] r4 (fun j q hj=>by
  have:=hat (A.length+1+j) q (by rw [List.getElem?_append_right (by omega),show A.length+1+j-A.length=j+1 by omega]; exact hj)
  exact this) hp fun s3 _ a3 w3 m3 hq3 hS3=>(⟨s3,m3,hq3,hS3⟩: ∃s' m',Q .normal s'/\Sim x s' a3 w3 m')
 rw [List.append_nil] at this
 exact this
end
section
variable {P:Program} {env:Env} {s:St} {o:Oper} {K:St->Prop}
theorem zrE {x:Ctx} {a:Act} {w:World} {m:Mem} {y:Operand} {r lo:Nat} {row:Row} (hS:Sim x s a w m) (hy:gt x.env s.f y= .sub r (s.vs r) lo) (hr:s.rows r=some row) (hrz:row.sz≠0) (_hlo:lo<=row.es.length):
 (a.eval y=cutV (m.ρ r) (lo*row.sz) lo)/\((m.ρ r= .slice none 0 0/\row.es.length=0)\/ ∃g cap cur,m.ρ r= .slice (some ⟨g,0,none⟩) row.es.length cap/\x.w.heap.size<=g/\w.heap[g]? =some (.cells cur row.e (0,0))/\row.es.length<=cap/\cap<=maxLen/\cur.size=cap*row.sz):=by
 have h:=zau hS y
 rw [hy] at h
 refine⟨h.sub_.2 rfl row hr, ?_⟩
 obtain⟨xs,k1,_⟩:=((hS.rows r row hr).cells hrz).own
 rcases k1.2 with⟨e,e0⟩ | ⟨g,cap,cur,e,h1,h2,h3,h4,h5,_⟩
 ·exact .inl ⟨e,e0⟩
 ·exact .inr ⟨g,cap,cur,e,h1,h2,h3,h4,h5⟩
theorem zsk {ρ:Value} {n lo sz:Nat} (hlo:lo<=n) (h:(ρ= .slice none 0 0/\n=0)\/ ∃g cap,ρ= .slice (some ⟨g,0,none⟩) n cap/\n<=cap): ∃A c,cutV ρ (lo*sz) lo= .slice A (n-lo) c:=by
 rcases h with⟨rfl,rfl⟩ | ⟨g,cap,rfl,_⟩
 ·exact⟨_,_,rfl⟩
 ·exact⟨_,_,rfl⟩
theorem zrw {g o n c k lo:Nat} (h:c≠lo):cutV (.slice (some ⟨g,o,none⟩) n c) k lo= .slice (some ⟨g,o+k,none⟩) (n-lo) (c-lo):=by
 show Value.slice (if c=lo then _ else _) _ _=_
 rw [if_neg h]
 simp only [Option.map_some,zhp]
theorem zrO {g o n c k lo:Nat} (h:c=lo):cutV (.slice (some ⟨g,o,none⟩) n c) k lo= .slice (some ⟨g,o,none⟩) (n-lo) (c-lo):=by
 show Value.slice (if c=lo then _ else _) _ _=_
 rw [if_pos h]
theorem zsl {t e:TypeId} {esz eb n0:Nat} {z0 ez:List Value} {y:Operand} {r lo:Nat} {row:Row} (ho:o.op= .call { callee:= .builtin .len,args:= #[y],argTypes:= #[t] }) (hd:tyD P t=some ⟨.slice e esz eb ez,n0,z0⟩) (hy:gt env s.f y= .sub r (s.vs r) lo) (hr:s.rows r=some row) (hrz:row.sz≠0) (hlo:lo<=row.es.length)
 (hK:K (s.put o.dst (.lit (.int .i64 ((row.es.length-lo:Nat):Int))))):OpN P env s o K:=by
 refine⟨fun c hc=>(by rw [ho] at hc; cases hc),fun x a w m hx hS=> ?_⟩
 subst hx
 obtain⟨hu,_⟩:=zaF hd
 obtain⟨h1,h2⟩:=zrE hS hy hr hrz hlo
 obtain⟨A,c,hv⟩:=zsk (sz:=row.sz) hlo (h2.imp id fun⟨g,cap,cur,e1,_,_,e2,_⟩=>⟨g,cap,e1,e2⟩)
 rw [hv] at h1
 exact⟨w,m,_,s,_,zh0 ho (by rw [h1]; simp [Builtin.len_,run_underlying hu,goInt]),hS, .val (.lit _),hK⟩
theorem zse {t e:TypeId} {esz eb n0:Nat} {z0 ez:List Value} {y i:Operand} {r lo j:Nat} {k:IntKind} {row:Row} (ho:o.op= .indexAddr t y i) (hd:tyD P t=some ⟨.slice e esz eb ez,n0,z0⟩) (hy:gt env s.f y= .sub r (s.vs r) lo) (hi:gt env s.f i= .lit (.int k (j:Int))) (hr:s.rows r=some row) (hrz:row.sz≠0) (hez:esz=row.sz) (hlo:lo+j<row.es.length)
 (hK:K (s.put o.dst (.loc r (s.vs r) (lo+j) 0))):OpN P env s o K:=by
 refine⟨fun c hc=>(by rw [ho] at hc; cases hc),fun x a w m hx hS=> ?_⟩
 subst hx
 obtain⟨hu,ie,ze,i1,i2,i3,i4,i5⟩:=zaF hd
 obtain⟨h1,h2⟩:=zrE hS hy hr hrz (by omega)
 have hiv:=zau hS i
 rw [hi] at hiv
 have hiv:=hiv.lit_
 rcases h2 with⟨_,h2⟩ | ⟨g,cap,cur,e1,_,_,e2,_⟩
 ·omega
 have hv:a.eval y= .slice (some ⟨g,lo*row.sz,none⟩) (row.es.length-lo) (cap-lo):=by
  rw [h1,e1,zrw (by omega),Nat.zero_add]
 have hrun:=zcB (P:=P) w g (lo*row.sz) (row.es.length-lo) (cap-lo) k (j:Int) hu i1 (by omega) (by omega)
 refine⟨w,m, .pointer (some ⟨g,(lo+j)*row.sz+0,none⟩),s,_, ?_,hS, .loc r _ (lo+j) 0 rfl (Nat.le_refl _) fun _ row' hr'=>⟨g,by rw [e1]; rfl,by rw [hr] at hr'; cases hr'; rfl⟩,hK⟩
 unfold execOp
 simp only [ho,hv,hiv,Sem.run_bind,hrun,Result.andThen_ok,Sem.run_pure,i3,hez,Int.toNat_natCast,Nat.add_mul,Nat.add_zero]
theorem zsd {t e:TypeId} {esz eb n0:Nat} {z0 ez:List Value} {y l:Operand} {r lo j:Nat} {kk:IntKind} {row:Row} (ho:o.op= .slice t y (some l) none none) (hd:tyD P t=some ⟨.slice e esz eb ez,n0,z0⟩) (hy:gt env s.f y= .sub r (s.vs r) lo) (hi:gt env s.f l= .lit (.int kk (j:Int))) (hj:0<j) (hr:s.rows r=some row) (hrz:row.sz≠0) (hez:esz=row.sz) (hlo:lo+j<=row.es.length)
 (hA:K (s.put o.dst (.sub r (s.vs r) (lo+j)))) (hB:lo+j=row.es.length->K (s.put o.dst (.full row.sz []))):OpN P env s o K:=by
 refine⟨fun c hc=>(by rw [ho] at hc; cases hc),fun x a w m hx hS=> ?_⟩
 subst hx
 obtain⟨hu,ie,ze,i1,i2,i3,i4,i5⟩:=zaF hd
 obtain⟨h1,h2⟩:=zrE hS hy hr hrz (by omega)
 have hiv:=zau hS l
 rw [hi] at hiv
 have hiv:=hiv.lit_
 rcases h2 with⟨_,h2⟩ | ⟨g,cap,cur,e1,_,_,e2,_⟩
 ·omega
 have hv:a.eval y= .slice (some ⟨g,lo*row.sz,none⟩) (row.es.length-lo) (cap-lo):=by
  rw [h1,e1,zrw (by omega),Nat.zero_add]
 obtain⟨hrun,p1,p2⟩:=zdD (P:=P) (w:=w) (isS:=true) (n:=row.es.length-lo) (cap:=cap-lo) (lo:=some (.int kk (j:Int))) (hi:=none) (l:=j) (h:=row.es.length-lo) (by omega) (.inl ⟨rfl,rfl⟩) (.inr ⟨kk,(j:Int),rfl,by omega,by omega,by omega⟩)
 have hs:(sizeOf e).run P w= .ok esz w:=by simp [sizeOf,typeInfo,i1,i3]
 have hsl:(Instr.sliceAt t (.slice (some ⟨g,lo*row.sz,none⟩) (row.es.length-lo) (cap-lo)) (some (.int kk (j:Int))) none none).run P w= .ok (cutV (.slice (some ⟨g,lo*row.sz,none⟩) (row.es.length-lo) (cap-lo)) (j*esz) j) w:=by
  have:(Instr.sliceAt t (.slice (some ⟨g,lo*row.sz,none⟩) (row.es.length-lo) (cap-lo)) (some (.int kk (j:Int))) none none).run P w=(Instr.slice t (.slice (some ⟨g,lo*row.sz,none⟩) (row.es.length-lo) (cap-lo)) (some (.int kk (j:Int))) none none).run P w:=by
   simp [Instr.sliceAt,run_underlying hu]
  rw [this]
  simp only [Instr.slice,run_underlying hu,Sem.run_bind,Result.andThen_ok,hrun,hs,Sem.run_pure,cutV]
 have hex:(execOp a.eval o).run P w= .ok (.value (cutV (.slice (some ⟨g,lo*row.sz,none⟩) (row.es.length-lo) (cap-lo)) (j*esz) j)) w:=by
  unfold execOp
  simp only [ho,hv,hiv,Option.map_none,Option.map_some,Sem.run_bind,hsl,Result.andThen_ok,Sem.run_pure]
 by_cases hc:cap=lo+j
 ·refine⟨w,m,_,s,_,hex,hS, ?_,hB (by omega)⟩
  rw [zrO (by omega),show row.es.length-lo-j=0 by omega,show cap-lo-j=0 by omega]
  exact .val (.full _ 0 _ _ (.seq _ 0 0 row.sz [] 0 0 (fun _ _=> .nilIface) rfl (Nat.le_refl _) (fun h=>by omega) (fun i e he=>by simp at he) (fun i j c hc=>by simp [cellAt] at hc) (fun i j c hc=>by simp [cellAt] at hc)))
 ·refine⟨w,m,_,s,_,hex,hS, ?_,hA⟩
  refine .sub r _ (lo+j) rfl (Nat.le_refl _) fun _ row' hr'=> ?_
  rw [hr] at hr'
  cases hr'
  rw [e1,zrw (by omega),zrw (by omega)]
  simp only [Nat.zero_add,hez,Nat.add_mul,Nat.sub_sub]
theorem zrB {P:Program} (w:World) (t ty e:TypeId) (i:TypeInfo) (ht:P.underlying t=some (.slice e)) (hi:P.info? e=some i) (g o sLen sCap:Nat) (cur:Array Value) (hg:w.heap[g]? =some (.cells cur e (0,0)))
 (a:Addr) (m c:Nat) (news:List Value) (hl:news.length=m*i.size) (hnews: ∀j u,news[j]? =some u->w.cell? (a.add j)=some u) (h1: ∀u∈news,u.oneCell'=true) (hroom:sLen+m<=sCap) (hfit:o+sLen*i.size+news.length<=cur.size):
 (Builtin.append_ #[t,t] ty #[.slice (some ⟨g,o,none⟩) sLen sCap, .slice (some a) m c]).run P w= .ok (.slice (some ⟨g,o,none⟩) (sLen+m) sCap) (w.setRow g (cur.toList.take (o+sLen*i.size)++news++cur.toList.drop (o+sLen*i.size+news.length)).toArray):=by
 have hf:=run_firstCells_some (P:=P) w i.size m a m c news hl hnews
 have hst:=run_storeCells_at P g (o+sLen*i.size) e news 0 cur w hg (by simpa using hfit) h1
 simp only [Nat.add_zero] at hst
 simp [Builtin.append_,run_underlying ht,sizeOf,typeInfo,hi,Builtin.lenOf,hroom,hf,Addr.add_lit,hst]
theorem zr7 {t e:TypeId} {esz eb n0:Nat} {z0 ez:List Value} {y z:Operand} {r r2 lo:Nat} {row row2:Row} (ho:o.op= .call { callee:= .builtin .append,args:= #[y,z],argTypes:= #[t,t] }) (hd:tyD P t=some ⟨.slice e esz eb ez,n0,z0⟩) (hezl:ez.length=esz) (hy:gt env s.f y= .sub r (s.vs r) lo\/(gt env s.f y= .full row.sz []/\lo=row.es.length)) (hr:s.rows r=some row) (hrz:row.sz≠0) (hp:row.pure=true) (hez:esz=row.sz) (hee:row.e=e) (hlo:lo<=row.es.length) (hesc:s.esc r=false)
 (hz:gt env s.f z= .row r2 (s.vs r2)) (hr2:s.rows r2=some row2) (hp2:row2.pure=true) (hz2:row2.sz=row.sz) (hne:row2.es≠[]) (hfit:Fits (row.es.length+row2.es.length) eb) (hmx:row.es.length+row2.es.length<=4611686018427387904)
 (hK: ∀pre:List (List AV),pre.length<=lo->K ((s.renew r { row with es:=pre++row.es.drop lo++row2.es } false).put o.dst (.sub r (s.vs r+1) pre.length))):OpN P env s o K:=by
 refine⟨fun c hc=>(by rw [ho] at hc; cases hc),fun x a w m hx hS=> ?_⟩
 subst hx
 obtain⟨hu,ie,ze,i1,i2,i3,i4,i5⟩:=zaF hd
 have hzc:ze.cells.size=row.sz:=by
  have:=congrArg List.length i5
  rw [hezl,hez] at this
  simpa using this
 have kr:=(hS.rows r row hr).cells hrz
 obtain⟨xs,k1,k2,k3⟩:=kr.own
 have hzv:=zau hS z
 rw [hz] at hzv
 have hzv:=hzv.row_.2 rfl row2 hr2
 have kr2:=(hS.rows r2 row2 hr2).cells (by rw [hz2]; exact hrz)
 obtain⟨ys,d1,d2,d3⟩:=kr2.own
 have hk:0<row2.es.length:=List.length_pos_iff.2 hne
 obtain⟨g2,c2,cur2,e2,hg2,_⟩: ∃g2 c2 cur2,m.ρ r2= .slice (some ⟨g2,0,none⟩) row2.es.length c2/\w.heap[g2]? =some (.cells cur2 row2.e (0,0))/\True:=by
  rcases d1.2 with⟨_,h⟩ | ⟨g,cap,cur,e,_,h2,_⟩
  ·omega
  ·exact⟨g,cap,cur,e,h2,trivial⟩
 have hnews: ∀j u,ys[j]? =some u->w.cell? ((⟨g2,0,none⟩:Addr).add j)=some u:=fun j u hj=>d1.cells (by rw [e2]; rfl) j u hj
 have hyl:ys.length=row2.es.length*row.sz:=by rw [<-hz2]; exact d1.1
 have hcells2: ∀(i j:Nat) (c:AV),cellAt row2.es i j=some c-> ∃u,ys[i*row.sz+j]? =some u/\RV m.S w u c:=fun i j c hc=>by
  obtain⟨u,u1,u2⟩:=d3 i j c hc
  rw [if_pos hp2] at u2
  rw [hz2] at u1
  exact⟨u,u1,u2⟩
 have hcells: ∀(i j:Nat) (c:AV),cellAt row.es i j=some c-> ∃u,xs[i*row.sz+j]? =some u/\RV m.S w u c:=fun i j c hc=>by
  obtain⟨u,u1,u2⟩:=k3 i j c hc
  rw [if_pos hp] at u2
  exact⟨u,u1,u2⟩
 have hlen2: ∀(i:Nat) (e:List AV),row2.es[i]? =some e->e.length=row.sz:=fun i e he=>by rw [<-hz2]; exact kr2.len i e he
 have hxl:=k1.1
 have hpos:=kr.pos
 have put1: ∀(v:Value) (pre:List (List AV)) (w':World) (m':Mem),v.oneCell'=true->Sim x (s.renew r { row with es:=pre++row.es.drop lo++row2.es } false) a w' m'->v=cutV (m'.ρ r) (pre.length*row.sz) pre.length->RL w' m' (s.renew r { row with es:=pre++row.es.drop lo++row2.es } false) v (.sub r (s.vs r+1) pre.length):=fun v pre w' m' hv1 _ hv=>by
  refine .sub r _ _ hv1 (by simp [St.renew,upd_same]) fun _ row' hr'=> ?_
  have:(s.renew r { row with es:=pre++row.es.drop lo++row2.es } false).rows r=some { row with es:=pre++row.es.drop lo++row2.es } :=by simp [St.renew,upd_same]
  rw [this] at hr'
  cases hr'
  exact hv
 have fresh: ∀(A:Option Addr) (cp:Nat),a.eval y= .slice A (row.es.length-lo) cp->cp<row.es.length-lo+row2.es.length->(Builtin.firstCells ie.size (row.es.length-lo) (.slice A (row.es.length-lo) cp)).run P w.drew= .ok (xs.drop (lo*row.sz)).toArray w.drew->
  ∃w' m' v s1 c,(execOp a.eval o).run P w= .ok (.value v) w'/\Sim x s1 a w' m'/\RL w' m' s1 v c/\K (s1.put o.dst c):=fun A cp hv hg hold=>by
  have hsrc:Src P ie.size t (.slice (some ⟨g2,0,none⟩) row2.es.length c2) row2.es.length ys w:=Src.ofSlice w hu ⟨g2,0,none⟩ row2.es.length c2 ys (by rw [hyl,i3,hez]) hnews d2
  have hrun:=run_append_grow_src (P:=P) w t t o.type e ie ze hu i1 i2 A (row.es.length-lo) cp (xs.drop (lo*row.sz)) hold _ row2.es.length ys hsrc hg (by omega) (by rw [i4]; exact growslice_fits hg (Nat.le_trans (Nat.mul_le_mul_right _ (by omega)) hfit.1))
  have hge:=grownCap_ge w (row.es.length-lo+row2.es.length) cp e
  have hcm:=grownCap_le_maxLen w (row.es.length-lo+row2.es.length) cp e (by unfold maxLen; omega)
  generalize grownCap w (row.es.length-lo+row2.es.length) cp e=G at*
  have hdl:(xs.drop (lo*row.sz)).length=(row.es.length-lo)*row.sz:=by rw [List.length_drop,hxl,Nat.sub_mul]
  have hol:(xs.drop (lo*row.sz)++ys).length=(row.es.length-lo+row2.es.length)*row.sz:=by rw [List.length_append,hdl,hyl,Nat.add_mul]
  have ho':(w.drew.alloc (.cells ((xs.drop (lo*row.sz)++ys).toArray++Builtin.zeroCells ze.cells (G-(row.es.length-lo+row2.es.length))) e)).ownsRow x.w.heap.size row.e row.sz (.slice (some ⟨w.heap.size,0,none⟩) (row.es.length-lo+row2.es.length) G) (row.es.length-lo+row2.es.length) (xs.drop (lo*row.sz)++ys):=by
   refine⟨hol, .inr ⟨w.heap.size,G,_,rfl,hS.bel.size,by rw [hee]; exact heap_alloc_new w.drew _,hge,hcm, ?_, ?_⟩⟩
   ·rw [Array.size_append,List.size_toArray,size_zeroCells,hzc,hol, <-Nat.add_mul]
    congr 1
    omega
   ·rw [Array.toList_append,List.toList_toArray, <-hol]
    exact List.take_left
  generalize hW:w.drew.alloc (.cells ((xs.drop (lo*row.sz)++ys).toArray++Builtin.zeroCells ze.cells (G-(row.es.length-lo+row2.es.length))) e)=W at*
  have hgb:w.grownBy W none:=by rw [<-hW]; exact⟨rfl,rfl,rfl,by simp,fun k hk _=>Below.heap_alloc w.drew _ k hk⟩
  have hb:Below x.w.heap.size w W:=(Below.refl _ _).grown hgb hS.bel.size (fun q hq=>by cases hq)
  have hblk: ∀k,k<w.heap.size->W.heap[k]? =w.heap[k]? :=fun k hk=>hgb.block k hk (by simp)
  have hcell: ∀b o,m.S b o->m.S b o/\Stay w W b o:=fun b o hh=>⟨hh, .block (hblk b (hS.low b o hh))⟩
  have hlow: ∀o,¬m.S w.heap.size o:=fun o hh=>by have:=hS.low _ o hh; omega
  have hS2:=hS.renew r { row with es:=[]++row.es.drop lo++row2.es } false (.slice (some ⟨w.heap.size,0,none⟩) (row.es.length-lo+row2.es.length) G) m.S hb hcell (fun b o hh=> .inl hh) (fun k row' hk hrk g hgk=>by
   have hlt:=((hS.rows k row' hrk).blk hgk).2
   exact⟨hblk g hlt,fun hh=>by have:w.heap.size=g:=(by cases hh; rfl); omega,fun o hh=>hh⟩)
   (.inl ⟨hpos,fun i e he=>by
    rw [List.nil_append] at he
    by_cases hi:i< (row.es.drop lo).length
    ·rw [List.getElem?_append_left hi,List.getElem?_drop] at he
     exact kr.len _ e he
    ·rw [List.getElem?_append_right (by omega)] at he
     exact hlen2 _ e he,⟨xs.drop (lo*row.sz)++ys,by simp only [upd_same]; rw [show (([]:List (List AV))++row.es.drop lo++row2.es).length=row.es.length-lo+row2.es.length by simp]; exact ho',fun u hu'=>by
    rcases List.mem_append.1 hu' with h | h
    ·exact k2 u (List.mem_of_mem_drop h)
    ·exact d2 u h,fun i j c hc=>by
    show ∃u,_/\(if row.pure=true then _ else _)
    suffices h: ∃u,(xs.drop (lo*row.sz)++ys)[i*row.sz+j]? =some u/\RV m.S W u c by
     obtain⟨u,u1,u2⟩:=h
     exact⟨u,u1,by rw [if_pos hp]; exact u2⟩
    have hj:j<row.sz:=by
     unfold cellAt at hc
     cases hq:([]++row.es.drop lo++row2.es)[i]? with
     | none=>rw [hq] at hc; cases hc
     | some el=>
       rw [hq] at hc
       have hc:el[j]? =some c:=hc
       have hjl:=(List.getElem?_eq_some_iff.1 hc).1
       rw [List.nil_append] at hq
       by_cases hi:i< (row.es.drop lo).length
       ·rw [List.getElem?_append_left hi,List.getElem?_drop] at hq
        rw [kr.len _ el hq] at hjl
        exact hjl
       ·rw [List.getElem?_append_right (by omega)] at hq
        rw [hlen2 _ el hq] at hjl
        exact hjl
    unfold cellAt at hc
    rw [List.nil_append] at hc
    have hdl2:(row.es.drop lo).length=row.es.length-lo:=List.length_drop ..
    by_cases hi:i<row.es.length-lo
    ·rw [List.getElem?_append_left (by omega),List.getElem?_drop] at hc
     obtain⟨u,u1,u2⟩:=hcells (lo+i) j c hc
     refine⟨u, ?_,u2.mono hcell⟩
     have:i*row.sz+j< (row.es.length-lo)*row.sz:=by
      have:=Nat.mul_le_mul_right row.sz (show i+1<=row.es.length-lo by omega)
      rw [Nat.succ_mul] at this
      omega
     rw [List.getElem?_append_left (by omega),List.getElem?_drop, <-u1]
     congr 1
     rw [Nat.add_mul]
     omega
    ·rw [List.getElem?_append_right (by omega),hdl2] at hc
     obtain⟨u,u1,u2⟩:=hcells2 (i-(row.es.length-lo)) j c hc
     refine⟨u, ?_,u2.mono hcell⟩
     have:(row.es.length-lo)*row.sz<=i*row.sz:=Nat.mul_le_mul_right _ (by omega)
     rw [List.getElem?_append_right (by omega),hdl, <-u1]
     congr 1
     rw [Nat.sub_mul i (row.es.length-lo) row.sz]
     omega⟩,fun he=>by simp [St.renew,upd_same] at he,fun g hgv o _ hh=>by
    simp only [upd_same] at hgv
    cases hgv
    exact hlow o hh,fun _ g hgv o hh=>by
    simp only [upd_same] at hgv
    cases hgv
    exact hlow o hh⟩) (fun b hf=>⟨hblk b (hS.fxlt hf),fun _ hh=>hh,fun e=>by have:w.heap.size=b:=(by cases e; rfl); have:=hS.fxlt hf; omega⟩)
  refine⟨W,_,_,_,_,zd9 ho rfl (by rw [hv,hzv,e2]; exact hrun),hS2,put1 _ [] _ _ rfl hS2 ?_,hK [] (Nat.zero_le _)⟩
  show _=cutV (upd m.ρ r _ r) _ _
  rw [upd_same,List.length_nil,Nat.zero_mul,zrw (by omega)]
  rfl
 rcases hy with hy | ⟨hy,hle⟩
 case inr=>
  have h1:=zau hS y
  rw [hy] at h1
  have h1:=h1.full_
  obtain⟨A,hA⟩: ∃A,a.eval y= .slice A 0 0:=by
   generalize a.eval y=v at h1
   cases h1 with
   | full A n sz es h=>
     cases h with
     | seq A n cap sz es b o u hn hcap hA hz hc hr=>exact⟨A,by rw [<-hn]; rfl⟩
  have hx0:xs.drop (lo*row.sz)=[]:=List.eq_nil_of_length_eq_zero (by rw [List.length_drop,hxl,hle]; omega)
  refine fresh A 0 (by rw [hA,hle,Nat.sub_self]) (by omega) ?_
  rw [hx0,hle,Nat.sub_self]
  cases A with
  | none=>exact run_firstCells_none w.drew ie.size 0 0 0
  | some ad=>exact run_firstCells_some w.drew ie.size 0 ad _ _ [] (by simp) fun j v hj=>by simp at hj
 obtain⟨h1,h2⟩:=zrE hS hy hr hrz hlo
 rcases h2 with⟨h2,h3⟩ | ⟨g,cap,cur,e1,hbg,hg,hnc,hcm,hcs⟩
 ·have hv:a.eval y= .slice none (row.es.length-lo) 0:=by
   rw [h1,h2,h3]
   obtain rfl:lo=0:=by omega
   rfl
  refine fresh none 0 hv (by omega) ?_
  have hx0:xs=[]:=List.eq_nil_of_length_eq_zero (by rw [hxl,h3,Nat.zero_mul])
  rw [hx0,List.drop_nil,show row.es.length-lo=0 by omega]
  exact run_firstCells_none w.drew ie.size 0 0 0
 ·have hxc: ∀j u,(xs.drop (lo*row.sz))[j]? =some u->w.cell? ⟨g,lo*row.sz+j,none⟩=some u:=fun j u hj=>by
   rw [List.getElem?_drop] at hj
   have:=k1.cells (g:=g) (by rw [e1]; rfl) _ u hj
   rwa [zhp,Nat.zero_add] at this
  have hdl:(xs.drop (lo*row.sz)).length=(row.es.length-lo)*row.sz:=by rw [List.length_drop,hxl,Nat.sub_mul]
  by_cases hroom:row.es.length+row2.es.length<=cap
  ·
   have hv:a.eval y= .slice (some ⟨g,lo*row.sz,none⟩) (row.es.length-lo) (cap-lo):=by rw [h1,e1,zrw (by omega),Nat.zero_add]
   have hoff:lo*row.sz+(row.es.length-lo)*row.sz=row.es.length*row.sz:=by rw [<-Nat.add_mul]; congr 1; omega
   have hfit2:row.es.length*row.sz+ys.length<=cur.size:=by rw [hyl,hcs, <-Nat.add_mul]; exact Nat.mul_le_mul_right _ hroom
   have hrun:=zrB (P:=P) w t o.type e ie hu i1 g (lo*row.sz) (row.es.length-lo) (cap-lo) cur (by rw [<-hee]; exact hg) ⟨g2,0,none⟩ row2.es.length c2 ys (by rw [hyl,i3,hez]) hnews d2 (by omega) (by rw [i3,hez,hoff]; exact hfit2)
   rw [i3,hez,hoff] at hrun
   have htk:cur.toList.take (row.es.length*row.sz)=xs:=by
    rcases k1.2 with⟨e,_⟩ | ⟨g',cap',cur',e,_,hg',_,_,_,h⟩
    ·rw [e1] at e; cases e
    ·rw [e1] at e
     cases e
     rw [hg] at hg'
     cases hg'
     exact h
   rw [htk] at hrun
   have ho':(w.setRow g (xs++ys++cur.toList.drop (row.es.length*row.sz+ys.length)).toArray).ownsRow x.w.heap.size row.e row.sz (.slice (some ⟨g,0,none⟩) (row.es.length+row2.es.length) cap) (row.es.length+row2.es.length) (xs++ys):=by
    refine⟨by rw [List.length_append,hxl,hyl,Nat.add_mul], .inr ⟨g,cap,_,rfl,hbg,setRow_heap w g cur _ _ _ hg,hroom,hcm, ?_, ?_⟩⟩
    ·simp only [List.size_toArray,List.length_append,List.length_drop,Array.length_toList]
     rw [hxl, <-hcs]
     omega
    ·rw [List.toList_toArray]
     exact List.take_left' (by rw [List.length_append,hxl,hyl,Nat.add_mul])
   obtain⟨S',p1,p2⟩:=hS.grow r row hr hrz hp row2.es xs ys (.slice (some ⟨g,0,none⟩) (row.es.length+row2.es.length) cap) k1 k2 hcells hlen2 d2 (by rw [hyl]) hcells2 ho' (.inl ⟨by rw [e1]; rfl,by rw [e1]; exact⟨rfl,rfl,rfl,by simp [World.setRow],fun k hk hne=>setRow_other w g k _ fun e=>hne (by rw [e]; rfl)⟩⟩)
   have hes:row.es.take lo++row.es.drop lo++row2.es=row.es++row2.es:=by rw [List.take_append_drop]
   rw [hesc, <-hes] at p1
   have htl:(row.es.take lo).length=lo:=by rw [List.length_take]; omega
   refine⟨_,_,_,_,_,zd9 ho rfl (by rw [hv,hzv,e2]; exact hrun),p1,put1 _ (row.es.take lo) _ _ rfl p1 ?_,hK (row.es.take lo) (by omega)⟩
   show _=cutV (upd m.ρ r _ r) _ _
   rw [upd_same,htl,zrw (by omega),Nat.zero_add,show row.es.length-lo+row2.es.length=row.es.length+row2.es.length-lo by omega]
  ·by_cases hc:cap=lo
   ·have hv:a.eval y= .slice (some ⟨g,0,none⟩) (row.es.length-lo) (cap-lo):=by rw [h1,e1,zrO hc]
    refine fresh _ _ hv (by omega) ?_
    have hx0:xs.drop (lo*row.sz)=[]:=List.eq_nil_of_length_eq_zero (by rw [hdl,show row.es.length-lo=0 by omega,Nat.zero_mul])
    rw [hx0]
    exact run_firstCells_some w.drew ie.size (row.es.length-lo) ⟨g,0,none⟩ _ _ [] (by rw [show row.es.length-lo=0 by omega]; simp) fun j v hj=>by simp at hj
   ·have hv:a.eval y= .slice (some ⟨g,lo*row.sz,none⟩) (row.es.length-lo) (cap-lo):=by rw [h1,e1,zrw hc,Nat.zero_add]
    refine fresh _ _ hv (by omega) ?_
    exact run_firstCells_some w.drew ie.size (row.es.length-lo) ⟨g,lo*row.sz,none⟩ _ _ _ (by rw [hdl,i3,hez]) fun j v hj=>by rw [zhp]; exact hxc j v hj
theorem zsh {t e:TypeId} {esz eb n0 sz:Nat} {z0 ez:List Value} {y:Operand} {es:List (List AV)} (ho:o.op= .call { callee:= .builtin .len,args:= #[y],argTypes:= #[t] }) (hd:tyD P t=some ⟨.slice e esz eb ez,n0,z0⟩) (hy:gt env s.f y= .full sz es)
 (hK:K (s.put o.dst (.lit (.int .i64 ((es.length:Nat):Int))))):OpN P env s o K:=by
 refine⟨fun c hc=>(by rw [ho] at hc; cases hc),fun x a w m hx hS=> ?_⟩
 subst hx
 obtain⟨hu,_⟩:=zaF hd
 have h1:=zau hS y
 rw [hy] at h1
 have h1:=h1.full_
 obtain⟨A,h1⟩: ∃A,a.eval y= .slice A es.length es.length:=by
  generalize a.eval y=v at h1
  cases h1 with
  | full A n sz es h=>
    cases h with
    | seq A n cap sz es b o u hn hcap hA hz hc hr=>exact⟨A,by rw [hn]⟩
 refine⟨w,m,_,s,_,zh0 ho (by rw [h1]; simp [Builtin.len_,run_underlying hu,goInt]),hS, .val (.lit _),hK⟩
end
theorem Turned.sub0 {s:St} (r t:Nat) (row:Row) (hrz:row.sz≠0) (hr:s.rows r=some row) (ht:s.f t= .row r (s.vs r)):Turned s (s.put (some t) (.sub r (s.vs r) 0)):=fun x a w m hS=>by
 have hv:=hS.slot t
 rw [ht] at hv
 have hv1:a.tmps.getD t undef=m.ρ r:=hv.row_.2 rfl row hr
 obtain⟨xs,k1,_⟩:=((hS.rows r row hr).cells hrz).own
 have hc:cutV (m.ρ r) (0*row.sz) 0=m.ρ r:=by
  rcases k1.2 with⟨e,_⟩ | ⟨g,cap,cur,e,_⟩
  ·rw [e]; rfl
  ·rw [e]
   by_cases h:cap=0
   ·rw [zrO h]; rfl
   ·rw [zrw h,Nat.zero_mul]; rfl
 have ho:(m.ρ r).oneCell'=true:=by
  rcases k1.2 with⟨e,_⟩ | ⟨g,cap,cur,e,_⟩<;>rw [e]<;>rfl
 exact⟨_,hS.tell t (.sub r (s.vs r) 0) (by
  rw [hv1]
  refine .sub r _ 0 ho (Nat.le_refl _) fun _ row' hr'=> ?_
  rw [hr] at hr'
  cases hr'
  exact hc.symm)⟩
def zry (sz r v lo:Nat) (b:Bool):AV:=if b=true then .full sz [] else .sub r v lo
section
variable {P:Program} {env:Env} {s:St} {o:Oper} {K:St->Prop}
theorem zr1 {t e:TypeId} {esz eb n0:Nat} {z0 ez:List Value} {y:Operand} (r:Nat) {lo:Nat} {b:Bool} (row:Row) (ho:o.op= .call { callee:= .builtin .len,args:= #[y],argTypes:= #[t] }) (hd:Is (tyD P t) (some ⟨.slice e esz eb ez,n0,z0⟩)) (hy:Is (gt env s.f y) (zry row.sz r (s.vs r) lo b)) (hr:Is (s.rows r) (some row)) (hrz:row.sz≠0) (hlo:lo<=row.es.length) (hb:b=true->lo=row.es.length)
 (hK:K (s.put o.dst (.lit (.int .i64 ((row.es.length-lo:Nat):Int))))):OpN P env s o K:=by
 unfold zry at hy
 cases b with
 | true=>
   refine zsh ho hd (hy.trans (if_pos rfl)) ?_
   rw [hb rfl,Nat.sub_self] at hK
   exact hK
 | false=>exact zsl ho hd (hy.trans (if_neg Bool.false_ne_true)) hr hrz hlo hK
theorem zr6 {t e:TypeId} {esz eb n0:Nat} {z0 ez:List Value} {y i:Operand} (r:Nat) {lo:Nat} {k:IntKind} {b:Bool} (row:Row) (ho:o.op= .indexAddr t y i) (hd:Is (tyD P t) (some ⟨.slice e esz eb ez,n0,z0⟩)) (hy:Is (gt env s.f y) (zry row.sz r (s.vs r) lo b)) (hi:Is (gt env s.f i) (.lit (.int k 0))) (hr:Is (s.rows r) (some row)) (hrz:row.sz≠0) (hez:esz=row.sz) (hlo:lo<row.es.length) (hb:b=true->lo=row.es.length)
 (hK:K (s.put o.dst (.loc r (s.vs r) lo 0))):OpN P env s o K:=by
 cases b with
 | true=>exact absurd (hb rfl) (by omega)
 | false=>exact zse (j:=0) ho hd (Eq.trans hy (if_neg Bool.false_ne_true)) hi hr hrz hez hlo hK
theorem zr5 {t e:TypeId} {esz eb n0:Nat} {z0 ez:List Value} {y l:Operand} (r:Nat) {lo:Nat} {kk:IntKind} {b:Bool} (row:Row) (ho:o.op= .slice t y (some l) none none) (hd:Is (tyD P t) (some ⟨.slice e esz eb ez,n0,z0⟩)) (hy:Is (gt env s.f y) (zry row.sz r (s.vs r) lo b)) (hi:Is (gt env s.f l) (.lit (.int kk 1))) (hr:Is (s.rows r) (some row)) (hrz:row.sz≠0) (hez:esz=row.sz) (hlo:lo<row.es.length) (hb:b=true->lo=row.es.length)
 (hK: ∀b':Bool,(b'=true->lo+1=row.es.length)->K (s.put o.dst (zry row.sz r (s.vs r) (lo+1) b'))):OpN P env s o K:=by
 cases b with
 | true=>exact absurd (hb rfl) (by omega)
 | false=>
   refine zsd (j:=1) ho hd (Eq.trans hy (if_neg Bool.false_ne_true)) hi Nat.one_pos hr hrz hez hlo ?_ fun h=> ?_
   ·have:=hK false (fun h=>by cases h)
    exact this
   ·have:=hK true fun _=>h
    exact this
theorem zrX {t e:TypeId} {esz eb n0:Nat} {z0 ez:List Value} {y z:Operand} (r r2:Nat) {lo:Nat} {b:Bool} (row row2:Row) (ho:o.op= .call { callee:= .builtin .append,args:= #[y,z],argTypes:= #[t,t] }) (hd:Is (tyD P t) (some ⟨.slice e esz eb ez,n0,z0⟩)) (hy:Is (gt env s.f y) (zry row.sz r (s.vs r) lo b)) (hz:Is (gt env s.f z) (.row r2 (s.vs r2))) (hr:Is (s.rows r) (some row)) (hr2:Is (s.rows r2) (some row2)) (hesc:Is (s.esc r) false) (hezl:ez.length=esz) (hrz:row.sz≠0) (hp:row.pure=true) (hez:esz=row.sz) (hee:row.e=e) (hlo:lo<=row.es.length) (hb:b=true->lo=row.es.length)
 (hp2:row2.pure=true) (hz2:row2.sz=row.sz) (hne:row2.es≠[]) (hfit:Fits (row.es.length+row2.es.length) eb) (hmx:row.es.length+row2.es.length<=4611686018427387904)
 (hK: ∀pre:List (List AV),pre.length<=lo->K ((s.renew r { row with es:=pre++row.es.drop lo++row2.es } false).put o.dst (zry row.sz r (s.vs r+1) pre.length false))):OpN P env s o K:=by
 refine zr7 ho hd hezl ?_ hr hrz hp hez hee hlo hesc hz hr2 hp2 hz2 hne hfit hmx fun pre hpre=> ?_
 ·cases b with
  | true=>exact .inr ⟨Eq.trans hy (if_pos rfl),hb rfl⟩
  | false=>exact .inl (Eq.trans hy (if_neg Bool.false_ne_true))
 ·have:=hK pre hpre
  exact this
end
theorem Turned.tail {s:St} (r t:Nat) (row:Row) (hrz:row.sz≠0) (hr:s.rows r=some row) (ht:s.f t= .row r (s.vs r)):Turned s (s.put (some t) (zry row.sz r (s.vs r) 0 false)):=Turned.sub0 r t row hrz hr ht
end
section
open Go.RowKit
theorem zsm (env:Env) (c:ChD) (h:Full c) {i:Int} (hz:inZ c i=true):Con Tryz.prog env 79 [zai c,I i] (.own 3 1 ((leadsL c i).map intAV)):=by
 obtain⟨k,s,rfl,hs,_⟩:=zb0 hz
 cases hm:zat s with
 | true=>exact zr8 env c h k s hs hm
 | false=>exact zrM env c h k s hs hm
theorem zrJ {c:ChD} (h:Full c) {i:Int} (hz:inZ c i=true):(leadsL c i).length<=2300/\leadsL c i≠[]:=by
 obtain⟨k,s,rfl,hs,ha⟩:=zb0 hz
 have hu:=(zrA h.toRight hz).1
 have hne: ∀(j:Nat) (K:List Int),ldL c ((j:Int)::K)≠[]:=fun j K e=>by
  unfold ldL ldTo at e
  rw [List.take_length,List.flatMap_cons] at e
  have:ldK c (j:Int)=[]:=(List.append_eq_nil_iff.1 e).1
  unfold ldK at this
  rw [if_pos (by omega)] at this
  cases this
 unfold leadsL
 rw [ha]
 simp only
 split
 ·rename_i hm
  obtain⟨j,s2,e,hs2, -⟩:=zrF h hs hm
  have hjz:inZ c s.initial=true:=by rw [e]; exact zaM.2 (List.getElem?_eq_some_iff.1 hs2).1
  have hu2:=(zrA h.toRight hjz).1
  have h1:=zrr h (s.initial::upL c s.initial) (s.initial::upL c s.initial).length
  have h2:=zrr h (upL c (k:Int)) (upL c (k:Int)).length
  refine⟨?_,fun h0=> ?_⟩
  ·rw [List.length_append]
   unfold ldL
   simp only [List.length_cons] at*
   omega
  ·rw [e] at h0
   exact hne j _ (List.append_eq_nil_iff.1 h0).1
 ·have h1:=zrr h ((k:Int)::upL c (k:Int)) ((k:Int)::upL c (k:Int)).length
  refine⟨?_,hne k _⟩
  unfold ldL
  simp only [List.length_cons] at*
  omega
theorem zrG {c:ChD} (h:Full c) (H:List Int): ∀j,(goTo c H j).length<=2300*j
 | 0=>by simp [goTo]
 | j+1=>by
   have ih:=zrG h H j
   cases hx:c.trans[j]? with
   | none=>
     have:goTo c H (j+1)=goTo c H j:=by unfold goTo; rw [List.take_add_one,hx]; simp
     rw [this]
     omega
   | some t=>
     rw [zrK hx,List.length_append]
     have:(goR c H t).length<=2300:=by
      unfold goR
      split
      ·rename_i hh
       exact(zrJ h (zsa h (List.mem_of_getElem? hx) hh.2)).1
      ·simp
     omega
theorem zrC (env:Env) (c:ChD) (h:Full c):Con Tryz.prog env 24 [zai c] (.own 3 1 ((zrq c).map zae)):=by
 have hc:=h.toRight
 have hlen:=hc.few
 have hftr:=h.ftr
 have f0:=tabBegin_con env c h (-1)
 rw [<-ze8] at f0
 have hb32:=zr0 h (-1)
 have f1:=tbeneath_con env c hc
 have hL: ∀ {i:Int},inZ c i=true->Con Tryz.prog env 79 [zai c,I i] (.own 3 1 ((leadsL c i).map intAV)):=fun hz=>zsm env c h hz
 unfold zai at f0 hL |-
 have w1:IntKind.i64.wrap (0+1)=1:=rfl
 have w2: ¬(0:Int)<0:=by omega
 have w3:(0:Int)<1:=by omega
 refine zaa Tryz.func24 rfl Tryz.call24 (by rw [Tryz.ntmps24]; simp) ?_
 rw [Tryz.ntmps24,Tryz.results24]
 repeat refine st0 ?_
 refine zoM ?_
 repeat (first | refine st0 ?_ | refine cC0 f0 ?_)
 refine zoN ?_
 show awp _ _ _ _ _ _
 repeat refine st0 ?_
 refine zpO (Turned.tail 15 4 ⟨1,(zL (tbegL c (-1))).map intAV,3,true⟩ (Nat.succ_ne_zero 0) (by simp only [go_sem]) (by simp only [go_sem])) ?_
 refine zab (D:=List Int×Bool×List (List AV)×List Int) (fun d vs=>[(0, .ref 9 [tabCells c] 0 0),(3, .mp 13 (vs 13)),(4,zry 1 15 (vs 15) d.2.2.1.length d.2.1)]) (fun d _=>[(13,⟨0,zcU d.1,112,true⟩),(15,⟨1,d.2.2.1++d.2.2.2.map intAV,3,true⟩)])
  (fun d _ esc=>Rch c d.1 d.2.2.2/\(d.2.1=true->d.2.2.2=[])/\esc 15=false/\d.2.2.1.length+d.2.2.2.length+missL c d.1*150000<=5000000) (fun d=>missL c d.1*150000+d.2.2.2.length) ([],false,[],zL (tbegL c (-1))) ?_ ?_ ?_ ?_
 ·refine⟨Rch.first c,fun e=>(by cases e),by simp only [go_sem], ?_⟩
  have:=znA c []
  simp only [List.length_nil,zdQ]
  omega
 ·(simp only [go_sem])
  try rfl
 ·(simp only [go_sem])
  try rfl
 rintro⟨H,b,pre,T⟩ ws esc ⟨hR,hbT,e0,hsz⟩
 simp only at hR hbT e0 hsz
 dsimp only
 have hElen:(pre++T.map intAV).length=pre.length+T.length:=by simp
 have hlo:pre.length<=(pre++T.map intAV).length:=by omega
 have hbl:b=true->pre.length=(pre++T.map intAV).length:=fun e=>by rw [hbT e]; simp
 cases T with
 | nil=>
   have hH:=hR.done
   have hEl:(((pre++([]:List Int).map intAV).length-pre.length:Nat):Int)=0:=by rw [hElen,List.length_nil]; omega
   generalize pre++([]:List Int).map intAV=E at*
   repeat (first | refine oS ?_ | refine oB ?_ | refine oK ?_)
   refine zrs (A:=[_]) (B:=[_]) rfl (by kernel_rfl) ?_
   repeat refine st0 ?_
   refine zr1 15 ⟨1,E,3,true⟩ rfl (by simp only [go_sem]; exact iR) (by simp only [go_sem]; exact iR) (by simp only [go_sem]; exact iR) (Nat.succ_ne_zero 0) hlo hbl ?_
   dsimp only
   rw [hEl]
   have F:=w2
   repeat (first | refine st ?_ | refine cC f1 ?_)
   refine zbo 8 8 3 1 ?_
   have hW:=zkM hc
   rw [<-zrD h hH]
   have hfin: ∀k:Nat,(k:Int)∉H->mfind Tryz.prog 3 (I (k:Int)) (zcU H) 0=some none:=fun k hk=>by rw [zeS,zes hk]
   have hfyes: ∀k:Nat,(k:Int)∈H-> ∃p,mfind Tryz.prog 3 (I (k:Int)) (zcU H) 0=some (some p)/\(zcU H)[p]? =some [I (k:Int),I 1]:=fun k hk=>by
    obtain⟨p,h1,h2⟩:=zgi (n:=0) hk
    exact⟨p,by rw [zeS,h1,Nat.zero_add],zoP h2⟩
   generalize walkL c (-1)=W at*
   refine zab (D:=Nat) (fun j vs=>[(3, .mp 13 (vs 13)),(8, .row 8 (vs 8)),(62, .row 62 (vs 62)),(63,I W.length),(64,I j)]) (fun j _=>[(8,⟨1,((W.take j).filter fun k:Nat=>H.contains (k:Int)).map zae,3,true⟩),(13,⟨0,zcU H,112,true⟩),(62,⟨1,W.map zae,3,true⟩)]) (fun j _ esc=>j<=W.length/\esc 8=false) (fun j=>W.length-j) 0 ?_ ?_ ?_ ?_
   ·exact⟨Nat.zero_le _,by simp only [go_sem]⟩
   ·(simp only [go_sem,F])
    try rfl
   ·(simp only [go_sem,F])
    try rfl
   rintro j us es ⟨hj,e1⟩
   by_cases hlt:j<W.length
   ·obtain⟨k,hk⟩: ∃k,W[j]? =some k:=⟨W[j],List.getElem?_eq_getElem hlt⟩
    have q1:=nlt hlt
    have q2:=zac hlt (by omega)
    have hfl:((W.take j).filter fun k:Nat=>H.contains (k:Int)).length<=32:=Nat.le_trans (List.length_filter_le ..) (by rw [List.length_take]; omega)
    by_cases hkH:(k:Int)∈H
    ·obtain⟨p,m1,m2⟩:=hfyes k hkH
     have hn:((W.take (j+1)).filter fun k:Nat=>H.contains (k:Int))=((W.take j).filter fun k:Nat=>H.contains (k:Int))++[k]:=by
      rw [List.take_add_one,hk,List.filter_append]
      simp [hkH]
     have hf1:Fits (((W.take j).filter fun k:Nat=>H.contains (k:Int)).length+1) 8:=zah (by omega) (by omega)
     generalize ((W.take j).filter fun k:Nat=>H.contains (k:Int))=A at*
     have F:=ai zae.eq_1<|ai hk<|ai q1<|ai q2<|ai m1<|ai m2<|ai w3<|ai hf1<|e1
     repeat refine st ?_
     refine⟨j+1,⟨hlt,by simp only [go_sem,e1]⟩, ?_, ?_,by omega⟩
     ·(simp only [go_sem,F])
     ·have F:=ai hn<|zae.eq_1
      (simp only [go_sem,List.map_append,F])
    ·have m1:=hfin k hkH
     have hn:((W.take (j+1)).filter fun k:Nat=>H.contains (k:Int))=((W.take j).filter fun k:Nat=>H.contains (k:Int)):=by
      rw [List.take_add_one,hk,List.filter_append]
      simp [hkH]
     have F:=ai zae.eq_1<|ai hk<|ai q1<|ai q2<|ai m1<|ai w2<|e1
     repeat refine st ?_
     refine⟨j+1,⟨hlt,by simp only [go_sem,e1]⟩, ?_, ?_,by omega⟩
     ·(simp only [go_sem,F])
     ·have F:=hn
      (simp only [go_sem,F])
   ·obtain rfl:j=W.length:=by omega
    have q1: ¬(W.length:Int)< (W.length:Int):=by omega
    rw [List.take_length]
    have F:=ai q1<|e1
    repeat refine st ?_
    exact aR
 | cons x r=>
   have hx0:(pre++(x::r).map intAV)[pre.length]? =some [I x]:=by rw [List.getElem?_append_right (Nat.le_refl _),Nat.sub_self]; rfl
   have hEl:(((pre++(x::r).map intAV).length-pre.length:Nat):Int)=((r.length+1:Nat):Int):=by rw [hElen,List.length_cons]; omega
   have q0:(0:Int)< ((r.length+1:Nat):Int):=by omega
   have hE:(pre++[[I x]])++r.map intAV=pre++(x::r).map intAV:=by rw [List.append_assoc]; rfl
   rw [List.length_cons] at hElen hsz
   have hlt1:pre.length< (pre++(x::r).map intAV).length:=by omega
   have hmx:mfind Tryz.prog 3 (I x) (zcU H) 0=some (idxZ H x 0):=zeS x H 0
   generalize pre++(x::r).map intAV=E at*
   repeat (first | refine oS ?_ | refine oB ?_ | refine oK ?_)
   refine zrs (A:=[_]) (B:=[_]) rfl (by kernel_rfl) ?_
   repeat refine st0 ?_
   refine zr1 15 ⟨1,E,3,true⟩ rfl (by simp only [go_sem]; exact iR) (by simp only [go_sem]; exact iR) (by simp only [go_sem]; exact iR) (Nat.succ_ne_zero 0) hlo hbl ?_
   dsimp only
   rw [hEl]
   have F:=ai q0<|hx0
   repeat (first | refine zrs (A:=[_]) (B:=[_,_]) rfl (by kernel_rfl) ?_ | refine st ?_)
   refine zr6 15 ⟨1,E,3,true⟩ rfl (by simp only [go_sem,F]; exact iR) (by simp only [go_sem,F]; exact iR) (by simp only [go_sem,F]; exact iR) (by simp only [go_sem,F]; exact iR) (Nat.succ_ne_zero 0) rfl hlt1 hbl ?_
   repeat (first | refine zrs (A:=[_]) (B:=[_]) rfl (by kernel_rfl) ?_ | refine st ?_)
   refine zr5 15 ⟨1,E,3,true⟩ rfl (by simp only [go_sem,F]; exact iR) (by simp only [go_sem,F]; exact iR) (by simp only [go_sem,F]; exact iR) (by simp only [go_sem,F]; exact iR) (Nat.succ_ne_zero 0) rfl hlt1 hbl fun b1 hb1=> ?_
   dsimp only
   have hbr:b1=true->r=[]:=fun e=>by
    have:pre.length+1=E.length:=hb1 e
    exact List.eq_nil_of_length_eq_zero (by omega)
   by_cases hxH:x∈H
   ·obtain⟨p,m1,m2⟩:=zgi (n:=0) hxH
    rw [m1,Nat.zero_add] at hmx
    have m3:=zoP m2
    have F:=ai hmx<|ai m3<|ai w3<|e0
    repeat refine st ?_
    refine⟨(H,b1,pre++[[I x]],r),⟨hR.skip hxH,hbr,by simp only [go_sem,e0],by simp only [List.length_append,List.length_cons,List.length_nil]; omega⟩, ?_, ?_,by simp only [List.length_cons]; omega⟩
    ·(simp only [go_sem,F])
    ·have F:=hE
     (simp only [go_sem,F])
   ·rw [zes hxH] at hmx
    have hhE:=zi3 H x
    have hxz:inZ c x=true:=(hR.cl x (.inr (by simp))).in h
    have hms:=zeh (c:=c) (l:=H) (a:=[x]) (by simp) fun k hk=>by
     rw [List.mem_singleton] at hk
     rw [hk]
     exact⟨hxH,hxz⟩
    have hgo:=zrG h [x] c.trans.length
    simp only [List.length_singleton] at hms
    have F:=ai hmx<|ai w1<|ai w2<|ai e0<|ai chAV.eq_1<|tabCells.eq_1
    repeat refine st ?_
    refine zab (D:=Nat×Bool×List (List AV)) (fun d vs=>[(0, .ref 9 [tabCells c] 0 0),(3, .mp 13 (vs 13)),(4,zry 1 15 (vs 15) d.2.2.length d.2.1),(5,I x),(36,trsAV c.trans),(37,I c.trans.length),(38,I d.1)]) (fun d _=>[(13,⟨0,zcU (H++[x]),112,true⟩),(15,⟨1,d.2.2++(r++goTo c [x] d.1).map intAV,3,true⟩)])
     (fun d _ esc=>d.1<=c.trans.length/\(d.2.1=true->r++goTo c [x] d.1=[])/\esc 15=false/\d.2.2.length<=pre.length+1) (fun d=>c.trans.length-d.1) (0,b1,pre++[[I x]]) ?_ ?_ ?_ ?_
    ·exact⟨Nat.zero_le _,fun e=>by rw [hbr e]; rfl,by simp only [go_sem,e0],by simp⟩
    ·(simp only [go_sem,F])
     try rfl
    ·rw [show goTo c [x] 0=[] from rfl,List.append_nil]
     have F:=ai hhE<|hE
     (simp only [go_sem,F])
     try rfl
    rintro⟨j,b2,pre2⟩ us es ⟨hj,hb2,e1,hp2⟩
    simp only at hj hb2 e1 hp2
    dsimp only
    have hElen2:(pre2++(r++goTo c [x] j).map intAV).length=pre2.length+(r++goTo c [x] j).length:=by rw [List.length_append,List.length_map]
    have hlo2:pre2.length<=(pre2++(r++goTo c [x] j).map intAV).length:=by omega
    have hbl2:b2=true->pre2.length=(pre2++(r++goTo c [x] j).map intAV).length:=fun e=>by rw [hb2 e]; simp
    have hdr:(pre2++(r++goTo c [x] j).map intAV).drop pre2.length=(r++goTo c [x] j).map intAV:=List.drop_left
    have hT2:(r++goTo c [x] j).length=r.length+(goTo c [x] j).length:=List.length_append
    have hgj:=zrG h [x] j
    by_cases hlt:j<c.trans.length
    ·obtain⟨t,ht⟩: ∃t,c.trans[j]? =some t:=⟨c.trans[j],List.getElem?_eq_getElem hlt⟩
     have p1:=nlt hlt
     have p2:=zac hlt (by omega)
     have hs:=zrK (H:=[x]) ht
     by_cases hsx:t.src=x
     ·have b3:(t.src==x)=true:=by simp [hsx]
      by_cases h0:0<=t.target
      ·have htz:=zsa h (List.mem_of_getElem? ht) h0
       have f9:=hL htz
       obtain⟨l1,l2⟩:=zrJ h htz
       have hgr:goR c [x] t=leadsL c t.target:=by unfold goR; rw [if_pos ⟨by simp [hsx],h0⟩]
       rw [hgr] at hs
       have hrow: ∀q:List (List AV),q++(r++goTo c [x] (j+1)).map intAV=q++(r++goTo c [x] j).map intAV++(leadsL c t.target).map intAV:=fun q=>by rw [hs, <-List.append_assoc r,List.map_append,List.append_assoc q]
       have hne2:r++goTo c [x] (j+1)≠[]:=fun e=>by
        rw [hs] at e
        exact l2 (List.append_eq_nil_iff.1 (List.append_eq_nil_iff.1 e).2).2
       generalize leadsL c t.target=LL at*
       have hLl:LL.length=(LL.map intAV).length:=(List.length_map ..).symm
       generalize hE2:pre2++(r++goTo c [x] j).map intAV=E2 at*
       have hfa:Fits (E2.length+(LL.map intAV).length) 8:=⟨by omega,by omega⟩
       have F:=ai ht<|ai trAV.eq_1<|ai p1<|ai b3<|ai h0<|e1
       repeat (first | refine zrs (A:=[_,_,_,_,_]) (B:=[_]) rfl (by kernel_rfl) ?_ | refine cC f9 ?_ | refine st ?_)
       refine zrX 15 55 ⟨1,E2,3,true⟩ ⟨1,LL.map intAV,3,true⟩ rfl (by simp only [go_sem,F]; exact iR) (by simp only [go_sem,F]; exact iR) (by simp only [go_sem,F]; exact iR) (by simp only [go_sem,F]; exact iR) (by simp only [go_sem,F]; exact iR) (by simp only [go_sem,F]; exact iR) (by rfl) (Nat.succ_ne_zero 0) rfl (by rfl) rfl hlo2 hbl2 rfl rfl (fun e=>l2 (List.map_eq_nil_iff.1 e)) hfa (by show E2.length+(LL.map intAV).length<=_; omega) fun pre3 hp3=> ?_
       dsimp only
       rw [hdr]
       have F:=ai p2<|e1
       repeat refine st ?_
       refine⟨(j+1,false,pre3),⟨hlt,fun e=>(by cases e),by simp only [go_sem,e1],by simp only; omega⟩, ?_, ?_,by simp only; omega⟩
       ·(simp only [go_sem,F])
       ·have F:=ai hrow<|hdr
        (simp only [go_sem,F])
      ·have hgr:goR c [x] t=[]:=by unfold goR; rw [if_neg (fun hh=>h0 hh.2)]
       rw [hgr,List.append_nil] at hs
       have F:=ai ht<|ai trAV.eq_1<|ai p1<|ai p2<|ai b3<|ai h0<|e1
       repeat refine st ?_
       refine⟨(j+1,b2,pre2),⟨hlt,by simp only [hs]; exact hb2,by simp only [go_sem,e1],hp2⟩, ?_, ?_,by simp only; omega⟩
       ·(simp only [go_sem,F])
       ·have F:=hs
        (simp only [go_sem,F])
     ·have b3:(t.src==x)=false:=by simp [hsx]
      have hgr:goR c [x] t=[]:=by unfold goR; rw [if_neg (fun hh=>hsx (by simpa using hh.1))]
      rw [hgr,List.append_nil] at hs
      have F:=ai ht<|ai trAV.eq_1<|ai p1<|ai p2<|ai b3<|e1
      repeat refine st ?_
      refine⟨(j+1,b2,pre2),⟨hlt,by simp only [hs]; exact hb2,by simp only [go_sem,e1],hp2⟩, ?_, ?_,by simp only; omega⟩
      ·(simp only [go_sem,F])
      ·have F:=hs
       (simp only [go_sem,F])
    ·obtain rfl:j=c.trans.length:=by omega
     have p1: ¬(c.trans.length:Int)< (c.trans.length:Int):=by omega
     have hnext:=hR.mark hxH
     unfold goL at hnext
     have F:=ai p1<|e1
     repeat refine st ?_
     refine⟨(H++[x],b2,pre2,r++goTo c [x] c.trans.length),⟨hnext,hb2,by simp only [go_sem,e1],by simp only; omega⟩, ?_, ?_,by simp only [List.length_cons]; omega⟩
     ·(simp only [go_sem,F])
     ·(simp only [go_sem,F])
end
section
open Go.RowKit
theorem zsg (env:Env) (c:ChD) (h:Full c) {i:Int} (hz:inZ c i=true):Con Tryz.prog env 81 [.agg (chAV c),I i] (.own 3 1 ((leadsL c i).map intAV)):=by
 obtain⟨k,s,rfl,hs,_⟩:=zb0 hz
 cases hm:zat s with
 | true=>exact zrW env c h k s hs hm
 | false=>exact zrI env c h k s hs hm
theorem zsj {c:ChD} (h:Full c): ∀n,(iterR c n).length<=32
 | 0=>zr0 h (-1)
 | n+1=>by
   have hw:=zkM h.toRight
   have hf:=h.few
   show (sortL c _).length<=32
   unfold sortL
   split
   ·exact Nat.le_trans (List.length_filter_le ..) (by omega)
   ·simp
theorem zrL (env:Env) (c:ChD) (h:Full c):Con Tryz.prog env 25 [.agg (chAV c)] (.seq 1 ((zrq c).map zae)):=by
 have hc:=h.toRight
 have hlen:=hc.few
 have hftr:=h.ftr
 have f0:=rBegin_con env c h (-1)
 have hL: ∀ {i:Int},inZ c i=true->Con Tryz.prog env 81 [.agg (chAV c),I i] (.own 3 1 ((leadsL c i).map intAV)):=fun hz=>zsg env c h hz
 have hS: ∀act:List Int,act.length<=1000000->(∀x∈act,0<=x)->Con Tryz.prog env 77 [.agg (chAV c), .seq 1 (act.map intAV)] (.own 3 1 ((sortL c act).map zae)):=fun act hl hz=>zlZ env c hc act hl hz
 unfold chAV at f0 hL hS
 unfold zrq
 refine zaa Tryz.func25 rfl Tryz.call25 (by rw [Tryz.ntmps25]; simp) ?_
 rw [Tryz.ntmps25,Tryz.results25]
 have F:=chAV.eq_1
 repeat (first | refine st ?_ | refine cC f0 ?_)
 refine zpO (Turned.frozen 8 3 ⟨1,(tbegL c (-1)).map zae,3,true⟩ rfl (Nat.succ_ne_zero 0) (by simp only [go_sem]) (by simp only [go_sem])) ?_
 refine zab (D:=Nat) (fun n vs=>[(1, .loc 1 (vs 1) 0 0),(3, .seq 1 ((zL (iterR c n)).map intAV)),(4,I n)]) (fun _ _=>[(1,⟨5,[chAV c],26,false⟩)]) (fun n _ _=>n<=c.states.length+1) (fun n=>c.states.length+1-n) 0 ?_ ?_ ?_ ?_
 ·exact Nat.zero_le _
 ·rw [ze8,show iterR c 0=tbegL c (-1) from rfl]
  (simp only [go_sem,F])
  try rfl
 ·have F:=chAV.eq_1
  (simp only [go_sem,F])
  try rfl
 rintro n ws esc hn
 by_cases hlt:n<c.states.length+1
 ·have q1:((n:Nat):Int)<=(c.states.length:Int):=by omega
  have q2:IntKind.i64.wrap ((n:Int)+1)=((n+1:Nat):Int):=zac (Nat.lt_succ_self _) (by omega)
  have hz:=zrN h n
  have hl:=zsj h n
  have hst:iterR c (n+1)=sortL c (zL (iterR c n)++goL c (zL (iterR c n))):=rfl
  have hI: ∀v,Con Tryz.prog env 52 [.seq 1 ((zL (iterR c n)).map intAV),I v] (B ((zL (iterR c n)).contains v)):=fun v=>zdF env (zL (iterR c n)) v (by rw [zdQ]; omega)
  rw [<-zdQ] at hl
  generalize zL (iterR c n)=l at*
  have hfl:Fits l.length 8:=zah (by omega) (by omega)
  refine zh8 ?_
  have F:=ai chAV.eq_1<|ai q1<|hfl
  repeat refine st ?_
  refine zab (D:=Nat) (fun j vs=>[(1, .loc 1 (vs 1) 0 0),(3, .seq 1 (l.map intAV)),(4,I n),(5, .row 16 (vs 16)),(6,I j)]) (fun j _=>[(1,⟨5,[chAV c],26,false⟩),(16,⟨1,(l++goTo c l j).map intAV,3,true⟩)]) (fun j _ esc=>j<=c.trans.length/\esc 16=false) (fun j=>c.trans.length-j) 0 ?_ ?_ ?_ ?_
  ·exact⟨Nat.zero_le _,by simp only [go_sem]⟩
  ·(simp only [go_sem,F])
   try rfl
  ·rw [show goTo c l 0=[] from rfl,List.append_nil]
   have F:=chAV.eq_1
   (simp only [go_sem,F])
   try rfl
  rintro j us es ⟨hj,e1⟩
  have hgj:=zrG h l j
  have hT:(l++goTo c l j).length=l.length+(goTo c l j).length:=List.length_append
  by_cases hlj:j<c.trans.length
  ·obtain⟨t,ht⟩: ∃t,c.trans[j]? =some t:=⟨c.trans[j],List.getElem?_eq_getElem hlj⟩
   have p1:=nlt hlj
   have p2:=zac hlj (by omega)
   have hs:=zrK (H:=l) ht
   have f2:=hI t.src
   cases hb:l.contains t.src with
   | true=>
     rw [hb] at f2
     by_cases h0:0<=t.target
     ·have htz:=zsa h (List.mem_of_getElem? ht) h0
      have f9:=hL htz
      obtain⟨l1,l2⟩:=zrJ h htz
      have hgr:goR c l t=leadsL c t.target:=by unfold goR; rw [if_pos ⟨hb,h0⟩]
      rw [hgr] at hs
      have hrow:(l++goTo c l (j+1)).map intAV=(l++goTo c l j).map intAV++(leadsL c t.target).map intAV:=by rw [hs, <-List.append_assoc,List.map_append]
      generalize leadsL c t.target=LL at*
      generalize hE2:l++goTo c l j=E2 at*
      have hfa:Fits (E2.length+LL.length) 8:=⟨by omega,by omega⟩
      have F:=ai chAV.eq_1<|ai ht<|ai trAV.eq_1<|ai p1<|ai p2<|ai h0<|ai hfa<|e1
      repeat (first | refine st ?_ | refine cC f2 ?_ | refine cC f9 ?_)
      refine⟨j+1,⟨hlj,by simp only [go_sem,e1]⟩, ?_, ?_,by omega⟩
      ·(simp only [go_sem,F])
      ·have F:=ai chAV.eq_1<|hrow
       (simp only [go_sem,F])
     ·have hgr:goR c l t=[]:=by unfold goR; rw [if_neg (fun hh=>h0 hh.2)]
      rw [hgr,List.append_nil] at hs
      have F:=ai chAV.eq_1<|ai ht<|ai trAV.eq_1<|ai p1<|ai p2<|ai h0<|e1
      repeat (first | refine st ?_ | refine cC f2 ?_)
      refine⟨j+1,⟨hlj,by simp only [go_sem,e1]⟩, ?_, ?_,by omega⟩
      ·(simp only [go_sem,F])
      ·have F:=ai chAV.eq_1<|hs
       (simp only [go_sem,F])
   | false=>
     rw [hb] at f2
     have hgr:goR c l t=[]:=by unfold goR; rw [if_neg (fun hh=>by rw [hb] at hh; cases hh.1)]
     rw [hgr,List.append_nil] at hs
     have F:=ai chAV.eq_1<|ai ht<|ai trAV.eq_1<|ai p1<|ai p2<|e1
     repeat (first | refine st ?_ | refine cC f2 ?_)
     refine⟨j+1,⟨hlj,by simp only [go_sem,e1]⟩, ?_, ?_,by omega⟩
     ·(simp only [go_sem,F])
     ·have F:=ai chAV.eq_1<|hs
      (simp only [go_sem,F])
  ·obtain rfl:j=c.trans.length:=by omega
   have p1: ¬(c.trans.length:Int)< (c.trans.length:Int):=by omega
   have f3:=hS (l++goTo c l c.trans.length) (by omega) (fun x hx=>by
    rcases List.mem_append.1 hx with hx | hx
    ·exact(zag.1 (hz x hx)).1
    ·exact(zag.1 (zrS h hx)).1)
   unfold goL at hst
   have F:=ai chAV.eq_1<|ai p1<|ai q2<|e1
   repeat (first | refine st ?_ | refine cC f3 ?_)
   refine⟨_,Turned.frozen 55 3 ⟨1,(sortL c (l++goTo c l c.trans.length)).map zae,3,true⟩ rfl (Nat.succ_ne_zero 0) (by simp only [go_sem]) (by simp only [go_sem]),n+1,hlt, ?_, ?_,by omega⟩
   ·rw [hst,ze8]
    (simp only [go_sem,F])
   ·have F:=chAV.eq_1
    (simp only [go_sem,F])
 ·obtain rfl:n=c.states.length+1:=by omega
  have q1: ¬(((c.states.length+1:Nat):Int)<=(c.states.length:Int)):=by omega
  rw [ze8]
  show awp _ _ _ _ _ _
  have F:=ai chAV.eq_1<|q1
  repeat refine st ?_
  exact aR
def zsn (c:ChD) (k:Nat):Bool:=match c.trans[k]? with
 | some t=> !(zL (zrq c)).contains t.src
 | none=>false
def zrt (c:ChD) (j:Nat):List Nat:=(List.range j).filter (zsn c)
def zrU (c:ChD):List Nat:=zrt c c.trans.length
theorem zrT {c:ChD} {j:Nat} {t:TrD} (h:c.trans[j]? =some t):zrt c (j+1)=if (zL (zrq c)).contains t.src=true then zrt c j else zrt c j++[j]:=by
 unfold zrt
 rw [List.range_succ,List.filter_append]
 have hp:zsn c j= !(zL (zrq c)).contains t.src:=by unfold zsn; rw [h]
 cases hb:(zL (zrq c)).contains t.src<;>simp only [List.filter_cons,List.filter_nil,hp,hb,Bool.not_true,Bool.not_false,Bool.false_eq_true,if_true,if_false,List.append_nil]
theorem zrV (env:Env) (c:ChD) (h:Full c):Con Tryz.prog env 26 [zai c] (.own 3 1 ((zrU c).map zae)):=by
 have hftr:=h.ftr
 have hrl:=zrH h
 have f0:=zrC env c h
 have hI: ∀v,Con Tryz.prog env 82 [.seq 1 ((zrq c).map zae),I v] (B ((zL (zrq c)).contains v)):=fun v=>by
  rw [<-ze8]
  exact zb6 env (zL (zrq c)) v (by rw [zdQ]; omega)
 have hdl: ∀j,(zrt c j).length<=j:=fun j=>by unfold zrt; exact Nat.le_trans (List.length_filter_le ..) (by simp)
 unfold zai at f0 |-
 refine zaa Tryz.func26 rfl Tryz.call26 (by rw [Tryz.ntmps26]; simp) ?_
 rw [Tryz.ntmps26,Tryz.results26]
 have F:=ai chAV.eq_1<|tabCells.eq_1
 repeat (first | refine st ?_ | refine cC f0 ?_)
 refine zbo 4 4 3 1 ?_
 refine zab (D:=Nat) (fun j vs=>[(3, .row 10 (vs 10)),(4, .row 4 (vs 4)),(15,trsAV c.trans),(16,I c.trans.length),(17,I j)]) (fun j _=>[(10,⟨1,(zrq c).map zae,3,true⟩),(4,⟨1,(zrt c j).map zae,3,true⟩)]) (fun j _ esc=>j<=c.trans.length/\esc 4=false) (fun j=>c.trans.length-j) 0 ?_ ?_ ?_ ?_
 ·exact⟨Nat.zero_le _,by simp only [go_sem]⟩
 ·(simp only [go_sem,F])
  try rfl
 ·(simp only [go_sem,F])
  try rfl
 rintro j ws esc ⟨hj,e1⟩
 by_cases hlt:j<c.trans.length
 ·obtain⟨t,ht⟩: ∃t,c.trans[j]? =some t:=⟨c.trans[j],List.getElem?_eq_getElem hlt⟩
  have p1:=nlt hlt
  have p2:=zac hlt (by omega)
  have hn:=zrT ht
  have hl:=hdl j
  have f2:=hI t.src
  have hf:Fits ((zrt c j).length+1) 8:=zah (by omega) (by omega)
  cases hb:(zL (zrq c)).contains t.src with
  | true=>
    rw [hb] at f2 hn
    rw [if_pos rfl] at hn
    have F:=ai ht<|ai trAV.eq_1<|ai p1<|ai p2<|e1
    repeat (first | refine st ?_ | refine cC f2 ?_)
    refine⟨j+1,⟨hlt,by simp only [go_sem,e1]⟩, ?_, ?_,by omega⟩
    ·(simp only [go_sem,F])
    ·have F:=hn
     (simp only [go_sem,F])
  | false=>
    rw [hb] at f2 hn
    rw [if_neg Bool.false_ne_true] at hn
    have F:=ai ht<|ai trAV.eq_1<|ai p1<|ai p2<|ai hf<|e1
    repeat (first | refine st ?_ | refine cC f2 ?_)
    refine⟨j+1,⟨hlt,by simp only [go_sem,e1]⟩, ?_, ?_,by omega⟩
    ·(simp only [go_sem,F])
    ·have F:=ai hn<|zae.eq_1
     (simp only [go_sem,List.map_append,F])
 ·obtain rfl:j=c.trans.length:=by omega
  have p1: ¬(c.trans.length:Int)< (c.trans.length:Int):=by omega
  rw [show zrt c c.trans.length=zrU c from rfl]
  have F:=ai p1<|e1
  repeat refine st ?_
  exact aR
theorem zsc (env:Env) (c:ChD) (h:Full c):Con Tryz.prog env 27 [.agg (chAV c)] (.own 3 1 ((zrU c).map zae)):=by
 have hftr:=h.ftr
 have hrl:=zrH h
 have f0:=zrL env c h
 have hI: ∀v,Con Tryz.prog env 52 [.seq 1 ((zrq c).map zae),I v] (B ((zL (zrq c)).contains v)):=fun v=>by
  rw [<-ze8]
  exact zdF env (zL (zrq c)) v (by rw [zdQ]; omega)
 have hdl: ∀j,(zrt c j).length<=j:=fun j=>by unfold zrt; exact Nat.le_trans (List.length_filter_le ..) (by simp)
 unfold chAV at f0
 refine zaa Tryz.func27 rfl Tryz.call27 (by rw [Tryz.ntmps27]; simp) ?_
 rw [Tryz.ntmps27,Tryz.results27]
 have F:=chAV.eq_1
 repeat (first | refine st ?_ | refine cC f0 ?_)
 refine zab (D:=Nat) (fun j vs=>[(1, .loc 1 (vs 1) 0 0),(3, .seq 1 ((zrq c).map zae)),(4, .row 8 (vs 8)),(5,I j)]) (fun j _=>[(1,⟨5,[chAV c],26,false⟩),(8,⟨1,(zrt c j).map zae,3,true⟩)]) (fun j _ esc=>j<=c.trans.length/\esc 8=false) (fun j=>c.trans.length-j) 0 ?_ ?_ ?_ ?_
 ·exact⟨Nat.zero_le _,by simp only [go_sem]⟩
 ·(simp only [go_sem,F])
  try rfl
 ·have F:=chAV.eq_1
  (simp only [go_sem,F])
  try rfl
 rintro j ws esc ⟨hj,e1⟩
 by_cases hlt:j<c.trans.length
 ·obtain⟨t,ht⟩: ∃t,c.trans[j]? =some t:=⟨c.trans[j],List.getElem?_eq_getElem hlt⟩
  have p1:=nlt hlt
  have p2:=zac hlt (by omega)
  have hn:=zrT ht
  have hl:=hdl j
  have f2:=hI t.src
  have hf:Fits ((zrt c j).length+1) 8:=zah (by omega) (by omega)
  cases hb:(zL (zrq c)).contains t.src with
  | true=>
    rw [hb] at f2 hn
    rw [if_pos rfl] at hn
    have F:=ai chAV.eq_1<|ai ht<|ai trAV.eq_1<|ai p1<|ai p2<|e1
    repeat (first | refine st ?_ | refine cC f2 ?_)
    refine⟨j+1,⟨hlt,by simp only [go_sem,e1]⟩, ?_, ?_,by omega⟩
    ·(simp only [go_sem,F])
    ·have F:=ai chAV.eq_1<|hn
     (simp only [go_sem,F])
  | false=>
    rw [hb] at f2 hn
    rw [if_neg Bool.false_ne_true] at hn
    have F:=ai chAV.eq_1<|ai ht<|ai trAV.eq_1<|ai p1<|ai p2<|ai hf<|e1
    repeat (first | refine st ?_ | refine cC f2 ?_)
    refine⟨j+1,⟨hlt,by simp only [go_sem,e1]⟩, ?_, ?_,by omega⟩
    ·(simp only [go_sem,F])
    ·have F:=ai chAV.eq_1<|ai hn<|zae.eq_1
     (simp only [go_sem,List.map_append,F])
 ·obtain rfl:j=c.trans.length:=by omega
  have p1: ¬(c.trans.length:Int)< (c.trans.length:Int):=by omega
  rw [show zrt c c.trans.length=zrU c from rfl]
  have F:=ai chAV.eq_1<|ai p1<|e1
  repeat refine st ?_
  exact aR
end
section
open Go.RowKit
theorem zrz (env:Env) (a1 a8:Addr) (he:ChEnv env a1 a8) (hT: ∀W,env.inv W->TabAt W) (c:ChD) (hcf:zdq c):Con Tryz.prog env 4 [.agg (chAV c)] (B true):=by
 have fa:=awake28_con env a1 a8 he hT
 have fr:=rests28_con env c
 cases hg:zfx c with
 | false=>
   rw [hg] at fr
   have fm:=made28_none env c hg
   unfold chAV at fr fm |-
   refine zaa Tryz.func4 rfl Tryz.call4 (by rw [Tryz.ntmps4]; simp) ?_
   rw [Tryz.ntmps4,Tryz.results4]
   repeat (first | refine st0 ?_ | refine cC0 fm ?_ | refine cC0 fr ?_ | refine cC0 fa ?_)
   exact aR0
 | true=>
   have h:=zi7 hg
   have hftr:=h.ftr
   have hdl:(zrU c).length<=64:=by
    unfold zrU zrt
    exact Nat.le_trans (List.length_filter_le ..) (by rw [List.length_range]; omega)
   have hrl:=zrH h
   have fm:=made28_con env a1 a8 he hT c hcf hg
   have f1:=zrC env c h
   have f2:=zrL env c h
   have f3:=zfb env (zrq c) (zrq c) (by omega)
   rw [decide_eq_true rfl] at f3
   have f4:=zrV env c h
   have f5:=zsc env c h
   have f6:=zfb env (zrU c) (zrU c) (by omega)
   rw [decide_eq_true rfl] at f6
   unfold chAV at fm f2 f5 |-
   unfold zai at fm f1 f4
   refine zaa Tryz.func4 rfl Tryz.call4 (by rw [Tryz.ntmps4]; simp) ?_
   rw [Tryz.ntmps4,Tryz.results4]
   repeat (first | refine st0 ?_ | refine cC0 fm ?_ | refine cC0 fr ?_ | refine cC0 f1 ?_ | refine cC0 f2 ?_ | refine cC0 f3 ?_ | refine cC0 f4 ?_ | refine cC0 f5 ?_ | refine cC0 f6 ?_ | refine cC0 fa ?_)
   exact aR0
end

end Go.Proofs.YtlmekdfleciejaaGreatDoor