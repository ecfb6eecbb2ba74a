/- Contracts of expressions' checks, of numbers among numbers: by the walk without memory. -/
import Derived.Test.YtnbjaghjdeicmaaGreatDoorK9
import Derived.Test.YtnbjaghjdeicmaaGreatDoorK5
import Derived.Test.YtnbjaghjdeicmaaGreatDoorK6
import Derived.Test.YtnbjaghjdeicmaaGreatDoorK8
import Derived.WalkKit
import Derived.LaidEql
import Derived.Stop.Asserts
import Derived.RowKitTokens
set_option maxRecDepth 100000
set_option maxHeartbeats 8000000
set_option linter.unusedSimpArgs false
namespace Go.Proofs.YtnbjaghjdeicmaaGreatDoor
section
open Go.RowKit
structure Full (c:ChD):Prop extends Right c where
 st: ∀(k:Nat) (s:StD),c.states[k]? =some s->zav c k s=true
 tr: ∀(k:Nat) (t:TrD),c.trans[k]? =some t->zcH c t=true
 ini:topB c=true
 ftr:c.trans.length<=64
theorem full_of {c:ChD} (h:(chk c).1=0):Full c:=by
 refine⟨zio h, ?_, ?_, ?_, ?_⟩<;>
 ·unfold chk at h
  split at h
  ·simp at h
  rename_i h1
  split at h
  ·simp at h
  split at h
  ·simp at h
  split at h
  ·simp at h
  rename_i h3
  split at h
  ·simp at h
  rename_i h4
  split at h
  ·simp at h
  rename_i h5
  first
   |(intro k s hs
     have:=zbB h3 k (List.getElem?_eq_some_iff.1 hs).1
     unfold zfE at this
     rw [hs] at this
     exact this)
   |(intro k t ht
     have:=zbB h5 k (List.getElem?_eq_some_iff.1 ht).1
     unfold ziV at this
     rw [ht] at this
     exact this)
   |(simpa using h4)
   | omega
theorem Full.shape {c:ChD} (h:Full c) {k:Nat} {s:StD} (hs:c.states[k]? =some s):zas c k s=true:=by
 have:=h.st k s hs
 simp only [zav,Bool.and_eq_true] at this
 exact this.1.1.2
theorem zlm {l:List Nat} {n:Int} :inL l n=true↔ ∃k∈l,(k:Int)=n:=by
 unfold inL
 rw [List.any_eq_true]
 simp
theorem Full.cases {c:ChD} (h:Full c) {k:Nat} {s:StD} (hs:c.states[k]? =some s):
 (s.kind=1/\((kidsL c k true=[]/\s.initial= -1)\/ ∃j∈kidsL c k true,s.initial=(j:Nat)))\/(s.kind=2/\s.initial= -1/\kidsL c k true≠[]/\ ∀j∈kidsL c k true,zax c j=true)\/
  (s.kind=3/\kidsL c k false=[]/\s.initial= -1)\/((s.kind=4\/s.kind=5)/\kidsL c k false=[]/\zaO c s=true/\inL (kidsL c s.parent true) s.initial=true):=by
 have hb:=h.shape hs
 unfold zas at hb
 split at hb
 ·rename_i e
  refine .inl ⟨e, ?_⟩
  split at hb
  ·rename_i e2
   exact .inl ⟨e2,by simpa using hb⟩
  ·obtain⟨j,hj,e3⟩:=zlm.1 hb
   exact .inr ⟨j,hj,e3.symm⟩
 split at hb
 ·rename_i e
  simp only [Bool.and_eq_true,decide_eq_true_eq,beq_iff_eq,List.all_eq_true] at hb
  exact .inr (.inl ⟨e,hb.2,fun e2=>by rw [e2] at hb; simp at hb,hb.1.1⟩)
 split at hb
 ·rename_i e
  simp only [Bool.and_eq_true,beq_iff_eq] at hb
  exact .inr (.inr (.inl ⟨e,by simpa using hb.1.1.1,hb.1.2⟩))
 split at hb
 ·rename_i e
  simp only [Bool.and_eq_true,beq_iff_eq] at hb
  exact .inr (.inr (.inr ⟨e,by simpa using hb.1.1.1.1,hb.1.1.1.2,hb.1.1.2⟩))
 ·cases hb
theorem ziz {c:ChD} {i:Int} (h:kidsL c i false=[]):kidsL c i true=[]:=by
 apply List.eq_nil_iff_forall_not_mem.2
 intro k hk
 have:=(zaV hk).1
 rw [h] at this
 simp at this
abbrev zL (l:List Nat):List Int:=l.map fun k:Nat=>(k:Int)
/-! What begins with a state -/
def bgF (c:ChD):Nat->Nat->List Nat
 | 0,_=>[]
 | f+1,i=>i::match c.states[i]? with
   | some s=>if s.kind=1/\0<=s.initial then bgF c f s.initial.toNat else if s.kind=2 then(kidsL c i true).flatMap (bgF c f) else []
   | none=>[]
def bgL (c:ChD) (i:Nat):List Nat:=bgF c 40 i
theorem zlk {c:ChD} (h:Full c) {i:Nat} {s:StD} (hs:c.states[i]? =some s) (h1:s.kind=1) (h0:0<=s.initial): ∃j∈kidsL c i true,s.initial=(j:Nat):=by
 rcases h.cases hs with⟨_,⟨_,e⟩ | e⟩ | ⟨e,_⟩ | ⟨e,_⟩ | ⟨e,_⟩
 ·omega
 ·exact e
 ·omega
 ·omega
 ·omega
theorem zlz {c:ChD} (h:Full c): ∀(f g:Nat) (i:Nat),i<c.states.length->c.states.length<=i+f->c.states.length<=i+g->bgF c f i=bgF c g i
 | 0,g,i,h0,h1,h2=>by omega
 | f+1,0,i,h0,h1,h2=>by omega
 | f+1,g+1,i,h0,h1,h2=>by
   unfold bgF
   congr 1
   cases hs:c.states[i]? with
   | none=>rfl
   | some s=>
     simp only
     split
     ·rename_i e
      obtain⟨j,hj,e2⟩:=zlk h hs e.1 e.2
      have:=za9 h.toRight (zaV hj).1
      rw [e2,Int.toNat_natCast]
      exact zlz h f g j (by omega) (by omega) (by omega)
     ·split
      ·apply zbA
       intro k hk
       have:=za9 h.toRight (zaV hk).1
       exact zlz h f g k (by omega) (by omega) (by omega)
      ·rfl
theorem zrM (c:ChD) (f i:Nat):bgF c (f+1) i=i::match c.states[i]? with
 | some s=>if s.kind=1/\0<=s.initial then bgF c f s.initial.toNat else if s.kind=2 then(kidsL c i true).flatMap (bgF c f) else []
 | none=>[]:=rfl
theorem ztB {c:ChD} (h:Full c) {i:Nat} {s:StD} (hs:c.states[i]? =some s):bgL c i=i::if s.kind=1/\0<=s.initial then bgL c s.initial.toNat else if s.kind=2 then(kidsL c i true).flatMap (bgL c) else []:=by
 have hi:=(List.getElem?_eq_some_iff.1 hs).1
 have hf:=h.few
 have e0:=zrM c 39 i
 rw [hs] at e0
 simp only at e0
 have e1: ∀j,j∈kidsL c i true->bgF c 39 j=bgL c j:=fun j hj=>by
  have:=za9 h.toRight (zaV hj).1
  exact zlz h 39 40 j (by omega) (by omega) (by omega)
 refine Eq.trans e0 (congrArg (List.cons i) ?_)
 by_cases q:s.kind=1/\0<=s.initial
 ·rw [if_pos q,if_pos q]
  obtain⟨j,hj,e2⟩:=zlk h hs q.1 q.2
  rw [e2,Int.toNat_natCast]
  exact e1 j hj
 ·rw [if_neg q,if_neg q]
  by_cases q2:s.kind=2
  ·rw [if_pos q2,if_pos q2]
   exact zbA e1
  ·rw [if_neg q2,if_neg q2]
theorem zfu {α β:Type} {f:α->List β} : ∀ {l:List α},(∀x∈l,f x=[])->l.flatMap f=[]
 | [],_=>rfl
 | x::l,h=>by
   simp only [List.flatMap_cons]
   rw [h x (by simp),zfu fun y hy=>h y (by simp [hy])]
   rfl
theorem flatMap_one {α β:Type} {f:α->List β} {a:α} : ∀ {l:List α},l.Nodup->a∈l->(∀x∈l,x≠a->f x=[])->l.flatMap f=f a
 | [],_,ha,_=>by simp at ha
 | x::l,hn,ha,h=>by
   obtain⟨h1,h2⟩:=List.nodup_cons.1 hn
   simp only [List.flatMap_cons]
   by_cases e:x=a
   ·subst e
    rw [zfu fun y hy=>h y (by simp [hy]) fun e=>h1 (e ▸ hy),List.append_nil]
   ·rw [h x (by simp) e,List.nil_append]
    exact flatMap_one h2 ((List.mem_cons.1 ha).resolve_left (Ne.symm e)) fun y hy=>h y (by simp [hy])
theorem zsf {c:ChD} (h:Full c) {i:Nat} {s:StD} (hs:c.states[i]? =some s):bgL c i=i::(kidsL c i true).flatMap fun k=>if s.kind=2\/s.initial=(k:Nat) then bgL c k else []:=by
 rw [ztB h hs]
 congr 1
 rcases h.cases hs with⟨e,⟨e1,e2⟩ | ⟨j,hj,e2⟩⟩ | ⟨e,e1,_⟩ | ⟨e,e1,_⟩ | ⟨e,e1,_⟩
 ·rw [e1,if_neg (by omega),if_neg (by omega)]
  rfl
 ·rw [if_pos ⟨e,by omega⟩,e2,Int.toNat_natCast]
  rw [flatMap_one (zbV c i true) hj fun x _ hne=>by rw [if_neg]; omega]
  rw [if_pos (.inr rfl)]
 ·rw [if_neg (by omega),if_pos e]
  apply zbA
  intro k _
  rw [if_pos (.inl e)]
 ·rw [if_neg (by omega),if_neg (by omega),ziz e1]
  rfl
 ·rw [if_neg (by omega),if_neg (by omega),ziz e1]
  rfl
def sbL (c:ChD) (i:Nat):List Nat:=sortL c (zL (bgL c i))
end
section
open Go.RowKit
def manyI (act:List Int) (kids:List Nat):Nat:=(kids.filter fun k:Nat=>act.contains (k:Int)).length
theorem zlf (act:List Int) (kids:List Nat):manyI act kids<=kids.length:=List.length_filter_le ..
def fitB (c:ChD) (act:List Int) (i:Nat) (s:StD):Bool:=
 !zay s&&(decide (s.parent<0)||act.contains s.parent)&&
  (if s.kind=1/\kidsL c i true≠[] then manyI act (kidsL c i true)==1 else if s.kind=2 then manyI act (kidsL c i true)==(kidsL c i true).length else true)
def fitI (c:ChD) (act:List Int) (i:Int):Bool:=match at_ c i with
 | some s=>fitB c act i.toNat s
 | none=>false
def lgAt (c:ChD) (act:List Int) (n:Nat):Bool:=match act[n]? with
 | some i=>(n==0||decide (act.getD (n-1) 0<i))&&fitI c act i
 | none=>true
def zeD (c:ChD) (act:List Int):Int×Int:=match zaE (lgAt c act) act.length with
 | some n=>(1,max (act.getD n 0) (-1))
 | none=>if manyI act (kidsL c (-1) true)=1 then(0, -1) else(1, -1)
def lgB (c:ChD) (act:List Int):Bool:=(zeD c act).1==0
theorem zr2 {c:ChD} {act:List Int} :lgB c act=true↔(∀n,n<act.length->lgAt c act n=true)/\manyI act (kidsL c (-1) true)=1:=by
 unfold lgB zeD
 cases h:zaE (lgAt c act) act.length with
 | some n=>
   refine⟨fun e=>by simp at e,fun e=> ?_⟩
   rw [zaD e.1] at h
   cases h
 | none=>
   simp only
   split
   ·rename_i e
    exact⟨fun _=>⟨fun n hn=>zbB h n hn,e⟩,fun _=>rfl⟩
   ·rename_i e
    exact⟨fun e2=>by simp at e2,fun e2=>absurd e2.2 e⟩
/-! What is active at first -/
def iniN (c:ChD):Nat:=c.initial.toNat
theorem Full.topS {c:ChD} (h:Full c): ∃s,c.states[iniN c]? =some s/\c.initial=(iniN c:Nat)/\s.parent= -1/\(s.kind=1\/s.kind=2):=by
 have:=h.ini
 unfold topB at this
 cases ha:at_ c c.initial with
 | none=>rw [ha] at this; simp at this
 | some s=>
   rw [ha] at this
   unfold at_ at ha
   split at ha
   ·rename_i h0
    refine⟨s,ha,by unfold iniN; omega, ?_⟩
    simp only [zb2,Bool.and_eq_true,beq_iff_eq,Bool.or_eq_true] at this
    exact⟨this.1,this.2⟩
   ·cases ha
/-! What begins is few -/
theorem zsQ {c:ChD} (h:Full c): ∀(n i m:Nat),i<c.states.length->c.states.length<=i+n->m∈bgL c i->m<c.states.length/\(m=i\/(i:Int)∈upL c m)
 | 0,i,m,hi,hn,_=>by omega
 | n+1,i,m,hi,hn,hm=>by
   obtain⟨s,hs⟩: ∃s,c.states[i]? =some s:=⟨c.states[i],List.getElem?_eq_getElem hi⟩
   rw [zsf h hs,List.mem_cons,List.mem_flatMap] at hm
   rcases hm with rfl | ⟨k,hk,hm⟩
   ·exact⟨hi, .inl rfl⟩
   ·have hg:=za9 h.toRight (zaV hk).1
    have hkp:=(zdC.1 (zaV hk).1).2
    have hup:(i:Int)∈upL c k:=(zbD h.toRight (zaR.2 hg.2)).2 (.inl hkp.symm)
    split at hm
    ·obtain⟨h1,h2⟩:=zsQ h n k m (by omega) (by omega) hm
     refine⟨h1, .inr ?_⟩
     rcases h2 with rfl | h2
     ·exact hup
     ·exact zdN h.toRight (m+1) m k i (by omega) h2 hup
    ·simp at hm
theorem zmB {c:ChD} (h:Full c): ∀(n i:Nat),i<c.states.length->c.states.length<=i+n->(bgL c i).Nodup
 | 0,i,hi,hn=>by omega
 | n+1,i,hi,hn=>by
   obtain⟨s,hs⟩: ∃s,c.states[i]? =some s:=⟨c.states[i],List.getElem?_eq_getElem hi⟩
   rw [zsf h hs,List.nodup_cons]
   have mem: ∀k∈kidsL c i true,∀m,m∈(if s.kind=2\/s.initial=(k:Nat) then bgL c k else [])->m<c.states.length/\(m=k\/(k:Int)∈upL c m):=fun k hk m hm=>by
    have hg:=za9 h.toRight (zaV hk).1
    split at hm
    ·exact zsQ h n k m (by omega) (by omega) hm
    ·simp at hm
   refine⟨fun hm=> ?_, ?_⟩
   ·obtain⟨k,hk,hm⟩:=List.mem_flatMap.1 hm
    have hg:=za9 h.toRight (zaV hk).1
    obtain⟨q1,q2⟩:=mem k hk i hm
    rcases q2 with e | e
    ·omega
    ·have:=zfB h.toRight 40 _ _ e
     omega
   ·have hnd:=zbV c i true
    rw [List.nodup_iff_pairwise_ne] at hnd
    rw [List.nodup_iff_pairwise_ne,List.pairwise_flatMap]
    refine⟨fun k hk=> ?_, ?_⟩
    ·have hg:=za9 h.toRight (zaV hk).1
     rw [<-List.nodup_iff_pairwise_ne]
     split
     ·exact zmB h n k (by omega) (by omega)
     ·exact .nil
    ·refine List.Pairwise.imp_of_mem (R:=fun a b=>a≠b) ?_ hnd
     intro k1 k2 hk1 hk2 hne m1 hm1 m2 hm2 e
     subst e
     obtain⟨q1,q2⟩:=mem k1 hk1 m1 hm1
     obtain⟨_,q3⟩:=mem k2 hk2 m1 hm2
     exact hne (zlh h.toRight (zaV hk1).1 (zaV hk2).1 (m1+1) m1 (by omega) q1 q2 q3)
theorem zsg {c:ChD} (h:Full c) {i:Nat} (hi:i<c.states.length):(bgL c i).length<=32:=by
 have hf:=h.few
 have:=(zmB h 40 i hi (by omega)).length_le_of_subset (l₂:=List.range c.states.length) fun m hm=>List.mem_range.2 (zsQ h 40 i m hi (by omega) hm).1
 simp at this
 omega
theorem zr1 {c:ChD} (h:Full c) (i:Nat):(sbL c i).length<=32:=by
 have hf:=h.few
 have:=(zmY h.toRight (zL (bgL c i))).length_le_of_subset (l₂:=List.range c.states.length) fun m hm=>by
  unfold sortL at hm
  split at hm
  ·exact List.mem_range.2 ((zh6 h.toRight m).1 (List.mem_filter.1 hm).1)
  ·simp at hm
 unfold sbL
 simp at this
 omega
end
section
open Go.RowKit
/-! The n-th ones -/
end
section
open Go.RowKit
/-! One more is none -/
end
section
open Go.RowKit
attribute [go_sem] zs7 zlr zf3 resI zoA zmy zqC toRL toKL gin gout nout vin zcX lay AV.ren AV.ren.renL Row.ren zaG Option.bind_some Option.bind_none Option.isSome_some Option.isSome_none Option.getD_some Bool.true_eq_false zrV zmI zrW wrs wes List.cons.injEq Prod.mk.injEq forall_const
end
section
open Go.RowKit Go.Extern.Stop Go.Stop Go.Extern
end
section
open Go.RowKit
attribute [local go_sem_proc ↓] reduceIte
attribute [local go_sem_proc] reduceCtorEq Nat.reduceBEq Nat.reduceAdd Nat.reduceSub Nat.reduceEqDiff Nat.reduceLT Nat.reduceLeDiff Nat.reduceMul Int.reduceToNat Int.reduceBEq Int.reduceBNe Int.reduceEq Int.reduceLT Int.reduceLE
attribute [local go_sem] zpU zkf zmp zgS zmf ze5 zhF ze6 List.isEmpty_cons Array.isEmpty_iff zhP zka zfx zgR zeJ zcZ zb5 zkb zdG zeL zcy zd0 zlX zbl mfind zdV Rd.map AV.bare AV.bare.bareL AV.ofVal zar zcS zdu zdK zdf Takes zam zag zpR zkc zpQ zms zsd zmq zeK zpT zmk zmr zpP zhR zmn zpS zml zfz zmo zfy zmm zhQ zsc zkd zsa zsb zpV zpW zr5 zr7 zpz zr6 zpw zpx zpy zoN zlG zlw zkT zo7 unRd zln exRd val zdz zcB seen AV.plain AV.soft adopt fzArgs Rd.run AV.asCells zfm runL Comes' Rd.row Rd.bind Out.app apps Eff.app St.renew St.setRow St.show St.put St.init upd zgT zkh zrw eqFs zbs zkg zen znF zcz zcA zgW zgV bound zgU zdb zd1 zke zcv zfw zdE zcd fz zbr zce shows zbe splice wrs wes Value.oneCell' List.getD_cons_zero List.getD_cons_succ List.getD_nil List.length_cons List.length_nil List.map_cons List.map_nil List.nil_append List.cons_append List.all_cons List.all_nil List.getElem?_cons_zero List.getElem?_cons_succ List.set_cons_zero List.set_cons_succ List.take_succ_cons List.take_zero List.drop_succ_cons List.drop_zero List.take_nil List.drop_nil List.replicate_succ List.replicate_zero Bool.and_true Bool.true_and Bool.and_self and_self true_and and_true Nat.zero_add Nat.add_zero Option.some.injEq Nat.zero_lt_succ Bool.not_true Bool.not_false ne_eq not_true_eq_false not_false_eq_true Option.map_some Option.map_none List.toList_toArray head zgI zaG List.length_map Int.toNat_natCast Int.natCast_nonneg List.getElem?_map decide_true decide_false Bool.false_eq_true if_true if_false Bool.or_self Bool.or_true Bool.true_or Bool.false_or Bool.or_false Bool.and_false Bool.false_and List.flatten_cons List.flatten_nil List.append_nil nat0 or_self or_false false_or or_true true_or and_false false_and List.length_append List.isEmpty_nil bne_self_eq_false beq_self_eq_true zah zr0 bytesOf_map wants Int.cast_ofNat_Int gt_iff_lt ge_iff_le
attribute [local go_sem <-] List.map_drop List.map_take
/-! Weaker values -/
theorem Str.iface {t:TypeId} {c' c:AV} (h:Str c' c):Str (.iface t c') (.iface t c):=fun S w v hv=>by
 cases hv with
 | iface _ v _ hv=>exact .iface t v c (h S w v hv)
theorem Str.ref1 {cs' cs:List AV} {off:Nat} (h:Strs cs' cs):Str (.ref cs.length [cs'] 0 off) (.ref cs.length [cs] 0 off):=fun S w v hv=>by
 cases hv with
 | ref sz es i off b o u hz hc hr=>
   have at': ∀(i j:Nat) (c:AV),cellAt [cs] i j=some c-> ∃c',cellAt [cs'] i j=some c'/\Str c' c:=fun i j c hcc=>by
    cases i with
    | zero=>
      have hj:cs[j]? =some c:=hcc
      have hlt:j<cs'.length:=by rw [h.1]; exact(List.getElem?_eq_some_iff.1 hj).1
      exact⟨cs'[j],List.getElem?_eq_getElem hlt,h.2 j _ c (List.getElem?_eq_getElem hlt) hj⟩
    | succ i=>simp [cellAt] at hcc
   refine .ref _ [cs] 0 off b o u (fun i e he=>by
    cases i with
    | zero=>simp at he; rw [<-he]
    | succ i=>simp at he) (fun i j c hcc=> ?_) fun i j c hcc=> ?_
   ·obtain⟨c',h1,_⟩:=at' i j c hcc
    exact hc i j c' h1
   ·obtain⟨c',h1,h2⟩:=at' i j c hcc
    exact h2 S w _ (hr i j c' h1)
abbrev sentV (a:Addr):AV:= .lit (.iface 379 (.pointer (some a)))
abbrev errV (p:Int) (e:AV):AV:= .iface 159 (.ref 3 [[.any,I p,e]] 0 0)
abbrev nilE:AV:= .lit .nilIface
theorem zrx (s p:AV) (q:Int) (hp:p=I q) (e:AV):RStr (.iface 159 (.ref 3 [[s,p,e]] 0 0)) (errV q e):=by
 subst hp
 exact .of (.iface (.ref1 (cs:=[.any,I q,e]) (.cons (.any _) (.refl _)))) (fun _ _ _ h=>by cases h) (fun _ _ _ h=>by cases h)
def zov (ad:Nat->Addr) (g:Nat):Option AV:=
 if g=1 then some (sentV (ad 1)) else
 if g=2 then some (sentV (ad 2)) else
 if g=3 then some (sentV (ad 3)) else
 if g=4 then some (sentV (ad 4)) else
 if g=5 then some (sentV (ad 5)) else
 if g=6 then some (sentV (ad 6)) else
 if g=0 then some (sentV (ad 7)) else
 if g=7 then some (sentV (ad 8)) else
 if g=8 then some (sentV (ad 9)) else none
structure More where
 inv:World->Prop
 up: ∀w w',inv w->Below w.heap.size w w'->inv w'
def zbf (ad:Nat->Addr) (mo:More):Env:=⟨zov ad,fun w=>Sents w ad/\mo.inv w,fun w w' h hb=>⟨h.1.below hb,mo.up w w' h.2 hb⟩⟩
theorem zpX {ad:Nat->Addr} {mo:More} {w:World} (h:Sents w ad) (hm:mo.inv w):EnvOk (zbf ad mo) (fun b _=>b<w.heap.size) w:=by
 refine⟨⟨h,hm⟩,fun b o hb=>hb,fun g c hg=> ?_⟩
 have one: ∀ {g:Nat} {a:Addr},Sent w g a-> ∃u,w.cell? ⟨g,0,none⟩=some u/\u.oneCell'=true/\g<w.heap.size/\RV (fun b _=>b<w.heap.size) w u (sentV a):=fun hs=>⟨_,hs.1,rfl,zqc hs.1, .lit _⟩
 have hg:zov ad g=some c:=hg
 unfold zov at hg
 split at hg
 ·rename_i e; subst e; cases hg; exact one h.s1
 split at hg
 ·rename_i e; subst e; cases hg; exact one h.s2
 split at hg
 ·rename_i e; subst e; cases hg; exact one h.s3
 split at hg
 ·rename_i e; subst e; cases hg; exact one h.s4
 split at hg
 ·rename_i e; subst e; cases hg; exact one h.s5
 split at hg
 ·rename_i e; subst e; cases hg; exact one h.s6
 split at hg
 ·rename_i e; subst e; cases hg; exact one h.s7
 split at hg
 ·rename_i e; subst e; cases hg; exact one h.s8
 split at hg
 ·rename_i e; subst e; cases hg; exact one h.s9
 cases hg
section
variable {ad:Nat->Addr} {mo:More} {f:Nat->AV}
end
theorem ziL {env:Env} {g:Nat} {c:AV} (h:env g=some c) (f:Nat->AV):gt env f (.global g)= .ref 1 [[c]] 0 0:=by simp only [gt,h]
theorem zca (env:Env) (s:List UInt8) (a:Addr):Con Tryz.prog env 84 [Sg s,sentV a] (errV (-1) (sentV a)):=by
 refine zap Tryz.func84 rfl Tryz.call84 (by rw [Tryz.ntmps84]; simp) ?_
 rw [Tryz.ntmps84,Tryz.results84]
 repeat (first | refine oO rfl (by simp only [go_sem]; exact⟨rfl,rfl⟩) ?_ | refine gR ?_ | refine gO ?_ | refine oZ (zau ?_) | refine oZ ?_ | refine oS ?_ | refine gT ?_ | refine gD Tryz.mixed ?_ | refine oB ?_ | refine oK ?_ | (refine oX ?_; simp only [zam,zag, ↓reduceIte,Nat.reduceEqDiff,reduceCtorEq]))
 (refine zae ?_; refine⟨_,(by show (zar _ _ _).run _=some _; simp only [go_sem]; rfl), ?_⟩)
 exact zrx _ _ _ rfl _
/-! fault.Code -/
theorem zlu {P:Program} {env:Env} {f:FuncId} {cs:List AV} {u:Value} (henter: ∀(args:Array Value) (w:World),(callFunc f args).run P w= .ok (.enter f args) w)
 (h: ∀(w:World) (S:Nat->Nat->Prop) (vs:List Value),EnvOk env S w->vs.length=cs.length->(∀(i:Nat) (v:Value) (c:AV),vs[i]? =some v->cs[i]? =some c->RV S w v c)->Calls P f vs.toArray w fun e w'=>e= .returned u/\Below w.heap.size w w'):Con P env f cs (.lit u):=by
 refine⟨henter,fun w S vs hE hl hv=>(h w S vs hE hl hv).mono ?_⟩
 rintro e w' ⟨rfl,hb⟩
 exact⟨u,rfl,hb,S,fun _ _ h=>h,fun _ _ h=> .inl h,fun b o hb'=>Nat.lt_of_lt_of_le (hE.low b o hb') hb.size, .lit _⟩
theorem zm1 {w:World} {ad:Nat->Addr} (h:Sents w ad) (k:Nat) (hk:1<=k/\k<=9):Lies w (ad k):=by
 obtain rfl | rfl | rfl | rfl | rfl | rfl | rfl | rfl | rfl:k=1\/k=2\/k=3\/k=4\/k=5\/k=6\/k=7\/k=8\/k=9:=by omega
 ·exact h.s1.2
 ·exact h.s2.2
 ·exact h.s3.2
 ·exact h.s4.2
 ·exact h.s5.2
 ·exact h.s6.2
 ·exact h.s7.2
 ·exact h.s8.2
 ·exact h.s9.2
end
section
open Go.RowKit
end
section
open Go.RowKit
abbrev smallCs (k:Int):Array Value:= #[.string ⟨#[97]⟩, .int .i64 1, .int .i64 (-1), .int .i64 k, .slice none 0 0, .slice none 0 0, .string ⟨#[98]⟩, .int .i64 1, .int .i64 0, .int .i64 (-1), .slice none 0 0, .slice none 0 0]
def zlI (w:World) (g:Nat) (k:Int):Prop:= ∀i v,(smallCs k)[i]? =some v->w.cell? ⟨g,i,none⟩=some v
theorem zlI.below {w w':World} {g:Nat} {k:Int} (h:zlI w g k) (hb:Below w.heap.size w w'):zlI w' g k:=fun i v hi=>cell_below (h i v hi) hb
theorem EnvOk.all {env:Env} {S:Nat->Nat->Prop} {w:World} (h:EnvOk env S w):EnvOk env (fun b _=>b<w.heap.size) w:=⟨h.inv,fun _ _ h=>h,fun g c hg=>by
 obtain⟨u,h1,h2,h3,h4⟩:=h.env g c hg
 exact⟨u,h1,h2,h.low _ _ h3,h4.mono fun b o hb=>⟨h.low _ _ hb, .rfl⟩⟩⟩
theorem EnvOk.belowA {env:Env} {w w':World} (h:EnvOk env (fun b _=>b<w.heap.size) w) (hb:Below w.heap.size w w'):EnvOk env (fun b _=>b<w'.heap.size) w':=⟨env.up _ _ h.inv hb,fun _ _ h=>h,fun g c hg=>by
 obtain⟨u,h1,h2,h3,h4⟩:=h.env g c hg
 exact⟨u,cell_below h1 hb,h2,Nat.lt_of_lt_of_le h3 hb.size,h4.mono fun b o (hbo:b<_)=>⟨Nat.lt_of_lt_of_le hbo hb.size,hb.stay hbo⟩⟩⟩
theorem zrF {P:Program} {env:Env} {f:FuncId} {cs:List AV} {res:AV} {w:World} {vs:List Value} (h:Con P env f cs res) (hE:EnvOk env (fun b _=>b<w.heap.size) w) (hres: ∀e sz es,res≠ .own e sz es) (hv:RAs (fun b _=>b<w.heap.size) w vs cs):
 Calls P f vs.toArray w fun e w'=> ∃v,e= .returned v/\Below w.heap.size w w'/\EnvOk env (fun b _=>b<w'.heap.size) w'/\RV (fun b _=>b<w'.heap.size) w' v res:=by
 obtain⟨h1,h2⟩:=hv.at_
 refine(h.calls w _ vs hE h1 h2).mono ?_
 rintro e w' ⟨v,rfl,hb,S',_,_,hlt,hr⟩
 refine⟨v,rfl,hb,hE.belowA hb, ?_⟩
 have hr':RV S' w' v res:=by
  cases res with
  | own e sz es=>exact(hres e sz es rfl).elim
  | _=>exact hr
 exact hr'.mono fun b o hbo=>⟨hlt b o hbo, .rfl⟩
end
section
open Go.RowKit
theorem zbR (env:Env) (l:List UInt8) (hl:l.length<=9223372036854775807):Con Tryz.prog env 178 [Sg l] (B (zaI l)):=
 zlu Tryz.call178 fun w S vs hE hlen hv=>by
  match vs,hlen with
  | [v],_=>
    obtain rfl:=(hv 0 v _ rfl rfl).lit_inv
    refine(zq8 l hl w).mono ?_
    rintro e w' ⟨rfl,rfl⟩
    exact⟨rfl,Below.refl _ _⟩
def zdj (n:Int):Bool:=decide (-2147483647<=n)&&decide (n<=2147483647)
theorem zeq (env:Env) (n:Int):Con Tryz.prog env 92 [I n] (B (zdj n)):=by
 unfold zdj
 refine zaa Tryz.func92 rfl Tryz.call92 (by rw [Tryz.ntmps92]; simp) ?_
 rw [Tryz.ntmps92,Tryz.results92]
 by_cases h1: -2147483647<=n<;>by_cases h2:n<=2147483647<;>
 ·have F:=ai h1<|h2
  repeat refine st ?_
  exact aR
theorem zgo (env:Env) (n:Int):Con Tryz.prog env 61 [I n] (B (zdj n)):=by
 unfold zdj
 refine zaa Tryz.func61 rfl Tryz.call61 (by rw [Tryz.ntmps61]; simp) ?_
 rw [Tryz.ntmps61,Tryz.results61]
 by_cases h1: -2147483647<=n<;>by_cases h2:n<=2147483647<;>
 ·have F:=ai h1<|h2
  repeat refine st ?_
  exact aR
/-! Expressions' kinds -/
theorem zd7 {p:Int->Int->Prop} (h1: ∀k:Int,1<=k->k<=4-> ¬k<1-> ¬19<k-> ¬4<k->p k 0) (h5:p 5 1) (h6:p 6 1)
 (h7: ∀k:Int,1<=k-> ¬k<=4->(k==5)=false->(k==6)=false->7<=k->k<=19-> ¬k<1-> ¬19<k-> ¬k<=6->p k 2)
 (h8: ∀k:Int,¬1<=k->(k==5)=false->(k==6)=false-> ¬7<=k->k<1->p k (-1))
 (h9: ∀k:Int,1<=k-> ¬k<=4->(k==5)=false->(k==6)=false->7<=k-> ¬k<=19-> ¬k<1->19<k->p k (-1)) (k:Int):p k (zai k):=by
 have ne: ∀a b:Int,a≠b->(a==b)=false:=fun a b h=>by simpa using h
 by_cases a:1<=k
 ·by_cases b:k<=4
  ·rw [show zai k=0 by unfold zai; rw [if_pos ⟨a,b⟩]]
   exact h1 k a b (by omega) (by omega) (by omega)
  ·by_cases c:k=5
   ·subst c; exact h5
   ·by_cases d:k=6
    ·subst d; exact h6
    ·by_cases e:k<=19
     ·rw [show zai k=2 by unfold zai; rw [if_neg (by omega),if_neg (by omega),if_pos (by omega)]]
      exact h7 k a b (ne _ _ c) (ne _ _ d) (by omega) e (by omega) (by omega) (by omega)
     ·rw [show zai k= -1 by unfold zai; rw [if_neg (by omega),if_neg (by omega),if_neg (by omega)]]
      exact h9 k a b (ne _ _ c) (ne _ _ d) (by omega) e (by omega) (by omega)
 ·rw [show zai k= -1 by unfold zai; rw [if_neg (by omega),if_neg (by omega),if_neg (by omega)]]
  exact h8 k a (ne _ _ (by omega)) (ne _ _ (by omega)) (by omega) (by omega)
theorem zcj (env:Env) (k:Int):Con Tryz.prog env 321 [I k] (I (zai k)):=by
 refine zd7 (p:=fun k r=>Con Tryz.prog env 321 [I k] (I r)) ?_ ?_ ?_ ?_ ?_ ?_ k
 ·intro k a1 a2 a3 a4 a5
  refine zaa Tryz.func321 rfl Tryz.call321 (by rw [Tryz.ntmps321]; simp) ?_
  rw [Tryz.ntmps321,Tryz.results321]
  have F:=ai a1<|ai a2<|ai a3<|ai a4<|a5
  repeat refine st ?_
  exact aR
 ·refine zaa Tryz.func321 rfl Tryz.call321 (by rw [Tryz.ntmps321]; simp) ?_
  rw [Tryz.ntmps321,Tryz.results321]
  repeat refine st0 ?_
  exact aR0
 ·refine zaa Tryz.func321 rfl Tryz.call321 (by rw [Tryz.ntmps321]; simp) ?_
  rw [Tryz.ntmps321,Tryz.results321]
  repeat refine st0 ?_
  exact aR0
 ·intro k a1 a2 a3 a4 a5 a6 a7 a8 a9
  refine zaa Tryz.func321 rfl Tryz.call321 (by rw [Tryz.ntmps321]; simp) ?_
  rw [Tryz.ntmps321,Tryz.results321]
  have F:=ai a1<|ai a2<|ai a3<|ai a4<|ai a5<|ai a6<|ai a7<|ai a8<|a9
  repeat refine st ?_
  exact aR
 ·intro k a1 a2 a3 a4 a5
  refine zaa Tryz.func321 rfl Tryz.call321 (by rw [Tryz.ntmps321]; simp) ?_
  rw [Tryz.ntmps321,Tryz.results321]
  have F:=ai a1<|ai a2<|ai a3<|ai a4<|a5
  repeat refine st ?_
  exact aR
 ·intro k a1 a2 a3 a4 a5 a6 a7 a8
  refine zaa Tryz.func321 rfl Tryz.call321 (by rw [Tryz.ntmps321]; simp) ?_
  rw [Tryz.ntmps321,Tryz.results321]
  have F:=ai a1<|ai a2<|ai a3<|ai a4<|ai a5<|ai a6<|ai a7<|a8
  repeat refine st ?_
  exact aR
theorem zci (env:Env) (k:Int):Con Tryz.prog env 288 [I k] (I (zai k)):=by
 refine zd7 (p:=fun k r=>Con Tryz.prog env 288 [I k] (I r)) ?_ ?_ ?_ ?_ ?_ ?_ k
 ·intro k a1 a2 a3 a4 a5
  refine zaa Tryz.func288 rfl Tryz.call288 (by rw [Tryz.ntmps288]; simp) ?_
  rw [Tryz.ntmps288,Tryz.results288]
  have F:=ai a1<|ai a2<|ai a3<|ai a4<|a5
  repeat refine st ?_
  exact aR
 ·refine zaa Tryz.func288 rfl Tryz.call288 (by rw [Tryz.ntmps288]; simp) ?_
  rw [Tryz.ntmps288,Tryz.results288]
  repeat refine st0 ?_
  exact aR0
 ·refine zaa Tryz.func288 rfl Tryz.call288 (by rw [Tryz.ntmps288]; simp) ?_
  rw [Tryz.ntmps288,Tryz.results288]
  repeat refine st0 ?_
  exact aR0
 ·intro k a1 a2 a3 a4 a5 a6 a7 a8 a9
  refine zaa Tryz.func288 rfl Tryz.call288 (by rw [Tryz.ntmps288]; simp) ?_
  rw [Tryz.ntmps288,Tryz.results288]
  have F:=ai a1<|ai a2<|ai a3<|ai a4<|ai a5<|ai a6<|ai a7<|ai a8<|a9
  repeat refine st ?_
  exact aR
 ·intro k a1 a2 a3 a4 a5
  refine zaa Tryz.func288 rfl Tryz.call288 (by rw [Tryz.ntmps288]; simp) ?_
  rw [Tryz.ntmps288,Tryz.results288]
  have F:=ai a1<|ai a2<|ai a3<|ai a4<|a5
  repeat refine st ?_
  exact aR
 ·intro k a1 a2 a3 a4 a5 a6 a7 a8
  refine zaa Tryz.func288 rfl Tryz.call288 (by rw [Tryz.ntmps288]; simp) ?_
  rw [Tryz.ntmps288,Tryz.results288]
  have F:=ai a1<|ai a2<|ai a3<|ai a4<|ai a5<|ai a6<|ai a7<|a8
  repeat refine st ?_
  exact aR
theorem zhA {p:OpD->Bool->Prop} (vs ss:Int)
 (h1: ∀n:Int,p ⟨1,n⟩ (decide (0<=n)&&decide (n<=2147483647))) (h2: ∀n:Int,p ⟨2,n⟩ (decide (0<=n)&&decide (n<vs))) (h4: ∀n:Int,p ⟨4,n⟩ (decide (0<=n)&&decide (n<ss)))
 (h: ∀k n:Int,(k==1)=false->(k==2)=false->(k==4)=false->p ⟨k,n⟩ (decide (n=0))) (o:OpD):p o (numB o vs ss):=by
 have ne: ∀a b:Int,a≠b->(a==b)=false:=fun a b h=>by simpa using h
 obtain⟨k,n⟩:=o
 unfold numB
 simp only [Bool.decide_and]
 by_cases a:k=1
 ·subst a; simpa using h1 n
 by_cases b:k=2
 ·subst b; simpa using h2 n
 by_cases c:k=4
 ·subst c; simpa using h4 n
 rw [if_neg a,if_neg b,if_neg c]
 exact h k n (ne _ _ a) (ne _ _ b) (ne _ _ c)
theorem zc6 (env:Env) (o:OpD) (vs ss:Int):Con Tryz.prog env 322 [.agg (opAV o),I vs,I ss] (B (numB o vs ss)):=by
 refine zhA (p:=fun o r=>Con Tryz.prog env 322 [.agg (opAV o),I vs,I ss] (B r)) vs ss (fun n=> ?_) (fun n=> ?_) (fun n=> ?_) (fun k n a1 a2 a3=> ?_) o
 ·refine zaa Tryz.func322 rfl Tryz.call322 (by rw [Tryz.ntmps322]; simp) ?_
  rw [Tryz.ntmps322,Tryz.results322]
  by_cases h1:0<=n<;>by_cases h2:n<=2147483647<;>
  ·have h3:(n<2147483648)=(n<=2147483647):=by rw [eq_iff_iff]; omega
   have F:=ai opAV.eq_1<|ai h1<|ai h2<|h3
   repeat refine st ?_
   exact aR
 ·refine zaa Tryz.func322 rfl Tryz.call322 (by rw [Tryz.ntmps322]; simp) ?_
  rw [Tryz.ntmps322,Tryz.results322]
  by_cases h1:0<=n<;>by_cases h2:n<vs<;>
  ·have F:=ai opAV.eq_1<|ai h1<|h2
   repeat refine st ?_
   exact aR
 ·refine zaa Tryz.func322 rfl Tryz.call322 (by rw [Tryz.ntmps322]; simp) ?_
  rw [Tryz.ntmps322,Tryz.results322]
  by_cases h1:0<=n<;>by_cases h2:n<ss<;>
  ·have F:=ai opAV.eq_1<|ai h1<|h2
   repeat refine st ?_
   exact aR
 ·refine zaa Tryz.func322 rfl Tryz.call322 (by rw [Tryz.ntmps322]; simp) ?_
  rw [Tryz.ntmps322,Tryz.results322]
  by_cases h1:0<=n<;>by_cases h2:n<1<;>
  ·have h3:(n=0)=(0<=n/\n<1):=by rw [eq_iff_iff]; omega
   have F:=ai opAV.eq_1<|ai h1<|ai h2<|ai h3<|ai a1<|ai a2<|a3
   repeat refine st ?_
   exact aR
theorem zc4 (env:Env) (o:OpD) (vs ss:Int):Con Tryz.prog env 289 [.agg (opAV o),I vs,I ss] (B (numB o vs ss)):=by
 refine zhA (p:=fun o r=>Con Tryz.prog env 289 [.agg (opAV o),I vs,I ss] (B r)) vs ss (fun n=> ?_) (fun n=> ?_) (fun n=> ?_) (fun k n a1 a2 a3=> ?_) o
 ·refine zaa Tryz.func289 rfl Tryz.call289 (by rw [Tryz.ntmps289]; simp) ?_
  rw [Tryz.ntmps289,Tryz.results289]
  by_cases h1:0<=n<;>by_cases h2:n<=2147483647<;>
  ·have F:=ai opAV.eq_1<|ai h1<|h2
   repeat refine st ?_
   exact aR
 ·refine zaa Tryz.func289 rfl Tryz.call289 (by rw [Tryz.ntmps289]; simp) ?_
  rw [Tryz.ntmps289,Tryz.results289]
  by_cases h1:0<=n<;>by_cases h2:n<vs<;>
  ·have F:=ai opAV.eq_1<|ai h1<|h2
   repeat refine st ?_
   exact aR
 ·refine zaa Tryz.func289 rfl Tryz.call289 (by rw [Tryz.ntmps289]; simp) ?_
  rw [Tryz.ntmps289,Tryz.results289]
  by_cases h1:0<=n<;>by_cases h2:n<ss<;>
  ·have F:=ai opAV.eq_1<|ai h1<|h2
   repeat refine st ?_
   exact aR
 ·refine zaa Tryz.func289 rfl Tryz.call289 (by rw [Tryz.ntmps289]; simp) ?_
  rw [Tryz.ntmps289,Tryz.results289]
  have h3:decide (n=0)=(n==0):=by rw [Bool.eq_iff_iff]; simp
  rw [h3]
  have F:=ai opAV.eq_1<|ai a1<|ai a2<|a3
  repeat refine st ?_
  exact aR
/-! States' kinds -/
theorem zdy (env:Env) (s:StD):Con Tryz.prog env 204 [.agg (stAV s)] (B (zay s)):=by
 unfold zay
 refine zaa Tryz.func204 rfl Tryz.call204 (by rw [Tryz.ntmps204]; simp) ?_
 rw [Tryz.ntmps204,Tryz.results204]
 cases h1:(s.kind==4)<;>cases h2:(s.kind==5)<;>
 ·have F:=ai stAV.eq_1<|ai h1<|h2
  repeat refine st ?_
  exact aR
theorem zbc (env:Env) (s:StD):Con Tryz.prog env 157 [.agg (stAV s)] (B (zay s)):=by
 unfold zay
 refine zaa Tryz.func157 rfl Tryz.call157 (by rw [Tryz.ntmps157]; simp) ?_
 rw [Tryz.ntmps157,Tryz.results157]
 cases h1:(s.kind==4)<;>cases h2:(s.kind==5)<;>
 ·have F:=ai stAV.eq_1<|ai h1<|h2
  repeat refine st ?_
  exact aR
theorem zc7 (env:Env) (s:StD):Con Tryz.prog env 202 [.agg (stAV s)] (B (zb2 s)):=by
 unfold zb2
 refine zaa Tryz.func202 rfl Tryz.call202 (by rw [Tryz.ntmps202]; simp) ?_
 rw [Tryz.ntmps202,Tryz.results202]
 cases h1:(s.kind==1)<;>cases h2:(s.kind==2)<;>
 ·have F:=ai stAV.eq_1<|ai h1<|h2
  repeat refine st ?_
  exact aR
theorem zc5 (env:Env) (s:StD):Con Tryz.prog env 113 [.agg (stAV s)] (B (zb2 s)):=by
 unfold zb2
 refine zaa Tryz.func113 rfl Tryz.call113 (by rw [Tryz.ntmps113]; simp) ?_
 rw [Tryz.ntmps113,Tryz.results113]
 cases h1:(s.kind==1)<;>cases h2:(s.kind==2)<;>
 ·have F:=ai stAV.eq_1<|ai h1<|h2
  repeat refine st ?_
  exact aR
end
section
open Go.RowKit
abbrev fnV (g:Nat):AV:= .lit (.func (.func g) #[] #[])
end
section
open Go.RowKit
end
section
open Go.RowKit
structure ChEnv (env:Env) (a1 a8:Addr):Prop where
 e1:env 1=some (sentV a1)
 e8:env 7=some (sentV a8)
def zea (a1 a8:Addr) (l:List OpD) (vs ss:Int):AV:=if ze8 l vs ss=0 then nilE else if ze8 l vs ss=8 then errV (-1) (sentV a8) else errV (-1) (sentV a1)
theorem zhU {l:List OpD} (vs ss:Int) (h:32<l.length):ze8 l vs ss=8:=by unfold ze8; rw [if_pos h]
theorem zkn {l:List OpD} {vs ss:Int} (h: ¬32<l.length) (hh:hgt vs ss l 0=some 1):ze8 l vs ss=0:=by unfold ze8; rw [if_neg h,if_pos hh]
theorem zfQ {l:List OpD} {vs ss:Int} (h: ¬32<l.length) (hh:hgt vs ss l 0≠some 1):ze8 l vs ss=1:=by unfold ze8; rw [if_neg h,if_neg hh]
theorem zjb {vs ss n:Int} {o:OpD} (h:zeu vs ss n o=true): ¬zai o.kind<0/\ ¬n<zai o.kind/\numB o vs ss=true:=by
 simp only [zeu,Bool.and_eq_true,decide_eq_true_eq] at h
 exact⟨by omega,by omega,h.2⟩
theorem zhr {vs ss n:Int} {o:OpD} (h:zeu vs ss n o=false):zai o.kind<0\/(¬zai o.kind<0/\n<zai o.kind)\/(¬zai o.kind<0/\ ¬n<zai o.kind/\numB o vs ss=false):=by
 by_cases a:zai o.kind<0
 ·exact .inl a
 by_cases b:n<zai o.kind
 ·exact .inr (.inl ⟨a,b⟩)
 refine .inr (.inr ⟨a,b, ?_⟩)
 have e1:0<=zai o.kind:=by omega
 have e2:zai o.kind<=n:=by omega
 simpa [zeu,e1,e2] using h
theorem zhd (env:Env) (a1 a8:Addr) (he:ChEnv env a1 a8) (l:List OpD) (vs ss:Int):Con Tryz.prog env 292 [opsAV l,I vs,I ss] (zea a1 a8 l vs ss):=by
 have g1:=ziL he.e1
 have g8:=ziL he.e8
 refine zaa Tryz.func292 rfl Tryz.call292 (by rw [Tryz.ntmps292]; simp) ?_
 rw [Tryz.ntmps292,Tryz.results292]
 by_cases hl:32<l.length
 ·have hL:(32:Int)<l.length:=by omega
  rw [show zea a1 a8 l vs ss=errV (-1) (sentV a8) by unfold zea; rw [zhU vs ss hl]; rfl]
  have F:=ai hL<|g8
  repeat (first | refine st ?_ | refine cC (zca env _ a8) ?_)
  exact aR
 have hL: ¬(32:Int)<l.length:=by omega
 have F:=hL
 repeat refine st ?_
 refine zac (D:=Nat×Int) (fun d _=>[(1,I vs),(2,I ss),(7,I d.2),(16,opsAV l),(17,I l.length),(18,I d.1)]) (fun _ _=>[]) (fun d _ _=>d.1<=l.length/\hgt vs ss l 0=hgt vs ss (l.drop d.1) d.2/\0<=d.2/\d.2<=d.1) (fun d=>l.length-d.1) (0,0) ?_ ?_ ?_ ?_
 ·exact⟨Nat.zero_le _,rfl,Int.le_refl _,Int.le_refl _⟩
 ·(simp only [go_sem,F])
 ·(simp only [go_sem,F])
 rintro⟨i,n⟩ ws esc ⟨hi,hh,h0,hn⟩
 simp only at hi hh h0 hn
 by_cases hlt:i<l.length
 ·obtain⟨o,ho,_⟩:=zan hlt
  obtain⟨up,no⟩:=zmc ho hh
  have k1:=nlt hlt
  have k2:=zab hlt (by omega)
  have hop:=zfl o.kind
  cases hok:zeu vs ss n o with
  | true=>
    obtain⟨b1,b2,b3⟩:=zjb hok
    have w1:IntKind.i64.wrap (1-zai o.kind)=1-zai o.kind:=zbn (by omega) (by omega)
    have w2:IntKind.i64.wrap (n+(1-zai o.kind))=n+(1-zai o.kind):=zbn (by omega) (by omega)
    have F:=ai k1<|ai k2<|ai ho<|ai opAV.eq_1<|ai b1<|ai b2<|ai b3<|ai w1<|w2
    repeat (first | refine st ?_ | refine cC (zcj env o.kind) ?_ | refine cC (zc6 env o vs ss) ?_)
    refine⟨(i+1,n+(1-zai o.kind)),⟨by simp only; omega, ?_,by simp only; omega,by simp only; omega⟩, ?_, ?_, ?_⟩
    ·simp only
     rw [up hok]
     congr 1
     omega
    ·(simp only [go_sem,F])
    ·(simp only [go_sem,F])
    ·simp only; omega
  | false=>
    rw [show zea a1 a8 l vs ss=errV (-1) (sentV a1) by unfold zea; rw [zfQ hl (by rw [no hok]; simp)]; rfl]
    rcases zhr hok with b1 | ⟨b1,b2⟩ | ⟨b1,b2,b3⟩
    ·have F:=ai k1<|ai k2<|ai ho<|ai opAV.eq_1<|ai b1<|g1
     repeat (first | refine st ?_ | refine cC (zcj env o.kind) ?_ | refine cC (zc6 env o vs ss) ?_ | refine cC (zca env _ a1) ?_)
     exact aR
    ·have F:=ai k1<|ai k2<|ai ho<|ai opAV.eq_1<|ai b1<|ai b2<|g1
     repeat (first | refine st ?_ | refine cC (zcj env o.kind) ?_ | refine cC (zc6 env o vs ss) ?_ | refine cC (zca env _ a1) ?_)
     exact aR
    ·have F:=ai k1<|ai k2<|ai ho<|ai opAV.eq_1<|ai b1<|ai b2<|ai b3<|g1
     repeat (first | refine st ?_ | refine cC (zcj env o.kind) ?_ | refine cC (zc6 env o vs ss) ?_ | refine cC (zca env _ a1) ?_)
     exact aR
 ·have k1: ¬(i:Int)< (l.length:Int):=by omega
  have hend:=zpv (by omega) hh
  by_cases h1:n=1
  ·subst h1
   rw [show zea a1 a8 l vs ss=nilE by unfold zea; rw [zkn hl hend]; rfl]
   have F:=ai k1<|g1
   repeat (first | refine st ?_ | refine cC (zca env _ a1) ?_)
   exact aR
  ·rw [show zea a1 a8 l vs ss=errV (-1) (sentV a1) by unfold zea; rw [zfQ hl (by rw [hend]; simpa using h1)]; rfl]
   have k2:(n != 1)=true:=by simpa using h1
   have F:=ai k1<|ai k2<|g1
   repeat (first | refine st ?_ | refine cC (zca env _ a1) ?_)
   exact aR
theorem zhb (env:Env) (l:List OpD) (vs ss:Int):Con Tryz.prog env 246 [opsAV l,I vs,I ss] (I (ze8 l vs ss)):=by
 refine zaa Tryz.func246 rfl Tryz.call246 (by rw [Tryz.ntmps246]; simp) ?_
 rw [Tryz.ntmps246,Tryz.results246]
 by_cases hl:32<l.length
 ·have hL:(32:Int)<l.length:=by omega
  rw [zhU vs ss hl]
  have F:=hL
  repeat refine st ?_
  exact aR
 have hL: ¬(32:Int)<l.length:=by omega
 have F:=hL
 repeat refine st ?_
 refine zac (D:=Nat×Int) (fun d _=>[(0,opsAV l),(1,I vs),(2,I ss),(7,I d.2),(8,I d.1)]) (fun _ _=>[]) (fun d _ _=>d.1<=l.length/\hgt vs ss l 0=hgt vs ss (l.drop d.1) d.2/\0<=d.2/\d.2<=d.1) (fun d=>l.length-d.1) (0,0) ?_ ?_ ?_ ?_
 ·exact⟨Nat.zero_le _,rfl,Int.le_refl _,Int.le_refl _⟩
 ·(simp only [go_sem,F])
 ·(simp only [go_sem,F])
 rintro⟨i,n⟩ ws esc ⟨hi,hh,h0,hn⟩
 simp only at hi hh h0 hn
 by_cases hlt:i<l.length
 ·obtain⟨o,ho,_⟩:=zan hlt
  obtain⟨up,no⟩:=zmc ho hh
  have k1:=nlt hlt
  have k2:=zab hlt (by omega)
  have hop:=zfl o.kind
  cases hok:zeu vs ss n o with
  | true=>
    obtain⟨b1,b2,b3⟩:=zjb hok
    have w1:IntKind.i64.wrap (n-zai o.kind)=n-zai o.kind:=zbn (by omega) (by omega)
    have w2:IntKind.i64.wrap (n-zai o.kind+1)=n-zai o.kind+1:=zbn (by omega) (by omega)
    have F:=ai k1<|ai k2<|ai ho<|ai opAV.eq_1<|ai b1<|ai b2<|ai b3<|ai w1<|w2
    repeat (first | refine st ?_ | refine cC (zci env o.kind) ?_ | refine cC (zc4 env o vs ss) ?_)
    refine⟨(i+1,n-zai o.kind+1),⟨by simp only; omega,up hok,by simp only; omega,by simp only; omega⟩, ?_, ?_, ?_⟩
    ·(simp only [go_sem,F])
    ·(simp only [go_sem,F])
    ·simp only; omega
  | false=>
    rw [zfQ hl (by rw [no hok]; simp)]
    rcases zhr hok with b1 | ⟨b1,b2⟩ | ⟨b1,b2,b3⟩
    ·have F:=ai k1<|ai k2<|ai ho<|ai opAV.eq_1<|b1
     repeat (first | refine st ?_ | refine cC (zci env o.kind) ?_ | refine cC (zc4 env o vs ss) ?_)
     exact aR
    ·have F:=ai k1<|ai k2<|ai ho<|ai opAV.eq_1<|ai b1<|b2
     repeat (first | refine st ?_ | refine cC (zci env o.kind) ?_ | refine cC (zc4 env o vs ss) ?_)
     exact aR
    ·have F:=ai k1<|ai k2<|ai ho<|ai opAV.eq_1<|ai b1<|ai b2<|b3
     repeat (first | refine st ?_ | refine cC (zci env o.kind) ?_ | refine cC (zc4 env o vs ss) ?_)
     exact aR
 ·have k1: ¬(i:Int)< (l.length:Int):=by omega
  have hend:=zpv (by omega) hh
  by_cases h1:n=1
  ·subst h1
   rw [zkn hl hend]
   have F:=k1
   repeat refine st ?_
   exact aR
  ·rw [zfQ hl (by rw [hend]; simpa using h1)]
   have k2:(n != 1)=true:=by simpa using h1
   have F:=ai k1<|k2
   repeat refine st ?_
   exact aR
end

end Go.Proofs.YtnbjaghjdeicmaaGreatDoor