/- The document's words on legal states. -/
import Derived.Test.YtnbjaghjdeicmaaGreatDoorD16
import Derived.Test.YtnbjaghjdeicmaaGreatDoorD8
import Derived.Test.YtnbjaghjdeicmaaGreatDoorD6
import Derived.Test.YtnbjaghjdeicmaaGreatDoorD17
import Derived.Test.YtnbjaghjdeicmaaGreatDoorD4
import Derived.Test.YtnbjaghjdeicmaaGreatDoorD14
set_option maxRecDepth 100000
set_option maxHeartbeats 8000000
set_option linter.unusedSimpArgs false
namespace Go.Proofs.YtnbjaghjdeicmaaGreatDoor
open Go.RowKit
section
theorem zim (env:Env):Con Tryz.prog env 93 [nilS] (.own 3 1 []):=(zb7 env [] (by simp)).args (Strs.cons (Str.nil 1) Strs.nil)
theorem zaL (env:Env) (c:ChD):Con Tryz.prog env 140 [zaj c] (zaq c):=by
 refine zaa Tryz.func140 rfl Tryz.call140 (by rw [Tryz.ntmps140]; simp) ?_
 rw [Tryz.ntmps140,Tryz.results140]
 have F:=ai zaj.eq_1<|ai tabCells.eq_1<|zaq.eq_1
 repeat refine st ?_
 exact aR
theorem zax (env:Env) (c:ChD) (hs:Small c):Con Tryz.prog env 64 [zaj c] (.agg (chAV c)):=by
 have f0:=zgY env c hs
 unfold chAV at f0
 refine zaa Tryz.func64 rfl Tryz.call64 (by rw [Tryz.ntmps64]; simp) ?_
 rw [Tryz.ntmps64,Tryz.results64]
 have F:=ai zaj.eq_1<|tabCells.eq_1
 repeat (first | refine st ?_ | refine cC f0 ?_)
 (refine zaf ?_; show (zao _ _ _).run _=some _; simp only [go_sem,F])
 rfl
theorem zfW (env:Env) (c:ChD) (hc:c.trans.length<=4096) (s:List UInt8):Con Tryz.prog env 52 [zaj c,Sg s] (I (evI c s)):=zkV env c (by omega) _ _ s
def tatL (c:ChD) (i e:Int):List Nat:=if e<0 then [] else atL c i e
theorem zrF (c:ChD) (i e:Int):(atL c i e).length<=c.trans.length:=zpP ..
theorem znM {c:ChD} {i e:Int} {q:Nat} (hq:idxP (i,e) (keysTo c c.trans.length) 0=some q):(zco c)[q]? =some [.agg [I i,I e], .seq 1 ((atL c i e).map zad)]:=by
 have:=(zhd hq).2
 unfold zco
 rw [List.getElem?_map,Nat.sub_zero] at*
 rw [this]
 rfl
theorem zjO (env:Env) (c:ChD) (hc:c.trans.length<=4096) (i e:Int):Con Tryz.prog env 229 [zaj c,I i,I e] (.own 3 1 ((tatL c i e).map zad)):=by
 have hl:=zrF c i e
 have hm:=zqm c i e
 unfold tatL
 by_cases h:e<0
 ·rw [if_pos h]
  refine zan Tryz.func229 rfl Tryz.call229 (by rw [Tryz.ntmps229]; simp) ?_
  rw [Tryz.ntmps229,Tryz.results229]
  have F:=ai zaj.eq_1<|ai tabCells.eq_1<|h
  repeat refine st ?_
  (refine zaf ?_; refine⟨_,(by show (zao _ _ _).run _=some _; simp only [go_sem,F]; rfl), ?_⟩)
  exact RStr.own_nil _ _ (by decide)
 ·rw [if_neg h]
  cases hq:idxP (i,e) (keysTo c c.trans.length) 0 with
  | none=>
    rw [hq] at hm
    have f0:=zim env
    rw [show atL c i e=[] from ziR (zfg hq)]
    refine zaa Tryz.func229 rfl Tryz.call229 (by rw [Tryz.ntmps229]; simp) ?_
    rw [Tryz.ntmps229,Tryz.results229]
    have F:=ai zaj.eq_1<|ai tabCells.eq_1<|ai h<|hm
    repeat (first | refine st ?_ | refine cC f0 ?_)
    exact aR
  | some q=>
    rw [hq] at hm
    have hk:=znM hq
    have f0:=zb7 env ((atL c i e).map zad) (by rw [List.length_map]; omega)
    refine zaa Tryz.func229 rfl Tryz.call229 (by rw [Tryz.ntmps229]; simp) ?_
    rw [Tryz.ntmps229,Tryz.results229]
    have F:=ai zaj.eq_1<|ai tabCells.eq_1<|ai h<|ai hm<|hk
    repeat (first | refine st ?_ | refine cC f0 ?_)
    exact aR
theorem zlv (env:Env) (c:ChD) (hc:c.trans.length<=4096) (i:Int):Con Tryz.prog env 228 [zaj c,I i] (.own 3 1 ((atL c i (-1)).map zad)):=by
 have hl:=zrF c i (-1)
 have hm:=zqm c i (-1)
 cases hq:idxP (i, -1) (keysTo c c.trans.length) 0 with
 | none=>
   rw [hq] at hm
   have f0:=zim env
   rw [show atL c i (-1)=[] from ziR (zfg hq)]
   refine zaa Tryz.func228 rfl Tryz.call228 (by rw [Tryz.ntmps228]; simp) ?_
   rw [Tryz.ntmps228,Tryz.results228]
   have F:=ai zaj.eq_1<|ai tabCells.eq_1<|hm
   repeat (first | refine st ?_ | refine cC f0 ?_)
   exact aR
 | some q=>
   rw [hq] at hm
   have hk:=znM hq
   have f0:=zb7 env ((atL c i (-1)).map zad) (by rw [List.length_map]; omega)
   refine zaa Tryz.func228 rfl Tryz.call228 (by rw [Tryz.ntmps228]; simp) ?_
   rw [Tryz.ntmps228,Tryz.results228]
   have F:=ai zaj.eq_1<|ai tabCells.eq_1<|ai hm<|hk
   repeat (first | refine st ?_ | refine cC f0 ?_)
   exact aR
theorem zeY (env:Env) (c:ChD) (i:Int):Con Tryz.prog env 169 [zaj c,I i] (B (inZ c i)):=by
 unfold inZ
 by_cases h0:0<=i
 ·by_cases h1:i< (c.states.length:Int)
  ·refine zaa Tryz.func169 rfl Tryz.call169 (by rw [Tryz.ntmps169]; simp) ?_
   rw [Tryz.ntmps169,Tryz.results169]
   have F:=ai zaj.eq_1<|ai tabCells.eq_1<|ai h0<|h1
   repeat refine st ?_
   exact aR
  ·refine zaa Tryz.func169 rfl Tryz.call169 (by rw [Tryz.ntmps169]; simp) ?_
   rw [Tryz.ntmps169,Tryz.results169]
   have F:=ai zaj.eq_1<|ai tabCells.eq_1<|ai h0<|h1
   repeat refine st ?_
   exact aR
 ·refine zaa Tryz.func169 rfl Tryz.call169 (by rw [Tryz.ntmps169]; simp) ?_
  rw [Tryz.ntmps169,Tryz.results169]
  have F:=ai zaj.eq_1<|ai tabCells.eq_1<|h0
  repeat refine st ?_
  exact aR
def ztF (c:ChD) (i:Int):List Nat:=if inZ c (if i= -1 then c.initial else i)=true then sbL c (if i= -1 then c.initial else i).toNat else []
theorem zjN (env:Env) (c:ChD) (h:Full c) (i:Int):Con Tryz.prog env 86 [zaj c,I i] (.own 3 1 ((ztF c i).map zad)):=by
 have hlen:=h.few
 unfold ztF
 by_cases e:i= -1
 ·subst e
  simp only [if_true]
  obtain⟨s,hs,hini,_⟩:=h.topS
  have hi:=(List.getElem?_eq_some_iff.1 hs).1
  have f0:=zeY env c c.initial
  have hz:inZ c c.initial=true:=by rw [hini]; exact zaS.2 hi
  rw [hz] at f0
  rw [hz,if_pos rfl]
  have f1:=zb7 env ((sbL c (iniN c)).map zad) (by rw [List.length_map]; have:=zte h (iniN c); omega)
  have hb:(begE c c.states.length)[iniN c]? =some [.seq 1 ((sbL c (iniN c)).map zad)]:=by unfold begE; rw [List.getElem?_map,List.getElem?_range hi]; rfl
  have hbl:(begE c c.states.length).length=c.states.length:=by simp [begE]
  have g0:((iniN c:Nat):Int)< (c.states.length:Int):=by omega
  rw [hini] at f0 |-
  rw [Int.toNat_natCast]
  unfold zaj tabCells at f0 |-
  rw [hini] at f0 |-
  refine zaa Tryz.func86 rfl Tryz.call86 (by rw [Tryz.ntmps86]; simp) ?_
  rw [Tryz.ntmps86,Tryz.results86]
  have F:=ai hb<|ai hbl<|g0
  repeat (first | refine st ?_ | refine cC f0 ?_ | refine cC f1 ?_)
  exact aR
 ·rw [if_neg e]
  have e1:(i == -1)=false:=by simpa using e
  have f0:=zeY env c i
  cases hz:inZ c i with
  | false=>
    rw [hz] at f0
    rw [if_neg (by simp)]
    unfold zaj tabCells at f0 |-
    refine zan Tryz.func86 rfl Tryz.call86 (by rw [Tryz.ntmps86]; simp) ?_
    rw [Tryz.ntmps86,Tryz.results86]
    have F:=e1
    repeat (first | refine st ?_ | refine cC f0 ?_)
    (refine zaf ?_; refine⟨_,(by show (zao _ _ _).run _=some _; simp only [go_sem,F]; rfl), ?_⟩)
    exact RStr.own_nil _ _ (by decide)
  | true=>
    obtain⟨k,s,rfl,hs,ha⟩:=zcL hz
    have hi:=(List.getElem?_eq_some_iff.1 hs).1
    rw [hz] at f0
    rw [if_pos rfl,Int.toNat_natCast]
    have f1:=zb7 env ((sbL c k).map zad) (by rw [List.length_map]; have:=zte h k; omega)
    have hb:(begE c c.states.length)[k]? =some [.seq 1 ((sbL c k).map zad)]:=by unfold begE; rw [List.getElem?_map,List.getElem?_range hi]; rfl
    have hbl:(begE c c.states.length).length=c.states.length:=by simp [begE]
    have g0:((k:Nat):Int)< (c.states.length:Int):=by omega
    unfold zaj tabCells at f0 |-
    refine zaa Tryz.func86 rfl Tryz.call86 (by rw [Tryz.ntmps86]; simp) ?_
    rw [Tryz.ntmps86,Tryz.results86]
    have F:=ai hb<|ai hbl<|ai g0<|e1
    repeat (first | refine st ?_ | refine cC f0 ?_ | refine cC f1 ?_)
    exact aR
theorem zbA (env:Env) (c:ChD) (h:Full c) (i:Int):Con Tryz.prog env 175 [zaj c,I i] (.own 3 1 ((if i= -1\/inZ c i=true then kidsL c i true else []).map zad)):=by
 have hlen:=h.few
 have f0:=zeY env c i
 have f1:=zc9 env c i (by omega)
 unfold chAV at f1
 unfold zaj tabCells at f0 |-
 by_cases e:i= -1
 ·subst e
  have hz:inZ c (-1)=false:=by unfold inZ; simp
  rw [hz] at f0
  rw [if_pos (.inl rfl)]
  refine zaa Tryz.func175 rfl Tryz.call175 (by rw [Tryz.ntmps175]; simp) ?_
  rw [Tryz.ntmps175,Tryz.results175]
  repeat (first | refine st0 ?_ | refine cC0 f0 ?_ | refine cC0 f1 ?_)
  exact aR0
 ·have e1:(i != -1)=true:=by simpa using e
  cases hz:inZ c i with
  | false=>
    rw [hz] at f0
    rw [if_neg (by simp [e])]
    refine zan Tryz.func175 rfl Tryz.call175 (by rw [Tryz.ntmps175]; simp) ?_
    rw [Tryz.ntmps175,Tryz.results175]
    have F:=e1
    repeat (first | refine st ?_ | refine cC f0 ?_ | refine cC f1 ?_)
    (refine zaf ?_; refine⟨_,(by show (zao _ _ _).run _=some _; simp only [go_sem,F]; rfl), ?_⟩)
    exact RStr.own_nil _ _ (by decide)
  | true=>
    rw [hz] at f0
    rw [if_pos (.inr rfl)]
    refine zaa Tryz.func175 rfl Tryz.call175 (by rw [Tryz.ntmps175]; simp) ?_
    rw [Tryz.ntmps175,Tryz.results175]
    have F:=e1
    repeat (first | refine st ?_ | refine cC f0 ?_ | refine cC f1 ?_)
    exact aR
def memP (c:ChD) (i:Int) (k:Nat):Bool:=match c.states[k]? with
 | some s=>inZ c i&&((s.parent==i)&&zaD s)
 | none=>false
def memL (c:ChD) (i:Int):List Nat:=(List.range c.states.length).filter (memP c i)
theorem zso {c:ChD} (i:Int) (hz:inZ c i=true):memL c i=(kidsL c i false).filter fun k:Nat=> !inL (kidsL c i true) (k:Int):=by
 unfold memL kidsL za4
 rw [List.filter_filter]
 apply List.filter_congr
 intro k hk
 have hk:=List.mem_range.1 hk
 obtain⟨s,hs⟩: ∃s,c.states[k]? =some s:=⟨c.states[k],List.getElem?_eq_getElem hk⟩
 have e1:zb6 c i false k=(s.parent==i):=by unfold zb6; rw [hs]; simp
 have e2:inL ((List.range c.states.length).filter (zb6 c i true)) (k:Int)=((s.parent==i)&& !zaD s):=by
  rw [Bool.eq_iff_iff,zjf]
  constructor
  ·rintro⟨j,hj,e⟩
   have:j=k:=by omega
   subst this
   have:=(List.mem_filter.1 hj).2
   unfold zb6 at this
   rw [hs] at this
   simpa using this
  ·intro e
   refine⟨k,List.mem_filter.2 ⟨List.mem_range.2 hk, ?_⟩,rfl⟩
   unfold zb6
   rw [hs]
   simpa using e
 unfold memP
 rw [e1,e2,hs]
 simp only [hz,Bool.true_and]
 cases (s.parent==i)<;>cases zaD s<;>rfl
def zhJ (K R:List Nat) (j:Nat):List Nat:=(K.take j).filter fun k:Nat=> !inL R (k:Int)
theorem zov {K R:List Nat} {j k:Nat} (h:K[j]? =some k):zhJ K R (j+1)=if inL R (k:Int) then zhJ K R j else zhJ K R j++[k]:=by
 unfold zhJ
 rw [List.take_add_one,h,List.filter_append]
 cases hb:inL R (k:Int)<;>simp [hb]
theorem zqn (K R:List Nat) (j:Nat):(zhJ K R j).length<=K.length:=by
 unfold zhJ
 exact Nat.le_trans (List.length_filter_le ..) (by rw [List.length_take]; omega)
theorem znW (env:Env) (c:ChD) (h:Full c) (i:Int):Con Tryz.prog env 269 [zaj c,I i] (.own 3 1 ((memL c i).map zad)):=by
 have hlen:=h.few
 have f0:=zeY env c i
 cases hz:inZ c i with
 | false=>
   rw [hz] at f0
   have hm:memL c i=[]:=by
    unfold memL
    rw [List.filter_eq_nil_iff]
    intro k _
    unfold memP
    cases c.states[k]? with
    | none=>simp
    | some s=>simp [hz]
   rw [hm]
   unfold zaj tabCells at f0 |-
   refine zan Tryz.func269 rfl Tryz.call269 (by rw [Tryz.ntmps269]; simp) ?_
   rw [Tryz.ntmps269,Tryz.results269]
   repeat (first | refine st0 ?_ | refine cC0 f0 ?_)
   (refine zaf ?_; refine⟨_,(by show (zao _ _ _).run _=some _; simp only [go_sem]; rfl), ?_⟩)
   exact RStr.own_nil _ _ (by decide)
 | true=>
   rw [hz] at f0
   rw [zso i hz]
   have f1:=zc9 env c i (by omega)
   have f2:=zgX env c i (by omega)
   unfold chAV at f1 f2
   have hKl:=zbb h.toRight i false
   have hRl:=zbb h.toRight i true
   generalize kidsL c i true=R at*
   generalize kidsL c i false=K at*
   unfold zaj tabCells at f0 |-
   refine zaa Tryz.func269 rfl Tryz.call269 (by rw [Tryz.ntmps269]; simp) ?_
   rw [Tryz.ntmps269,Tryz.results269]
   repeat (first | refine st0 ?_ | refine cC0 f0 ?_ | refine cC0 f1 ?_ | refine cC0 f2 ?_)
   refine zaX 6 6 3 1 ?_
   refine zac (D:=Nat) (fun j vs=>[(5, .row 18 (vs 18)),(6, .row 6 (vs 6)),(24, .row 24 (vs 24)),(25,I K.length),(26,I j)]) (fun j _=>[(6,⟨1,(zhJ K R j).map zad,3,true⟩),(18,⟨1,R.map zad,3,true⟩),(24,⟨1,K.map zad,3,true⟩)]) (fun j _ esc=>j<=K.length/\esc 6=false) (fun j=>K.length-j) 0 ?_ ?_ ?_ ?_
   ·exact⟨Nat.zero_le _,rfl⟩
   ·(simp only [go_sem])
   ·(simp only [go_sem])
    try rfl
   rintro j ws esc ⟨hj,e0⟩
   by_cases hlt:j<K.length
   ·obtain⟨k,hk⟩: ∃k,K[j]? =some k:=⟨K[j],List.getElem?_eq_getElem hlt⟩
    have q1:=nlt hlt
    have q2:=zab hlt (by omega)
    have f3:=zd6 env R k (by omega)
    have hil:=zqn K R j
    have hf:Fits ((zhJ K R j).length+1) 8:=zai (by omega) (by omega)
    have hn:=zov (R:=R) hk
    cases hb:inL R k with
    | true=>
      rw [hb] at f3
      rw [hb,if_pos rfl] at hn
      have F:=ai zad.eq_1<|ai q1<|ai q2<|ai hk<|ai hf<|e0
      repeat (first | refine st ?_ | refine cC f3 ?_)
      refine⟨j+1,⟨hlt,by simp only [go_sem,e0]⟩, ?_, ?_,by omega⟩
      ·(simp only [go_sem,F])
      ·have F:=ai zad.eq_1<|hn
       (simp only [go_sem,List.map_append,F])
    | false=>
      rw [hb] at f3
      rw [hb,if_neg Bool.false_ne_true] at hn
      have F:=ai zad.eq_1<|ai q1<|ai q2<|ai hk<|ai hf<|e0
      repeat (first | refine st ?_ | refine cC f3 ?_)
      refine⟨j+1,⟨hlt,by simp only [go_sem,e0]⟩, ?_, ?_,by omega⟩
      ·(simp only [go_sem,F])
      ·have F:=ai zad.eq_1<|hn
       (simp only [go_sem,List.map_append,F])
   ·obtain rfl:j=K.length:=by omega
    have q1: ¬(K.length:Int)< (K.length:Int):=by omega
    have hall:zhJ K R K.length=K.filter fun k:Nat=> !inL R (k:Int):=by unfold zhJ; rw [List.take_length]
    have F:=ai q1<|ai hall<|e0
    repeat refine st ?_
    exact aR
end
section
theorem Str.seq {sz:Nat} {es' es:List (List AV)} (hl:es'.length=es.length) (hs: ∀(i:Nat) (e' e:List AV),es'[i]? =some e'->es[i]? =some e->Strs e' e):Str (.seq sz es') (.seq sz es):=fun S w v h=>by
 have cell: ∀ {i j:Nat} {c:AV},cellAt es i j=some c-> ∃c',cellAt es' i j=some c'/\Str c' c:=fun {i j c} hc=>by
  unfold cellAt at hc |-
  cases he:es[i]? with
  | none=>rw [he] at hc; cases hc
  | some e=>
    rw [he] at hc
    have hi:=(List.getElem?_eq_some_iff.1 he).1
    have he':es'[i]? =some es'[i]:=List.getElem?_eq_getElem (by omega)
    obtain⟨h1,h2⟩:=hs i _ e he' he
    have hj:=(List.getElem?_eq_some_iff.1 (show e[j]? =some c from hc)).1
    rw [he']
    exact⟨es'[i][j],List.getElem?_eq_getElem (by omega),h2 j _ c (List.getElem?_eq_getElem (by omega)) hc⟩
 cases h with
 | seq A n cap sz es' b o u hn hcap hA hz hc hr=>
   refine .seq A n cap sz es b o u (by omega) hcap hA (fun i e he=> ?_) (fun i j c h=> ?_) fun i j c h=> ?_
   ·have hi:=(List.getElem?_eq_some_iff.1 he).1
    have he':es'[i]? =some es'[i]:=List.getElem?_eq_getElem (by omega)
    rw [<-(hs i _ e he' he).1]
    exact hz i _ he'
   ·obtain⟨c',h1,_⟩:=cell h
    exact hc i j c' h1
   ·obtain⟨c',h1,h2⟩:=cell h
    exact h2 _ _ _ (hr i j c' h1)
theorem Strs.one {c' c:AV} (h:Str c' c):Strs [c'] [c]:= .cons h .nil
def Strss (es' es:List (List AV)):Prop:=es'.length=es.length/\ ∀(i:Nat) (e' e:List AV),es'[i]? =some e'->es[i]? =some e->Strs e' e
theorem Strss.nil:Strss [] []:=⟨rfl,fun i c' c h _=>by simp at h⟩
theorem Strss.cons {e' e:List AV} {es' es:List (List AV)} (h:Strs e' e) (hs:Strss es' es):Strss (e'::es') (e::es):=⟨by simp [hs.1],fun i a b ha hb=>by
 cases i with
 | zero=>
   simp only [List.getElem?_cons_zero,Option.some.injEq] at ha hb
   subst ha hb
   exact h
 | succ i=>exact hs.2 i a b (by simpa using ha) (by simpa using hb)⟩
theorem Str.seqs {sz:Nat} {es' es:List (List AV)} (h:Strss es' es):Str (.seq sz es') (.seq sz es):= .seq h.1 h.2
end
section
def zg3 (c:ChD):Bool:=decide ((c.states.length:Int)<=40)&&decide ((c.trans.length:Int)<=70)&&decide ((c.vars.length:Int)<=10)
theorem zfA (env:Env) (c:ChD):Con Tryz.prog env 12 [.agg (chAV c)] (B ((chk c).1==0)):=by
 have f0:=zok env c
 unfold chkT at f0
 refine zaa Tryz.func12 rfl Tryz.call12 (by rw [Tryz.ntmps12]; simp) ?_
 rw [Tryz.ntmps12,Tryz.results12]
 repeat (first | refine st0 ?_ | refine cC0 f0 ?_)
 exact aR0
def zhh (c:ChD):Bool:=zg3 c&&((chk c).1==0)
theorem zuL {c:ChD} (h:(chk c).1=0):chk c=(0, -1):=by
 unfold chk at h |-
 split at h
 ·simp at h
 rename_i h1
 rw [if_neg h1]
 split at h
 ·simp at h
 rename_i h2
 rw [if_neg h2]
 split at h
 ·simp at h
 rename_i h3
 try simp only at h |-
 split at h
 ·simp at h
 rename_i h4
 try simp only at h |-
 split at h
 ·simp at h
 rename_i h5
 rw [if_neg h5]
 split at h
 ·simp at h
 ·rfl
theorem zqR {c:ChD} (h:zhh c=true):Full c:=by
 unfold zhh at h
 rw [Bool.and_eq_true,beq_iff_eq] at h
 exact full_of h.2
end
section
def zew (c:ChD) (i:Int) (s:List UInt8) (k:Nat):Bool:=match c.trans[k]? with | some t=>decide (t.src=i/\t.event=s) | none=>false
def refAtTo (c:ChD) (i:Int) (s:List UInt8) (j:Nat):List Nat:=(List.range j).filter (zew c i s)
theorem zkb (p:Nat->Bool) (j:Nat):(List.range (j+1)).filter p=if p j then(List.range j).filter p++[j] else(List.range j).filter p:=by
 rw [List.range_succ,List.filter_append]
 cases hb:p j<;>simp [hb]
theorem zeG (p:Nat->Bool) (j:Nat):((List.range j).filter p).length<=j:=Nat.le_trans (List.length_filter_le ..) (by simp)
theorem ztJ (env:Env) (c:ChD) (hc:c.trans.length<=4000) (i:Int) (s:List UInt8):Con Tryz.prog env 179 [.agg (chAV c),I i,Sg s] (.own 3 1 ((refAtTo c i s c.trans.length).map zad)):=by
 refine zaa Tryz.func179 rfl Tryz.call179 (by rw [Tryz.ntmps179]; simp) ?_
 rw [Tryz.ntmps179,Tryz.results179]
 have F:=chAV.eq_1
 repeat refine st ?_
 refine zac (D:=Nat) (fun j vs=>[(1,I i),(2,Sg s),(3, .loc 3 (vs 3) 0 0),(7, .row 9 (vs 9)),(8,I j)]) (fun j _=>[(3,⟨5,[chAV c],26,false⟩),(9,⟨1,(refAtTo c i s j).map zad,3,true⟩)]) (fun j _ esc=>j<=c.trans.length/\esc 9=false) (fun j=>c.trans.length-j) 0 ?_ ?_ ?_ ?_
 ·exact⟨Nat.zero_le _,rfl⟩
 ·(simp only [go_sem,F])
 ·have F:=chAV.eq_1
  (simp only [go_sem,F])
  try rfl
 rintro j ws esc ⟨hj,e0⟩
 by_cases hlt:j<c.trans.length
 ·obtain⟨t,ht⟩: ∃t,c.trans[j]? =some t:=⟨c.trans[j],List.getElem?_eq_getElem hlt⟩
  have g1:=nlt hlt
  have g2:=zab hlt (by omega)
  have hn:refAtTo c i s (j+1)=if zew c i s j then refAtTo c i s j++[j] else refAtTo c i s j:=zkb (zew c i s) j
  have hl:(refAtTo c i s j).length<=j:=zeG (zew c i s) j
  have hf:Fits ((refAtTo c i s j).length+1) 8:=zai (by omega) (by omega)
  have hp:zew c i s j=decide (t.src=i/\t.event=s):=by unfold zew; rw [ht]
  rw [hp] at hn
  by_cases h1:t.src=i
  ·by_cases h2:t.event=s
   ·rw [if_pos (by simp [h1,h2])] at hn
    have b1:(t.src==i)=true:=by simpa using h1
    have b2:(t.event==s)=true:=by simpa using h2
    have F:=ai chAV.eq_1<|ai trAV.eq_1<|ai g1<|ai g2<|ai ht<|ai b1<|ai b2<|ai hf<|e0
    repeat refine st ?_
    refine⟨j+1,⟨hlt,by simp only [go_sem,e0]⟩, ?_, ?_,by omega⟩
    ·(simp only [go_sem,F])
    ·have F:=ai chAV.eq_1<|ai zad.eq_1<|hn
     (simp only [go_sem,List.map_append,F])
   ·rw [if_neg (by simp [h2])] at hn
    have b1:(t.src==i)=true:=by simpa using h1
    have b2:(t.event==s)=false:=by simpa using h2
    have F:=ai chAV.eq_1<|ai trAV.eq_1<|ai g1<|ai g2<|ai ht<|ai b1<|ai b2<|ai hf<|e0
    repeat refine st ?_
    refine⟨j+1,⟨hlt,by simp only [go_sem,e0]⟩, ?_, ?_,by omega⟩
    ·(simp only [go_sem,F])
    ·have F:=ai chAV.eq_1<|ai zad.eq_1<|hn
     (simp only [go_sem,List.map_append,F])
  ·rw [if_neg (by simp [h1])] at hn
   have b1:(t.src==i)=false:=by simpa using h1
   have F:=ai chAV.eq_1<|ai trAV.eq_1<|ai g1<|ai g2<|ai ht<|ai b1<|ai hf<|e0
   repeat refine st ?_
   refine⟨j+1,⟨hlt,by simp only [go_sem,e0]⟩, ?_, ?_,by omega⟩
   ·(simp only [go_sem,F])
   ·have F:=ai chAV.eq_1<|ai zad.eq_1<|hn
    (simp only [go_sem,List.map_append,F])
 ·obtain rfl:j=c.trans.length:=by omega
  have g1: ¬(c.trans.length:Int)< (c.trans.length:Int):=by omega
  have F:=ai chAV.eq_1<|ai g1<|e0
  repeat refine st ?_
  exact aR
theorem zob (c:ChD) (i:Int):refAtTo c i [] c.trans.length=atL c i (-1):=by
 have:=ztx (c:=c) i [] (.inl rfl)
 rw [zml] at this
 rw [this]
 rfl
theorem zoa (c:ChD) (i:Int) {s:List UInt8} (hs:s≠[]):refAtTo c i s c.trans.length=tatL c i (evI c s):=by
 by_cases h:s∈evL c
 ·obtain⟨k,h1,_⟩:=zk2 h
  have:=ztx (c:=c) i s (.inr h)
  unfold tatL
  rw [if_neg (by omega),this]
  rfl
 ·unfold tatL
  rw [zre h,if_pos (by omega)]
  unfold refAtTo
  rw [List.filter_eq_nil_iff]
  intro k hk hp
  unfold zew at hp
  cases ht:c.trans[k]? with
  | none=>rw [ht] at hp; cases hp
  | some t=>
    rw [ht] at hp
    simp only [decide_eq_true_eq] at hp
    exact h (zns.2 ⟨hs,t,List.mem_of_getElem? ht,hp.2⟩)
end
section
theorem zfh (env:Env) (c:ChD) (hc:c.states.length<=4000) (act:List Int) (hl:act.length<=1000000):Con Tryz.prog env 171 [zaj c, .seq 1 (act.map intAV)] (.own 4 1 (flagA c.states.length act)):=by
 have f0:=zaL env c
 have f1:=zmM env c
 have hz:=zqT c.states.length
 have m1: ¬(16777216:Int)< (c.states.length:Int):=by omega
 have m2: ¬(281474976710656:Int)<1*(c.states.length:Int):=by omega
 have m3: ¬(c.states.length:Int)<0:=by omega
 have m4: ¬(281474976710656:Int)< (c.states.length:Int):=by omega
 unfold zaq at f0 f1
 unfold zaj at f0 |-
 refine zaa Tryz.func171 rfl Tryz.call171 (by rw [Tryz.ntmps171]; simp) ?_
 rw [Tryz.ntmps171,Tryz.results171]
 have F:=ai m1<|ai m2<|ai m3<|m4
 repeat (first | refine st ?_ | refine cC f0 ?_ | refine cC f1 ?_)
 refine zac (D:=Nat) (fun j vs=>[(5, .row 11 (vs 11)),(12, .seq 1 (act.map intAV)),(13,I act.length),(14,I j)]) (fun j _=>[(11,⟨1,flagA c.states.length (act.take j),4,true⟩)]) (fun j _ esc=>j<=act.length/\esc 11=false) (fun j=>act.length-j) 0 ?_ ?_ ?_ ?_
 ·exact⟨Nat.zero_le _,rfl⟩
 ·(simp only [go_sem,F])
 ·have F:=hz
  (simp only [go_sem,F])
 rintro j ws esc ⟨hj,e0⟩
 by_cases hlt:j<act.length
 ·obtain⟨x,hx⟩: ∃x,act[j]? =some x:=⟨act[j],List.getElem?_eq_getElem hlt⟩
  have q1:=nlt hlt
  have q2:=zab hlt (by omega)
  have ht:act.take (j+1)=act.take j++[x]:=by rw [List.take_add_one,hx]; rfl
  have hfl:=zdr c.states.length (act.take j)
  by_cases h0:0<=x
  ·obtain⟨k,rfl⟩:=zcU h0
   by_cases h1:k<c.states.length
   ·have q3:=nlt h1
    have hs:=zsz (act:=act.take j) h1
    have hat:=zhk (act:=act.take j) h1
    rw [<-ht] at hs
    have F:=ai hx<|ai q1<|ai q2<|ai q3<|ai hat<|ai hs<|ai hfl<|e0
    repeat refine st ?_
    refine⟨j+1,⟨hlt,by simp only [go_sem,e0]⟩, ?_, ?_,by omega⟩
    ·(simp only [go_sem,F])
    ·(simp only [go_sem,F])
   ·have q3: ¬(k:Int)< (c.states.length:Int):=by omega
    have hs:=zng (n:=c.states.length) (act:=act.take j) (i:=(k:Int)) (fun m hm=>by omega)
    rw [<-ht] at hs
    have F:=ai hx<|ai q1<|ai q2<|ai q3<|ai hfl<|e0
    repeat refine st ?_
    refine⟨j+1,⟨hlt,by simp only [go_sem,e0]⟩, ?_, ?_,by omega⟩
    ·(simp only [go_sem,F])
    ·have F:=hs
     (simp only [go_sem,F])
  ·have hs:=zng (n:=c.states.length) (act:=act.take j) (i:=x) (fun m hm=>by omega)
   rw [<-ht] at hs
   have F:=ai hx<|ai q1<|ai q2<|ai h0<|ai hfl<|e0
   repeat refine st ?_
   refine⟨j+1,⟨hlt,by simp only [go_sem,e0]⟩, ?_, ?_,by omega⟩
   ·(simp only [go_sem,F])
   ·have F:=hs
    (simp only [go_sem,F])
 ·obtain rfl:j=act.length:=by omega
  have q1: ¬(act.length:Int)< (act.length:Int):=by omega
  have hta:act.take act.length=act:=List.take_length
  have F:=ai q1<|ai hta<|e0
  repeat refine st ?_
  exact aR
theorem zi9 (env:Env) (n:Nat) (act:List Int) (ks:List Nat) (_hn:n<=4000) (hl:ks.length<=4000) (hk: ∀k∈ks,k<n):Con Tryz.prog env 174 [.seq 1 (flagA n act), .seq 1 (ks.map zad)] (I (manyI act ks:Nat)):=by
 have hfl:=zdr n act
 have z0:manyI act []=0:=rfl
 refine zaa Tryz.func174 rfl Tryz.call174 (by rw [Tryz.ntmps174]; simp) ?_
 rw [Tryz.ntmps174,Tryz.results174]
 repeat refine st0 ?_
 refine zac (D:=Nat) (fun j _=>[(0, .seq 1 (flagA n act)),(5,I (manyI act (ks.take j):Nat)),(8, .seq 1 (ks.map zad)),(9,I ks.length),(10,I j)]) (fun _ _=>[]) (fun j _ _=>j<=ks.length) (fun j=>ks.length-j) 0 ?_ ?_ ?_ ?_
 ·exact Nat.zero_le _
 ·have F:=z0
  (simp only [go_sem,F])
 ·(simp only [go_sem,z0])
 rintro j ws esc hj
 by_cases hlt:j<ks.length
 ·obtain⟨k,hk2⟩: ∃k,ks[j]? =some k:=⟨ks[j],List.getElem?_eq_getElem hlt⟩
  have hkn:=hk k (List.mem_of_getElem? hk2)
  have q1:=nlt hlt
  have q2:=zab hlt (by omega)
  have q3:=nlt hkn
  have hat:=zhk (act:=act) hkn
  have hm:=zl0 (act:=act) hk2
  have hle:=zl2 act (ks.take j)
  rw [List.length_take] at hle
  have q4:=zab (show manyI act (ks.take j)<ks.length by omega) (by omega)
  cases hb:act.contains (k:Int) with
  | true=>
    rw [hb] at hat hm
    rw [if_pos rfl] at hm
    have F:=ai zad.eq_1<|ai hk2<|ai q1<|ai q2<|ai q3<|ai q4<|ai hat<|hfl
    repeat refine st ?_
    refine⟨j+1,hlt, ?_, ?_,by omega⟩
    ·have F:=hm
     (simp only [go_sem,F])
    ·(simp only [go_sem,hm])
  | false=>
    rw [hb] at hat hm
    rw [if_neg Bool.false_ne_true,Nat.add_zero] at hm
    have F:=ai zad.eq_1<|ai hk2<|ai q1<|ai q2<|ai q3<|ai hat<|hfl
    repeat refine st ?_
    refine⟨j+1,hlt, ?_, ?_,by omega⟩
    ·have F:=hm
     (simp only [go_sem,F])
    ·(simp only [go_sem,hm])
 ·obtain rfl:j=ks.length:=by omega
  have q1: ¬(ks.length:Int)< (ks.length:Int):=by omega
  have hta:ks.take ks.length=ks:=List.take_length
  have F:=ai q1<|hta
  repeat refine st ?_
  exact aR
theorem zp8 {c:ChD} (h:Right c) {k:Nat} {s:StD} (hs:c.states[k]? =some s) (act:List Int):(s.parent<0/\decide (s.parent<0)=true)\/(¬s.parent<0/\decide (s.parent<0)=false/\0<=s.parent/\s.parent< (c.states.length:Int)/\(flagA c.states.length act)[s.parent.toNat]? =some [B (act.contains s.parent)]):=by
 have hi:=(List.getElem?_eq_some_iff.1 hs).1
 have h2:=(h.par k s hs).2
 by_cases e:s.parent<0
 ·exact .inl ⟨e,decide_eq_true e⟩
 ·refine .inr ⟨e,decide_eq_false e,by omega,by omega, ?_⟩
  rw [zhk (by omega)]
  rw [show ((s.parent.toNat:Nat):Int)=s.parent by omega]
theorem zsB (env:Env) (c:ChD) (h:Full c) (act:List Int) (k:Nat) (s:StD) (hs:c.states[k]? =some s):Con Tryz.prog env 172 [.agg (chAV c),zaj c, .seq 1 (flagA c.states.length act),I k] (B (fitB c act k s)):=by
 have hlen:=h.few
 have hi:=(List.getElem?_eq_some_iff.1 hs).1
 have q0:((k:Nat):Int)< (c.states.length:Int):=by omega
 have f0:=zbA env c h k
 rw [if_pos (.inr (zaS.2 hi))] at f0
 have hK:=zbb h.toRight k true
 have hKm: ∀j∈kidsL c k true,j<c.states.length:=fun j hj=>by have:=za5 h.toRight (zaW hj).1; omega
 have f1:=zi9 env c.states.length act (kidsL c k true) (by omega) (by omega) hKm
 have hfl:=zdr c.states.length act
 have hp:=zp8 h.toRight hs act
 have hF:fitB c act k s=(!zaD s&&(decide (s.parent<0)||act.contains s.parent)&&(if s.kind=1/\kidsL c k true≠[] then manyI act (kidsL c k true)==1 else if s.kind=2 then manyI act (kidsL c k true)==(kidsL c k true).length else true)):=rfl
 rw [hF]
 try clear hF
 generalize kidsL c k true=K at*
 unfold zaj at f0 |-
 by_cases e4:s.kind=4
 ·have b4:(s.kind==4)=true:=by simpa using e4
  have hm:zaD s=true:=by unfold zaD; rw [b4]; rfl
  rw [hm]
  refine zaa Tryz.func172 rfl Tryz.call172 (by rw [Tryz.ntmps172]; simp) ?_
  rw [Tryz.ntmps172,Tryz.results172]
  have F:=ai chAV.eq_1<|ai stAV.eq_1<|ai hs<|ai q0<|b4
  repeat (first | refine st ?_ | refine cC f0 ?_)
  exact aR
 have b4:(s.kind==4)=false:=by simpa using e4
 by_cases e5:s.kind=5
 ·have b5:(s.kind==5)=true:=by simpa using e5
  have hm:zaD s=true:=by unfold zaD; rw [b5,Bool.or_true]
  rw [hm]
  refine zaa Tryz.func172 rfl Tryz.call172 (by rw [Tryz.ntmps172]; simp) ?_
  rw [Tryz.ntmps172,Tryz.results172]
  have F:=ai chAV.eq_1<|ai stAV.eq_1<|ai hs<|ai q0<|ai b4<|b5
  repeat (first | refine st ?_ | refine cC f0 ?_)
  exact aR
 have b5:(s.kind==5)=false:=by simpa using e5
 have hm:zaD s=false:=by unfold zaD; rw [b4,b5]; rfl
 rw [hm]
 by_cases e1:s.kind=1
 ·have b1:(s.kind==1)=true:=by simpa using e1
  by_cases hk0:K=[]
  ·rw [if_neg (by simp [hk0]),if_neg (by omega)]
   have q1: ¬(0:Int)< (K.length:Int):=by rw [hk0]; simp
   rcases hp with⟨g0,g1⟩ | ⟨g0,g1,g2,g3,g4⟩
   ·refine zaa Tryz.func172 rfl Tryz.call172 (by rw [Tryz.ntmps172]; simp) ?_
    rw [Tryz.ntmps172,Tryz.results172]
    have F:=ai chAV.eq_1<|ai stAV.eq_1<|ai hs<|ai q0<|ai b4<|ai b5<|ai b1<|ai q1<|ai g0<|g1
    repeat (first | refine st ?_ | refine cC f0 ?_)
    exact aR
   ·refine zaa Tryz.func172 rfl Tryz.call172 (by rw [Tryz.ntmps172]; simp) ?_
    rw [Tryz.ntmps172,Tryz.results172]
    have F:=ai chAV.eq_1<|ai stAV.eq_1<|ai hs<|ai q0<|ai b4<|ai b5<|ai b1<|ai q1<|ai g0<|ai g1<|ai g2<|ai g3<|ai g4<|hfl
    repeat (first | refine st ?_ | refine cC f0 ?_)
    exact aR
  ·rw [if_pos ⟨e1,hk0⟩]
   have q1:(0:Int)< (K.length:Int):=by have:=List.length_pos_iff.2 hk0; omega
   by_cases hm1:manyI act K=1
   ·have hmi:((manyI act K:Nat):Int)=1:=by omega
    rw [hm1]
    rcases hp with⟨g0,g1⟩ | ⟨g0,g1,g2,g3,g4⟩
    ·refine zaa Tryz.func172 rfl Tryz.call172 (by rw [Tryz.ntmps172]; simp) ?_
     rw [Tryz.ntmps172,Tryz.results172]
     have F:=ai chAV.eq_1<|ai stAV.eq_1<|ai hs<|ai q0<|ai b4<|ai b5<|ai b1<|ai q1<|ai hmi<|ai g0<|g1
     repeat (first | refine st ?_ | refine cC f0 ?_ | refine cC f1 ?_)
     exact aR
    ·refine zaa Tryz.func172 rfl Tryz.call172 (by rw [Tryz.ntmps172]; simp) ?_
     rw [Tryz.ntmps172,Tryz.results172]
     have F:=ai chAV.eq_1<|ai stAV.eq_1<|ai hs<|ai q0<|ai b4<|ai b5<|ai b1<|ai q1<|ai hmi<|ai g0<|ai g1<|ai g2<|ai g3<|ai g4<|hfl
     repeat (first | refine st ?_ | refine cC f0 ?_ | refine cC f1 ?_)
     exact aR
   ·have hmi:(((manyI act K:Nat):Int) != 1)=true:=by simp; omega
    have hmb:(manyI act K==1)=false:=by simpa using hm1
    rw [hmb]
    refine zaa Tryz.func172 rfl Tryz.call172 (by rw [Tryz.ntmps172]; simp) ?_
    rw [Tryz.ntmps172,Tryz.results172]
    have F:=ai chAV.eq_1<|ai stAV.eq_1<|ai hs<|ai q0<|ai b4<|ai b5<|ai b1<|ai q1<|hmi
    repeat (first | refine st ?_ | refine cC f0 ?_ | refine cC f1 ?_)
    exact aR
 have b1:(s.kind==1)=false:=by simpa using e1
 rw [if_neg (fun e=>e1 e.1)]
 by_cases e2:s.kind=2
 ·have b2:(s.kind==2)=true:=by simpa using e2
  rw [if_pos e2]
  by_cases hm1:manyI act K=K.length
  ·have hmi:(((manyI act K:Nat):Int) != (K.length:Int))=false:=by simp; omega
   rw [hm1]
   rcases hp with⟨g0,g1⟩ | ⟨g0,g1,g2,g3,g4⟩
   ·refine zaa Tryz.func172 rfl Tryz.call172 (by rw [Tryz.ntmps172]; simp) ?_
    rw [Tryz.ntmps172,Tryz.results172]
    have F:=ai chAV.eq_1<|ai stAV.eq_1<|ai hs<|ai q0<|ai b4<|ai b5<|ai b1<|ai b2<|ai hmi<|ai g0<|g1
    repeat (first | refine st ?_ | refine cC f0 ?_ | refine cC f1 ?_)
    exact aR
   ·refine zaa Tryz.func172 rfl Tryz.call172 (by rw [Tryz.ntmps172]; simp) ?_
    rw [Tryz.ntmps172,Tryz.results172]
    have F:=ai chAV.eq_1<|ai stAV.eq_1<|ai hs<|ai q0<|ai b4<|ai b5<|ai b1<|ai b2<|ai hmi<|ai g0<|ai g1<|ai g2<|ai g3<|ai g4<|hfl
    repeat (first | refine st ?_ | refine cC f0 ?_ | refine cC f1 ?_)
    exact aR
  ·have hmi:(((manyI act K:Nat):Int) != (K.length:Int))=true:=by simp; omega
   have hmb:(manyI act K==K.length)=false:=by simpa using hm1
   rw [hmb]
   refine zaa Tryz.func172 rfl Tryz.call172 (by rw [Tryz.ntmps172]; simp) ?_
   rw [Tryz.ntmps172,Tryz.results172]
   have F:=ai chAV.eq_1<|ai stAV.eq_1<|ai hs<|ai q0<|ai b4<|ai b5<|ai b1<|ai b2<|hmi
   repeat (first | refine st ?_ | refine cC f0 ?_ | refine cC f1 ?_)
   exact aR
 ·have b2:(s.kind==2)=false:=by simpa using e2
  rw [if_neg e2]
  rcases hp with⟨g0,g1⟩ | ⟨g0,g1,g2,g3,g4⟩
  ·refine zaa Tryz.func172 rfl Tryz.call172 (by rw [Tryz.ntmps172]; simp) ?_
   rw [Tryz.ntmps172,Tryz.results172]
   have F:=ai chAV.eq_1<|ai stAV.eq_1<|ai hs<|ai q0<|ai b4<|ai b5<|ai b1<|ai b2<|ai g0<|g1
   repeat (first | refine st ?_ | refine cC f0 ?_)
   exact aR
  ·refine zaa Tryz.func172 rfl Tryz.call172 (by rw [Tryz.ntmps172]; simp) ?_
   rw [Tryz.ntmps172,Tryz.results172]
   have F:=ai chAV.eq_1<|ai stAV.eq_1<|ai hs<|ai q0<|ai b4<|ai b5<|ai b1<|ai b2<|ai g0<|ai g1<|ai g2<|ai g3<|ai g4<|hfl
   repeat (first | refine st ?_ | refine cC f0 ?_)
   exact aR
theorem zry (env:Env) (a1 a8:Addr) (he:ChEnv env a1 a8) (p:Int) (hp: -1<=p):Con Tryz.prog env 173 [I p] (errV p (sentV a1)):=by
 have g1:=zhf he.e1
 have f0:=zmg env [108,101,103,97,108,46,67,104,101,99,107] p a1 hp
 refine zaa Tryz.func173 rfl Tryz.call173 (by rw [Tryz.ntmps173]; simp) ?_
 rw [Tryz.ntmps173,Tryz.results173]
 have F:=g1
 repeat (first | refine st ?_ | refine cC f0 ?_)
 exact aR
def chkE (a1:Addr) (c:ChD) (act:List Int):AV:=if lgB c act=true then nilE else errV (zfa c act).2 (sentV a1)
theorem znC {a1:Addr} {c:ChD} {act:List Int} {p:Int} (h:zfa c act=(1,p)):chkE a1 c act=errV p (sentV a1):=by
 unfold chkE lgB
 rw [h]
 rfl
theorem zt5 {a1:Addr} {c:ChD} {act:List Int} {p:Int} (h:zfa c act=(0,p)):chkE a1 c act=nilE:=by
 unfold chkE lgB
 rw [h]
 rfl
theorem zja {c:ChD} {act:List Int} {j:Nat} {x:Int} (hx:act[j]? =some x):lgAt c act j=((j==0||decide (act.getD (j-1) 0<x))&&fitI c act x):=by unfold lgAt; rw [hx]
theorem znj {c:ChD} {act:List Int} {k:Nat} {s:StD} (hs:c.states[k]? =some s):fitI c act (k:Int)=fitB c act k s:=by
 unfold fitI
 rw [zbV,hs]
 rfl
theorem zgs {c:ChD} {act:List Int} {x:Int} (hz:inZ c x=false):fitI c act x=false:=by
 unfold fitI at_
 unfold inZ at hz
 by_cases h0:0<=x
 ·rw [if_pos h0]
  rw [decide_eq_true h0,Bool.true_and,decide_eq_false_iff_not] at hz
  rw [List.getElem?_eq_none (by omega)]
 ·rw [if_neg h0]
end
section
theorem zp3 {act:List Int} {j:Nat} (h0:0<j) (hj:j<act.length):act[j-1]? =some (act.getD (j-1) 0):=by
 rw [List.getD_eq_getElem?_getD,List.getElem?_eq_getElem (show j-1<act.length by omega)]
 rfl
theorem litEs_int (l:List Int):zaY (l.map intC)=l.map intAV:=by
 unfold zaY
 rw [List.map_map]
 rfl
end
section
theorem zro {act:List Int} {j:Nat} {x v:Int} (hx:act[j]? =some x) (hn:(act.take j).contains v=false) (he:x≠v):(act.take (j+1)).contains v=false:=by
 rw [List.take_add_one,hx]
 simp at hn |-
 exact⟨hn,fun q=>he q.symm⟩
theorem zcT (env:Env) (act:List Int) (v:Int) (hl:act.length<=1000000):Con Tryz.prog env 27 [.seq 1 (act.map intAV),I v] (B (act.contains v)):=by
 refine zaa Tryz.func27 rfl Tryz.call27 (by rw [Tryz.ntmps27]; simp) ?_
 rw [Tryz.ntmps27,Tryz.results27]
 repeat refine st0 ?_
 refine zac (D:=Nat) (fun j _=>[(0, .seq 1 (act.map intAV)),(1,I v),(5,I j)]) (fun _ _=>[]) (fun j _ _=>j<=act.length/\(act.take j).contains v=false) (fun j=>act.length-j) 0 ?_ ?_ ?_ ?_
 ·exact⟨Nat.zero_le _,rfl⟩
 ·(simp only [go_sem])
 ·(simp only [go_sem])
 rintro j ws esc ⟨hj,hno⟩
 by_cases hlt:j<act.length
 ·obtain⟨x,hx⟩: ∃x,act[j]? =some x:=⟨act[j],List.getElem?_eq_getElem hlt⟩
  have q1:=nlt hlt
  have q2:=zab hlt (by omega)
  by_cases e:x=v
  ·have hr:act.contains v=true:=by rw [List.contains_iff_mem, <-e]; exact List.mem_of_getElem? hx
   rw [hr]
   have q3:(x==v)=true:=by simpa using e
   have F:=ai hx<|ai q1<|q3
   repeat refine st ?_
   exact aR
  ·have q3:(x==v)=false:=by simpa using e
   have F:=ai hx<|ai q1<|ai q2<|q3
   repeat refine st ?_
   refine⟨j+1,⟨hlt,zro hx hno e⟩, ?_, ?_,by omega⟩
   ·(simp only [go_sem,F])
   ·(simp only [go_sem,F])
 ·obtain rfl:j=act.length:=by omega
  have q1: ¬(act.length:Int)< (act.length:Int):=by omega
  rw [List.take_length] at hno
  rw [hno]
  have F:=q1
  repeat refine st ?_
  exact aR
theorem zdQ (env:Env) (act:List Int) (ks:List Nat) (hl:act.length<=1000000) (hk:ks.length<=4000):Con Tryz.prog env 153 [.seq 1 (act.map intAV), .seq 1 (ks.map zad)] (I (manyI act ks:Nat)):=by
 have z0:manyI act []=0:=rfl
 refine zaa Tryz.func153 rfl Tryz.call153 (by rw [Tryz.ntmps153]; simp) ?_
 rw [Tryz.ntmps153,Tryz.results153]
 repeat refine st0 ?_
 refine zac (D:=Nat) (fun j _=>[(0, .seq 1 (act.map intAV)),(1, .seq 1 (ks.map zad)),(5,I (manyI act (ks.take j):Nat)),(6,I j)]) (fun _ _=>[]) (fun j _ _=>j<=ks.length) (fun j=>ks.length-j) 0 ?_ ?_ ?_ ?_
 ·exact Nat.zero_le _
 ·have F:=z0
  (simp only [go_sem,F])
 ·(simp only [go_sem,z0])
 rintro j ws esc hj
 by_cases hlt:j<ks.length
 ·obtain⟨k,hk2⟩: ∃k,ks[j]? =some k:=⟨ks[j],List.getElem?_eq_getElem hlt⟩
  have q1:=nlt hlt
  have q2:=zab hlt (by omega)
  have f0:=zcT env act k hl
  have hm:=zl0 (act:=act) hk2
  have hle:=zl2 act (ks.take j)
  rw [List.length_take] at hle
  have q4:=zab (show manyI act (ks.take j)<ks.length by omega) (by omega)
  cases hb:act.contains (k:Int) with
  | true=>
    rw [hb] at f0 hm
    rw [if_pos rfl] at hm
    have F:=ai zad.eq_1<|ai hk2<|ai q1<|ai q2<|q4
    repeat (first | refine st ?_ | refine cC f0 ?_)
    refine⟨j+1,hlt, ?_, ?_,by omega⟩
    ·have F:=hm
     (simp only [go_sem,F])
    ·(simp only [go_sem,hm])
  | false=>
    rw [hb] at f0 hm
    rw [if_neg Bool.false_ne_true,Nat.add_zero] at hm
    have F:=ai zad.eq_1<|ai hk2<|ai q1<|q2
    repeat (first | refine st ?_ | refine cC f0 ?_)
    refine⟨j+1,hlt, ?_, ?_,by omega⟩
    ·have F:=hm
     (simp only [go_sem,F])
    ·(simp only [go_sem,hm])
 ·obtain rfl:j=ks.length:=by omega
  have q1: ¬(ks.length:Int)< (ks.length:Int):=by omega
  have hta:ks.take ks.length=ks:=List.take_length
  have F:=ai q1<|hta
  repeat refine st ?_
  exact aR
theorem zlQ (env:Env) (c:ChD) (h:Full c) (act:List Int) (hl:act.length<=1000000) (k:Nat) (s:StD) (hs:c.states[k]? =some s):Con Tryz.prog env 152 [.agg (chAV c), .seq 1 (act.map intAV),I k] (B (fitB c act k s)):=by
 have hlen:=h.few
 have hi:=(List.getElem?_eq_some_iff.1 hs).1
 have q0:((k:Nat):Int)< (c.states.length:Int):=by omega
 have f0:=zbf env c k true (by omega)
 have hK:=zbb h.toRight k true
 have f1:=zdQ env act (kidsL c k true) hl (by omega)
 have f2:=zbe env s
 have f3:=zcT env act s.parent hl
 have hF:fitB c act k s=(!zaD s&&(decide (s.parent<0)||act.contains s.parent)&&(if s.kind=1/\kidsL c k true≠[] then manyI act (kidsL c k true)==1 else if s.kind=2 then manyI act (kidsL c k true)==(kidsL c k true).length else true)):=rfl
 rw [hF]
 try clear hF
 generalize kidsL c k true=K at*
 cases hm:zaD s with
 | true=>
   rw [hm] at f2
   refine zaa Tryz.func152 rfl Tryz.call152 (by rw [Tryz.ntmps152]; simp) ?_
   rw [Tryz.ntmps152,Tryz.results152]
   have F:=ai chAV.eq_1<|ai stAV.eq_1<|ai hs<|q0
   repeat (first | refine st ?_ | refine cC f2 ?_)
   exact aR
 | false=>
   rw [hm] at f2
   by_cases hp:s.parent<0
   ·have g0: ¬0<=s.parent:=by omega
    rw [decide_eq_true hp]
    by_cases e1:s.kind=1/\K≠[]
    ·have b1:(s.kind==1)=true:=by simpa using e1.1
     have q1:(0:Int)< (K.length:Int):=by have:=List.length_pos_iff.2 e1.2; omega
     have q2:(((manyI act K:Nat):Int)==1)=(manyI act K==1):=by rw [Bool.eq_iff_iff,beq_iff_eq,beq_iff_eq]; omega
     rw [if_pos e1]
     refine zaa Tryz.func152 rfl Tryz.call152 (by rw [Tryz.ntmps152]; simp) ?_
     rw [Tryz.ntmps152,Tryz.results152]
     have F:=ai chAV.eq_1<|ai stAV.eq_1<|ai hs<|ai q0<|ai g0<|ai b1<|ai q1<|q2
     repeat (first | refine st ?_ | refine cC f0 ?_ | refine cC f1 ?_ | refine cC f2 ?_)
     exact aR
    ·rw [if_neg e1]
     have q2:(((manyI act K:Nat):Int)==(K.length:Int))=(manyI act K==K.length):=by rw [Bool.eq_iff_iff,beq_iff_eq,beq_iff_eq]; omega
     by_cases e2:s.kind=2
     ·have b1:(s.kind==1)=false:=by simp [e2]
      have b2:(s.kind != 2)=false:=by simp [e2]
      rw [if_pos e2]
      refine zaa Tryz.func152 rfl Tryz.call152 (by rw [Tryz.ntmps152]; simp) ?_
      rw [Tryz.ntmps152,Tryz.results152]
      have F:=ai chAV.eq_1<|ai stAV.eq_1<|ai hs<|ai q0<|ai g0<|ai b1<|ai b2<|q2
      repeat (first | refine st ?_ | refine cC f0 ?_ | refine cC f1 ?_ | refine cC f2 ?_)
      exact aR
     ·have b2:(s.kind != 2)=true:=by simpa using e2
      rw [if_neg e2]
      by_cases e3:s.kind=1
      ·have b1:(s.kind==1)=true:=by simpa using e3
       have q1: ¬(0:Int)< (K.length:Int):=by
        have:K=[]:=Classical.byContradiction fun q=>e1 ⟨e3,q⟩
        rw [this]; simp
       refine zaa Tryz.func152 rfl Tryz.call152 (by rw [Tryz.ntmps152]; simp) ?_
       rw [Tryz.ntmps152,Tryz.results152]
       have F:=ai chAV.eq_1<|ai stAV.eq_1<|ai hs<|ai q0<|ai g0<|ai b1<|ai b2<|q1
       repeat (first | refine st ?_ | refine cC f0 ?_ | refine cC f1 ?_ | refine cC f2 ?_)
       exact aR
      ·have b1:(s.kind==1)=false:=by simpa using e3
       refine zaa Tryz.func152 rfl Tryz.call152 (by rw [Tryz.ntmps152]; simp) ?_
       rw [Tryz.ntmps152,Tryz.results152]
       have F:=ai chAV.eq_1<|ai stAV.eq_1<|ai hs<|ai q0<|ai g0<|ai b1<|b2
       repeat (first | refine st ?_ | refine cC f0 ?_ | refine cC f1 ?_ | refine cC f2 ?_)
       exact aR
   ·have g0:0<=s.parent:=by omega
    rw [decide_eq_false hp]
    cases hin:act.contains s.parent with
    | false=>
      rw [hin] at f3
      refine zaa Tryz.func152 rfl Tryz.call152 (by rw [Tryz.ntmps152]; simp) ?_
      rw [Tryz.ntmps152,Tryz.results152]
      have F:=ai chAV.eq_1<|ai stAV.eq_1<|ai hs<|ai q0<|g0
      repeat (first | refine st ?_ | refine cC f0 ?_ | refine cC f1 ?_ | refine cC f2 ?_ | refine cC f3 ?_)
      exact aR
    | true=>
      rw [hin] at f3
      by_cases e1:s.kind=1/\K≠[]
      ·have b1:(s.kind==1)=true:=by simpa using e1.1
       have q1:(0:Int)< (K.length:Int):=by have:=List.length_pos_iff.2 e1.2; omega
       have q2:(((manyI act K:Nat):Int)==1)=(manyI act K==1):=by rw [Bool.eq_iff_iff,beq_iff_eq,beq_iff_eq]; omega
       rw [if_pos e1]
       refine zaa Tryz.func152 rfl Tryz.call152 (by rw [Tryz.ntmps152]; simp) ?_
       rw [Tryz.ntmps152,Tryz.results152]
       have F:=ai chAV.eq_1<|ai stAV.eq_1<|ai hs<|ai q0<|ai g0<|ai b1<|ai q1<|q2
       repeat (first | refine st ?_ | refine cC f0 ?_ | refine cC f1 ?_ | refine cC f2 ?_ | refine cC f3 ?_)
       exact aR
      ·rw [if_neg e1]
       have q2:(((manyI act K:Nat):Int)==(K.length:Int))=(manyI act K==K.length):=by rw [Bool.eq_iff_iff,beq_iff_eq,beq_iff_eq]; omega
       by_cases e2:s.kind=2
       ·have b1:(s.kind==1)=false:=by simp [e2]
        have b2:(s.kind != 2)=false:=by simp [e2]
        rw [if_pos e2]
        refine zaa Tryz.func152 rfl Tryz.call152 (by rw [Tryz.ntmps152]; simp) ?_
        rw [Tryz.ntmps152,Tryz.results152]
        have F:=ai chAV.eq_1<|ai stAV.eq_1<|ai hs<|ai q0<|ai g0<|ai b1<|ai b2<|q2
        repeat (first | refine st ?_ | refine cC f0 ?_ | refine cC f1 ?_ | refine cC f2 ?_ | refine cC f3 ?_)
        exact aR
       ·have b2:(s.kind != 2)=true:=by simpa using e2
        rw [if_neg e2]
        by_cases e3:s.kind=1
        ·have b1:(s.kind==1)=true:=by simpa using e3
         have q1: ¬(0:Int)< (K.length:Int):=by
          have:K=[]:=Classical.byContradiction fun q=>e1 ⟨e3,q⟩
          rw [this]; simp
         refine zaa Tryz.func152 rfl Tryz.call152 (by rw [Tryz.ntmps152]; simp) ?_
         rw [Tryz.ntmps152,Tryz.results152]
         have F:=ai chAV.eq_1<|ai stAV.eq_1<|ai hs<|ai q0<|ai g0<|ai b1<|ai b2<|q1
         repeat (first | refine st ?_ | refine cC f0 ?_ | refine cC f1 ?_ | refine cC f2 ?_ | refine cC f3 ?_)
         exact aR
        ·have b1:(s.kind==1)=false:=by simpa using e3
         refine zaa Tryz.func152 rfl Tryz.call152 (by rw [Tryz.ntmps152]; simp) ?_
         rw [Tryz.ntmps152,Tryz.results152]
         have F:=ai chAV.eq_1<|ai stAV.eq_1<|ai hs<|ai q0<|ai g0<|ai b1<|b2
         repeat (first | refine st ?_ | refine cC f0 ?_ | refine cC f1 ?_ | refine cC f2 ?_ | refine cC f3 ?_)
         exact aR
end

end Go.Proofs.YtnbjaghjdeicmaaGreatDoor