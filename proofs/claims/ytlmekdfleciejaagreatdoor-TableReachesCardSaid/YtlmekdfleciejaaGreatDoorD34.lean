/- The document's words on legal states. -/
import Derived.Test.YtlmekdfleciejaaGreatDoorD33
import Derived.Test.YtlmekdfleciejaaGreatDoorD7
import Derived.Test.YtlmekdfleciejaaGreatDoorD27
import Derived.Test.YtlmekdfleciejaaGreatDoorD14
import Derived.Test.YtlmekdfleciejaaGreatDoorD26
import Derived.Shelf.Slices.In.SortNone
set_option maxRecDepth 100000
set_option maxHeartbeats 8000000
set_option linter.unusedSimpArgs false
namespace Go.Proofs.YtlmekdfleciejaaGreatDoor
section
open Go.RowKit
end
section
open Go.RowKit
/-! The n-th ones -/
end
section
open Go.RowKit
/-! One more is none -/
end
section
open Go.RowKit Go.Sort Go.Shelf Go.Lib
def zc4 (n:Nat) (act:List Int):List (List AV):=(List.range n).map fun k:Nat=>[B (act.contains (k:Int))]
theorem zcW (n:Nat) (act:List Int):(zc4 n act).length=n:=by unfold zc4; simp
theorem zgn {n:Nat} {act:List Int} {k:Nat} (hk:k<n):(zc4 n act)[k]? =some [B (act.contains (k:Int))]:=by
 unfold zc4
 rw [List.getElem?_map,List.getElem?_range hk]
 rfl
theorem zoc (n:Nat):List.replicate n [B false]=zc4 n []:=by
 unfold zc4
 apply List.ext_getElem?
 intro j
 rw [List.getElem?_map]
 by_cases h:j<n
 ·rw [List.getElem?_range h,List.getElem?_replicate_of_lt h]
  rfl
 ·rw [List.getElem?_eq_none (by simp; omega),List.getElem?_eq_none (by simp; omega)]
  rfl
theorem zlh {n:Nat} {act:List Int} {i:Int} (h: ∀k:Nat,k<n->(k:Int)≠i):zc4 n (act++[i])=zc4 n act:=by
 unfold zc4
 apply List.map_congr_left
 intro k hk
 have:=h k (List.mem_range.1 hk)
 simp
 exact fun e=>absurd e this
theorem zpu {n:Nat} {act:List Int} {k:Nat} (hk:k<n):(zc4 n act).set k [B true]=zc4 n (act++[(k:Int)]):=by
 apply List.ext_getElem?
 intro j
 by_cases hj:j<n
 ·rw [zgn hj]
  by_cases e:k=j
  ·subst e
   rw [List.getElem?_set_self (by rw [zcW]; exact hk)]
   simp
  ·rw [List.getElem?_set_ne e,zgn hj]
   simp
   exact fun e2=>absurd (by omega) e
 ·rw [List.getElem?_eq_none (by rw [List.length_set,zcW]; omega),List.getElem?_eq_none (by rw [zcW]; omega)]
theorem zkh {act:List Int} {ks:List Nat} {j k:Nat} (hk:ks[j]? =some k):manyI act (ks.take (j+1))=manyI act (ks.take j)+if act.contains (k:Int)=true then 1 else 0:=by
 unfold manyI
 rw [List.take_add_one,hk,List.filter_append,List.length_append]
 simp only [Option.toList_some,List.filter_cons,List.filter_nil]
 split<;>rfl
theorem ze8 (l:List Nat):(zL l).map intAV=l.map zae:=by simp only [zL,List.map_map]; rfl
theorem zdQ (l:List Nat):(zL l).length=l.length:=List.length_map ..
/-! slices.Sort of ints -/
def intC (k:Int):List Value:=[.int .i64 k]
def zeK (l:List Int):List Int:=l.mergeSort fun x y=>decide (x<=y)
theorem zg5 {w:World} {g:Nat} {l:List Int} (h:Holds id w g 0 (l.map (Value.int .i64)).toArray):Holds (Value.int .i64) w g 0 l.toArray:=fun j hj=>by
 have hj':j<l.length:=by simpa using hj
 have:=h j (by simpa using hj')
 rw [getElem!_pos _ j (by simpa using hj')] at this
 rw [getElem!_pos _ j hj]
 simpa using this
theorem Tryz.sortIEnter: ∀(args:Array Value) (w:World),(callFunc 107 args).run Tryz.prog w= .ok (.enter 107 args) w:=enters_of Tryz.func107 (by kernel_rfl) rfl
theorem zj4 (l:List Int) (hl:l.length<4611686018427387904):Turns Tryz.prog 107 [] 3 1 (l.map intC) ((zeK l).map intC):=by
 by_cases h0:l=[]
 ·subst h0
  rw [show zeK []=[] by simp [zeK]]
  exact zeI Tryz.sortIEnter fun p cap w=>Any.slices_Sort_int_none Tryz.sortI p cap w
 ·refine zeJ (by rw [List.length_map]; exact List.length_pos_iff.2 h0) Tryz.sortIEnter (by simp [zeK]) (fun x hx=> ?_) (fun x hx=> ?_) fun w g cap hH hg=> ?_
  ·obtain⟨y,_,rfl⟩:=List.mem_map.1 hx; rfl
  ·obtain⟨y,_,rfl⟩:=List.mem_map.1 hx
   exact⟨rfl,fun u hu=>by rw [List.mem_singleton.1 hu]; rfl⟩
  ·have hH:Holds id w g 0 (l.map (Value.int .i64)).toArray:=by rw [<-zbA]; exact hH
   have:=Any.slices_Sort_int Tryz.sortI g 0 cap l w (zg5 hH) hg hl
   rw [List.length_map]
   refine(show Calls Tryz.prog 107 #[.slice (some ⟨g,0,none⟩) l.length cap] w _ from this).mono ?_
   rintro ex w' ⟨rfl,n,os,rfl⟩
   refine⟨rfl,n,os, ?_⟩
   rw [zdi,show ((zeK l).map intC).flatten=(zeK l).map (Value.int .i64) from zbA (Value.int .i64) _]
   simp [zeK]
end
section
open Go.RowKit
theorem zob (env:Env) (c:ChD) (hc:c.states.length<=4000) (act:List Int) (hl:act.length<=1000000):Con Tryz.prog env 170 [zai c, .seq 1 (act.map intAV)] (.own 4 1 (zc4 c.states.length act)):=by
 have f0:=zbH env c
 have f1:=zkP env c
 have hz:=zoc c.states.length
 have m1: ¬(16777216:Int)< (c.states.length:Int):=by omega
 have m2: ¬(281474976710656:Int)<1*(c.states.length:Int):=by omega
 have m3: ¬(c.states.length:Int)<0:=by omega
 have m4: ¬(281474976710656:Int)< (c.states.length:Int):=by omega
 unfold zal at f0 f1
 unfold zai at f0 |-
 refine zaa Tryz.func170 rfl Tryz.call170 (by rw [Tryz.ntmps170]; simp) ?_
 rw [Tryz.ntmps170,Tryz.results170]
 have F:=ai m1<|ai m2<|ai m3<|m4
 repeat (first | refine st ?_ | refine cC f0 ?_ | refine cC f1 ?_)
 refine zab (D:=Nat) (fun j vs=>[(5, .row 11 (vs 11)),(12, .seq 1 (act.map intAV)),(13,I act.length),(14,I j)]) (fun j _=>[(11,⟨1,zc4 c.states.length (act.take j),4,true⟩)]) (fun j _ esc=>j<=act.length/\esc 11=false) (fun j=>act.length-j) 0 ?_ ?_ ?_ ?_
 ·exact⟨Nat.zero_le _,rfl⟩
 ·(simp only [go_sem,F])
 ·have F:=hz
  (simp only [go_sem,F])
 rintro j ws esc ⟨hj,e0⟩
 by_cases hlt:j<act.length
 ·obtain⟨x,hx⟩: ∃x,act[j]? =some x:=⟨act[j],List.getElem?_eq_getElem hlt⟩
  have q1:=nlt hlt
  have q2:=zac hlt (by omega)
  have ht:act.take (j+1)=act.take j++[x]:=by rw [List.take_add_one,hx]; rfl
  have hfl:=zcW c.states.length (act.take j)
  by_cases h0:0<=x
  ·obtain⟨k,rfl⟩:=zdU h0
   by_cases h1:k<c.states.length
   ·have q3:=nlt h1
    have hs:=zpu (act:=act.take j) h1
    have hat:=zgn (act:=act.take j) h1
    rw [<-ht] at hs
    have F:=ai hx<|ai q1<|ai q2<|ai q3<|ai hat<|ai hs<|ai hfl<|e0
    repeat refine st ?_
    refine⟨j+1,⟨hlt,by simp only [go_sem,e0]⟩, ?_, ?_,by omega⟩
    ·(simp only [go_sem,F])
    ·(simp only [go_sem,F])
   ·have q3: ¬(k:Int)< (c.states.length:Int):=by omega
    have hs:=zlh (n:=c.states.length) (act:=act.take j) (i:=(k:Int)) (fun m hm=>by omega)
    rw [<-ht] at hs
    have F:=ai hx<|ai q1<|ai q2<|ai q3<|ai hfl<|e0
    repeat refine st ?_
    refine⟨j+1,⟨hlt,by simp only [go_sem,e0]⟩, ?_, ?_,by omega⟩
    ·(simp only [go_sem,F])
    ·have F:=hs
     (simp only [go_sem,F])
  ·have hs:=zlh (n:=c.states.length) (act:=act.take j) (i:=x) (fun m hm=>by omega)
   rw [<-ht] at hs
   have F:=ai hx<|ai q1<|ai q2<|ai h0<|ai hfl<|e0
   repeat refine st ?_
   refine⟨j+1,⟨hlt,by simp only [go_sem,e0]⟩, ?_, ?_,by omega⟩
   ·(simp only [go_sem,F])
   ·have F:=hs
    (simp only [go_sem,F])
 ·obtain rfl:j=act.length:=by omega
  have q1: ¬(act.length:Int)< (act.length:Int):=by omega
  have hta:act.take act.length=act:=List.take_length
  have F:=ai q1<|ai hta<|e0
  repeat refine st ?_
  exact aR
theorem zk6 (env:Env) (n:Nat) (act:List Int) (ks:List Nat) (_hn:n<=4000) (hl:ks.length<=4000) (hk: ∀k∈ks,k<n):Con Tryz.prog env 173 [.seq 1 (zc4 n act), .seq 1 (ks.map zae)] (I (manyI act ks:Nat)):=by
 have hfl:=zcW n act
 have z0:manyI act []=0:=rfl
 refine zaa Tryz.func173 rfl Tryz.call173 (by rw [Tryz.ntmps173]; simp) ?_
 rw [Tryz.ntmps173,Tryz.results173]
 repeat refine st0 ?_
 refine zab (D:=Nat) (fun j _=>[(0, .seq 1 (zc4 n act)),(5,I (manyI act (ks.take j):Nat)),(8, .seq 1 (ks.map zae)),(9,I ks.length),(10,I j)]) (fun _ _=>[]) (fun j _ _=>j<=ks.length) (fun j=>ks.length-j) 0 ?_ ?_ ?_ ?_
 ·exact Nat.zero_le _
 ·have F:=z0
  (simp only [go_sem,F])
 ·(simp only [go_sem,z0])
 rintro j ws esc hj
 by_cases hlt:j<ks.length
 ·obtain⟨k,hk2⟩: ∃k,ks[j]? =some k:=⟨ks[j],List.getElem?_eq_getElem hlt⟩
  have hkn:=hk k (List.mem_of_getElem? hk2)
  have q1:=nlt hlt
  have q2:=zac hlt (by omega)
  have q3:=nlt hkn
  have hat:=zgn (act:=act) hkn
  have hm:=zkh (act:=act) hk2
  have hle:=zkj act (ks.take j)
  rw [List.length_take] at hle
  have q4:=zac (show manyI act (ks.take j)<ks.length by omega) (by omega)
  cases hb:act.contains (k:Int) with
  | true=>
    rw [hb] at hat hm
    rw [if_pos rfl] at hm
    have F:=ai zae.eq_1<|ai hk2<|ai q1<|ai q2<|ai q3<|ai q4<|ai hat<|hfl
    repeat refine st ?_
    refine⟨j+1,hlt, ?_, ?_,by omega⟩
    ·have F:=hm
     (simp only [go_sem,F])
    ·(simp only [go_sem,hm])
  | false=>
    rw [hb] at hat hm
    rw [if_neg Bool.false_ne_true,Nat.add_zero] at hm
    have F:=ai zae.eq_1<|ai hk2<|ai q1<|ai q2<|ai q3<|ai hat<|hfl
    repeat refine st ?_
    refine⟨j+1,hlt, ?_, ?_,by omega⟩
    ·have F:=hm
     (simp only [go_sem,F])
    ·(simp only [go_sem,hm])
 ·obtain rfl:j=ks.length:=by omega
  have q1: ¬(ks.length:Int)< (ks.length:Int):=by omega
  have hta:ks.take ks.length=ks:=List.take_length
  have F:=ai q1<|hta
  repeat refine st ?_
  exact aR
theorem znp {c:ChD} (h:Right c) {k:Nat} {s:StD} (hs:c.states[k]? =some s) (act:List Int):(s.parent<0/\decide (s.parent<0)=true)\/(¬s.parent<0/\decide (s.parent<0)=false/\0<=s.parent/\s.parent< (c.states.length:Int)/\(zc4 c.states.length act)[s.parent.toNat]? =some [B (act.contains s.parent)]):=by
 have hi:=(List.getElem?_eq_some_iff.1 hs).1
 have h2:=(h.par k s hs).2
 by_cases e:s.parent<0
 ·exact .inl ⟨e,decide_eq_true e⟩
 ·refine .inr ⟨e,decide_eq_false e,by omega,by omega, ?_⟩
  rw [zgn (by omega)]
  rw [show ((s.parent.toNat:Nat):Int)=s.parent by omega]
theorem zpv (env:Env) (c:ChD) (h:Full c) (act:List Int) (k:Nat) (s:StD) (hs:c.states[k]? =some s):Con Tryz.prog env 171 [.agg (chAV c),zai c, .seq 1 (zc4 c.states.length act),I k] (B (fitB c act k s)):=by
 have hlen:=h.few
 have hi:=(List.getElem?_eq_some_iff.1 hs).1
 have q0:((k:Nat):Int)< (c.states.length:Int):=by omega
 have f0:=zbI env c h k
 rw [if_pos (.inr (zaM.2 hi))] at f0
 have hK:=zbz h.toRight k true
 have hKm: ∀j∈kidsL c k true,j<c.states.length:=fun j hj=>by have:=za0 h.toRight (zaO hj).1; omega
 have f1:=zk6 env c.states.length act (kidsL c k true) (by omega) (by omega) hKm
 have hfl:=zcW c.states.length act
 have hp:=znp h.toRight hs act
 have hF:fitB c act k s=(!zat s&&(decide (s.parent<0)||act.contains s.parent)&&(if s.kind=1/\kidsL c k true≠[] then manyI act (kidsL c k true)==1 else if s.kind=2 then manyI act (kidsL c k true)==(kidsL c k true).length else true)):=rfl
 rw [hF]
 try clear hF
 generalize kidsL c k true=K at*
 unfold zai at f0 |-
 by_cases e4:s.kind=4
 ·have b4:(s.kind==4)=true:=by simpa using e4
  have hm:zat s=true:=by unfold zat; rw [b4]; rfl
  rw [hm]
  refine zaa Tryz.func171 rfl Tryz.call171 (by rw [Tryz.ntmps171]; simp) ?_
  rw [Tryz.ntmps171,Tryz.results171]
  have F:=ai chAV.eq_1<|ai stAV.eq_1<|ai hs<|ai q0<|b4
  repeat (first | refine st ?_ | refine cC f0 ?_)
  exact aR
 have b4:(s.kind==4)=false:=by simpa using e4
 by_cases e5:s.kind=5
 ·have b5:(s.kind==5)=true:=by simpa using e5
  have hm:zat s=true:=by unfold zat; rw [b5,Bool.or_true]
  rw [hm]
  refine zaa Tryz.func171 rfl Tryz.call171 (by rw [Tryz.ntmps171]; simp) ?_
  rw [Tryz.ntmps171,Tryz.results171]
  have F:=ai chAV.eq_1<|ai stAV.eq_1<|ai hs<|ai q0<|ai b4<|b5
  repeat (first | refine st ?_ | refine cC f0 ?_)
  exact aR
 have b5:(s.kind==5)=false:=by simpa using e5
 have hm:zat s=false:=by unfold zat; rw [b4,b5]; rfl
 rw [hm]
 by_cases e1:s.kind=1
 ·have b1:(s.kind==1)=true:=by simpa using e1
  by_cases hk0:K=[]
  ·rw [if_neg (by simp [hk0]),if_neg (by omega)]
   have q1: ¬(0:Int)< (K.length:Int):=by rw [hk0]; simp
   rcases hp with⟨g0,g1⟩ | ⟨g0,g1,g2,g3,g4⟩
   ·refine zaa Tryz.func171 rfl Tryz.call171 (by rw [Tryz.ntmps171]; simp) ?_
    rw [Tryz.ntmps171,Tryz.results171]
    have F:=ai chAV.eq_1<|ai stAV.eq_1<|ai hs<|ai q0<|ai b4<|ai b5<|ai b1<|ai q1<|ai g0<|g1
    repeat (first | refine st ?_ | refine cC f0 ?_)
    exact aR
   ·refine zaa Tryz.func171 rfl Tryz.call171 (by rw [Tryz.ntmps171]; simp) ?_
    rw [Tryz.ntmps171,Tryz.results171]
    have F:=ai chAV.eq_1<|ai stAV.eq_1<|ai hs<|ai q0<|ai b4<|ai b5<|ai b1<|ai q1<|ai g0<|ai g1<|ai g2<|ai g3<|ai g4<|hfl
    repeat (first | refine st ?_ | refine cC f0 ?_)
    exact aR
  ·rw [if_pos ⟨e1,hk0⟩]
   have q1:(0:Int)< (K.length:Int):=by have:=List.length_pos_iff.2 hk0; omega
   by_cases hm1:manyI act K=1
   ·have hmi:((manyI act K:Nat):Int)=1:=by omega
    rw [hm1]
    rcases hp with⟨g0,g1⟩ | ⟨g0,g1,g2,g3,g4⟩
    ·refine zaa Tryz.func171 rfl Tryz.call171 (by rw [Tryz.ntmps171]; simp) ?_
     rw [Tryz.ntmps171,Tryz.results171]
     have F:=ai chAV.eq_1<|ai stAV.eq_1<|ai hs<|ai q0<|ai b4<|ai b5<|ai b1<|ai q1<|ai hmi<|ai g0<|g1
     repeat (first | refine st ?_ | refine cC f0 ?_ | refine cC f1 ?_)
     exact aR
    ·refine zaa Tryz.func171 rfl Tryz.call171 (by rw [Tryz.ntmps171]; simp) ?_
     rw [Tryz.ntmps171,Tryz.results171]
     have F:=ai chAV.eq_1<|ai stAV.eq_1<|ai hs<|ai q0<|ai b4<|ai b5<|ai b1<|ai q1<|ai hmi<|ai g0<|ai g1<|ai g2<|ai g3<|ai g4<|hfl
     repeat (first | refine st ?_ | refine cC f0 ?_ | refine cC f1 ?_)
     exact aR
   ·have hmi:(((manyI act K:Nat):Int) != 1)=true:=by simp; omega
    have hmb:(manyI act K==1)=false:=by simpa using hm1
    rw [hmb]
    refine zaa Tryz.func171 rfl Tryz.call171 (by rw [Tryz.ntmps171]; simp) ?_
    rw [Tryz.ntmps171,Tryz.results171]
    have F:=ai chAV.eq_1<|ai stAV.eq_1<|ai hs<|ai q0<|ai b4<|ai b5<|ai b1<|ai q1<|hmi
    repeat (first | refine st ?_ | refine cC f0 ?_ | refine cC f1 ?_)
    exact aR
 have b1:(s.kind==1)=false:=by simpa using e1
 rw [if_neg (fun e=>e1 e.1)]
 by_cases e2:s.kind=2
 ·have b2:(s.kind==2)=true:=by simpa using e2
  rw [if_pos e2]
  by_cases hm1:manyI act K=K.length
  ·have hmi:(((manyI act K:Nat):Int) != (K.length:Int))=false:=by simp; omega
   rw [hm1]
   rcases hp with⟨g0,g1⟩ | ⟨g0,g1,g2,g3,g4⟩
   ·refine zaa Tryz.func171 rfl Tryz.call171 (by rw [Tryz.ntmps171]; simp) ?_
    rw [Tryz.ntmps171,Tryz.results171]
    have F:=ai chAV.eq_1<|ai stAV.eq_1<|ai hs<|ai q0<|ai b4<|ai b5<|ai b1<|ai b2<|ai hmi<|ai g0<|g1
    repeat (first | refine st ?_ | refine cC f0 ?_ | refine cC f1 ?_)
    exact aR
   ·refine zaa Tryz.func171 rfl Tryz.call171 (by rw [Tryz.ntmps171]; simp) ?_
    rw [Tryz.ntmps171,Tryz.results171]
    have F:=ai chAV.eq_1<|ai stAV.eq_1<|ai hs<|ai q0<|ai b4<|ai b5<|ai b1<|ai b2<|ai hmi<|ai g0<|ai g1<|ai g2<|ai g3<|ai g4<|hfl
    repeat (first | refine st ?_ | refine cC f0 ?_ | refine cC f1 ?_)
    exact aR
  ·have hmi:(((manyI act K:Nat):Int) != (K.length:Int))=true:=by simp; omega
   have hmb:(manyI act K==K.length)=false:=by simpa using hm1
   rw [hmb]
   refine zaa Tryz.func171 rfl Tryz.call171 (by rw [Tryz.ntmps171]; simp) ?_
   rw [Tryz.ntmps171,Tryz.results171]
   have F:=ai chAV.eq_1<|ai stAV.eq_1<|ai hs<|ai q0<|ai b4<|ai b5<|ai b1<|ai b2<|hmi
   repeat (first | refine st ?_ | refine cC f0 ?_ | refine cC f1 ?_)
   exact aR
 ·have b2:(s.kind==2)=false:=by simpa using e2
  rw [if_neg e2]
  rcases hp with⟨g0,g1⟩ | ⟨g0,g1,g2,g3,g4⟩
  ·refine zaa Tryz.func171 rfl Tryz.call171 (by rw [Tryz.ntmps171]; simp) ?_
   rw [Tryz.ntmps171,Tryz.results171]
   have F:=ai chAV.eq_1<|ai stAV.eq_1<|ai hs<|ai q0<|ai b4<|ai b5<|ai b1<|ai b2<|ai g0<|g1
   repeat (first | refine st ?_ | refine cC f0 ?_)
   exact aR
  ·refine zaa Tryz.func171 rfl Tryz.call171 (by rw [Tryz.ntmps171]; simp) ?_
   rw [Tryz.ntmps171,Tryz.results171]
   have F:=ai chAV.eq_1<|ai stAV.eq_1<|ai hs<|ai q0<|ai b4<|ai b5<|ai b1<|ai b2<|ai g0<|ai g1<|ai g2<|ai g3<|ai g4<|hfl
   repeat (first | refine st ?_ | refine cC f0 ?_)
   exact aR
theorem zoL (env:Env) (a1 a8:Addr) (he:ChEnv env a1 a8) (p:Int) (hp: -1<=p):Con Tryz.prog env 172 [I p] (errV p (sentV a1)):=by
 have g1:=zkq he.e1
 have f0:=zoi env [108,101,103,97,108,46,67,104,101,99,107] p a1 hp
 refine zaa Tryz.func172 rfl Tryz.call172 (by rw [Tryz.ntmps172]; simp) ?_
 rw [Tryz.ntmps172,Tryz.results172]
 have F:=g1
 repeat (first | refine st ?_ | refine cC f0 ?_)
 exact aR
def chkE (a1:Addr) (c:ChD) (act:List Int):AV:=if lgB c act=true then nilE else errV (ziO c act).2 (sentV a1)
theorem zlu {a1:Addr} {c:ChD} {act:List Int} {p:Int} (h:ziO c act=(1,p)):chkE a1 c act=errV p (sentV a1):=by
 unfold chkE lgB
 rw [h]
 rfl
theorem zqz {a1:Addr} {c:ChD} {act:List Int} {p:Int} (h:ziO c act=(0,p)):chkE a1 c act=nilE:=by
 unfold chkE lgB
 rw [h]
 rfl
theorem zqt {c:ChD} {act:List Int} {j:Nat} {x:Int} (hx:act[j]? =some x):lgAt c act j=((j==0||decide (act.getD (j-1) 0<x))&&fitI c act x):=by unfold lgAt; rw [hx]
theorem zpw {c:ChD} {act:List Int} {k:Nat} {s:StD} (hs:c.states[k]? =some s):fitI c act (k:Int)=fitB c act k s:=by
 unfold fitI
 rw [zbp,hs]
 rfl
theorem zli {c:ChD} {act:List Int} {x:Int} (hz:inZ c x=false):fitI c act x=false:=by
 unfold fitI at_
 unfold inZ at hz
 by_cases h0:0<=x
 ·rw [if_pos h0]
  rw [decide_eq_true h0,Bool.true_and,decide_eq_false_iff_not] at hz
  rw [List.getElem?_eq_none (by omega)]
 ·rw [if_neg h0]
end
section
open Go.RowKit
theorem zqo {act:List Int} {j:Nat} (h0:0<j) (hj:j<act.length):act[j-1]? =some (act.getD (j-1) 0):=by
 rw [List.getD_eq_getElem?_getD,List.getElem?_eq_getElem (show j-1<act.length by omega)]
 rfl
theorem zbc (l:List Int):zaS (l.map intC)=l.map intAV:=by
 unfold zaS
 rw [List.map_map]
 rfl
end
section
open Go.RowKit
theorem zoB {act:List Int} {j:Nat} {x v:Int} (hx:act[j]? =some x) (hn:(act.take j).contains v=false) (he:x≠v):(act.take (j+1)).contains v=false:=by
 rw [List.take_add_one,hx]
 simp at hn |-
 exact⟨hn,fun q=>he q.symm⟩
theorem zdF (env:Env) (act:List Int) (v:Int) (hl:act.length<=1000000):Con Tryz.prog env 52 [.seq 1 (act.map intAV),I v] (B (act.contains v)):=by
 refine zaa Tryz.func52 rfl Tryz.call52 (by rw [Tryz.ntmps52]; simp) ?_
 rw [Tryz.ntmps52,Tryz.results52]
 repeat refine st0 ?_
 refine zab (D:=Nat) (fun j _=>[(0, .seq 1 (act.map intAV)),(1,I v),(5,I j)]) (fun _ _=>[]) (fun j _ _=>j<=act.length/\(act.take j).contains v=false) (fun j=>act.length-j) 0 ?_ ?_ ?_ ?_
 ·exact⟨Nat.zero_le _,rfl⟩
 ·(simp only [go_sem])
 ·(simp only [go_sem])
 rintro j ws esc ⟨hj,hno⟩
 by_cases hlt:j<act.length
 ·obtain⟨x,hx⟩: ∃x,act[j]? =some x:=⟨act[j],List.getElem?_eq_getElem hlt⟩
  have q1:=nlt hlt
  have q2:=zac hlt (by omega)
  by_cases e:x=v
  ·have hr:act.contains v=true:=by rw [List.contains_iff_mem, <-e]; exact List.mem_of_getElem? hx
   rw [hr]
   have q3:(x==v)=true:=by simpa using e
   have F:=ai hx<|ai q1<|q3
   repeat refine st ?_
   exact aR
  ·have q3:(x==v)=false:=by simpa using e
   have F:=ai hx<|ai q1<|ai q2<|q3
   repeat refine st ?_
   refine⟨j+1,⟨hlt,zoB hx hno e⟩, ?_, ?_,by omega⟩
   ·(simp only [go_sem,F])
   ·(simp only [go_sem,F])
 ·obtain rfl:j=act.length:=by omega
  have q1: ¬(act.length:Int)< (act.length:Int):=by omega
  rw [List.take_length] at hno
  rw [hno]
  have F:=q1
  repeat refine st ?_
  exact aR
theorem ziz (env:Env) (act:List Int) (ks:List Nat) (hl:act.length<=1000000) (hk:ks.length<=4000):Con Tryz.prog env 122 [.seq 1 (act.map intAV), .seq 1 (ks.map zae)] (I (manyI act ks:Nat)):=by
 have z0:manyI act []=0:=rfl
 refine zaa Tryz.func122 rfl Tryz.call122 (by rw [Tryz.ntmps122]; simp) ?_
 rw [Tryz.ntmps122,Tryz.results122]
 repeat refine st0 ?_
 refine zab (D:=Nat) (fun j _=>[(0, .seq 1 (act.map intAV)),(1, .seq 1 (ks.map zae)),(5,I (manyI act (ks.take j):Nat)),(6,I j)]) (fun _ _=>[]) (fun j _ _=>j<=ks.length) (fun j=>ks.length-j) 0 ?_ ?_ ?_ ?_
 ·exact Nat.zero_le _
 ·have F:=z0
  (simp only [go_sem,F])
 ·(simp only [go_sem,z0])
 rintro j ws esc hj
 by_cases hlt:j<ks.length
 ·obtain⟨k,hk2⟩: ∃k,ks[j]? =some k:=⟨ks[j],List.getElem?_eq_getElem hlt⟩
  have q1:=nlt hlt
  have q2:=zac hlt (by omega)
  have f0:=zdF env act k hl
  have hm:=zkh (act:=act) hk2
  have hle:=zkj act (ks.take j)
  rw [List.length_take] at hle
  have q4:=zac (show manyI act (ks.take j)<ks.length by omega) (by omega)
  cases hb:act.contains (k:Int) with
  | true=>
    rw [hb] at f0 hm
    rw [if_pos rfl] at hm
    have F:=ai zae.eq_1<|ai hk2<|ai q1<|ai q2<|q4
    repeat (first | refine st ?_ | refine cC f0 ?_)
    refine⟨j+1,hlt, ?_, ?_,by omega⟩
    ·have F:=hm
     (simp only [go_sem,F])
    ·(simp only [go_sem,hm])
  | false=>
    rw [hb] at f0 hm
    rw [if_neg Bool.false_ne_true,Nat.add_zero] at hm
    have F:=ai zae.eq_1<|ai hk2<|ai q1<|q2
    repeat (first | refine st ?_ | refine cC f0 ?_)
    refine⟨j+1,hlt, ?_, ?_,by omega⟩
    ·have F:=hm
     (simp only [go_sem,F])
    ·(simp only [go_sem,hm])
 ·obtain rfl:j=ks.length:=by omega
  have q1: ¬(ks.length:Int)< (ks.length:Int):=by omega
  have hta:ks.take ks.length=ks:=List.take_length
  have F:=ai q1<|hta
  repeat refine st ?_
  exact aR
end

end Go.Proofs.YtlmekdfleciejaaGreatDoor