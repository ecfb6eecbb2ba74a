/- What tree.New lays, plain. -/
import Derived.Test.YtlmekdfleciejaaGreatDoorD14
import Derived.Test.YtlmekdfleciejaaGreatDoorD7
import Derived.Test.YtlmekdfleciejaaGreatDoorD15
import Derived.Test.YtlmekdfleciejaaGreatDoorD23
set_option maxRecDepth 100000
set_option maxHeartbeats 4000000
set_option linter.unusedSimpArgs false
namespace Go.Proofs.YtlmekdfleciejaaGreatDoor
open Go.RowKit
section
def rankAll:List Nat->Nat->List Nat->List Nat
 | [],_,rk=>rk
 | k::l,n,rk=>rankAll l (n+1) (rk.set k n)
theorem zf7: ∀(l:List Nat) (n:Nat) (rk:List Nat),(rankAll l n rk).length=rk.length
 | [],_,_=>rfl
 | k::l,n,rk=>by unfold rankAll; rw [zf7,List.length_set]
theorem zf8: ∀(l1 l2:List Nat) (n:Nat) (rk:List Nat),rankAll (l1++l2) n rk=rankAll l2 (n+l1.length) (rankAll l1 n rk)
 | [],_,_,_=>rfl
 | k::l1,l2,n,rk=>by
   show rankAll (l1++l2) (n+1) (rk.set k n)=rankAll l2 (n+(l1.length+1)) (rankAll l1 (n+1) (rk.set k n))
   rw [zf8,Nat.add_assoc,Nat.add_comm 1]
def TR (ps ks ms bs:List (List AV)) (lf:Value) (g:Nat->Nat) (rk l:List Nat):List (Nat×Row):=
 [(1000,⟨7,[[.seq 1 ps, .seq 1 ks, .seq 1 ms, .seq 1 bs, .row 1001 (g 1001), .row 1002 (g 1002), .lit lf]],129,false⟩),(1001,⟨1,rk.map zae,3,true⟩),(1002,⟨1,l.map zae,3,true⟩)]
def wkTo (c:ChD) (K:List Nat) (j:Nat):List Nat:=(K.take j).flatMap fun k=>k::walkL c k
theorem zmK {c:ChD} {K:List Nat} {j k:Nat} (h:K[j]? =some k):wkTo c K (j+1)=wkTo c K j++k::walkL c k:=by
 unfold wkTo
 rw [List.take_add_one,h,List.flatMap_append]
 simp
theorem zo0 {c:ChD} (K:List Nat):wkTo c K K.length=K.flatMap fun k=>k::walkL c k:=by
 unfold wkTo
 rw [List.take_length]
theorem zqi {c:ChD} (K:List Nat) (j:Nat):(wkTo c K j).length<=(K.flatMap fun k=>k::walkL c k).length:=by
 conv=>rhs; rw [<-List.take_append_drop j K,List.flatMap_append,List.length_append]
 exact Nat.le_add_right _ _
def zmH (P:Program) (env:Env) (f:FuncId) (c:ChD) (ps ks ms bs:List (List AV)) (lf:Value) (i:Int) (l rk:List Nat):Prop:=
 ConI P env f [1000,1001,1002] (fun k=>k==1002) (fun g=>[.loc 1000 (g 1000) 0 0, .agg (chAV c),I i]) (fun g=>TR ps ks ms bs lf g rk l) (fun g=>TR ps ks ms bs lf g (rankAll (walkL c i) l.length rk) (l++walkL c i)) (fun _=> .lit (.tuple #[]))
theorem zid (env:Env) (c:ChD) (hc:Right c) (ps ks ms bs:List (List AV)) (lf:Value) (i:Int) (l rk:List Nat) (hi: -1<=i) (hrk:rk.length=c.states.length) (hfew:l.length+(walkL c i).length<=1000000)
 (ih: ∀k∈kidsL c i false,∀l rk,rk.length=c.states.length->l.length+(walkL c k).length<=1000000->zmH Tryz.prog env 137 c ps ks ms bs lf k l rk):zmH Tryz.prog env 137 c ps ks ms bs lf i l rk:=by
 unfold zmH at*
 ·have hlen:=hc.few
  have f0:=zf9 env c i (by omega)
  rw [walk_eq hc hi] at hfew |-
  have hK32:(kidsL c i false).length<=32:=Nat.le_trans (zaX c i false _) hlen
  generalize hK:kidsL c i false=K at*
  refine⟨Tryz.call137,_,_,Tryz.func137,rfl,(by intro _; rw [Tryz.ntmps137]; simp), ?_⟩
  intro vs esc hesc
  rw [Tryz.ntmps137,Tryz.results137]
  have e0:=hesc 1000 (by simp)
  have e1:=hesc 1001 (by simp)
  have e2:=hesc 1002 (by simp)
  have F:=ai e0<|ai e1<|ai e2<|chAV.eq_1
  repeat (first | refine oO rfl (by simp only [go_sem,TR,F]; exact⟨rfl,rfl⟩) ?_ | refine gR ?_ | refine gO ?_ | refine oC rfl (f0) (by simp only [go_sem,TR,F]; exact iR) (by simp only [go_sem,TR,F]; exact⟨rfl,rfl⟩) ?_ | refine oZ (zb5 ?_) | refine oZ ?_ | refine oS ?_ | refine gT ?_ | refine gD Tryz.mixed ?_ | refine oB ?_ | refine oK ?_ | (refine oX ?_; simp only [zaQ,zaE, ↓reduceIte,Nat.reduceEqDiff,reduceCtorEq]) | refine oY (by simp only [go_sem,TR,F]; exact iR) ?_ | refine oN (by simp only [go_sem,TR,F]; exact iR) ?_)
  refine zab (D:=Nat) (fun j vs'=>[(0, .loc 1000 (vs' 1000) 0 0),(4, .loc 4 (vs' 4) 0 0),(10, .row 10 (vs' 10)),(11,I K.length),(12,I j)]) (fun j vs'=>TR ps ks ms bs lf vs' (rankAll (wkTo c K j) l.length rk) (l++wkTo c K j)++[(4,⟨5,[chAV c],26,false⟩),(10,⟨1,K.map zae,3,true⟩)]) (fun j vs' esc'=>(j<=K.length/\vs' 1000=vs 1000/\vs' 1001=vs 1001)/\esc' 1000=false/\esc' 1001=false/\esc' 1002=false) (fun j=>K.length-j) 0 ?_ ?_ ?_ ?_
  ·exact⟨⟨Nat.zero_le _,by simp only [go_sem],by simp only [go_sem]⟩,by simp only [go_sem,e0],by simp only [go_sem,e1],by simp only [go_sem,e2]⟩
  ·(simp only [go_sem,TR,F])
  ·have F:=chAV.eq_1
   (simp only [go_sem,TR,F])
   refine⟨rfl, ?_⟩
   show _=(⟨1,List.map zae (l++[]),3,true⟩:Row)
   rw [List.append_nil]
  try clear e0 e1 e2
  rintro j ws esc' ⟨⟨hj,v0,v1⟩,e0,e1,e2⟩
  by_cases hlt:j<K.length
  ·obtain⟨k,hk⟩: ∃k,K[j]? =some k:=⟨K[j],List.getElem?_eq_getElem hlt⟩
   have hkm:k∈kidsL c i false:=by rw [hK]; exact List.mem_of_getElem? hk
   have hg:=za0 hc hkm
   have hnext:=zmK (c:=c) hk
   have hle:=zqi (c:=c) K (j+1)
   have hrl:=zf7 (wkTo c K j) l.length rk
   have hra:=zf8 (wkTo c K j) (k::walkL c k) l.length rk
   rw [hnext] at hle
   rw [List.length_append,List.length_cons] at hle
   generalize rankAll (wkTo c K j) l.length rk=rk1 at*
   have f1:=ih k (List.mem_of_getElem? hk) (l++wkTo c K j++[k]) (rk1.set k (l++wkTo c K j).length) (by rw [List.length_set,hrl,hrk]) (by simp only [List.length_append,List.length_cons,List.length_nil]; omega)
   have k1:=nlt hlt
   have k2:=zac hlt (by omega)
   have k3:((k:Nat):Int)< (rk1.length:Int):=by rw [hrl,hrk]; omega
   obtain⟨r0,hr0⟩: ∃r0,rk1[k]? =some r0:=⟨rk1[k]'(by omega),List.getElem?_eq_getElem _⟩
   have hf:Fits (l.length+(wkTo c K j).length+1) 8:=⟨by omega,by omega⟩
   have F:=ai e0<|ai e1<|ai e2<|ai chAV.eq_1<|ai k1<|ai k2<|ai k3<|ai hk<|ai hf<|ai zae.eq_1<|hr0
   have hra2:rankAll (wkTo c K (j+1)) l.length rk=rankAll (walkL c k) (l.length+(wkTo c K j).length+1) (rk1.set k (l.length+(wkTo c K j).length)):=by rw [hnext,hra]; rfl
   repeat (first | refine oO rfl (by simp only [go_sem,TR,List.map_append,List.map_set,F]; exact⟨rfl,rfl⟩) ?_ | refine gR ?_ | refine gO ?_ | refine oZ (zb5 ?_) | refine oZ ?_ | refine oS ?_ | refine gT ?_ | refine gD Tryz.mixed ?_ | refine oB ?_ | refine oK ?_ | (refine oX ?_; simp only [zaQ,zaE, ↓reduceIte,Nat.reduceEqDiff,reduceCtorEq]) | refine oY (by simp only [go_sem,TR,List.map_append,List.map_set,F]; exact iR) ?_ | refine oN (by simp only [go_sem,TR,List.map_append,List.map_set,F]; exact iR) ?_)
   refine zeD [(1000,1000),(1001,1001),(1002,1002)] rfl (f1) (by decide) (by decide) (by simp only [go_sem,TR,List.map_append,List.map_set,F]<;>rfl) (by simp only [go_sem,TR,List.map_append,List.map_set,F,and_self]<;>trivial) (by simp only [go_sem,TR,List.map_append,List.map_set,F,and_self]<;>trivial) (by intro o; simp only [go_sem,TR,List.map_append,List.map_set,F,behind,and_self]<;>trivial) (by intro o; simp only [go_sem,TR,List.map_append,List.map_set,F]<;>rfl) (by simp only [go_sem,TR,List.map_append,List.map_set,F,behind]; exact iR) (by simp only [go_sem,TR,List.map_append,List.map_set,F,behind]; exact iR) ?_
   repeat (first | refine oO rfl (by simp only [go_sem,TR,List.map_append,List.map_set,F]; exact⟨rfl,rfl⟩) ?_ | refine gR ?_ | refine gO ?_ | refine oZ (zb5 ?_) | refine oZ ?_ | refine oS ?_ | refine gT ?_ | refine gD Tryz.mixed ?_ | refine oB ?_ | refine oK ?_ | (refine oX ?_; simp only [zaQ,zaE, ↓reduceIte,Nat.reduceEqDiff,reduceCtorEq]) | refine oY (by simp only [go_sem,TR,List.map_append,List.map_set,F]; exact iR) ?_ | refine oN (by simp only [go_sem,TR,List.map_append,List.map_set,F]; exact iR) ?_)
   refine⟨j+1,⟨⟨hlt, ?_, ?_⟩, ?_, ?_, ?_⟩, ?_, ?_,by omega⟩
   ·simp only [go_sem]
    exact v0
   ·simp only [go_sem]
    exact v1
   ·simp only [go_sem,e0]
   ·simp only [go_sem,e1]
   ·simp only [go_sem,e2]
   ·(simp only [go_sem,TR,List.map_append,List.map_set,F])
   ·have F:=ai chAV.eq_1<|ai zae.eq_1<|ai hra2<|hnext
    (simp only [go_sem,TR,List.map_append,List.map_set,List.append_assoc,F])
    rw [hra]
    rfl
  ·obtain rfl:j=K.length:=by omega
   have k1: ¬(K.length:Int)< (K.length:Int):=by omega
   have hall:=zo0 (c:=c) K
   have F:=ai e0<|ai e1<|ai e2<|ai chAV.eq_1<|ai k1<|ai hall<|ai v0<|v1
   repeat (first | refine oO rfl (by simp only [go_sem,TR,F]; exact⟨rfl,rfl⟩) ?_ | refine gR ?_ | refine gO ?_ | refine oZ (zb5 ?_) | refine oZ ?_ | refine oS ?_ | refine gT ?_ | refine gD Tryz.mixed ?_ | refine oB ?_ | refine oK ?_ | (refine oX ?_; simp only [zaQ,zaE, ↓reduceIte,Nat.reduceEqDiff,reduceCtorEq]) | refine oY (by simp only [go_sem,TR,F]; exact iR) ?_ | refine oN (by simp only [go_sem,TR,F]; exact iR) ?_)
   (refine zhG ?_ ?_<;>simp only [go_sem,TR,F,implies_true,and_self,imp_self,false_implies,AV.tuple.injEq,exists_eq_left',ne_eq])
theorem zkN (env:Env) (c:ChD) (hc:Right c) (ps ks ms bs:List (List AV)) (lf:Value): ∀(n:Nat) (i:Int) (l rk:List Nat), -1<=i->(c.states.length:Int)<=i+n->rk.length=c.states.length->l.length+(walkL c i).length<=1000000->zmH Tryz.prog env 137 c ps ks ms bs lf i l rk
 | 0,i,l,rk,hi,hn,hrk,hfew=>zid env c hc ps ks ms bs lf i l rk hi hrk hfew fun k hk=>by have:=za0 hc hk; omega
 | n+1,i,l,rk,hi,hn,hrk,hfew=>zid env c hc ps ks ms bs lf i l rk hi hrk hfew fun k hk l rk h1 h2=>by have:=za0 hc hk; exact zkN env c hc ps ks ms bs lf n k l rk (by omega) (by omega) h1 h2
end
section
def umAV (m:Nat):List AV:=[.lit (.int .u32 m)]
def mkTo (c:ChD) (i:Nat):List Nat:=(List.range c.states.length).map fun j=>if j<i then mask c j else 0
def znN (c:ChD) (i:Nat) (s:StD):Bool:=s.kind != 4&&s.kind != 5&&(((kidsL c i true).length:Int)==0)
def za8 (c:ChD):Nat->Nat
 | 0=>0
 | i+1=>match c.states[i]? with
   | some s=>if znN c i s then za8 c i||| 2^i else za8 c i
   | none=>za8 c i
theorem ziI (c:ChD):(mkTo c 0).map umAV=List.replicate c.states.length [.lit (.int .u32 0)]:=by
 unfold mkTo
 rw [List.map_map]
 have: ∀n:Nat,(List.range n).map (umAV ∘ fun(j:Nat)=>if j<0 then mask c j else 0)=List.replicate n [.lit (.int .u32 0)]:=fun n=>by
  rw [List.eq_replicate_iff]
  refine⟨by simp,fun b hb=> ?_⟩
  obtain⟨j,_,rfl⟩:=List.mem_map.1 hb
  rfl
 exact this _
theorem zd3 {c:ChD} {i j:Nat} (hj:j<c.states.length):(mkTo c i)[j]? =some (if j<i then mask c j else 0):=by
 unfold mkTo
 rw [List.getElem?_map,List.getElem?_range hj]
 rfl
theorem zby (c:ChD) (i:Nat):(mkTo c i).length=c.states.length:=by simp [mkTo]
theorem zk5 {c:ChD} {i:Nat} (hi:i<c.states.length):(mkTo c i).set i (mask c i)=mkTo c (i+1):=by
 apply List.ext_getElem?
 intro k
 by_cases hk:k<c.states.length
 ·rw [zd3 hk,List.getElem?_set,zby]
  by_cases e:i=k
  ·subst e; simp [hi]
  ·rw [if_neg e,zd3 hk]
   by_cases e2:k<i
   ·rw [if_pos e2,if_pos (by omega)]
   ·rw [if_neg e2,if_neg (by omega)]
 ·rw [List.getElem?_eq_none (by rw [List.length_set,zby]; omega),List.getElem?_eq_none (by rw [zby]; omega)]
theorem znz {c:ChD} {i:Nat} (hi:i<c.states.length) (h0:mask c i=0):mkTo c i=mkTo c (i+1):=by
 rw [<-zk5 hi,h0]
 apply List.ext_getElem?
 intro k
 rw [List.getElem?_set,zby]
 by_cases e:i=k
 ·subst e
  rw [zd3 hi]
  simp [hi]
 ·rw [if_neg e]
theorem zk1 {a b:Nat} (ha:a<4294967296) (hb:b<4294967296):bitV .or .u32 (a:Int) (b:Int)=((a||| b:Nat):Int):=by
 have hx:a||| b<2^32:=Nat.or_lt_two_pow (by omega) (by omega)
 show IntKind.u32.wrap ((BitVec.ofInt 32 (a:Int)||| BitVec.ofInt 32 (b:Int)).toNat:Int)=_
 rw [BitVec.toNat_or,ofInt_u32 a ha,ofInt_u32 b hb,IntKind.wrap_u32]
 omega
theorem zhE {p:Nat} (hp:p<32):IntKind.u32.wrap (1*2^min p 32)=((2^p:Nat):Int):=by
 have h:=zdb p hp
 have key: ∀q:Nat,q<4294967296->(q:Int)%4294967296=q:=fun q h=>by omega
 rw [show min p 32=p by omega,IntKind.wrap_u32,Int.one_mul,show ((2:Int)^p)=((2^p:Nat):Int) by rw [Int.natCast_pow]; rfl]
 exact key _ h
theorem zfj {c:ChD} : ∀ {i:Nat},i<=32->za8 c i<4294967296
 | 0,_=>by show 0<4294967296; decide
 | i+1,h=>by
   have ih:=zfj (c:=c) (i:=i) (by omega)
   have h2:=zdb i (by omega)
   unfold za8
   split
   ·split
    ·exact Nat.or_lt_two_pow (n:=32) ih h2
    ·exact ih
   ·exact ih
/-! What is beneath -/
def bitL (m:Nat):List Nat:=(List.range 32).filter fun(b:Nat)=>m/2^b%2==1
theorem zgT (m:Nat):setOf m=(bitL m).map fun(b:Nat)=>(b:Int):=rfl
theorem zoK (m b:Nat):(m/2^b%2==1)=m.testBit b:=by
 rw [Nat.testBit_eq_decide_div_mod_eq]
 rfl
theorem zh7 {m b:Nat} :b∈bitL m↔b<32/\m.testBit b=true:=by
 unfold bitL
 rw [List.mem_filter,List.mem_range,zoK]
theorem zmA (m:Nat):(bitL m).Nodup:=List.Nodup.sublist List.filter_sublist List.nodup_range
def benN (c:ChD):Nat->Nat->Nat
 | 0,_=>0
 | i+1,j=>if (mask c i).testBit j then benN c i j||| 2^i else benN c i j
theorem zhn {c:ChD} : ∀ {i:Nat} (j:Nat),i<=32->benN c i j<4294967296
 | 0,_,_=>by show 0<4294967296; decide
 | i+1,j,h=>by
   have ih:=zhn (c:=c) (i:=i) j (by omega)
   have h2:=zdb i (by omega)
   unfold benN
   split
   ·exact Nat.or_lt_two_pow (n:=32) ih h2
   ·exact ih
def bnTo (c:ChD) (i:Nat):List Nat:=(List.range c.states.length).map (benN c i)
def zfz (c:ChD) (i m:Nat):List Nat:=(List.range c.states.length).map fun(j:Nat)=>if j∈(bitL (mask c i)).take m then benN c i j||| 2^i else benN c i j
theorem zeB (c:ChD) (i m:Nat):(zfz c i m).length=c.states.length:=by simp [zfz]
theorem zmz (c:ChD) (i:Nat):zfz c i 0=bnTo c i:=by
 unfold zfz bnTo
 apply List.map_congr_left
 intro j _
 simp
theorem zoJ {c:ChD} (h:c.states.length<=32) (i:Nat):zfz c i (bitL (mask c i)).length=bnTo c (i+1):=by
 unfold zfz bnTo
 apply List.map_congr_left
 intro j hj
 have hj:=List.mem_range.1 hj
 rw [List.take_length]
 show _=if (mask c i).testBit j then benN c i j||| 2^i else benN c i j
 by_cases hb:(mask c i).testBit j=true
 ·rw [if_pos (zh7.2 ⟨by omega,hb⟩),if_pos hb]
 ·rw [if_neg (fun hm=>hb (zh7.1 hm).2),if_neg hb]
theorem zpL {c:ChD} {i m k:Nat} (hk:(bitL (mask c i))[m]? =some k) (hn:k<c.states.length):(zfz c i m)[k]? =some (benN c i k):=by
 unfold zfz
 rw [List.getElem?_map,List.getElem?_range hn]
 simp only [Option.map_some,Option.some.injEq]
 rw [if_neg]
 intro hm
 obtain⟨q,hq⟩:=List.mem_iff_getElem?.1 hm
 rw [List.getElem?_take] at hq
 split at hq
 ·rename_i hlt
  obtain⟨h1,h2⟩:=List.getElem?_eq_some_iff.1 hk
  obtain⟨h3,h4⟩:=List.getElem?_eq_some_iff.1 hq
  exact(List.pairwise_iff_getElem.1 (zmA (mask c i))) q m h3 h1 hlt (h4.trans h2.symm)
 ·cases hq
theorem zoI {c:ChD} {i m k:Nat} (hk:(bitL (mask c i))[m]? =some k) (hn:k<c.states.length):(zfz c i m).set k (benN c i k||| 2^i)=zfz c i (m+1):=by
 apply List.ext_getElem?
 intro j
 rw [List.getElem?_set,zeB]
 by_cases hj:j<c.states.length
 ·unfold zfz
  rw [List.getElem?_map,List.getElem?_range hj,List.getElem?_map,List.getElem?_range hj,List.take_add_one,hk]
  simp only [Option.map_some,Option.toList_some,List.mem_append,List.mem_singleton]
  by_cases e:k=j
  ·subst e
   simp [hn]
  ·rw [if_neg e]
   simp [Ne.symm e]
 ·rw [List.getElem?_eq_none (by rw [zeB]; omega),List.getElem?_eq_none (by rw [zeB]; omega)]
  by_cases e:k=j
  ·omega
  ·rw [if_neg e]
theorem zoH (c:ChD):(bnTo c 0).map umAV=List.replicate c.states.length [.lit (.int .u32 0)]:=by
 rw [<-ziI]
 unfold bnTo mkTo
 congr 1
theorem zmB {c:ChD} (h:Right c) {i m k:Nat} (hk:(bitL (mask c i))[m]? =some k):k<i:=by
 have:=(zh7.1 (List.mem_of_getElem? hk)).2
 rw [zhS h,decide_eq_true_eq] at this
 have:=zeG h 40 _ _ this
 omega
theorem zkM {c:ChD} (h:Right c):(walkL c (-1)).length<=c.states.length:=by
 have:=(zeF h 40 (-1) (by omega) (by have:=h.few; omega)).length_le_of_subset (l₂:=List.range c.states.length) fun m hm=>List.mem_range.2 ((zkL h m).1 hm)
 simpa using this
def zkV (c:ChD):List Nat:=rankAll (walkL c (-1)) 0 (List.replicate c.states.length 0)
def zal (c:ChD):AV:= .ref 7 [[.seq 1 (c.states.map fun s=>[I s.parent]), .seq 1 (c.states.map fun s=>[I s.kind]), .seq 1 ((mkTo c c.states.length).map umAV), .seq 1 ((bnTo c c.states.length).map umAV), .seq 1 ((zkV c).map zae), .seq 1 ((walkL c (-1)).map zae), .lit (.int .u32 (za8 c c.states.length))]] 0 0
end

end Go.Proofs.YtlmekdfleciejaaGreatDoor