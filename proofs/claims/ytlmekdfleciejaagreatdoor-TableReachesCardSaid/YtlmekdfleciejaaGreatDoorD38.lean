/- What is remembered when states are left, plain: as the program says and as the document says. No program is named here. -/
import Derived.Test.YtlmekdfleciejaaGreatDoorD34
import Derived.Shelf.Slices.Reverse
import Derived.Shelf.Slices.CompactI
import Derived.Test.YtlmekdfleciejaaGreatDoorD7
import Derived.Test.YtlmekdfleciejaaGreatDoorD36
import Derived.Test.YtlmekdfleciejaaGreatDoorD33
namespace Go.Proofs
def Tryz.revI_ren:Go.Shelf.Ren:=⟨fun | 112=>174 | n=>n,fun | 28=>35 | 3=>3 | 4=>4 | 0=>0 | n=>n,fun | n=>n⟩
theorem Tryz.revI:Go.Proofs.Lays.n112 Tryz.prog Tryz.revI_ren:={
 mixed:=by kernel_rfl
 f112:=Tryz.func174.trans (congrArg some (by kernel_rfl))
 t0:=Tryz.underlying0
 a0:=Tryz.isAgg0
 z0:=Tryz.sizeOf0
 v0:=Tryz.zeroValue0
 t3:=Tryz.underlying3
 a3:=Tryz.isAgg3
 z3:=Tryz.sizeOf3
 v3:=Tryz.zeroValue3
 t4:=Tryz.underlying4
 a4:=Tryz.isAgg4
 z4:=Tryz.sizeOf4
 v4:=Tryz.zeroValue4
 t28:=Tryz.underlying35
 a28:=Tryz.isAgg35
 z28:=Tryz.sizeOf35
 v28:=Tryz.zeroValue35 }
def Tryz.compI_ren:Go.Shelf.Ren:=⟨fun | 20=>108 | n=>n,fun | 22=>35 | 3=>3 | 4=>4 | 0=>0 | n=>n,fun | n=>n⟩
theorem Tryz.compI:Go.Proofs.Lays2.n20 Tryz.prog Tryz.compI_ren:={
 mixed:=by kernel_rfl
 f20:=Tryz.func108.trans (congrArg some (by kernel_rfl))
 t0:=Tryz.underlying0
 a0:=Tryz.isAgg0
 z0:=Tryz.sizeOf0
 v0:=Tryz.zeroValue0
 t3:=Tryz.underlying3
 a3:=Tryz.isAgg3
 z3:=Tryz.sizeOf3
 v3:=Tryz.zeroValue3
 t4:=Tryz.underlying4
 a4:=Tryz.isAgg4
 z4:=Tryz.sizeOf4
 v4:=Tryz.zeroValue4
 t22:=Tryz.underlying35
 a22:=Tryz.isAgg35
 z22:=Tryz.sizeOf35
 v22:=Tryz.zeroValue35
 i3:=by kernel_rfl }
end Go.Proofs
namespace Go.Proofs.YtlmekdfleciejaaGreatDoor
open Go.RowKit Go.Sort Go.Shelf Go.Lib
theorem Tryz.revIEnter: ∀(args:Array Value) (w:World),(callFunc 174 args).run Tryz.prog w= .ok (.enter 174 args) w:=enters_of Tryz.func174 (by kernel_rfl) rfl
theorem Tryz.compIEnter: ∀(args:Array Value) (w:World),(callFunc 108 args).run Tryz.prog w= .ok (.enter 108 args) w:=enters_of Tryz.func108 (by kernel_rfl) rfl
theorem zlV (l:List Int) (hl:l.length<=9223372036854775807):Turns Tryz.prog 174 [] 3 1 (l.map intC) (l.reverse.map intC):=by
 by_cases h0:l=[]
 ·subst h0
  exact zeI Tryz.revIEnter fun p cap w=>Any.slices_Reverse_int_empty Tryz.revI p cap w
 ·refine zeJ (by rw [List.length_map]; exact List.length_pos_iff.2 h0) Tryz.revIEnter (by simp) (fun x hx=> ?_) (fun x hx=> ?_) fun w g cap hH hg=> ?_
  ·obtain⟨y,_,rfl⟩:=List.mem_map.1 hx; rfl
  ·obtain⟨y,_,rfl⟩:=List.mem_map.1 hx
   exact⟨rfl,fun u hu=>by rw [List.mem_singleton.1 hu]; rfl⟩
  ·have hH:Holds id w g 0 (l.map (Value.int .i64)).toArray:=by rw [<-zbA]; exact hH
   have:=Any.slices_Reverse_int Tryz.revI g 0 cap l w (zg5 hH) hl
   rw [List.length_map]
   refine(show Calls Tryz.prog 174 #[.slice (some ⟨g,0,none⟩) l.length cap] w _ from this).mono ?_
   rintro ex w' ⟨rfl,n,rfl⟩
   refine⟨rfl,n, #[], ?_⟩
   have hgr: ∀W:World,grow W #[]=W:=fun W=>by simp [grow]
   rw [hgr,zdi,show (l.reverse.map intC).flatten=l.reverse.map (Value.int .i64) from zbA (Value.int .i64) _]
   simp
theorem zhh (l:List Int) (hl:l.length<=9223372036854775807):Cuts Tryz.prog 108 3 1 (l.map intC) ((Lib.compact l).map intC):=by
 refine⟨Tryz.compIEnter,fun x hx=> ?_,fun w base v ho=> ?_⟩
 ·obtain⟨y,_,rfl⟩:=List.mem_map.1 hx
  exact⟨rfl,fun u hu=>by rw [List.mem_singleton.1 hu]; rfl⟩
 rw [show (l.map intC).flatten=l.map (Value.int .i64) from zbA (Value.int .i64) _,List.length_map] at ho
 rw [show ((Lib.compact l).map intC).flatten=(Lib.compact l).map (Value.int .i64) from zbA (Value.int .i64) _,List.length_map]
 by_cases h0:l=[]
 ·subst h0
  obtain⟨p,cap,rfl⟩: ∃p cap,v= .slice p 0 cap:=by
   rcases ho.2 with⟨rfl,_⟩ | ⟨g,cap,cur,rfl,_⟩
   ·exact⟨_,_,rfl⟩
   ·exact⟨_,_,rfl⟩
  refine(show Calls Tryz.prog 108 #[.slice p 0 cap] w _ from Any.slices_Compact_int_empty Tryz.compI p cap w).mono ?_
  rintro ex w' ⟨rfl,rfl⟩
  exact⟨_,rfl,rfl,⟨rfl,rfl,rfl,Nat.le_refl _,fun _ _ _=>rfl⟩,fun _ h=>h,ho⟩
 ·rcases ho.2 with⟨_,h⟩ | ⟨g,cap,cur,rfl,hbase,hb,h1,h2,h3,h4⟩
  ·exact absurd (List.eq_nil_of_length_eq_zero h) h0
  have hg:g<w.heap.size:=(Array.getElem?_eq_some_iff.1 hb).1
  have hH:Holds (Value.int .i64) w g 0 l.toArray:=fun j hj=>by
   have hj':j<l.length:=by simpa using hj
   have e1:(cur.toList.take (l.length*1))[j]? =(l.map (Value.int .i64))[j]? :=by rw [h4]
   rw [List.getElem?_take_of_lt (by omega),List.getElem?_map,List.getElem?_eq_getElem hj'] at e1
   refine⟨?_,by simp [World.frozen?,hb]⟩
   simp only [World.cell?,hb,Nat.zero_add,Option.isSome_none,Bool.false_eq_true,if_false]
   rw [<-Array.getElem?_toList,e1,getElem!_pos _ j hj]
   rfl
  have hcl:(Lib.compact l).length<=l.length:=by
   unfold Lib.compact Lib.compactUpTo
   rw [List.length_map]
   exact Nat.le_trans (List.length_filter_le ..) (by simp)
  refine(show Calls Tryz.prog 108 #[.slice (some ⟨g,0,none⟩) l.length cap] w _ from Any.slices_Compact_int Tryz.compI g 0 cap l w hH hl h1).mono ?_
  rintro ex w' ⟨rfl,q,rfl⟩
  rw [zdi]
  generalize hF:((Lib.compact l++List.replicate (l.length-(Lib.compact l).length) 0).toArray.map (Value.int .i64))=F
  have hFs:F.size=l.length:=by rw [<-hF]; simp; omega
  have hgr: ∀W:World,grow W #[]=W:=fun W=>by simp [grow]
  have e2:=heap_put (n:=q) (os:= #[]) F hb
  have e3:=zd6 (w:=w) (g:=g) (n:=q) (os:= #[]) F
  rw [hgr] at e2 e3
  refine⟨_,rfl,rfl,e3,fun _ h=>h,⟨by rw [List.length_map,Nat.mul_one], .inr ⟨g,cap,_,rfl,hbase,e2,Nat.le_trans hcl h1,h2,by simp [putCells,h3], ?_⟩⟩⟩
  have ht:=zhz cur F (by rw [hFs,h3]; omega)
  rw [Nat.mul_one]
  have:((putCells id 0 F cur).toList.take (Lib.compact l).length)=(F.toList).take (Lib.compact l).length:=by
   rw [<-ht,List.take_take,Nat.min_eq_left (by omega)]
  rw [this, <-hF]
  simp
end Go.Proofs.YtlmekdfleciejaaGreatDoor
set_option linter.unusedSimpArgs false
namespace Go.Proofs.YtlmekdfleciejaaGreatDoor
open Go.RowKit
set_option maxRecDepth 100000
set_option maxHeartbeats 8000000
def chainV (ps:List Int) (e:AV):AV:=ps.foldr (fun p x=>errV p x) e
theorem zlw {S:Nat->Nat->Prop} {w:World} {a:Addr} (ha:Lies w a): ∀(ps:List Int) (v:Value),RV S w v (chainV ps (sentV a))->zbT w a ps.length v
 | [],v,h=>⟨h.lit_inv,ha⟩
 | p::ps,v,h=>by
   have h:RV S w v (.iface 120 (.ref 3 [[.any,I p,chainV ps (sentV a)]] 0 0)):=h
   cases h with
   | iface t v c h=>
     cases h with
     | ref sz es i off b o u hz hc hr=>
       have h2:=hc 0 2 (chainV ps (sentV a)) rfl
       have h3:=hr 0 2 (chainV ps (sentV a)) rfl
       refine⟨b,o+(0*3+0),u 0 2,rfl, ?_,zlw ha ps _ h3⟩
       have:=h2.2.1
       simpa using this
theorem zmt (ad:Nat->Addr) (mo:More) (k:Nat) (hk:1<=k/\k<=9) (ps:List Int):Con Tryz.prog (zaI ad mo) 97 [chainV ps (sentV (ad k))] (I k):=
 zkx Tryz.call97 fun w S vs hE hl hv=>by
  match vs,hl with
  | [v],_=>
    have hS:Sents w ad:=hE.inv.1
    refine(zpI hS k hk ps.length v (zlw (zlU hS k hk) ps v (hv 0 v _ rfl rfl))).mono ?_
    rintro e w' ⟨rfl,rfl⟩
    exact⟨rfl,Below.refl _ _⟩
theorem zoZ (env:Env) (s:List UInt8) (p:Int) (e:AV):Con Tryz.prog env 88 [Sg s,errV p e] (errV (-1) (errV p e)):=by
 refine zaj Tryz.func88 rfl Tryz.call88 (by rw [Tryz.ntmps88]; simp) ?_
 rw [Tryz.ntmps88,Tryz.results88]
 repeat refine st0 ?_
 (refine zak ?_; refine⟨_,(by show (zaz _ _ _).run _=some _; simp only [go_sem]; rfl), ?_⟩)
 exact zew _ _ _ rfl _ _ (.refl _)
theorem zpz (env:Env) (s:List UInt8) (p:Int) (a:Addr):Con Tryz.prog env 213 [Sg s,I p,sentV a] (errV (max p (-1)) (sentV a)):=by
 refine Con.args (cs:=[Sg s,I p, .iface 261 (.lit (.pointer (some a)))]) ?_ (.cons (.refl _) (.cons (.refl _) (.cons (.ifl _ _) .nil)))
 by_cases h1:p< -1
 ·rw [show max p (-1)= -1 by omega]
  refine zaj Tryz.func213 rfl Tryz.call213 (by rw [Tryz.ntmps213]; simp) ?_
  rw [Tryz.ntmps213,Tryz.results213]
  have F:=h1
  repeat refine st ?_
  (refine zak ?_; refine⟨_,(by show (zaz _ _ _).run _=some _; simp only [go_sem,F]; rfl), ?_⟩)
  exact zew _ _ _ rfl _ _ (.lfi _ _)
 ·rw [show max p (-1)=p by omega]
  refine zaj Tryz.func213 rfl Tryz.call213 (by rw [Tryz.ntmps213]; simp) ?_
  rw [Tryz.ntmps213,Tryz.results213]
  have F:=h1
  repeat refine st ?_
  (refine zak ?_; refine⟨_,(by show (zaz _ _ _).run _=some _; simp only [go_sem,F]; rfl), ?_⟩)
  exact zew _ _ _ rfl _ _ (.lfi _ _)
theorem zmD (env:Env) (a1 a8:Addr) (he:ChEnv env a1 a8) (p:Int):Con Tryz.prog env 172 [I p] (errV (max p (-1)) (sentV a1)):=by
 have g1:=zkq he.e1
 have f0:=zpz env [108,101,103,97,108,46,67,104,101,99,107] p a1
 refine zaa Tryz.func172 rfl Tryz.call172 (by rw [Tryz.ntmps172]; simp) ?_
 rw [Tryz.ntmps172,Tryz.results172]
 have F:=g1
 repeat (first | refine st ?_ | refine cC f0 ?_)
 exact aR
theorem zmf {c:ChD} {act:List Int} {j:Nat} {x:Int} (hx:act[j]? =some x) (hall: ∀m,m<j->lgAt c act m=true) (hb:lgAt c act j=false):ziO c act=(1,max x (-1)):=by
 have hj:=(List.getElem?_eq_some_iff.1 hx).1
 unfold ziO
 rw [zbf hj hall hb]
 simp only [List.getD_eq_getElem?_getD,hx,Option.getD_some]
theorem zjE (env:Env) (a1 a8:Addr) (he:ChEnv env a1 a8) (c:ChD) (h:Full c) (hsm:Small c) (act:List Int) (hl:act.length<=1000000):Con Tryz.prog env 118 [zai c, .seq 1 (act.map intAV)] (chkE a1 c act):=by
 have hlen:=h.few
 have f0:=zaG env c hsm
 have f1:=zob env c (by omega) act hl
 have f2:=fun(k:Nat) (s:StD) (hs:c.states[k]? =some s)=>zpv env c h act k s hs
 have f3:=zbI env c h (-1)
 rw [if_pos (.inl rfl)] at f3
 have hK:=zbz h.toRight (-1) true
 have hKm: ∀j∈kidsL c (-1) true,j<c.states.length:=fun j hj=>by have:=za0 h.toRight (zaO hj).1; omega
 have f4:=zk6 env c.states.length act (kidsL c (-1) true) (by omega) (by omega) hKm
 have fb:=zoL env a1 a8 he (-1) (by omega)
 have hfl:=zcW c.states.length act
 unfold zai at f0 f1 f2 f3 |-
 refine zaa Tryz.func118 rfl Tryz.call118 (by rw [Tryz.ntmps118]; simp) ?_
 rw [Tryz.ntmps118,Tryz.results118]
 have F:=chAV.eq_1
 repeat (first | refine st ?_ | refine cC f0 ?_ | refine cC f1 ?_)
 refine zab (D:=Nat) (fun j vs=>[(0, .ref 9 [tabCells c] 0 0),(1, .seq 1 (act.map intAV)),(5, .loc 5 (vs 5) 0 0),(6, .row 17 (vs 17)),(18, .seq 1 (act.map intAV)),(19,I act.length),(20,I j)]) (fun _ _=>[(5,⟨5,[chAV c],26,false⟩),(17,⟨1,zc4 c.states.length act,4,true⟩)]) (fun j _ _=>j<=act.length/\ ∀m,m<j->lgAt c act m=true) (fun j=>act.length-j) 0 ?_ ?_ ?_ ?_
 ·exact⟨Nat.zero_le _,fun m hm=>absurd hm (by omega)⟩
 ·(simp only [go_sem,F])
 ·have F:=chAV.eq_1
  (simp only [go_sem,F])
  try rfl
 rintro j ws esc ⟨hj,hall⟩
 by_cases hlt:j<act.length
 ·obtain⟨x,hx⟩: ∃x,act[j]? =some x:=⟨act[j],List.getElem?_eq_getElem hlt⟩
  have q1:=nlt hlt
  have q2:=zac hlt (by omega)
  have hat:=zqt (c:=c) hx
  have fx:=zmD env a1 a8 he x
  have bad:lgAt c act j=false->chkE a1 c act=errV (max x (-1)) (sentV a1):=fun hb=>zlu (zmf hx hall hb)
  by_cases h0:x<0
  ·rw [bad (by rw [hat,zli (by unfold inZ; rw [decide_eq_false (by omega)]; rfl),Bool.and_false])]
   have F:=ai hx<|ai q1<|h0
   repeat (first | refine st ?_ | refine cC fx ?_)
   exact aR
  obtain⟨k,rfl⟩:=zdU (show 0<=x by omega)
  by_cases h1:(c.states.length:Int)<=k
  ·rw [bad (by rw [hat,zli (by unfold inZ; rw [decide_eq_false (p:=(k:Int)<_) (by omega),Bool.and_false]),Bool.and_false])]
   have F:=ai hx<|ai q1<|ai h0<|ai h1<|hfl
   repeat (first | refine st ?_ | refine cC fx ?_)
   exact aR
  obtain⟨s,hs⟩: ∃s,c.states[k]? =some s:=⟨c.states[k]'(by omega),List.getElem?_eq_getElem _⟩
  have f2:=f2 k s hs
  rw [zpw hs] at hat
  by_cases hj0:0<j
  ·have q3:(0:Int)< (j:Int):=by omega
   have q4:IntKind.i64.wrap ((j:Int)-1)=((j-1:Nat):Int):=by rw [zbU (by omega) (by omega)]; omega
   have hy:=zqo hj0 hlt
   have q5:((j-1:Nat):Int)< (act.length:Int):=by omega
   have b0:(j==0)=false:=by simp; omega
   generalize act.getD (j-1) 0=y at*
   by_cases h2:(k:Int)<=y
   ·rw [bad (by rw [hat,b0,decide_eq_false (by omega)]; rfl)]
    have F:=ai hx<|ai q1<|ai h0<|ai h1<|ai hfl<|ai q3<|ai q4<|ai q5<|ai hy<|h2
    repeat (first | refine st ?_ | refine cC fx ?_)
    exact aR
   cases hb:fitB c act k s with
   | false=>
     rw [hb] at f2 hat
     rw [bad (by rw [hat,Bool.and_false])]
     have F:=ai chAV.eq_1<|ai hx<|ai q1<|ai h0<|ai h1<|ai hfl<|ai q3<|ai q4<|ai q5<|ai hy<|h2
     repeat (first | refine st ?_ | refine cC f2 ?_ | refine cC fx ?_)
     exact aR
   | true=>
     rw [hb,b0,decide_eq_true (show y< (k:Int) by omega)] at hat
     rw [hb] at f2
     have F:=ai chAV.eq_1<|ai hx<|ai q1<|ai q2<|ai h0<|ai h1<|ai hfl<|ai q3<|ai q4<|ai q5<|ai hy<|h2
     repeat (first | refine st ?_ | refine cC f2 ?_)
     refine⟨j+1,⟨hlt,fun m hm=>by rcases Nat.lt_succ_iff_lt_or_eq.1 hm with e | e; exact hall m e; rw [e]; exact hat⟩, ?_, ?_,by omega⟩
     ·(simp only [go_sem,F])
     ·have F:=chAV.eq_1
      (simp only [go_sem,F])
  ·have q3: ¬(0:Int)< (j:Int):=by omega
   have b0:(j==0)=true:=by simp; omega
   cases hb:fitB c act k s with
   | false=>
     rw [hb,b0] at hat
     rw [hb] at f2
     rw [bad (by rw [hat,Bool.and_false])]
     have F:=ai chAV.eq_1<|ai hx<|ai q1<|ai h0<|ai h1<|ai hfl<|q3
     repeat (first | refine st ?_ | refine cC f2 ?_ | refine cC fx ?_)
     exact aR
   | true=>
     rw [hb,b0] at hat
     rw [hb] at f2
     have F:=ai chAV.eq_1<|ai hx<|ai q1<|ai q2<|ai h0<|ai h1<|ai hfl<|q3
     repeat (first | refine st ?_ | refine cC f2 ?_)
     refine⟨j+1,⟨hlt,fun m hm=>by rcases Nat.lt_succ_iff_lt_or_eq.1 hm with e | e; exact hall m e; rw [e]; exact hat⟩, ?_, ?_,by omega⟩
     ·(simp only [go_sem,F])
     ·have F:=chAV.eq_1
      (simp only [go_sem,F])
 ·obtain rfl:j=act.length:=by omega
  have q1: ¬(act.length:Int)< (act.length:Int):=by omega
  have hc1:ziO c act=if manyI act (kidsL c (-1) true)=1 then(0, -1) else(1, -1):=by
   unfold ziO
   rw [zaH hall]
  by_cases hm:manyI act (kidsL c (-1) true)=1
  ·rw [if_pos hm] at hc1
   rw [zqz hc1]
   have hmi:((manyI act (kidsL c (-1) true):Nat):Int)=1:=by omega
   have F:=ai q1<|hmi
   repeat (first | refine st ?_ | refine cC f3 ?_ | refine cC f4 ?_)
   exact aR
  ·rw [if_neg hm] at hc1
   rw [zlu hc1]
   have hmi:(((manyI act (kidsL c (-1) true):Nat):Int) != 1)=true:=by simp; omega
   have F:=ai q1<|hmi
   repeat (first | refine st ?_ | refine cC f3 ?_ | refine cC f4 ?_ | refine cC fb ?_)
   exact aR
end Go.Proofs.YtlmekdfleciejaaGreatDoor
namespace Go.Proofs.YtlmekdfleciejaaGreatDoor
open Go.RowKit
/-! Legal states -/
structure Lg (c:ChD) (act:List Int):Prop where
 rise:act.Pairwise (· < ·)
 fit: ∀x∈act,∃s,at_ c x=some s/\fitB c act x.toNat s=true
 top:manyI act (kidsL c (-1) true)=1
theorem Lg.of {c:ChD} {act:List Int} (h:Lg c act) {x:Int} (hx:x∈act): ∃s,at_ c x=some s/\inZ c x=true/\zat s=false/\(parZ c x<0\/parZ c x∈act)/\(s.kind=1->kidsL c x true≠[]->manyI act (kidsL c x true)=1)/\(s.kind=2->manyI act (kidsL c x true)=(kidsL c x true).length):=by
 obtain⟨s,hs,hf⟩:=h.fit x hx
 have h0:0<=x/\c.states[x.toNat]? =some s:=by
  unfold at_ at hs
  split at hs
  ·exact⟨by assumption,hs⟩
  ·cases hs
 obtain⟨k,rfl⟩: ∃k:Nat,x=k:=⟨x.toNat,by omega⟩
 have hk:=(List.getElem?_eq_some_iff.1 h0.2).1
 have hp:parZ c (k:Int)=s.parent:=by unfold parZ; rw [hs]
 unfold fitB at hf
 rw [Int.toNat_natCast,Bool.and_eq_true,Bool.and_eq_true] at hf
 obtain⟨⟨f1,f2⟩,f3⟩:=hf
 refine⟨s,hs,zag.2 ⟨by omega,by simpa using hk⟩,by simpa using f1, ?_,fun e hne=> ?_,fun e=> ?_⟩
 ·rw [hp]
  rw [Bool.or_eq_true,decide_eq_true_eq] at f2
  exact f2.imp id fun f2=>by simpa using f2
 ·rw [if_pos ⟨e,hne⟩] at f3
  simpa using f3
 ·rw [if_neg (fun q=>by omega),if_pos e] at f3
  simpa using f3
theorem Lg.real {c:ChD} {act:List Int} (h:Lg c act) {x:Int} (hx:x∈act) {s:StD} (hs:at_ c x=some s):s.kind≠4/\s.kind≠5:=by
 obtain⟨s',e,_,hm,_⟩:=h.of hx
 rw [hs] at e
 cases e
 unfold zat at hm
 simpa using hm
theorem Lg.up {c:ChD} (hr:Right c) {act:List Int} (h:Lg c act): ∀(n:Nat) (x k:Int),x<n->x∈act->k∈upL c x->0<=k->k∈act
 | 0,x,k,hn,hx,hk,h0=>by
   obtain⟨_,_,hz,_⟩:=h.of hx
   have:=zag.1 hz
   omega
 | n+1,x,k,hn,hx,hk,h0=>by
   obtain⟨_,_,hz,_,hp,_⟩:=h.of hx
   rw [zbr hr hz] at hk
   have:=zbF hr hz
   rcases hk with rfl | hk
   ·exact hp.resolve_left (by omega)
   ·rcases hp with hp | hp
    ·rw [zbq (by unfold inZ; rw [decide_eq_false (by omega),Bool.false_and])] at hk
     simp at hk
    ·exact Lg.up hr h n _ k (by omega) hp hk h0
/-! Memories in their order -/
abbrev Srt (l:List MemD):Prop:=l.Pairwise fun a b=>a.1<b.1
/-! What is remembered -/
/-! As the document says -/
theorem zkf {c:ChD} {mem:List MemD} (h:zc3 c mem=true):Srt mem/\ ∀m∈mem,memB c m=true:=by
 have h1: ∀j (hj:j<mem.length),memB c mem[j]=true/\(j=0\/(mem.getD (j-1) (0,[])).1<mem[j].1):=fun j hj=>by
  have:=List.all_eq_true.1 h j (List.mem_range.2 hj)
  unfold zgN at this
  rw [List.getElem?_eq_getElem hj,Bool.and_eq_true,Bool.or_eq_true,decide_eq_true_eq] at this
  exact⟨this.1,this.2.imp (by simp) id⟩
 refine⟨List.pairwise_iff_getElem.2 ?_,fun m hm=> ?_⟩
 ·intro i j hi hj hij
  have key: ∀d (hd:i+d+1<mem.length),mem[i].1<mem[i+d+1].1:=fun d=>by
   induction d with
   | zero=>
     intro hd
     have:=(h1 (i+1) hd).2.resolve_left (by omega)
     simpa [List.getD_eq_getElem?_getD,List.getElem?_eq_getElem hi] using this
   | succ d ih=>
     intro hd
     have a:=ih (by omega)
     have b:=(h1 (i+d+1+1) (by omega)).2.resolve_left (by omega)
     simp only [Nat.add_sub_cancel,List.getD_eq_getElem?_getD,List.getElem?_eq_getElem (show i+d+1<mem.length by omega),Option.getD_some] at b
     have e:i+(d+1)+1=i+d+1+1:=by omega
     simp only [e]
     omega
  have:=key (j-i-1) (by omega)
  simpa [show i+(j-i-1)+1=j by omega] using this
 ·obtain⟨j,hj,rfl⟩:=List.mem_iff_getElem.1 hm
  exact(h1 j hj).1
theorem zna {l:List Int} (h:zdd l=true):l≠[]:=by
 unfold zdd at h
 rw [Bool.and_eq_true] at h
 intro e
 rw [e] at h
 simp at h
theorem zkk (act:List Int) (ks:List Nat):((zL ks).filter fun k=>act.contains k).length=manyI act ks:=by
 unfold manyI zL
 rw [List.filter_map,List.length_map]
 rfl
theorem zbg {c:ChD} (hr:Right c) {p x:Int} (hx:inZ c x=true):aboveB c p x=true↔parZ c x=p\/aboveB c p (parZ c x)=true:=by
 unfold aboveB
 rw [List.contains_iff_mem,List.contains_iff_mem,zbr hr hx]
 exact⟨fun h=>h.imp Eq.symm id,fun h=>h.imp Eq.symm id⟩
theorem zqw {c:ChD} (h:Full c) {k:Nat} {s:StD} (hs:c.states[k]? =some s) (hm:zat s=true):zaL c s.parent=true/\zar c s.parent=true/\kidsL c s.parent true≠[]/\inZ c s.parent=true/\(s.kind=4\/s.kind=5):=by
 have hk:s.kind=4\/s.kind=5:=by unfold zat at hm; simpa using hm
 rcases h.cases hs with⟨e,_⟩ | ⟨e,_⟩ | ⟨e,_⟩ | ⟨_,_,hp,hi⟩
 ·omega
 ·omega
 ·omega
 ·unfold zaB at hp
  split at hp
  ·rename_i q hq
   refine⟨by unfold zaL; rw [hq]; exact hp, ?_,fun e=> ?_, ?_,hk⟩
   ·unfold zar zbV
    rw [hq]
    simp only [hp,Bool.true_or]
   ·rw [e] at hi; simp [inL] at hi
   ·unfold at_ at hq
    split at hq
    ·rename_i h0
     have:=(List.getElem?_eq_some_iff.1 hq).1
     exact zag.2 ⟨h0,by omega⟩
    ·cases hq
  ·cases hp
/-! Moves -/
end Go.Proofs.YtlmekdfleciejaaGreatDoor
