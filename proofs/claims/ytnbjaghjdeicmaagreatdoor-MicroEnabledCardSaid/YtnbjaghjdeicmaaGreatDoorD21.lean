/- Memories, as the document checks them. -/
import Derived.Test.YtnbjaghjdeicmaaGreatDoorD20
import Derived.Test.YtnbjaghjdeicmaaGreatDoorD8
import Derived.Test.YtnbjaghjdeicmaaGreatDoorD6
import Derived.Test.YtnbjaghjdeicmaaGreatDoorD14
import Derived.Test.YtnbjaghjdeicmaaGreatDoorD19
import Derived.Test.YtnbjaghjdeicmaaGreatDoorD13
import Derived.Test.YtnbjaghjdeicmaaGreatDoorD9
import Derived.Test.YtnbjaghjdeicmaaGreatDoorD10
import Derived.Test.YtnbjaghjdeicmaaGreatDoorD18
set_option maxRecDepth 100000
set_option maxHeartbeats 16000000
set_option linter.unusedSimpArgs false
namespace Go.Proofs.YtnbjaghjdeicmaaGreatDoor
section
open Go.RowKit
abbrev memsAV (l:List MemD):AV:= .seq 2 (l.map mmAV)
theorem zsu {s:StD} :zaD s=false->s.kind≠4/\s.kind≠5:=fun h=>by
 unfold zaD at h
 simpa using h
def zoH (s:StD) (k:Int) (mem:List MemD):List Int:=match mem.find? (fun m=>m.1==k) with | some m=>m.2 | none=>[s.initial]
theorem zoF {s:StD} {k:Int} {mem:List MemD} {m:MemD} (h:mem.find? (fun m=>m.1==k)=some m):zoH s k mem=m.2:=by unfold zoH; rw [h]
theorem zoG {s:StD} {k:Int} {mem:List MemD} (h:mem.find? (fun m=>m.1==k)=none):zoH s k mem=[s.initial]:=by unfold zoH; rw [h]
theorem zqy (env:Env) (c:ChD) (hc:Right c) (hs:Small c) (k:Nat) (s:StD) (hsk:c.states[k]? =some s) (mem:List MemD) (hl:mem.length<=1000000) (hm: ∀m∈mem,m.2.length<=4096):Con Tryz.prog env 275 [zaj c,I k,memsAV mem] (.own 3 1 ((leadL c k mem).map intAV)):=by
 have hlen:=hc.few
 have f0:=zax env c hs
 have hk:=(List.getElem?_eq_some_iff.1 hsk).1
 have q0:((k:Nat):Int)< (c.states.length:Int):=by omega
 have hat:at_ c (k:Int)=some s:=by rw [zbV]; exact hsk
 have hlead:leadL c k mem=if zaD s=true then(zoH s k mem) else [(k:Int)]:=by unfold leadL; rw [hat]; rfl
 rw [hlead]
 unfold zaj at f0 |-
 cases hmy:zaD s with
 | false=>
   rw [if_neg (by simp)]
   obtain⟨n4,n5⟩:=zsu hmy
   have b4:(s.kind==4)=false:=by simpa using n4
   have b5:(s.kind==5)=false:=by simpa using n5
   refine zaa Tryz.func275 rfl Tryz.call275 (by rw [Tryz.ntmps275]; simp) ?_
   rw [Tryz.ntmps275,Tryz.results275]
   have F:=ai chAV.eq_1<|ai stAV.eq_1<|ai q0<|ai hsk<|ai b4<|ai b5<|bneA
   repeat (first | refine st ?_ | refine cC f0 ?_)
   exact aR
 | true=>
   rw [if_pos rfl]
   have hk45:((s.kind==4)=true)\/((s.kind==4)=false/\(s.kind==5)=true):=by
    unfold zaD at hmy
    cases h4:(s.kind==4) with
    | true=>exact .inl rfl
    | false=>rw [h4] at hmy; exact .inr ⟨rfl,by simpa using hmy⟩
   have main: ∀b4 b5:Bool,(s.kind==4)=b4->(s.kind==5)=b5->(b4=true\/b5=true)->Con Tryz.prog env 275 [.ref 9 [tabCells c] 0 0,I k,memsAV mem] (.own 3 1 ((zoH s k mem).map intAV)):=fun b4 b5 h4 h5 hb=>by
    cases b4<;>cases b5<;>(try simp at hb)<;>
    ·refine zaa Tryz.func275 rfl Tryz.call275 (by rw [Tryz.ntmps275]; simp) ?_
     rw [Tryz.ntmps275,Tryz.results275]
     have F:=ai chAV.eq_1<|ai stAV.eq_1<|ai q0<|ai hsk<|ai h4<|ai h5<|bneA
     repeat (first | refine st ?_ | refine cC f0 ?_)
     refine zac (D:=Nat) (fun j vs=>[(1,I k),(7, .loc 7 (vs 7) 0 0),(27,memsAV mem),(28,I mem.length),(29,I j)]) (fun _ _=>[(7,⟨5,[chAV c],26,false⟩)]) (fun j _ _=>j<=mem.length/\mem.find? (fun m=>m.1==(k:Int))=(mem.drop j).find? (fun m=>m.1==(k:Int))) (fun j=>mem.length-j) 0 ?_ ?_ ?_ ?_
     ·exact⟨Nat.zero_le _,rfl⟩
     ·(simp only [go_sem,F])
      try rfl
     ·have F:=chAV.eq_1
      (simp only [go_sem,F])
      try rfl
     rintro j ws esc ⟨hj,hf⟩
     by_cases hlt:j<mem.length
     ·obtain⟨x,hx⟩: ∃x,mem[j]? =some x:=⟨mem[j],List.getElem?_eq_getElem hlt⟩
      have q1:=nlt hlt
      have q2:=zab hlt (by omega)
      rw [zhl hx] at hf
      have f1:=zb7 env (x.2.map intAV) (by rw [List.length_map]; exact hm x (List.mem_of_getElem? hx))
      cases he:(x.1==(k:Int)) with
      | true=>
        rw [he] at hf
        simp only [if_true] at hf
        rw [zoF hf]
        have F:=ai mmAV.eq_1<|ai hx<|ai q1<|he
        repeat (first | refine st ?_ | refine cC f1 ?_)
        exact aR
      | false=>
        rw [he] at hf
        simp only [Bool.false_eq_true,if_false] at hf
        have F:=ai mmAV.eq_1<|ai hx<|ai q1<|ai q2<|he
        repeat (first | refine st ?_ | refine cC f1 ?_)
        refine⟨j+1,⟨hlt,hf⟩, ?_, ?_,by omega⟩
        ·(simp only [go_sem,F])
        ·have F:=chAV.eq_1
         (simp only [go_sem,F])
     ·obtain rfl:j=mem.length:=by omega
      have q1: ¬(mem.length:Int)< (mem.length:Int):=by omega
      rw [List.drop_length,List.find?_nil] at hf
      rw [zoG hf]
      have F:=ai chAV.eq_1<|ai stAV.eq_1<|ai q0<|ai q1<|hsk
      repeat (first | refine st ?_ | refine cC f0 ?_)
      exact aR
   rcases hk45 with h4 | ⟨h4,h5⟩
   ·exact main _ _ h4 rfl (.inl rfl)
   ·exact main _ _ h4 h5 (.inr rfl)
theorem znb {c:ChD} (h:Full c) {l:List Int} (hn:l.Nodup) (hz: ∀x∈l,inZ c x=true):(growL c l).length<=32:=by
 refine Nat.le_trans (zdy (zeN c _ _ _ hn) fun x hx=> ?_) h.toRight.few
 exact((zen h hn).1 hx).in h hz
def tgtL (c:ChD) (src tg:Int) (mem:List MemD):List Nat:=sortL c (growL c (upsL c (leadL c tg mem) (domE c src tg)))
theorem ztW {c:ChD} (h:Full c) {tg:Int} (hz:inZ c tg=true) {mem:List MemD} (hm:zeI c mem=true):(∀x∈leadL c tg mem,inZ c x=true)/\(leadL c tg mem).length<=1000000:=by
 obtain⟨d1,_,d3⟩:=zuB h hz hz
 have hu:=zss h hz hm d1 (by rcases d3 with e | e<;>omega)
 have h1: ∀x∈leadL c tg mem,inZ c x=true:=fun x hx=>zaT (hu.bel x ((zeT.2 x).2 (.inl hx)))
 refine⟨h1, ?_⟩
 unfold leadL
 split
 ·rename_i s hs
  split
  ·split
   ·rename_i m hf
    have e2:=(zlY hm).2 m (List.mem_of_find?_eq_some hf)
    unfold memB at e2
    split at e2
    ·split at e2
     ·rw [Bool.and_eq_true,decide_eq_true_eq] at e2; omega
     ·unfold deepB at e2
      simp only [Bool.and_eq_true] at e2
      have hr:=e2.2.1.1.1
      have hnd:m.2.Nodup:=zei hr
      have hin: ∀x∈m.2,inZ c x=true:=fun x hx=>by
       have:=List.all_eq_true.1 e2.2.1.1.2 x hx
       unfold zcp at this
       rw [Bool.and_eq_true] at this
       exact zaT this.1
      exact Nat.le_trans (zdy hnd hin) (by have:=h.toRight.few; omega)
    ·cases e2
   ·simp
  ·simp
 ·simp
theorem znV (env:Env) (c:ChD) (h:Full c) (hs:Small c) (t:TrD) (hsrc:inZ c t.src=true) (htg:inZ c t.target=true) (mem:List MemD) (hl:mem.length<=1000000) (hm: ∀m∈mem,m.2.length<=4096) (hmem:zeI c mem=true):
 Con Tryz.prog env 220 [zaj c, .agg (trAV t),memsAV mem] (.own 3 1 ((tgtL c t.src t.target mem).map zad)):=by
 have hc:=h.toRight
 obtain⟨k,s,e,hsk,_⟩:=zcL htg
 obtain⟨l1,l2⟩:=ztW h htg hmem
 obtain⟨u1,u2⟩:=zeT (c:=c) (d:=domE c t.src t.target) (l:=leadL c t.target mem)
 have u3: ∀x∈upsL c (leadL c t.target mem) (domE c t.src t.target),inZ c x=true:=fun x hx=>by
  rcases (u2 x).1 hx with h | ⟨i,_,q1,q2,_⟩
  ·exact l1 x h
  ·exact(zcZ hc q1 q2).1
 have f0:=zaL env c
 have f1:=zqy env c hc hs k s hsk mem hl hm
 rw [<-e] at f1
 have f2:=zfL env c hc hs t hsrc
 have f3:=ztb env c hc (leadL c t.target mem) l2 l1 (domE c t.src t.target)
 have f4:=znc env c h hs _ u1 u3
 have f5:=zcw env c hc (growL c (upsL c (leadL c t.target mem) (domE c t.src t.target))) (by have:=znb h u1 u3; omega)
 unfold tgtL
 generalize growL c (upsL c (leadL c t.target mem) (domE c t.src t.target))=G at*
 generalize upsL c (leadL c t.target mem) (domE c t.src t.target)=U at*
 generalize leadL c t.target mem=A at*
 unfold trAV at f2
 unfold zaq at f0 f5
 unfold zaj at f0 f1 f2 f3 f4 |-
 refine zaa Tryz.func220 rfl Tryz.call220 (by rw [Tryz.ntmps220]; simp) ?_
 rw [Tryz.ntmps220,Tryz.results220]
 have F:=trAV.eq_1
 repeat (first | refine st ?_ | refine cC f0 ?_ | refine cC f1 ?_ | refine cC f2 ?_ | refine cC f3 ?_ | refine cC f4 ?_ | refine cC f5 ?_)
 exact aR
end
section
open Go.RowKit
theorem zdF {α:Type} {l:List α} {n:Nat} {x:α} (h:l[n]? =some x):l.take (n+1)=l.take n++[x]:=by rw [List.take_add_one,h]; rfl
theorem zcJ {α:Type} {l:List α} {n:Nat} {x:α} (h:l[n]? =some x):l.drop n=x::l.drop (n+1):=by
 obtain⟨hn,he⟩:=List.getElem?_eq_some_iff.1 h
 rw [List.drop_eq_getElem_cons hn,he]
def idxQ (p:Int->Bool):List Int->Option Nat
 | []=>none
 | d::l=>if p d=true then some 0 else(idxQ p l).map (· +1)
def idxJ:Option Nat->Int
 | some i=>i
 | none=> -1
theorem zhb {p:Int->Bool} : ∀ {l:List Int} {i:Nat},idxQ p l=some i->i<l.length/\l.take i=(l.take i).filter (fun d=> !p d)/\ ∃d,l[i]? =some d/\p d=true
 | [],i,h=>by simp [idxQ] at h
 | d::l,i,h=>by
   unfold idxQ at h
   split at h
   ·rename_i hp
    cases h
    exact⟨by simp,by simp,d,rfl,hp⟩
   ·rename_i hp
    cases hi:idxQ p l with
    | none=>rw [hi] at h; cases h
    | some j=>
      rw [hi] at h
      cases h
      obtain⟨h1,h2,x,h3,h4⟩:=zhb hi
      refine⟨by simp; omega, ?_,x,by simpa using h3,h4⟩
      have hp:p d=false:=by simpa using hp
      simp only [List.take_succ_cons,List.filter_cons,hp,Bool.not_false,if_true]
      rw [<-h2]
theorem zhc {p:Int->Bool} : ∀ {l:List Int},idxQ p l=none->l.filter (fun d=> !p d)=l/\ ∀d∈l,p d=false
 | [],h=>by simp
 | d::l,h=>by
   unfold idxQ at h
   split at h
   ·cases h
   ·rename_i hp
    have hp:p d=false:=by simpa using hp
    cases hi:idxQ p l with
    | some j=>rw [hi] at h; cases h
    | none=>
      obtain⟨h1,h2⟩:=zhc hi
      refine⟨by simp only [List.filter_cons,hp,Bool.not_false,if_true,h1],fun x hx=> ?_⟩
      rcases List.mem_cons.1 hx with rfl | hx
      ·exact hp
      ·exact h2 x hx
theorem zqJ {p:Int->Bool} {l:List Int} {n:Nat} {d:Int} (hd:l[n]? =some d):idxQ p (l.drop n)=if p d=true then some 0 else(idxQ p (l.drop (n+1))).map (· +1):=by
 rw [zcJ hd]
 rfl
theorem zg8 (env:Env) (l:List Int) (p:Int->Bool) (g:FuncId) (caps:List (List AV)) (hp: ∀d,Con Tryz.prog env g [I d, .ref 1 caps 0 0] (B (p d))) (hl:l.length<=4096):Con Tryz.prog env 267 [.seq 1 (l.map intAV), .clo g [.ref 1 caps 0 0]] (I (idxJ (idxQ p l))):=by
 refine zaa Tryz.func267 rfl Tryz.call267 (by rw [Tryz.ntmps267]; simp) ?_
 rw [Tryz.ntmps267,Tryz.results267]
 repeat refine st0 ?_
 refine zac (D:=Nat) (fun n vs=>[(0, .seq 1 (l.map intAV)),(1, .clo g [.ref 1 caps 0 0]),(7,I l.length),(8,I n)]) (fun n vs=>[]) (fun n _ esc=>n<=l.length/\idxQ p l=(idxQ p (l.drop n)).map (· +n)) (fun n=>l.length-n) 0 ?_ ?_ ?_ ?_
 ·exact⟨Nat.zero_le _,by simp⟩
 ·(simp only [go_sem])
 ·(simp only [go_sem])
 rintro n vs esc ⟨hn,hi⟩
 by_cases hlt:n<l.length
 ·obtain⟨d,hd⟩: ∃x,l[n]? =some x:=⟨l[n],List.getElem?_eq_getElem hlt⟩
  have g1:=nlt hlt
  have g2:=zab hlt (by omega)
  have f1:=hp d
  rw [zqJ hd] at hi
  cases h1:p d
  ·rw [h1] at hi f1
   simp only [Bool.false_eq_true,if_false] at hi
   have F:=ai g1<|g2
   repeat (first | refine oO rfl (by simp only [go_sem,hd,F]; exact⟨rfl,rfl⟩) ?_ | refine gR ?_ | refine gO ?_ | refine oZ (zas ?_) | refine oZ ?_ | refine oS ?_ | refine gT ?_ | refine gD Tryz.mixed ?_ | refine oB ?_ | refine oK ?_ | (refine oX ?_; simp only [zal,zah, ↓reduceIte,Nat.reduceEqDiff,reduceCtorEq]) | refine oY (by simp only [go_sem,hd,F]; exact iR) ?_ | refine oN (by simp only [go_sem,hd,F]; exact iR) ?_)
   refine oC (zcu rfl (by simp only [go_sem,hd,F]; exact iR)) (f1) (by simp only [go_sem,hd,F]; exact iR) (by simp only [go_sem,hd,F]; exact⟨rfl,rfl⟩) ?_
   repeat (first | refine oO rfl (by simp only [go_sem,hd,F]; exact⟨rfl,rfl⟩) ?_ | refine gR ?_ | refine gO ?_ | refine oZ (zas ?_) | refine oZ ?_ | refine oS ?_ | refine gT ?_ | refine gD Tryz.mixed ?_ | refine oB ?_ | refine oK ?_ | (refine oX ?_; simp only [zal,zah, ↓reduceIte,Nat.reduceEqDiff,reduceCtorEq]) | refine oY (by simp only [go_sem,hd,F]; exact iR) ?_ | refine oN (by simp only [go_sem,hd,F]; exact iR) ?_)
   refine⟨n+1,⟨hlt, ?_⟩, ?_, ?_, ?_⟩
   ·rw [hi]
    cases idxQ p (l.drop (n+1))
    ·rfl
    ·simp; omega
   ·(simp only [go_sem,hd,F])
   ·(simp only [go_sem,hd,F])
   ·omega
  ·rw [h1] at hi f1
   simp only [if_true,Option.map_some,Nat.zero_add] at hi
   rw [hi]
   have F:=ai g1<|g2
   repeat (first | refine oO rfl (by simp only [go_sem,hd,idxJ,F]; exact⟨rfl,rfl⟩) ?_ | refine gR ?_ | refine gO ?_ | refine oZ (zas ?_) | refine oZ ?_ | refine oS ?_ | refine gT ?_ | refine gD Tryz.mixed ?_ | refine oB ?_ | refine oK ?_ | (refine oX ?_; simp only [zal,zah, ↓reduceIte,Nat.reduceEqDiff,reduceCtorEq]) | refine oY (by simp only [go_sem,hd,idxJ,F]; exact iR) ?_ | refine oN (by simp only [go_sem,hd,idxJ,F]; exact iR) ?_)
   refine oC (zcu rfl (by simp only [go_sem,hd,idxJ,F]; exact iR)) (f1) (by simp only [go_sem,hd,idxJ,F]; exact iR) (by simp only [go_sem,hd,idxJ,F]; exact⟨rfl,rfl⟩) ?_
   repeat (first | refine oO rfl (by simp only [go_sem,hd,idxJ,F]; exact⟨rfl,rfl⟩) ?_ | refine gR ?_ | refine gO ?_ | refine oZ (zas ?_) | refine oZ ?_ | refine oS ?_ | refine gT ?_ | refine gD Tryz.mixed ?_ | refine oB ?_ | refine oK ?_ | (refine oX ?_; simp only [zal,zah, ↓reduceIte,Nat.reduceEqDiff,reduceCtorEq]) | refine oY (by simp only [go_sem,hd,idxJ,F]; exact iR) ?_ | refine oN (by simp only [go_sem,hd,idxJ,F]; exact iR) ?_)
   (refine zaf ?_; show (zao _ _ _).run _=some _; simp only [go_sem,hd,idxJ,F])
 ·have g1: ¬(n:Int)< (l.length:Int):=by omega
  rw [List.drop_of_length_le (by omega)] at hi
  rw [hi]
  have F:=g1
  repeat (first | refine oO rfl (by simp only [go_sem,idxJ,idxQ,F]; exact⟨rfl,rfl⟩) ?_ | refine gR ?_ | refine gO ?_ | refine oZ (zas ?_) | refine oZ ?_ | refine oS ?_ | refine gT ?_ | refine gD Tryz.mixed ?_ | refine oB ?_ | refine oK ?_ | (refine oX ?_; simp only [zal,zah, ↓reduceIte,Nat.reduceEqDiff,reduceCtorEq]) | refine oY (by simp only [go_sem,idxJ,idxQ,F]; exact iR) ?_ | refine oN (by simp only [go_sem,idxJ,idxQ,F]; exact iR) ?_)
  (refine zaf ?_; show (zao _ _ _).run _=some _; simp only [go_sem,idxJ,idxQ,F])
end
section
open Go.RowKit
end
section
open Go.RowKit
def zu0 (G act:List Int):List Int:=act.filter fun i=> !G.contains i
def moved (G act:List Int) (T:List Nat):List Int:=Lib.compact (zhH (zu0 G act++zL T))
end
section
open Go.RowKit Go.ChangeShapes
theorem Tryz.tabArr:Tryz.prog.underlying 317=some (.array 32 5):=by kernel_rfl
theorem zt6:Tryz.prog.cellsOf 5=1:=by kernel_rfl
theorem zul {W:World} {g t:Nat} {cs:Array Value} {fuel:Nat} {p:List MemPlace} (hg:Tryz.prog.globalNamed "math/bits.deBruijn32tab" =some g) (ht:(Tryz.prog.globals[g]?).map (·.type)=some t) (hv:W.var? Tryz.prog "math/bits.deBruijn32tab" =some cs)
 (hd:DataW.trod (fun _=>()) Tryz.prog W 0 (fun _=>true) false fuel t cs.toList=some (Rows.laid_math_bits_deBruijn32tab,p)):TabAt W:=by
 obtain rfl:10=g:=Option.some.inj ((show Tryz.prog.globalNamed "math/bits.deBruijn32tab" =some 10 by kernel_rfl).symm.trans hg)
 obtain rfl:317=t:=Option.some.inj ((show (Tryz.prog.globals[10]?).map (·.type)=some 317 by kernel_rfl).symm.trans ht)
 obtain⟨xs,m,_,hx,_,hxl,hgx⟩:=DataW.trod_array Tryz.tabArr hd
 simp only [Prod.mk.injEq] at hx
 intro j hj
 have h1:=hgx j hj
 rw [zt6,Nat.mul_one] at h1
 have hjx:xs[j]? =some (xs[j]'(by omega)):=List.getElem?_eq_getElem _
 rw [hjx] at h1
 obtain⟨nn,e1,e2,_⟩:=DataW.trod_int Tryz.underlying5 h1
 have hcell:cs[j]? =some (.int .u8 nn):=by
  have:((cs.toList.drop j).take 1)[0]? =some (.int .u8 nn):=by rw [e1]; rfl
  rw [List.getElem?_take,if_pos (by omega),List.getElem?_drop,Nat.add_zero] at this
  simpa using this
 have hval:(Rows.laid_math_bits_deBruijn32tab:DataW Unit)= .agg (xs.map (·.1)):=hx.1
 have hlist:(xs.map (·.1))[j]? =(Lib.deBruijn32tab.map fun(k:Nat)=>DataW.lit (H:=Unit) (.int .u8 (k:Int)))[j]? :=by
  have e:(Lib.deBruijn32tab.map fun(k:Nat)=>DataW.lit (H:=Unit) (.int .u8 (k:Int)))=xs.map (·.1):=by
   have:DataW.agg (Lib.deBruijn32tab.map fun(k:Nat)=>DataW.lit (H:=Unit) (.int .u8 (k:Int)))=DataW.agg (xs.map (·.1)):=by
    rw [<-hval]
    rfl
   injection this
  rw [e]
 rw [List.getElem?_map,hjx,List.getElem?_map] at hlist
 have hdb:Lib.deBruijn32tab[j]? =some (Lib.deBruijn32tab.getD j 0):=by
  have:j<Lib.deBruijn32tab.length:=by simpa [Lib.deBruijn32tab] using hj
  simp [List.getD,List.getElem?_eq_getElem this]
 rw [hdb] at hlist
 simp only [Option.map_some,Option.some.injEq,e2] at hlist
 have hn:nn=((Lib.deBruijn32tab.getD j 0:Nat):Int):=by
  have:=hlist
  injection this with this
  injection this
 rw [World.var?_cell hg hv j,hcell,hn]
theorem zsR {P:Program} {env:Env} {f:FuncId} {cs:List AV} {u:Value} {w:World} {vs:List Value} (h:Con P env f cs (.lit u)) (hE:EnvOk env (fun b _=>b<w.heap.size) w) (hv:RAs (fun b _=>b<w.heap.size) w vs cs):
 Calls P f vs.toArray w fun e w'=>e= .returned u/\Below w.heap.size w w':=(zsS h hE (fun _ _ _=>by simp) hv).mono (by
 rintro e w' ⟨v,rfl,hb,_,hv⟩
 exact⟨by rw [hv.lit_inv],hb⟩)
end
section
open Go.RowKit Go.ChangeShapes
end
section
open Go.RowKit
theorem zt2 {c:ChD} (h:zhh c=true):(chk c).1=0:=by
 unfold zhh at h
 rw [Bool.and_eq_true,beq_iff_eq] at h
 exact h.2
end
section
open Go.RowKit
theorem zh8 (env:Env) (x:Int):Con Tryz.prog env 334 [I x] (B false):=by
 have e1:(x==x)=true:=by simp
 refine zaa Tryz.func334 rfl Tryz.call334 (by rw [Tryz.ntmps334]; simp) ?_
 rw [Tryz.ntmps334,Tryz.results334]
 have F:=ai e1<|bneA
 repeat refine st ?_
 exact aR
theorem zqw (env:Env) (x y:Int):Con Tryz.prog env 318 [I x,I y] (B (decide (x<y))):=by
 have f0:=zh8 env x
 have f1:=zh8 env y
 by_cases h:x<y
 ·rw [decide_eq_true h]
  refine zaa Tryz.func318 rfl Tryz.call318 (by rw [Tryz.ntmps318]; simp) ?_
  rw [Tryz.ntmps318,Tryz.results318]
  have F:=h
  repeat (first | refine st ?_ | refine cC f0 ?_ | refine cC f1 ?_)
  exact aR
 ·rw [decide_eq_false h]
  refine zaa Tryz.func318 rfl Tryz.call318 (by rw [Tryz.ntmps318]; simp) ?_
  rw [Tryz.ntmps318,Tryz.results318]
  have F:=h
  repeat (first | refine st ?_ | refine cC f0 ?_ | refine cC f1 ?_)
  exact aR
theorem zlE {l:List Int} {n:Nat} (h: ∀j,n<=j->j<l.length->zdW l j=true) (hn:n<=1):zdK l=true:=by
 unfold zdK
 rw [List.all_eq_true]
 intro j hj
 have hj:=List.mem_range.1 hj
 by_cases h0:n<=j
 ·exact h j h0 hj
 ·obtain rfl:j=0:=by omega
  rfl
theorem zn3 {l:List Int} {j:Nat} (hj:j<l.length) (h:zdW l j=false):zdK l=false:=by
 unfold zdK
 rw [List.all_eq_false]
 exact⟨j,List.mem_range.2 hj,by rw [h]; simp⟩
theorem zkx (env:Env) (l:List Int) (hl:l.length<=9223372036854775807):Con Tryz.prog env 284 [.seq 1 (l.map intAV)] (B (zdK l)):=by
 have w0:IntKind.i64.wrap ((l.length:Int)-1)=(l.length:Int)-1:=IntWalk.i64_in _ (by omega)
 refine zaa Tryz.func284 rfl Tryz.call284 (by rw [Tryz.ntmps284]; simp) ?_
 rw [Tryz.ntmps284,Tryz.results284]
 have F:=w0
 repeat refine st ?_
 refine zac (D:=Nat) (fun j vs=>[(0, .seq 1 (l.map intAV)),(3,I ((l.length:Int)-1-(j:Int)))]) (fun _ _=>[]) (fun j _ _=>j<=l.length/\ ∀m,l.length-j<=m->m<l.length->zdW l m=true) (fun j=>l.length-j) 0 ?_ ?_ ?_ ?_
 ·exact⟨Nat.zero_le _,fun m h1 h2=>absurd h2 (by omega)⟩
 ·(simp only [go_sem,Int.sub_zero])
  try rfl
 ·(simp only [go_sem,Int.sub_zero])
  try rfl
 rintro j ws esc ⟨hj,hall⟩
 by_cases hlt:0< (l.length:Int)-1-(j:Int)
 ·have hi: ∃i:Nat,(l.length:Int)-1-(j:Int)=(i:Int)/\i+j+1=l.length:=⟨l.length-1-j,by omega,by omega⟩
  obtain⟨i,e1,e2⟩:=hi
  have h1:i<l.length:=by omega
  have h2:i-1<l.length:=by omega
  have x1:l[i]? =some (l.getD i 0):=by rw [List.getD_eq_getElem?_getD,List.getElem?_eq_getElem h1]; rfl
  have x2:l[i-1]? =some (l.getD (i-1) 0):=by rw [List.getD_eq_getElem?_getD,List.getElem?_eq_getElem h2]; rfl
  have e3:IntKind.i64.wrap ((i:Int)-1)=((i-1:Nat):Int):=by rw [IntWalk.i64_in _ (by omega)]; omega
  have q1:(0:Int)< (i:Int):=by omega
  have q2:(i:Int)< (l.length:Int):=by omega
  have q3:((i-1:Nat):Int)< (l.length:Int):=by omega
  have hd:zdW l i=decide (¬l.getD i 0<l.getD (i-1) 0):=by
   unfold zdW
   rw [show (i==0)=false by simp; omega,Bool.false_or]
  rw [e1]
  generalize hX:l.getD i 0=X at*
  generalize hY:l.getD (i-1) 0=Y at*
  have f0:=zqw env X Y
  by_cases hb:X<Y
  ·rw [decide_eq_true hb] at f0
   rw [zn3 h1 (by rw [hd,decide_eq_false (by simpa using hb)])]
   have F:=ai q1<|ai q2<|ai q3<|ai x1<|ai x2<|e3
   repeat (first | refine st ?_ | refine cC f0 ?_)
   exact aR
  ·rw [decide_eq_false hb] at f0
   have e4:(l.length:Int)-1-((j+1:Nat):Int)=((i-1:Nat):Int):=by omega
   have F:=ai q1<|ai q2<|ai q3<|ai x1<|ai x2<|e3
   repeat (first | refine st ?_ | refine cC f0 ?_)
   refine⟨j+1,⟨by omega,fun m g1 g2=> ?_⟩, ?_, ?_,by omega⟩
   ·by_cases hm:m=i
    ·rw [hm,hd,decide_eq_true hb]
    ·exact hall m (by omega) g2
   ·have F:=e4
    (simp only [go_sem,F])
   ·(simp only [go_sem,e4])
 ·rw [zlE (n:=l.length-j) hall (by omega)]
  have F:=hlt
  repeat refine st ?_
  exact aR
theorem zoV (env:Env) (c:ChD) (h:Full c) (hs:Small c) (parent:Int) (l:List Int) (hl:l.length<=1000000) (hz: ∀x∈l,inZ c x=true):Con Tryz.prog env 286 [zaj c,I parent, .seq 1 (l.map intAV)] (B (l.all (zbm c l))):=by
 have f0:=zax env c hs
 unfold zaj at f0 |-
 refine zaa Tryz.func286 rfl Tryz.call286 (by rw [Tryz.ntmps286]; simp) ?_
 rw [Tryz.ntmps286,Tryz.results286]
 have F:=chAV.eq_1
 repeat (first | refine st ?_ | refine cC f0 ?_)
 refine zac (D:=Nat) (fun j vs=>[(0, .ref 9 [tabCells c] 0 0),(2, .seq 1 (l.map intAV)),(7, .loc 7 (vs 7) 0 0),(16, .seq 1 (l.map intAV)),(17,I l.length),(18,I j)]) (fun _ _=>[(7,⟨5,[chAV c],26,false⟩)]) (fun j _ _=>j<=l.length/\ ∀m (y:Int),m<j->l[m]? =some y->zbm c l y=true) (fun j=>l.length-j) 0 ?_ ?_ ?_ ?_
 ·exact⟨Nat.zero_le _,fun m y hm=>absurd hm (by omega)⟩
 ·(simp only [go_sem,F])
  try rfl
 ·have F:=chAV.eq_1
  (simp only [go_sem,F])
  try rfl
 rintro j ws esc ⟨hj,hall⟩
 by_cases hlt:j<l.length
 ·obtain⟨x,hx⟩: ∃x,l[j]? =some x:=⟨l[j],List.getElem?_eq_getElem hlt⟩
  have q1:=nlt hlt
  have q2:=zab hlt (by omega)
  have hxl:=List.mem_of_getElem? hx
  obtain⟨k,s,rfl,hsk,hat⟩:=zcL (hz x hxl)
  have hk:=(List.getElem?_eq_some_iff.1 hsk).1
  have q3:((k:Nat):Int)< (c.states.length:Int):=by omega
  have f1:=zbA env c h k
  rw [if_pos (.inr (hz _ hxl))] at f1
  have hcv:zbm c l (k:Int)= !(((s.kind==1)&&decide (1<manyI l (kidsL c k true)))||((s.kind==4)||(s.kind==5))):=by unfold zbm; rw [hat]
  have hK:=zbb h.toRight k true
  have hlen:=h.few
  unfold zaj at f1
  generalize kidsL c (k:Int) true=K at*
  have F:=ai hx<|ai q1<|q2
  repeat (first | refine st ?_ | refine cC f1 ?_)
  refine zac (D:=Nat) (fun m vs=>[(0, .ref 9 [tabCells c] 0 0),(2, .seq 1 (l.map intAV)),(7, .loc 7 (vs 7) 0 0),(9,I k),(10,I (manyI l (K.take m):Nat)),(16, .seq 1 (l.map intAV)),(17,I l.length),(18,I j),(24, .row 24 (vs 24)),(25,I K.length),(26,I m)]) (fun _ _=>[(7,⟨5,[chAV c],26,false⟩),(24,⟨1,K.map zad,3,true⟩)]) (fun m _ _=>m<=K.length) (fun m=>K.length-m) 0 ?_ ?_ ?_ ?_
  ·exact Nat.zero_le _
  ·(simp only [go_sem,F])
   try rfl
  ·have F:=chAV.eq_1
   (simp only [go_sem,F])
   try rfl
  rintro m us es hm
  by_cases hml:m<K.length
  ·obtain⟨y,hy⟩: ∃y,K[m]? =some y:=⟨K[m],List.getElem?_eq_getElem hml⟩
   have p1:=nlt hml
   have p2:=zab hml (by omega)
   have f2:=zaO env l (y:Int) hl
   have hmt:=zl0 (act:=l) hy
   have hle:=zl2 l (K.take m)
   rw [List.length_take] at hle
   have p3:=zab (show manyI l (K.take m)<K.length by omega) (by omega)
   cases hb:l.contains (y:Int) with
   | true=>
     rw [hb] at f2 hmt
     rw [if_pos rfl] at hmt
     have F:=ai zad.eq_1<|ai hy<|ai p1<|ai p2<|p3
     repeat (first | refine st ?_ | refine cC f2 ?_)
     refine⟨m+1,hml, ?_, ?_,by omega⟩
     ·have F:=hmt
      (simp only [go_sem,F])
     ·have F:=chAV.eq_1
      (simp only [go_sem,F])
   | false=>
     rw [hb] at f2 hmt
     rw [if_neg Bool.false_ne_true,Nat.add_zero] at hmt
     have F:=ai zad.eq_1<|ai hy<|ai p1<|p2
     repeat (first | refine st ?_ | refine cC f2 ?_)
     refine⟨m+1,hml, ?_, ?_,by omega⟩
     ·have F:=hmt
      (simp only [go_sem,F])
     ·have F:=chAV.eq_1
      (simp only [go_sem,F])
  ·obtain rfl:m=K.length:=by omega
   have p1: ¬(K.length:Int)< (K.length:Int):=by omega
   rw [List.take_length]
   generalize manyI l K=N at*
   cases hC:zbm c l (k:Int) with
   | false=>
     rw [show l.all (zbm c l)=false from List.all_eq_false.2 ⟨_,hxl,by rw [hC]; simp⟩]
     cases h1:(s.kind==1)<;>cases h4:(s.kind==4)<;>cases h5:(s.kind==5)<;>by_cases hn:(1:Int)< (N:Int)
     all_goals first
      |(exfalso; have hn':(1<N)=((1:Int)< (N:Int)):=(by simp; omega); simp [hcv,h1,h4,h5,hn',hn] at hC; done)
      | skip
     all_goals
      have F:=ai chAV.eq_1<|ai stAV.eq_1<|ai hsk<|ai p1<|ai q3<|ai h1<|ai h4<|ai h5<|hn
      repeat refine st ?_
      exact aR
   | true=>
     cases h1:(s.kind==1)<;>cases h4:(s.kind==4)<;>cases h5:(s.kind==5)<;>by_cases hn:(1:Int)< (N:Int)
     all_goals first
      |(exfalso; have hn':(1<N)=((1:Int)< (N:Int)):=(by simp; omega); simp [hcv,h1,h4,h5,hn',hn] at hC; done)
      | skip
     all_goals
      have F:=ai chAV.eq_1<|ai stAV.eq_1<|ai hsk<|ai p1<|ai q2<|ai q3<|ai h1<|ai h4<|ai h5<|hn
      repeat refine st ?_
      refine⟨j+1,⟨hlt,fun m y hm hy=> ?_⟩, ?_, ?_,by omega⟩
      ·rcases Nat.lt_succ_iff_lt_or_eq.1 hm with e | e
       ·exact hall m y e hy
       ·rw [e,hx] at hy; cases hy; exact hC
      ·(simp only [go_sem,F])
      ·have F:=chAV.eq_1
       (simp only [go_sem,F])
 ·obtain rfl:j=l.length:=by omega
  have q1: ¬(l.length:Int)< (l.length:Int):=by omega
  rw [show l.all (zbm c l)=true from List.all_eq_true.2 fun y hy=>by
   obtain⟨m,hm⟩:=List.mem_iff_getElem?.1 hy
   exact hall m y (List.getElem?_eq_some_iff.1 hm).1 hm]
  have F:=q1
  repeat refine st ?_
  exact aR
end
section
open Go.RowKit
theorem zoX (env:Env) (es:List (List AV)) (hl:Fits es.length 8):Con Tryz.prog env 93 [.seq 1 es] (.own 3 1 es):=by
 cases es with
 | nil=>exact zb7 env [] (by simp)
 | cons d l=>
   have g1:Fits ((l.length+1)) 8:=by simpa using hl
   refine zaa Tryz.func93 rfl Tryz.call93 (by rw [Tryz.ntmps93]; simp) ?_
   rw [Tryz.ntmps93,Tryz.results93]
   have F:=g1
   repeat refine st ?_
   exact aR
theorem zsP {c:ChD} (h:Full c) {parent:Int} (hp:zaA c parent=true) {l:List Int} (hr:zdN l=true) (hz: ∀x∈l,aboveB c parent x=true):(∀x∈l,inZ c x=true)/\(deepA c parent l).Nodup/\(∀x∈deepA c parent l,inZ c x=true)/\l.length<=32:=by
 have hin: ∀x∈l,inZ c x=true:=fun x hx=>zaT (hz x hx)
 obtain⟨un,um⟩:=zeT (c:=c) (d:=parent) (l:=l)
 obtain⟨sp,hsp,_⟩:=zda hp
 have hpz:inZ c parent=true:=by
  unfold at_ at hsp
  split at hsp
  ·rename_i h0
   have:=(List.getElem?_eq_some_iff.1 hsp).1
   exact zak.2 ⟨h0,by omega⟩
  ·cases hsp
 have habove: ∀x∈upsL c l parent,aboveB c parent x=true:=fun x hx=>by
  rcases (um x).1 hx with hx | ⟨_,_,_,_,hx⟩
  ·exact hz x hx
  ·exact hx
 have hnp:parent∉upsL c l parent:=fun hh=>by
  have:=habove _ hh
  unfold aboveB at this
  have:=(zfs h.toRight 40 parent parent (List.contains_iff_mem.1 this)).2
  omega
 refine⟨hin, ?_,fun x hx=> ?_, ?_⟩
 ·unfold deepA
  rw [List.nodup_append]
  refine⟨un,by simp,fun x hx y hy e=> ?_⟩
  rw [List.mem_singleton.1 hy] at e
  rw [e] at hx
  exact hnp hx
 ·unfold deepA at hx
  rcases List.mem_append.1 hx with hx | hx
  ·exact zaT (habove x hx)
  ·rw [List.mem_singleton.1 hx]; exact hpz
 ·have:=zdy (zei hr) hin
  have:=h.toRight.few
  omega
theorem zsO (env:Env) (c:ChD) (h:Full c) (hs:Small c) (parent:Int) (hp:zaA c parent=true) (l:List Int) (hF:Fits l.length 8):Con Tryz.prog env 239 [zaj c,I parent, .seq 1 (l.map intAV)] (B (deepB c parent l)):=by
 have hl63:l.length<=9223372036854775807:=hF.2
 have f0:=zkx env l hl63
 have f1:=zoX env (l.map intAV) (by rw [List.length_map]; exact hF)
 have g1:=zoU l hl63
 have hro:=ztH l
 unfold deepB
 cases he:l with
 | nil=>
   rw [show zdN []=false from rfl,Bool.false_and,Bool.false_and,Bool.false_and]
   unfold zaj
   refine zaa Tryz.func239 rfl Tryz.call239 (by rw [Tryz.ntmps239]; simp) ?_
   rw [Tryz.ntmps239,Tryz.results239]
   repeat refine st0 ?_
   exact aR0
 | cons d0 l0=>
 rw [<-he]
 have hemp:l.isEmpty=false:=by rw [he]; rfl
 have b0:((l.length:Int)==0)=false:=by rw [he]; simp; omega
 rw [hemp,Bool.not_false,Bool.true_and] at hro
 cases hso:zdK l with
 | false=>
   rw [hso,Bool.false_and] at hro
   rw [hso] at f0
   rw [<-hro,Bool.false_and,Bool.false_and,Bool.false_and]
   unfold zaj
   refine zaa Tryz.func239 rfl Tryz.call239 (by rw [Tryz.ntmps239]; simp) ?_
   rw [Tryz.ntmps239,Tryz.results239]
   have F:=b0
   repeat (first | refine st ?_ | refine cC f0 ?_)
   exact aR
 | true=>
 rw [hso,Bool.true_and] at hro
 rw [hso] at f0
 by_cases hcl:(Lib.compact l).length=l.length
 ·rw [decide_eq_true hcl] at hro
  have b1:(((Lib.compact l).length:Int)==(l.length:Int))=true:=by simp [hcl]
  rw [<-hro,Bool.true_and]
  have f2:=fun k:Int=>zc3 env c h.toRight parent k
  have f3:=zaL env c
  unfold zaq at f2 f3
  have fr:=fun(k:Int)=>zbA env c h k
  unfold zaj at f3 fr |-
  refine zaa Tryz.func239 rfl Tryz.call239 (by rw [Tryz.ntmps239]; simp) ?_
  rw [Tryz.ntmps239,Tryz.results239]
  have F:=b0
  repeat (first | refine st ?_ | refine cC f0 ?_ | refine cC f1 ?_)
  refine zjz 21 rfl (row:=⟨1,l.map intAV,3,true⟩) g1 (Nat.succ_ne_zero 0) rfl (litEs_int _).symm (by simp only [go_sem]; exact iR) (by simp only [go_sem]; exact iR) (by simp only [go_sem]; exact iR) (by simp only [go_sem]; exact iR) iR ?_
  rw [litEs_int]
  have F:=ai b0<|ai b1<|bneA
  repeat refine st ?_
  refine zac (D:=Nat) (fun j vs=>[(0, .ref 9 [tabCells c] 0 0),(1,I parent),(2, .seq 1 (l.map intAV)),(28, .seq 1 (l.map intAV)),(29,I l.length),(30,I j)]) (fun _ _=>[]) (fun j _ _=>j<=l.length/\ ∀m (y:Int),m<j->l[m]? =some y->zcp c parent y=true) (fun j=>l.length-j) 0 ?_ ?_ ?_ ?_
  ·exact⟨Nat.zero_le _,fun m y hm=>absurd hm (by omega)⟩
  ·(simp only [go_sem,F])
   try rfl
  ·(simp only [go_sem,F])
   try rfl
  rintro j ws esc ⟨hj,hall⟩
  by_cases hlt:j<l.length
  ·obtain⟨x,hx⟩: ∃x,l[j]? =some x:=⟨l[j],List.getElem?_eq_getElem hlt⟩
   have q1:=nlt hlt
   have q2:=zab hlt (by omega)
   have hxl:=List.mem_of_getElem? hx
   have e2:=f2 x
   have e4:=fr x
   have bad:zcp c parent x=false->(l.all (zcp c parent))=false:=fun hb=>List.all_eq_false.2 ⟨_,hxl,by rw [hb]; simp⟩
   cases ha:aboveB c parent x with
   | false=>
     rw [bad (by unfold zcp; rw [ha]; rfl),Bool.false_and,Bool.false_and]
     rw [ha] at e2
     have F:=ai hx<|q1
     repeat (first | refine st ?_ | refine cC f3 ?_ | refine cC e2 ?_)
     exact aR
   | true=>
     rw [ha] at e2
     rw [if_pos (.inr (zaT ha))] at e4
     cases hk:(kidsL c x true).isEmpty with
     | false=>
       rw [bad (by unfold zcp; rw [ha,hk]; rfl),Bool.false_and,Bool.false_and]
       have q3:(0:Int)< ((kidsL c x true).length:Int):=by
        cases hkk:kidsL c x true with
        | nil=>rw [hkk] at hk; cases hk
        | cons a b=>simp
       generalize kidsL c x true=K at*
       have F:=ai hx<|ai q1<|q3
       repeat (first | refine st ?_ | refine cC f3 ?_ | refine cC e2 ?_ | refine cC e4 ?_)
       exact aR
     | true=>
       have q3: ¬(0:Int)< ((kidsL c x true).length:Int):=by
        rw [List.isEmpty_iff.1 hk]; simp
       have hlf:zcp c parent x=true:=by unfold zcp; rw [ha,hk]; rfl
       generalize kidsL c x true=K at*
       have F:=ai hx<|ai q1<|ai q2<|q3
       repeat (first | refine st ?_ | refine cC f3 ?_ | refine cC e2 ?_ | refine cC e4 ?_)
       refine⟨j+1,⟨hlt,fun m y hm hy=> ?_⟩, ?_, ?_,by omega⟩
       ·rcases Nat.lt_succ_iff_lt_or_eq.1 hm with e | e
        ·exact hall m y e hy
        ·rw [e,hx] at hy; cases hy; exact hlf
       ·(simp only [go_sem,F])
       ·(simp only [go_sem,F])
  ·obtain rfl:j=l.length:=by omega
   have q1: ¬(l.length:Int)< (l.length:Int):=by omega
   have hleaf:l.all (zcp c parent)=true:=List.all_eq_true.2 fun y hy=>by
    obtain⟨m,hm⟩:=List.mem_iff_getElem?.1 hy
    exact hall m y (List.getElem?_eq_some_iff.1 hm).1 hm
   have hz: ∀x∈l,aboveB c parent x=true:=fun x hx=>by
    have:=List.all_eq_true.1 hleaf x hx
    unfold zcp at this
    rw [Bool.and_eq_true] at this
    exact this.1
   obtain⟨k1,k2,k3,k4⟩:=zsP h hp hro.symm hz
   have f5:=ztb env c h.toRight l (by omega) k1 parent
   have f6:=znc env c h hs (deepA c parent l) k2 k3
   have hgl:=znb h k2 k3
   have f7:=zoV env c h hs parent (growL c (deepA c parent l)) (by omega) fun x hx=>((zen h k2).1 hx).in h k3
   have hul:(upsL c l parent).length<=32:=by
    have:=zdy k2 k3
    unfold deepA at this
    rw [List.length_append] at this
    have:=h.toRight.few
    omega
   have hf:Fits ((upsL c l parent).length+1) 8:=zai (by omega) (by omega)
   have hA:(deepA c parent l).map intAV=(upsL c l parent).map intAV++[[I parent]]:=by unfold deepA; rw [List.map_append]; rfl
   have hAl:(deepA c parent l).length=(upsL c l parent).length+1:=by unfold deepA; simp
   rw [hleaf,Bool.true_and]
   rw [hA] at f6
   rw [hAl]
   unfold zaj at f5 f6 f7
   generalize growL c (deepA c parent l)=G at*
   generalize upsL c l parent=U at*
   by_cases hg:G.length=U.length+1
   ·have b2:((G.length:Int)==((U.length+1:Nat):Int))=true:=by simp [hg]
    rw [decide_eq_true hg,Bool.true_and]
    have F:=ai q1<|ai hf<|b2
    repeat (first | refine st ?_ | refine cC f5 ?_ | refine cC f6 ?_ | refine cC f7 ?_)
    exact aR
   ·have b2:((G.length:Int)==((U.length+1:Nat):Int))=false:=by simp; omega
    rw [decide_eq_false hg,Bool.false_and]
    have F:=ai q1<|ai hf<|b2
    repeat (first | refine st ?_ | refine cC f5 ?_ | refine cC f6 ?_)
    exact aR
 ·rw [decide_eq_false hcl] at hro
  have b1:(((Lib.compact l).length:Int)==(l.length:Int))=false:=by simp; omega
  rw [<-hro,Bool.false_and,Bool.false_and,Bool.false_and]
  unfold zaj
  refine zaa Tryz.func239 rfl Tryz.call239 (by rw [Tryz.ntmps239]; simp) ?_
  rw [Tryz.ntmps239,Tryz.results239]
  have F:=b0
  repeat (first | refine st ?_ | refine cC f0 ?_ | refine cC f1 ?_)
  refine zjz 21 rfl (row:=⟨1,l.map intAV,3,true⟩) g1 (Nat.succ_ne_zero 0) rfl (litEs_int _).symm (by simp only [go_sem]; exact iR) (by simp only [go_sem]; exact iR) (by simp only [go_sem]; exact iR) (by simp only [go_sem]; exact iR) iR ?_
  rw [litEs_int]
  have F:=ai b0<|ai b1<|bneA
  repeat refine st ?_
  exact aR
end
section
open Go.RowKit
theorem zi6 {c:ChD} (h:Full c) {k:Nat} {s:StD} (hs:c.states[k]? =some s) (h45:s.kind=4\/s.kind=5):zaA c s.parent=true/\inZ c s.parent=true:=by
 have hpl:zaQ c s=true:=by
  rcases h.cases hs with⟨e,_⟩ | ⟨e,_⟩ | ⟨e,_⟩ | ⟨_,_,e,_⟩
  ·omega
  ·omega
  ·omega
  ·exact e
 unfold zaQ at hpl
 cases ha:at_ c s.parent with
 | none=>rw [ha] at hpl; cases hpl
 | some p=>
   rw [ha] at hpl
   refine⟨?_, ?_⟩
   ·unfold zaA
    rw [ha]
    unfold zcc
    simp only at hpl |-
    rw [hpl]
    rfl
   ·unfold at_ at ha
    split at ha
    ·rename_i h0
     have:=(List.getElem?_eq_some_iff.1 ha).1
     exact zak.2 ⟨h0,by omega⟩
    ·cases ha
theorem zty {c:ChD} {i:Int} (h:inZ c i=false):at_ c i=none:=by
 unfold at_
 split
 ·rename_i h0
  refine List.getElem?_eq_none ?_
  have: ¬(0<=i/\i< (c.states.length:Int)):=fun q=>by rw [zak.2 q] at h; cases h
  omega
 ·rfl
theorem zou (env:Env) (c:ChD) (h:Full c) (hs:Small c) (m:MemD) (hF:Fits m.2.length 8):Con Tryz.prog env 176 [zaj c, .agg (mmAV m)] (B (memB c m)):=by
 obtain⟨i,l⟩:=m
 have hF:Fits l.length 8:=hF
 have f0:=zax env c hs
 unfold memB mmAV
 simp only
 cases hz:inZ c i with
 | false=>
   rw [zty hz]
   simp only
   unfold zaj at f0 |-
   by_cases h0:i<0
   ·refine zaa Tryz.func176 rfl Tryz.call176 (by rw [Tryz.ntmps176]; simp) ?_
    rw [Tryz.ntmps176,Tryz.results176]
    have F:=ai chAV.eq_1<|h0
    repeat (first | refine st ?_ | refine cC f0 ?_)
    exact aR
   ·have h1:(c.states.length:Int)<=i:=by
     have: ¬(0<=i/\i< (c.states.length:Int)):=fun q=>by rw [zak.2 q] at hz; cases hz
     omega
    refine zaa Tryz.func176 rfl Tryz.call176 (by rw [Tryz.ntmps176]; simp) ?_
    rw [Tryz.ntmps176,Tryz.results176]
    have F:=ai chAV.eq_1<|ai h0<|h1
    repeat (first | refine st ?_ | refine cC f0 ?_)
    exact aR
 | true=>
 obtain⟨k,s,rfl,hsk,hat⟩:=zcL hz
 have hk:=(List.getElem?_eq_some_iff.1 hsk).1
 have q1: ¬(k:Int)<0:=by omega
 have q2: ¬(c.states.length:Int)<=(k:Int):=by omega
 have q3:((k:Nat):Int)< (c.states.length:Int):=by omega
 rw [hat]
 simp only
 have hlen:=h.few
 by_cases h4:s.kind=4
 ·rw [if_pos h4]
  have b4:(s.kind==4)=true:=by simp [h4]
  obtain⟨p1,p2⟩:=zi6 h hsk (.inl h4)
  have f2:=zbA env c h s.parent
  rw [if_pos (.inr p2), <-zcP] at f2
  have hK:=zbb h.toRight s.parent true
  by_cases h1:l.length=1
  ·obtain⟨y,rfl⟩: ∃y,l=[y]:=List.length_eq_one_iff.1 h1
   have f3:=zaO env (zL (kidsL c s.parent true)) y (by rw [zcn]; omega)
   show Con _ _ _ _ (B ((zL (kidsL c s.parent true)).contains y))
   generalize zL (kidsL c s.parent true)=Z at*
   unfold zaj at f0 f2 |-
   refine zaa Tryz.func176 rfl Tryz.call176 (by rw [Tryz.ntmps176]; simp) ?_
   rw [Tryz.ntmps176,Tryz.results176]
   have F:=ai chAV.eq_1<|ai stAV.eq_1<|ai hsk<|ai q1<|ai q2<|ai q3<|b4
   repeat (first | refine st ?_ | refine cC f0 ?_ | refine cC f2 ?_ | refine cC f3 ?_)
   exact aR
  ·have b1:((l.length:Int)==1)=false:=by simp; omega
   rw [decide_eq_false h1,Bool.false_and]
   unfold zaj at f0 |-
   refine zaa Tryz.func176 rfl Tryz.call176 (by rw [Tryz.ntmps176]; simp) ?_
   rw [Tryz.ntmps176,Tryz.results176]
   have F:=ai chAV.eq_1<|ai stAV.eq_1<|ai hsk<|ai q1<|ai q2<|ai q3<|ai b4<|b1
   repeat (first | refine st ?_ | refine cC f0 ?_)
   exact aR
 ·rw [if_neg h4]
  have b4:(s.kind==4)=false:=by simpa using h4
  cases b5:(s.kind==5) with
  | false=>
    rw [Bool.false_and]
    unfold zaj at f0 |-
    refine zaa Tryz.func176 rfl Tryz.call176 (by rw [Tryz.ntmps176]; simp) ?_
    rw [Tryz.ntmps176,Tryz.results176]
    have F:=ai chAV.eq_1<|ai stAV.eq_1<|ai hsk<|ai q1<|ai q2<|ai q3<|ai b4<|b5
    repeat (first | refine st ?_ | refine cC f0 ?_)
    exact aR
  | true=>
    rw [Bool.true_and]
    obtain⟨p1,p2⟩:=zi6 h hsk (.inr (by simpa using b5))
    have f2:=zsO env c h hs s.parent p1 l hF
    unfold zaj at f0 f2 |-
    generalize deepB c s.parent l=D at*
    refine zaa Tryz.func176 rfl Tryz.call176 (by rw [Tryz.ntmps176]; simp) ?_
    rw [Tryz.ntmps176,Tryz.results176]
    have F:=ai chAV.eq_1<|ai stAV.eq_1<|ai hsk<|ai q1<|ai q2<|ai q3<|ai b4<|b5
    repeat (first | refine st ?_ | refine cC f0 ?_ | refine cC f2 ?_)
    exact aR
def chkM (a1:Addr) (c:ChD) (mem:List MemD):AV:=if zeI c mem=true then nilE else errV (-1) (sentV a1)
theorem zgo {c:ChD} {mem:List MemD} {j:Nat} (hj:j<mem.length) (h:zhK c mem j=false):zeI c mem=false:=by
 unfold zeI
 rw [List.all_eq_false]
 exact⟨j,List.mem_range.2 hj,by rw [h]; simp⟩
theorem zkl {c:ChD} {mem:List MemD} (h: ∀j,j<mem.length->zhK c mem j=true):zeI c mem=true:=by
 unfold zeI
 rw [List.all_eq_true]
 exact fun j hj=>h j (List.mem_range.1 hj)
theorem zlp (env:Env) (a1 a8:Addr) (he:ChEnv env a1 a8) (c:ChD) (h:Full c) (hs:Small c) (mem:List MemD) (hl:mem.length<=1000000) (hF: ∀m∈mem,Fits m.2.length 8):Con Tryz.prog env 89 [zaj c,memsAV mem] (chkM a1 c mem):=by
 have ff:=zoK env a1 a8 he [101,110,116,101,114,46,67,104,101,99,107]
 unfold chkM
 generalize sentV a1=E at*
 unfold zaj
 refine zaa Tryz.func89 rfl Tryz.call89 (by rw [Tryz.ntmps89]; simp) ?_
 rw [Tryz.ntmps89,Tryz.results89]
 repeat refine st0 ?_
 refine zac (D:=Nat) (fun j vs=>[(0, .ref 9 [tabCells c] 0 0),(1,memsAV mem),(11,memsAV mem),(12,I mem.length),(13,I j)]) (fun _ _=>[]) (fun j _ _=>j<=mem.length/\ ∀m,m<j->zhK c mem m=true) (fun j=>mem.length-j) 0 ?_ ?_ ?_ ?_
 ·exact⟨Nat.zero_le _,fun m hm=>absurd hm (by omega)⟩
 ·(simp only [go_sem])
  try rfl
 ·(simp only [go_sem])
  try rfl
 rintro j ws esc ⟨hj,hall⟩
 by_cases hlt:j<mem.length
 ·obtain⟨x,hx⟩: ∃x,mem[j]? =some x:=⟨mem[j],List.getElem?_eq_getElem hlt⟩
  have q1:=nlt hlt
  have q2:=zab hlt (by omega)
  have f1:=zou env c h hs x (hF x (List.mem_of_getElem? hx))
  have hat:zhK c mem j=(memB c x&&((j==0)||decide ((mem.getD (j-1) (0,[])).1<x.1))):=by unfold zhK; rw [hx]
  unfold zaj mmAV at f1
  cases hb:memB c x with
  | false=>
    rw [hb] at f1
    rw [if_neg (by rw [zgo hlt (by rw [hat,hb]; rfl)]; simp)]
    have F:=ai mmAV.eq_1<|ai hx<|q1
    repeat (first | refine st ?_ | refine cC f1 ?_ | refine cC ff ?_)
    exact aR
  | true=>
    rw [hb] at f1
    rw [hb,Bool.true_and] at hat
    by_cases h0:j=0
    ·have g0: ¬(0:Int)< (j:Int):=by omega
     have F:=ai mmAV.eq_1<|ai hx<|ai q1<|ai q2<|g0
     repeat (first | refine st ?_ | refine cC f1 ?_)
     refine⟨j+1,⟨hlt,fun m hm=> ?_⟩, ?_, ?_,by omega⟩
     ·obtain rfl:m=j:=by omega
      rw [hat,h0]
      rfl
     ·(simp only [go_sem,F])
     ·(simp only [go_sem,F])
    ·obtain⟨i,rfl⟩: ∃i,j=i+1:=⟨j-1,by omega⟩
     obtain⟨p,hp⟩: ∃p,mem[i]? =some p:=⟨mem[i]'(by omega),List.getElem?_eq_getElem (by omega)⟩
     have g0:(0:Int)< ((i+1:Nat):Int):=by omega
     have g1:IntKind.i64.wrap (((i+1:Nat):Int)-1)=(i:Int):=by rw [IntWalk.i64_in _ (by omega)]; omega
     have g2:((i:Nat):Int)< (mem.length:Int):=by omega
     have hgd:mem.getD (i+1-1) (0,[])=p:=by rw [Nat.add_sub_cancel,List.getD_eq_getElem?_getD,hp]; rfl
     rw [hgd] at hat
     by_cases hlt2:x.1<=p.1
     ·rw [if_neg (by rw [zgo hlt (by rw [hat,decide_eq_false (by omega)]; rfl)]; simp)]
      have F:=ai mmAV.eq_1<|ai hx<|ai hp<|ai q1<|ai g0<|ai g1<|ai g2<|hlt2
      repeat (first | refine st ?_ | refine cC f1 ?_ | refine cC ff ?_)
      exact aR
     ·have F:=ai mmAV.eq_1<|ai hx<|ai hp<|ai q1<|ai q2<|ai g0<|ai g1<|ai g2<|hlt2
      repeat (first | refine st ?_ | refine cC f1 ?_)
      refine⟨i+1+1,⟨hlt,fun m hm=> ?_⟩, ?_, ?_,by omega⟩
      ·rcases Nat.lt_succ_iff_lt_or_eq.1 hm with e | e
       ·exact hall m e
       ·rw [e,hat,decide_eq_true (by omega)]; simp
      ·(simp only [go_sem,F])
      ·(simp only [go_sem,F])
 ·obtain rfl:j=mem.length:=by omega
  have q1: ¬(mem.length:Int)< (mem.length:Int):=by omega
  rw [if_pos (zkl hall)]
  have F:=q1
  repeat refine st ?_
  exact aR
end
section
open Go.RowKit
theorem zr6 {l:List Int} {j:Nat} (hj:j<l.length) (h:upB l j=false):zdN l=false:=by
 unfold zdN
 rw [Bool.and_eq_false_iff]
 right
 rw [List.all_eq_false]
 exact⟨j,List.mem_range.2 hj,by rw [h]; simp⟩
theorem zr5 {l:List Int} (h: ∀j,j<l.length->upB l j=true):zdN l=decide ((0:Int)< (l.length:Int)):=by
 unfold zdN
 rw [List.all_eq_true.2 fun j hj=>h j (List.mem_range.1 hj),Bool.and_true]
 cases l with
 | nil=>rfl
 | cons a b=>rw [decide_eq_true (by simp only [List.length_cons]; omega)]; rfl
theorem zlN (env:Env) (l:List Int) (hl:l.length<=9223372036854775807):Con Tryz.prog env 266 [.seq 1 (l.map intAV)] (B (zdN l)):=by
 refine zaa Tryz.func266 rfl Tryz.call266 (by rw [Tryz.ntmps266]; simp) ?_
 rw [Tryz.ntmps266,Tryz.results266]
 repeat refine st0 ?_
 refine zac (D:=Nat) (fun j vs=>[(0, .seq 1 (l.map intAV)),(3,I ((j+1:Nat):Int))]) (fun _ _=>[]) (fun j _ _=>j<=l.length/\ ∀m,m<=j->m<l.length->upB l m=true) (fun j=>l.length-j) 0 ?_ ?_ ?_ ?_
 ·refine⟨Nat.zero_le _,fun m h1 _=> ?_⟩
  obtain rfl:m=0:=by omega
  rfl
 ·(simp only [go_sem])
  try rfl
 ·(simp only [go_sem])
  try rfl
 rintro j ws esc ⟨hj,hall⟩
 by_cases hlt:j+1<l.length
 ·have h1:j<l.length:=by omega
  have x1:l[j+1]? =some (l.getD (j+1) 0):=by rw [List.getD_eq_getElem?_getD,List.getElem?_eq_getElem hlt]; rfl
  have x2:l[j]? =some (l.getD j 0):=by rw [List.getD_eq_getElem?_getD,List.getElem?_eq_getElem h1]; rfl
  have e3:IntKind.i64.wrap (((j+1:Nat):Int)-1)=(j:Int):=by rw [IntWalk.i64_in _ (by omega)]; omega
  have q1:((j+1:Nat):Int)< (l.length:Int):=by omega
  have q2:((j:Nat):Int)< (l.length:Int):=by omega
  have q3:=zab hlt (by omega)
  have hd:upB l (j+1)=decide (l.getD j 0<l.getD (j+1) 0):=by
   unfold upB
   rw [show (j+1==0)=false by simp,Bool.false_or,Nat.add_sub_cancel]
  generalize hX:l.getD (j+1) 0=X at*
  generalize hY:l.getD j 0=Y at*
  by_cases hb:X<=Y
  ·rw [zr6 hlt (by rw [hd,decide_eq_false (by omega)])]
   have F:=ai q1<|ai q2<|ai x1<|ai x2<|ai e3<|hb
   repeat refine st ?_
   exact aR
  ·have F:=ai q1<|ai q2<|ai q3<|ai x1<|ai x2<|ai e3<|hb
   repeat refine st ?_
   refine⟨j+1,⟨by omega,fun m g1 g2=> ?_⟩, ?_, ?_,by omega⟩
   ·by_cases hm:m=j+1
    ·rw [hm,hd,decide_eq_true (by omega)]
    ·exact hall m (by omega) g2
   ·(simp only [go_sem,F])
   ·(simp only [go_sem,F])
 ·have q1: ¬((j+1:Nat):Int)< (l.length:Int):=by omega
  rw [zr5 fun m hm=>hall m (by omega) hm]
  have F:=q1
  repeat refine st ?_
  exact aR
def ze6 (c:ChD) (l:List Int) (d:Int) (j:Nat):List Nat:=(List.range j).filter (zi4 c l d)
theorem zlT (c:ChD) (l:List Int) (d:Int) (j:Nat):ze6 c l d (j+1)=if zi4 c l d j then ze6 c l d j++[j] else ze6 c l d j:=by
 unfold ze6
 rw [List.range_succ,List.filter_append]
 cases hb:zi4 c l d j<;>simp [hb]
def pathIn (c:ChD) (l:List Int) (d:Int) (i:Nat) (m:Nat):Bool:=l.contains (i:Int)||(l.take m).any fun k=>aboveB c i k&&aboveB c d i
theorem zlU {c:ChD} {l:List Int} {d:Int} {i m:Nat} {y:Int} (h:l[m]? =some y):pathIn c l d i (m+1)=(pathIn c l d i m||(aboveB c i y&&aboveB c d i)):=by
 unfold pathIn
 rw [List.take_add_one,h,List.any_append]
 simp only [Option.toList_some,List.any_cons,List.any_nil,Bool.or_false,Bool.or_assoc]
theorem zpX (env:Env) (c:ChD) (hc:Right c) (l:List Int) (hl:l.length<=1000000) (d:Int):Con Tryz.prog env 161 [.agg (chAV c), .seq 1 (l.map intAV),I d] (.own 3 1 ((pathL c l d).map zad)):=by
 have hlen:=hc.few
 have fA:=fun(k i:Int)=>zcb env c hc k i
 unfold chAV at fA
 refine zaa Tryz.func161 rfl Tryz.call161 (by rw [Tryz.ntmps161]; simp) ?_
 rw [Tryz.ntmps161,Tryz.results161]
 have F:=chAV.eq_1
 repeat refine st ?_
 refine zac (D:=Nat) (fun j vs=>[(1, .seq 1 (l.map intAV)),(2,I d),(3, .loc 3 (vs 3) 0 0),(7, .row 11 (vs 11)),(8,I j)]) (fun j _=>[(3,⟨5,[chAV c],26,false⟩),(11,⟨1,(ze6 c l d j).map zad,3,true⟩)]) (fun j _ esc=>j<=c.states.length/\esc 11=false) (fun j=>c.states.length-j) 0 ?_ ?_ ?_ ?_
 ·exact⟨Nat.zero_le _,rfl⟩
 ·(simp only [go_sem,F])
  try rfl
 ·have F:=chAV.eq_1
  (simp only [go_sem,F])
  try rfl
 rintro j ws esc ⟨hj,e0⟩
 by_cases hlt:j<c.states.length
 ·have q1:=nlt hlt
  have q2:=zab hlt (by omega)
  have f0:=zcT env l (j:Int) hl
  have hp:=zlT c l d j
  have hpl:(ze6 c l d j).length<=32:=Nat.le_trans (List.length_filter_le ..) (by simp; omega)
  have hf:Fits ((ze6 c l d j).length+1) 8:=zai (by omega) (by omega)
  have hpb:zi4 c l d j=pathIn c l d j l.length:=by unfold zi4 pathIn; rw [List.take_length]
  have z0:pathIn c l d j 0=l.contains (j:Int):=by unfold pathIn; simp
  generalize hPT:ze6 c l d j=PT at*
  rw [<-z0] at f0
  have F:=ai chAV.eq_1<|ai q1<|e0
  repeat (first | refine st ?_ | refine cC f0 ?_)
  refine zac (D:=Nat) (fun m vs=>[(1, .seq 1 (l.map intAV)),(2,I d),(3, .loc 3 (vs 3) 0 0),(7, .row 11 (vs 11)),(8,I j),(9,B (pathIn c l d j m)),(10,I m)]) (fun m _=>[(3,⟨5,[chAV c],26,false⟩),(11,⟨1,PT.map zad,3,true⟩)]) (fun m _ esc=>m<=l.length/\esc 11=false) (fun m=>l.length-m) 0 ?_ ?_ ?_ ?_
  ·exact⟨Nat.zero_le _,by simp only [go_sem,e0]⟩
  ·(simp only [go_sem,F])
   try rfl
  ·have F:=chAV.eq_1
   (simp only [go_sem,F])
   try rfl
  try clear e0
  rintro m us es ⟨hm,e0⟩
  by_cases hml:m<l.length
  ·obtain⟨y,hy⟩: ∃y,l[m]? =some y:=⟨l[m],List.getElem?_eq_getElem hml⟩
   have p1:=nlt hml
   have p2:=zab hml (by omega)
   have hn:=zlU (c:=c) (d:=d) (i:=j) hy
   have g1:=fA (j:Int) y
   have g2:=fA d (j:Int)
   generalize pathIn c l d j m=b at*
   cases b with
   | true=>
     rw [Bool.true_or] at hn
     have F:=ai chAV.eq_1<|ai hy<|ai p1<|ai p2<|e0
     repeat refine st ?_
     refine⟨m+1,⟨hml,by simp only [go_sem,e0]⟩, ?_, ?_,by omega⟩
     ·have F:=hn
      (simp only [go_sem,F])
     ·have F:=chAV.eq_1
      (simp only [go_sem,F])
   | false=>
     rw [Bool.false_or] at hn
     cases ha:aboveB c (j:Int) y with
     | false=>
       rw [ha] at g1
       rw [ha,Bool.false_and] at hn
       have F:=ai chAV.eq_1<|ai hy<|ai p1<|ai p2<|e0
       repeat (first | refine st ?_ | refine cC g1 ?_)
       refine⟨m+1,⟨hml,by simp only [go_sem,e0]⟩, ?_, ?_,by omega⟩
       ·have F:=hn
        (simp only [go_sem,F])
       ·have F:=chAV.eq_1
        (simp only [go_sem,F])
     | true=>
       rw [ha] at g1
       rw [ha,Bool.true_and] at hn
       have F:=ai chAV.eq_1<|ai hy<|ai p1<|ai p2<|e0
       repeat (first | refine st ?_ | refine cC g1 ?_ | refine cC g2 ?_)
       refine⟨m+1,⟨hml,by simp only [go_sem,e0]⟩, ?_, ?_,by omega⟩
       ·have F:=hn
        (simp only [go_sem,F])
       ·have F:=chAV.eq_1
        (simp only [go_sem,F])
  ·obtain rfl:m=l.length:=by omega
   have p1: ¬(l.length:Int)< (l.length:Int):=by omega
   rw [<-hpb]
   cases hb:zi4 c l d j with
   | true=>
     rw [hb] at hp
     have F:=ai chAV.eq_1<|ai p1<|ai q2<|ai e0<|hf
     repeat refine st ?_
     refine⟨j+1,⟨hlt,by simp only [go_sem,e0]⟩, ?_, ?_,by omega⟩
     ·(simp only [go_sem,F])
     ·have F:=ai chAV.eq_1<|ai hp<|zad.eq_1
      (simp only [go_sem,List.map_append,F])
   | false=>
     rw [hb] at hp
     have F:=ai chAV.eq_1<|ai p1<|ai q2<|e0
     repeat refine st ?_
     refine⟨j+1,⟨hlt,by simp only [go_sem,e0]⟩, ?_, ?_,by omega⟩
     ·(simp only [go_sem,F])
     ·have F:=ai chAV.eq_1<|hp
      (simp only [go_sem,F])
 ·obtain rfl:j=c.states.length:=by omega
  have q1: ¬(c.states.length:Int)< (c.states.length:Int):=by omega
  rw [show pathL c l d=ze6 c l d c.states.length from rfl]
  have F:=ai chAV.eq_1<|ai q1<|e0
  repeat refine st ?_
  exact aR
end

end Go.Proofs.YtnbjaghjdeicmaaGreatDoor