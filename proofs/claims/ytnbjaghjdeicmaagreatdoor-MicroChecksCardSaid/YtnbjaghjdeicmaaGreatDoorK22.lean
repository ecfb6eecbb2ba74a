/- slices.Insert at memories. -/
import Derived.Test.YtnbjaghjdeicmaaGreatDoorK18
import Derived.Test.YtnbjaghjdeicmaaGreatDoorK20
import Derived.Test.YtnbjaghjdeicmaaGreatDoorK10
import Derived.Test.YtnbjaghjdeicmaaGreatDoorK5
import Derived.Test.YtnbjaghjdeicmaaGreatDoorK19
import Derived.Test.YtnbjaghjdeicmaaGreatDoorK13
import Derived.Test.YtnbjaghjdeicmaaGreatDoorK14
import Derived.Test.YtnbjaghjdeicmaaGreatDoorK9
import Derived.Lib.Overlaps
import Derived.Lib.AppendZerosOnto
import Derived.Deep.RegionLaw
set_option maxRecDepth 100000
set_option maxHeartbeats 16000000
set_option linter.unusedSimpArgs false
namespace Go.Proofs.YtnbjaghjdeicmaaGreatDoor
open Go.RowKit
section
def posM:List MemD->Int->Nat
 | [],_=>0
 | x::r,h=>if x.1<h then posM r h+1 else 0
theorem zk5 (h:Int): ∀l:List MemD,posM l h<=l.length
 | []=>Nat.le_refl _
 | x::r=>by
   unfold posM
   split
   ·have:=zk5 h r
    simp only [List.length_cons]
    omega
   ·exact Nat.zero_le _
theorem zoL {h:Int} : ∀ {l:List MemD},Srt l-> ∀ {j:Nat} {y:MemD},l[j]? =some y->(j<posM l h↔y.1<h)
 | [],_,j,y,hy=>by simp at hy
 | x::r,hs,j,y,hy=>by
   obtain⟨h1,h2⟩:=List.pairwise_cons.1 hs
   unfold posM
   by_cases hx:x.1<h
   ·rw [if_pos hx]
    cases j with
    | zero=>
      simp only [List.getElem?_cons_zero,Option.some.injEq] at hy
      subst hy
      exact⟨fun _=>hx,fun _=>by omega⟩
    | succ j=>
      rw [List.getElem?_cons_succ] at hy
      have:=zoL (h:=h) h2 hy
      omega
   ·rw [if_neg hx]
    refine⟨fun h=>by omega,fun hyl=> ?_⟩
    cases j with
    | zero=>
      simp only [List.getElem?_cons_zero,Option.some.injEq] at hy
      subst hy
      exact absurd hyl hx
    | succ j=>
      rw [List.getElem?_cons_succ] at hy
      have:=h1 y (List.mem_of_getElem? hy)
      omega
def isM (l:List MemD) (h:Int):Bool:=match l[posM l h]? with
 | some y=>y.1==h
 | none=>false
theorem zlV {m:MemD} : ∀ {l:List MemD},isM l m.1=true->putM l m=l.set (posM l m.1) m
 | [],h=>by simp [isM] at h
 | x::r,h=>by
   unfold putM
   unfold isM at h
   unfold posM at h |-
   by_cases hx:x.1<m.1
   ·rw [if_pos hx] at h |-
    rw [if_pos hx,List.set_cons_succ,zlV (by unfold isM; rw [List.getElem?_cons_succ] at h; exact h)]
   ·rw [if_neg hx] at h |-
    rw [if_neg hx]
    have h:(x.1==m.1)=true:=h
    rw [if_pos (by simpa using h)]
    rfl
theorem zlW {m:MemD} : ∀ {l:List MemD},isM l m.1=false->putM l m=l.take (posM l m.1)++m::l.drop (posM l m.1)
 | [],h=>by simp [putM,posM]
 | x::r,h=>by
   unfold putM
   unfold isM at h
   unfold posM at h |-
   by_cases hx:x.1<m.1
   ·rw [if_pos hx] at h |-
    rw [if_pos hx,zlW (by unfold isM; rw [List.getElem?_cons_succ] at h; exact h)]
    rfl
   ·rw [if_neg hx] at h |-
    rw [if_neg hx]
    have h:(x.1==m.1)=false:=h
    rw [if_neg (by simpa using h)]
    rfl
theorem ztg {l:List MemD} {h:Int} (hi:isM l h=true):posM l h<l.length:=by
 unfold isM at hi
 cases hg:l[posM l h]? with
 | none=>rw [hg] at hi; cases hi
 | some y=>exact(List.getElem?_eq_some_iff.1 hg).1
end
section
theorem znI (env:Env) (mem:List MemD) (hl:mem.length<=4096) (hm: ∀m∈mem,m.2.length<=4096):Con Tryz.prog env 268 [memsAV mem] (.own 85 2 (mem.map mmAV)):=by
 refine zaa Tryz.func268 rfl Tryz.call268 (by rw [Tryz.ntmps268]; simp) ?_
 rw [Tryz.ntmps268,Tryz.results268]
 repeat refine st0 ?_
 refine zaS 3 3 85 2 ?_
 refine zac (D:=Nat) (fun j vs=>[(3, .row 3 (vs 3)),(6,memsAV mem),(7,I mem.length),(8,I j)]) (fun j _=>[(3,⟨2,(mem.take j).map mmAV,85,true⟩)]) (fun j _ esc=>j<=mem.length/\esc 3=false) (fun j=>mem.length-j) 0 ?_ ?_ ?_ ?_
 ·exact⟨Nat.zero_le _,rfl⟩
 ·(simp only [go_sem])
  try rfl
 ·(simp only [go_sem])
 rintro j ws esc ⟨hj,e0⟩
 by_cases hlt:j<mem.length
 ·obtain⟨a,ha⟩: ∃a,mem[j]? =some a:=⟨mem[j],List.getElem?_eq_getElem hlt⟩
  have g1:=nlt hlt
  have g2:=zab hlt (by omega)
  have f0:=zbX env (a.2.map intAV) (by rw [List.length_map]; exact hm a (List.mem_of_getElem? ha))
  have htl:(mem.take j).length=j:=by rw [List.length_take]; omega
  have hf:Fits (j+1) 32:=zah (by omega) (by omega)
  have htk:mem.take (j+1)=mem.take j++[a]:=by rw [List.take_add_one,ha]; rfl
  have F:=ai mmAV.eq_1<|ai g1<|ai g2<|ai ha<|ai htl<|ai hf<|e0
  repeat (first | refine st ?_ | refine cC f0 ?_)
  refine⟨j+1,⟨hlt,by simp only [go_sem,e0]⟩, ?_, ?_,by omega⟩
  ·(simp only [go_sem,F])
  ·have F:=ai mmAV.eq_1<|htk
   (simp only [go_sem,List.map_append,F])
 ·obtain rfl:j=mem.length:=by omega
  have g1: ¬(mem.length:Int)< (mem.length:Int):=by omega
  have hta:mem.take mem.length=mem:=List.take_length
  have F:=ai g1<|ai hta<|e0
  repeat refine st ?_
  exact aR
theorem zlA (env:Env) (c:ChD) (hc:Right c) (L:List Int) (hl:L.length<=4000) (d:Int):Con Tryz.prog env 271 [zaj c, .seq 1 (L.map intAV),I d] (.own 3 1 ((underL c L d).map intAV)):=by
 have f1:=zaN env c
 unfold zaj zao at f1
 unfold zaj
 refine zaa Tryz.func271 rfl Tryz.call271 (by rw [Tryz.ntmps271]; simp) ?_
 rw [Tryz.ntmps271,Tryz.results271]
 repeat refine st0 ?_
 refine zaS 7 7 3 1 ?_
 refine zac (D:=Nat) (fun j vs=>[(0, .ref 9 [tabCells c] 0 0),(2,I d),(7, .row 7 (vs 7)),(10, .seq 1 (L.map intAV)),(11,I L.length),(12,I j)]) (fun j _=>[(7,⟨1,(zes c L d j).map intAV,3,true⟩)]) (fun j _ esc=>j<=L.length/\esc 7=false) (fun j=>L.length-j) 0 ?_ ?_ ?_ ?_
 ·exact⟨Nat.zero_le _,rfl⟩
 ·(simp only [go_sem])
  try rfl
 ·(simp only [go_sem])
  try rfl
 rintro j ws esc ⟨hj,e0⟩
 by_cases hlt:j<L.length
 ·obtain⟨x,hx⟩: ∃x,L[j]? =some x:=⟨L[j],List.getElem?_eq_getElem hlt⟩
  have q1:=nlt hlt
  have q2:=zab hlt (by omega)
  have f3:=zcP env c hc d x
  unfold zao at f3
  have hil:=zi7 c L d j
  have hf:Fits ((zes c L d j).length+1) 8:=zah (by omega) (by omega)
  have hn:=zhp (c:=c) (i:=d) hx
  cases hb:aboveB c d x with
  | true=>
    rw [hb] at f3
    rw [hb,if_pos rfl] at hn
    have F:=ai q1<|ai q2<|ai hx<|ai hf<|e0
    repeat (first | refine st ?_ | refine cC f1 ?_ | refine cC f3 ?_)
    refine⟨j+1,⟨hlt,by simp only [go_sem,e0]⟩, ?_, ?_,by omega⟩
    ·(simp only [go_sem,F])
    ·have F:=hn
     (simp only [go_sem,List.map_append,F])
  | false=>
    rw [hb] at f3
    rw [hb,if_neg Bool.false_ne_true] at hn
    have F:=ai q1<|ai q2<|ai hx<|ai hf<|e0
    repeat (first | refine st ?_ | refine cC f1 ?_ | refine cC f3 ?_)
    refine⟨j+1,⟨hlt,by simp only [go_sem,e0]⟩, ?_, ?_,by omega⟩
    ·(simp only [go_sem,F])
    ·have F:=hn
     (simp only [go_sem,List.map_append,F])
 ·obtain rfl:j=L.length:=by omega
  have q1: ¬(L.length:Int)< (L.length:Int):=by omega
  have hall:zes c L d L.length=underL c L d:=by unfold zes underL; rw [List.take_length]
  rw [hall]
  have F:=ai q1<|e0
  repeat refine st ?_
  exact aR
theorem zhl (env:Env) (l:List Int) (p:Int->Bool) (g:FuncId) (caps:List (List AV)) (hp: ∀d,Con Tryz.prog env g [I d, .ref 1 caps 0 0] (B (p d))) (hl:l.length<=4096):Con Tryz.prog env 214 [.seq 1 (l.map intAV), .clo g [.ref 1 caps 0 0]] (B (l.any p)):=by
 have f0:=zgC env l p g caps hp hl
 cases hi:idxQ p l with
 | none=>
   rw [hi] at f0
   have h0:l.any p=false:=List.any_eq_false.2 fun x hx=>by rw [(zgF hi).2 x hx]; simp
   rw [h0]
   unfold idxJ at f0
   refine zaa Tryz.func214 rfl Tryz.call214 (by rw [Tryz.ntmps214]; simp) ?_
   rw [Tryz.ntmps214,Tryz.results214]
   repeat (first | refine st0 ?_ | refine cC0 f0 ?_)
   exact aR0
 | some i=>
   rw [hi] at f0
   obtain⟨_,_,d,h3,h4⟩:=zgE hi
   have h0:l.any p=true:=List.any_eq_true.2 ⟨d,List.mem_of_getElem? h3,h4⟩
   have q0:(0:Int)<=(i:Int):=by omega
   rw [h0]
   unfold idxJ at f0
   refine zaa Tryz.func214 rfl Tryz.call214 (by rw [Tryz.ntmps214]; simp) ?_
   rw [Tryz.ntmps214,Tryz.results214]
   have F:=q0
   repeat (first | refine st ?_ | refine cC f0 ?_)
   exact aR
theorem znx (env:Env) (G:List Int) (hG:G.length<=1000000) (i:Int):Con Tryz.prog env 298 [I i, .ref 1 [[.seq 1 (G.map intAV)]] 0 0] (B (G.contains i)):=by
 have f0:=zaM env G i hG
 refine zaa Tryz.func298 rfl Tryz.call298 (by rw [Tryz.ntmps298]; simp) ?_
 rw [Tryz.ntmps298,Tryz.results298]
 repeat (first | refine st0 ?_ | refine cC0 f0 ?_)
 exact aR0
def zhh (c:ChD) (l:List Int) (j:Nat):List Int:=(l.take j).filter (innerP c l)
theorem zny {c:ChD} {l:List Int} {j:Nat} {x:Int} (h:l[j]? =some x):zhh c l (j+1)=if innerP c l x then zhh c l j++[x] else zhh c l j:=by
 unfold zhh
 rw [List.take_add_one,h,List.filter_append]
 cases hb:innerP c l x<;>simp [hb]
theorem zpm (c:ChD) (l:List Int) (j:Nat):(zhh c l j).length<=l.length:=by
 unfold zhh
 exact Nat.le_trans (List.length_filter_le ..) (by rw [List.length_take]; omega)
theorem zpl (env:Env) (c:ChD) (h:Full c) (l:List Int) (hl:l.length<=4000) (hz: ∀x∈l,inZ c x=true):Con Tryz.prog env 270 [zaj c, .seq 1 (l.map intAV)] (.own 3 1 ((innerL c l).map intAV)):=by
 unfold zaj
 refine zaa Tryz.func270 rfl Tryz.call270 (by rw [Tryz.ntmps270]; simp) ?_
 rw [Tryz.ntmps270,Tryz.results270]
 repeat refine st0 ?_
 refine zaS 5 5 3 1 ?_
 refine zac (D:=Nat) (fun j vs=>[(0, .ref 9 [tabCells c] 0 0),(3, .loc 3 (vs 3) 0 0),(5, .row 5 (vs 5)),(9, .seq 1 (l.map intAV)),(10,I l.length),(11,I j)]) (fun j _=>[(3,⟨1,[[.seq 1 (l.map intAV)]],27,false⟩),(5,⟨1,(zhh c l j).map intAV,3,true⟩)]) (fun j _ esc=>j<=l.length/\esc 3=false/\esc 5=false) (fun j=>l.length-j) 0 ?_ ?_ ?_ ?_
 ·exact⟨Nat.zero_le _,rfl,rfl⟩
 ·(simp only [go_sem])
  try rfl
 ·(simp only [go_sem])
  try rfl
 rintro j ws esc ⟨hj,e0,e1⟩
 by_cases hlt:j<l.length
 ·obtain⟨x,hx⟩: ∃x,l[j]? =some x:=⟨l[j],List.getElem?_eq_getElem hlt⟩
  have q1:=nlt hlt
  have q2:=zab hlt (by omega)
  have f2:=zaX env c h x
  rw [if_pos (.inr (hz x (List.mem_of_getElem? hx)))] at f2
  have hK:=za8 h.toRight x true
  have f3:=(zhl env (kidZ c x) (fun d=>l.contains d) 298 [[.seq 1 (l.map intAV)]] (znx env l (by omega)) (by rw [zeo]; omega)).lend rfl
  rw [zep] at f3
  have hil:=zpm c l j
  have hf:Fits ((zhh c l j).length+1) 8:=zah (by omega) (by omega)
  have hn:=zny (c:=c) hx
  have hP:innerP c l x= !((kidZ c x).any fun d=>l.contains d):=rfl
  generalize ((kidZ c x).any fun d=>l.contains d)=b at*
  generalize kidsL c x true=K at*
  unfold zaj at f2
  cases b with
  | true=>
    rw [hP,Bool.not_true,if_neg Bool.false_ne_true] at hn
    have F:=ai q1<|ai q2<|ai hx<|ai hf<|ai e0<|e1
    repeat (first | refine st ?_ | refine cC f2 ?_)
    refine oL rfl (f3) (by simp only [go_sem,F]; exact iR) (by simp only [go_sem,F]; exact⟨rfl,rfl⟩) ?_
    repeat refine st ?_
    refine⟨j+1,⟨hlt,by simp only [go_sem,e0],by simp only [go_sem,e1]⟩, ?_, ?_,by omega⟩
    ·(simp only [go_sem,F])
    ·have F:=hn
     (simp only [go_sem,F])
  | false=>
    rw [hP,Bool.not_false,if_pos rfl] at hn
    have F:=ai q1<|ai q2<|ai hx<|ai hf<|ai e0<|e1
    repeat (first | refine st ?_ | refine cC f2 ?_)
    refine oL rfl (f3) (by simp only [go_sem,F]; exact iR) (by simp only [go_sem,F]; exact⟨rfl,rfl⟩) ?_
    repeat refine st ?_
    refine⟨j+1,⟨hlt,by simp only [go_sem,e0],by simp only [go_sem,e1]⟩, ?_, ?_,by omega⟩
    ·(simp only [go_sem,F])
    ·have F:=hn
     (simp only [go_sem,List.map_append,F])
 ·obtain rfl:j=l.length:=by omega
  have q1: ¬(l.length:Int)< (l.length:Int):=by omega
  have hall:zhh c l l.length=l.filter (innerP c l):=by unfold zhh; rw [List.take_length]
  rw [hall]
  have hU:(l.filter (innerP c l)).length<=l.length:=List.length_filter_le ..
  unfold innerL
  generalize l.filter (innerP c l)=U at*
  have f4:=zgd U (by omega)
  have F:=ai q1<|ai e0<|e1
  repeat refine st ?_
  refine zjT 5 rfl (row:=⟨1,U.map intAV,3,true⟩) f4 (Nat.succ_ne_zero 0) rfl (litEs_int _).symm (by simp only [go_sem,e0,e1]; exact iR) (by simp only [go_sem,e0,e1]; exact iR) (by simp only [go_sem,e0,e1]; exact iR) (by simp only [go_sem,e0,e1]; exact iR) ?_
  rw [litEs_int]
  repeat refine st ?_
  exact aR
end
section
theorem zc3 {P:Program} (w:World) (dT sT ty elem:TypeId) (ie:TypeInfo) (hi:P.info? elem=some ie) (g o dLen dCap:Nat) (a:Addr) (sLen sCap:Nat) (cur:Array Value) (t:TypeId) (cs:List Value) (k:Nat) (hu:P.underlying dT=some (.slice elem))
 (hg:w.heap[g]? =some (.cells cur t (0,0))) (hk:Nat.min sLen dLen=k) (hn:cs.length=k*ie.size) (hsrc: ∀j v,cs[j]? =some v->w.cell? (a.add j)=some v) (hfit:o+cs.length<=cur.size) (h1: ∀v∈cs,v.oneCell'=true):
 (Builtin.copy_ #[dT,sT] ty #[.slice (some ⟨g,o,none⟩) dLen dCap, .slice (some a) sLen sCap]).run P w= .ok (goInt k) (w.setRow g (cur.toList.take o++cs++cur.toList.drop (o+cs.length)).toArray):=by
 have hl:=run_loadCells_list (P:=P) w a cs hsrc
 have hst:=run_storeCells_at P g o t cs 0 cur w hg (by simpa using hfit) h1
 simp only [Nat.add_zero] at hst
 simp [Builtin.copy_,run_underlying hu,Builtin.lenOf,Builtin.firstCells,sizeOf,typeInfo,hi,hk, <-hn,hl,hst]
structure Insr (P:Program) (f:FuncId) (e:TypeId) (sz:Nat):Prop where
 enter: ∀(args:Array Value) (w:World),(callFunc f args).run P w= .ok (.enter f args) w
 calls: ∀(w:World) (base i n:Nat) (v u:Value) (xs ys:List Value),base<=w.heap.size->w.ownsRow base e sz v n xs->w.ownsRow base e sz u 1 ys->(∀g,v.ownBlock=some g->u.ownBlock≠some g)->(∀x∈xs,x.oneCell'=true)->(∀y∈ys,y.oneCell'=true)->i<=n->n<=4096->
  Calls P f #[v, .int .i64 (i:Int),u] w fun ex w'=> ∃v',ex= .returned v'/\w.grownBy w' v.ownBlock/\(∀g,v'.ownBlock=some g->v.ownBlock=some g\/w.heap.size<=g)/\w'.ownsRow base e sz v' (n+1) (xs.take (i*sz)++ys++xs.drop (i*sz))
def zgA (i:Nat) (y:List AV) (es:List (List AV)):List (List AV):=es.take i++y::es.drop i
theorem zpk (i:Nat) (y:List AV) (es:List (List AV)):(zgA i y es).length=es.length+1:=by
 unfold zgA
 rw [List.length_append,List.length_cons,List.length_take,List.length_drop]
 omega
theorem ziI {i:Nat} {y:List AV} {es:List (List AV)} (hi:i<=es.length) (p:Nat):(zgA i y es)[p]? =if p<i then es[p]? else if p=i then some y else es[p-1]? :=by
 have hl:(es.take i).length=i:=by rw [List.length_take]; omega
 unfold zgA
 by_cases h1:p<i
 ·rw [if_pos h1,List.getElem?_append_left (by omega),List.getElem?_take,if_pos h1]
 ·rw [if_neg h1,List.getElem?_append_right (by omega),hl]
  by_cases h2:p=i
  ·subst h2
   rw [if_pos rfl,Nat.sub_self]
   rfl
  ·rw [if_neg h2,show p-i=(p-1-i)+1 by omega,List.getElem?_cons_succ,List.getElem?_drop,show i+(p-1-i)=p-1 by omega]
theorem zsF {i sz n:Nat} {xs ys:List Value} (hx:xs.length=n*sz) (hy:ys.length=sz) (hi:i<=n) (p j:Nat) (hj:j<sz):
 (xs.take (i*sz)++ys++xs.drop (i*sz))[p*sz+j]? =if p<i then xs[p*sz+j]? else if p=i then ys[j]? else xs[(p-1)*sz+j]? :=by
 have hi2:i*sz<=n*sz:=Nat.mul_le_mul_right _ hi
 have hl:(xs.take (i*sz)).length=i*sz:=by rw [List.length_take]; omega
 by_cases h1:p<i
 ·have:(p+1)*sz<=i*sz:=Nat.mul_le_mul_right _ h1
  rw [Nat.succ_mul] at this
  rw [if_pos h1,List.append_assoc,List.getElem?_append_left (by omega),List.getElem?_take,if_pos (by omega)]
 ·rw [if_neg h1]
  by_cases h2:p=i
  ·subst h2
   rw [if_pos rfl,List.append_assoc,List.getElem?_append_right (by omega),hl,Nat.add_sub_cancel_left,List.getElem?_append_left (by omega)]
  ·have h3:(i+1)*sz<=p*sz:=Nat.mul_le_mul_right _ (by omega)
   rw [Nat.succ_mul] at h3
   have h4:p*sz=(p-1)*sz+sz:=by rw [<-Nat.succ_mul]; congr 1; omega
   rw [if_neg h2,List.getElem?_append_right (by rw [List.length_append]; omega),List.length_append,hl,List.getElem?_drop]
   congr 1
   omega
theorem zqz {P:Program} {env:Env} {f:FuncId} {r r2 ver ver2:Nat} {row row2:Row} {rows:Nat->Option Row} {vsv:Nat->Nat} {i:Nat} {y:List AV} (hC:Insr P f row.e row.sz) (hr:rows r=some row) (hr2:rows r2=some row2) (hne:r2≠r) (hv:vsv r=ver) (hv2:vsv r2=ver2) (hrz:row.sz≠0) (hp:row.pure=true) (hp2:row2.pure=true)
 (e2:row2.e=row.e) (z2:row2.sz=row.sz) (y2:row2.es=[y]) (hi:i<=row.es.length) (hn:row.es.length<=4096):
 Acts P env f [.row r ver, .lit (.int .i64 (i:Int)), .row r2 ver2] [r,r2] rows vsv ⟨.row r (ver+1),[.renew r { row with es:=zgA i y row.es }]⟩:=by
 refine⟨hC.enter,fun x s a w m vs hx hS hro hl hvs=> ?_⟩
 obtain⟨q1,q2,q3⟩:=hro r (by simp)
 obtain⟨p1,p2,p3⟩:=hro r2 (by simp)
 rw [hr] at q1
 rw [hv] at q2
 rw [hr2] at p1
 rw [hv2] at p2
 match vs,hl with
 | [u,iv,u2],_=>
 have hu:u=m.ρ r:=(hvs 0 u _ rfl rfl).row_.2 q2 row q1
 have hu2:u2=m.ρ r2:=(hvs 2 u2 _ rfl rfl).row_.2 p2 row2 p1
 have hiv:iv= .int .i64 (i:Int):=(hvs 1 iv _ rfl rfl).lit_
 subst hu hu2 hiv
 have k:=(hS.rows r row q1).cells hrz
 have k2:=(hS.rows r2 row2 p1).cells (by rw [z2]; exact hrz)
 obtain⟨xs,c1,c2,c3⟩:=k.own
 obtain⟨ys,d1,d2,d3⟩:=k2.own
 rw [y2,e2,z2] at d1
 have hyl:ys.length=row.sz:=by have:=d1.1; simpa using this
 refine(hC.calls w x.w.heap.size i row.es.length (m.ρ r) (m.ρ r2) xs ys hS.bel.size c1 d1 (fun g hg=>hS.inj r r2 row row2 q1 p1 (Ne.symm hne) g hg) c2 d2 hi hn).mono ?_
 rintro ex w' ⟨v',rfl,hg,hsub,ho⟩
 have hb:Below x.w.heap.size w w':=⟨hg.os,hg.tape,hg.output,hg.size,fun q hq=>hg.block q (Nat.lt_of_lt_of_le hq hS.bel.size) fun e=>by
  have:=(za0 c1 e.symm).1
  omega⟩
 have hnS: ∀g,(m.ρ r).ownBlock=some g-> ∀o,¬m.S g o:=k.fresh q3
 have hnS2: ∀g,v'.ownBlock=some g-> ∀o,¬m.S g o:=fun g hgv o hh=>by
  rcases hsub g hgv with e | e
  ·exact hnS g e o hh
  ·have:=hS.low g o hh
   omega
 have hcell: ∀b o,m.S b o->m.S b o/\Stay w w' b o:=fun b o hh=>⟨hh, .block (hg.block b (hS.low b o hh) fun e=>hnS b e.symm o hh)⟩
 have hρ:(⟨m.S,upd m.ρ r v'⟩:Mem).ρ r=v':=upd_same ..
 have hS2:Sim x (s.renew r { row with es:=zgA i y row.es } false) a w' ⟨m.S,upd m.ρ r v'⟩:=by
  refine hS.renew r _ false v' m.S hb hcell (fun b o hh=> .inl hh) (fun q row1 hnq hq gq hgq=>⟨?_,fun e=> ?_,fun _ hh=>hh⟩) ?_ fun b hf=>⟨hg.block b (hS.fxlt hf) fun e=>hS.nofx r row q1 b e.symm hf,fun _ hh=>hh,fun e=> ?_⟩
  ·exact hg.block gq ((hS.rows q row1 hq).blk hgq).2 fun e=>hS.inj r q row row1 q1 hq (Ne.symm hnq) gq e.symm hgq
  ·rcases hsub gq e with e | e
   ·exact hS.inj r q row row1 q1 hq (Ne.symm hnq) gq e hgq
   ·have:=((hS.rows q row1 hq).blk hgq).2
    omega
  ·have hlen:=zpk i y row.es
   refine .inl ⟨k.pos,fun p e he=> ?_,⟨xs.take (i*row.sz)++ys++xs.drop (i*row.sz),by rw [hρ]; show w'.ownsRow _ _ _ _ (zgA i y row.es).length _; rw [hlen]; exact ho, ?_, ?_⟩,fun he=> ?_,fun g hg' o _=> ?_,fun _ g hg' o=> ?_⟩
   ·rw [ziI hi] at he
    split at he
    ·exact k.len _ _ he
    ·split at he
     ·cases he
      have:=k2.len 0 y (by rw [y2]; rfl)
      rw [z2] at this
      exact this
     ·exact k.len _ _ he
   ·intro u hu
    rcases List.mem_append.1 hu with hu | hu
    ·rcases List.mem_append.1 hu with hu | hu
     ·exact c2 u (List.mem_of_mem_take hu)
     ·exact d2 u hu
    ·exact c2 u (List.mem_of_mem_drop hu)
   ·intro p j c hc
    have hj:j<row.sz:=by
     unfold cellAt at hc
     cases hpe:(zgA i y row.es)[p]? with
     | none=>rw [hpe] at hc; cases hc
     | some e=>
       rw [hpe] at hc
       have hc:e[j]? =some c:=hc
       have hjl:=(List.getElem?_eq_some_iff.1 hc).1
       rw [ziI hi] at hpe
       split at hpe
       ·rw [k.len _ _ hpe] at hjl; exact hjl
       ·split at hpe
        ·cases hpe
         have:=k2.len 0 y (by rw [y2]; rfl)
         rw [z2] at this
         omega
        ·rw [k.len _ _ hpe] at hjl; exact hjl
    rw [zsF c1.1 hyl hi p j hj]
    unfold cellAt at hc
    rw [ziI hi] at hc
    suffices h: ∃u,(if p<i then xs[p*row.sz+j]? else if p=i then ys[j]? else xs[(p-1)*row.sz+j]?)=some u/\RV m.S w' u c by
     obtain⟨u,g1,g2⟩:=h
     exact⟨u,g1,by show (if row.pure=true then _ else _); rw [if_pos hp]; exact g2⟩
    by_cases h1:p<i
    ·rw [if_pos h1] at hc |-
     obtain⟨u,g1,g2⟩:=c3 p j c hc
     rw [if_pos hp] at g2
     exact⟨u,g1,g2.mono hcell⟩
    ·rw [if_neg h1] at hc |-
     by_cases h2:p=i
     ·rw [if_pos h2] at hc |-
      obtain⟨u,g1,g2⟩:=d3 0 j c (by unfold cellAt; rw [y2]; exact hc)
      rw [if_pos hp2] at g2
      refine⟨u,by rw [Nat.zero_mul,Nat.zero_add] at g1; exact g1,g2.mono hcell⟩
     ·rw [if_neg h2] at hc |-
      obtain⟨u,g1,g2⟩:=c3 (p-1) j c hc
      rw [if_pos hp] at g2
      exact⟨u,g1,g2.mono hcell⟩
   ·have he:upd s.esc r false r=true:=he
    rw [upd_same] at he
    cases he
   ·rw [hρ] at hg'; exact hnS2 g hg' o
   ·rw [hρ] at hg'; exact hnS2 g hg' o
  ·rcases hsub b e with e | e
   ·exact hS.nofx r row q1 b e hf
   ·have:=hS.fxlt hf
    omega
 have h1:v'.oneCell'=true:=by
  rcases ho.2 with⟨ee,_⟩ | ⟨g,cp,cur,ee,_⟩<;>rw [ee]<;>rfl
 refine⟨v',_,rfl,hS2, .row r (ver+1) h1 ?_ fun _ row' _=> ?_⟩
 ·show ver+1<=upd s.vs r (s.vs r+1) r
  rw [upd_same,q2]
  exact Nat.le_refl _
 ·show v'=upd m.ρ r v' r
  rw [upd_same]
section
variable {P:Program} {env:Env} {s:St}
theorem zqw {o:Oper} {f:FuncId} {args:List AV} {rest:List Stp} {s1:St} {row row2:Row} {i:Nat} {y:List AV} {ft:Foot} {K:St->List Foot->Prop} (r r2:Nat) (hc:zaT env s.f o=some (f,args)) (hC:Insr P f row.e row.sz) (hrz:row.sz≠0) (hp:row.pure=true) (hp2:row2.pure=true) (e2:row2.e=row.e) (z2:row2.sz=row.sz) (y2:row2.es=[y]) (hne:r2≠r) (hi:i<=row.es.length) (hn:row.es.length<=4096)
 (ha:Is args [.row r (s.vs r), .lit (.int .i64 (i:Int)), .row r2 (s.vs r2)]) (hr:Is (s.rows r) (some row)) (hr2:Is (s.rows r2) (some row2)) (he:Is (s.esc r) false) (he2:Is (s.esc r2) false) (h1:Is ((⟨.row r (s.vs r+1),[.renew r { row with es:=zgA i y row.es }]⟩:Out).app o.dst s) s1) (h2:Is (⟨[r,r2],[r,r2],[r],[]⟩:Foot) ft) (k:aops P env rest s1 fun s2 fts=>K s2 (ft::fts)):aops P env (⟨o, .always⟩::rest) s K:=by
 unfold Is at h2
 subst h2
 exact zg2 hc ha (zqz hC hr hr2 hne rfl rfl hrz hp hp2 e2 z2 y2 hi hn) (fun q hq=>by
  rcases List.mem_cons.1 hq with rfl | hq
  ·exact he
  ·rw [List.mem_singleton.1 hq]; exact he2) h1 k
end
end
section
theorem zd6 {P:Program} (w:World) {ops:Array Oper} {rest:List Oper} {o:Oper} {a:Act} {Q:Exit->Act->World->Prop} (hgd:o.guard=none) (d s:Operand) (t t':TypeId)
 (ho:o.op= .call { callee:= .builtin .copy,args:= #[d,s],argTypes:= #[t,t'] }) (v u:Value) (hd:a.eval d=v) (hs:a.eval s=u) {v':Value} {w':World}
 (hr:(Builtin.copy_ #[t,t'] o.type #[v,u]).run P w= .ok v' w') (h:wpList P ops Q rest (a.put o.dst v') w'):wpList P ops Q (o::rest) a w:=
 wpList_plain hgd fun K hK=>by
  unfold Oper.wp execOp
  simp only [ho,resolve,invoke,builtin,Sem.run_bind,Sem.run_pure,Result.andThen_ok,List.map_toArray,List.map_cons,List.map_nil,hd,hs,hr]
  exact hK _ _ h
theorem zfi {P:Program} {ops:Array Oper} {o:Oper} {a:Act} {w:World} {K:Act->World->Prop} {Q:Exit->Act->World->Prop} {E:Prop}
 (hg:o.guard=none) (d x:Operand) (dT sT:TypeId) (hop:o.op=Op.call { callee:=Callee.builtin Builtin.copy,args:= #[d,x],argTypes:= #[dT,sT] })
 (v u:Value) (hd:a.eval d=v) (hx:a.eval x=u) {v':Value} {w':World} (hr:(Builtin.copy_ #[dT,sT] o.type #[v,u]).run P w= .ok v' w') (hK:K (a.put o.dst v') w'):
 if Region.wanted o (yielded ops a.tmps)=true then Oper.wp P o a w K Q else E:=by
 rw [if_pos (by simp [Region.wanted,hg])]
 unfold Oper.wp
 simp [execOp,hop,resolve,invoke,builtin,hd,hx,hr,Result.andThen]
 exact hK
theorem zix {w:World} {base n sz:Nat} {e:TypeId} {v:Value} {xs:List Value} (h:w.ownsRow base e sz v n xs) (hn:0<n):
 ∃g cap cur,v= .slice (some ⟨g,0,none⟩) n cap/\base<=g/\w.heap[g]? =some (.cells cur e (0,0))/\n<=cap/\cap<=maxLen/\cur.size=cap*sz/\cur.toList.take (n*sz)=xs:=by
 rcases h.2 with⟨_,h⟩ | h
 ·omega
 ·exact h
theorem zev {w:World} {g:Nat} {cur:Array Value} {e:TypeId} (hg:w.heap[g]? =some (.cells cur e (0,0))) (k:Nat):w.cell? ⟨g,k,none⟩=cur[k]? :=by simp [World.cell?,hg]
theorem zht {w:World} {g:Nat} {cur:Array Value} {e:TypeId} (hg:w.heap[g]? =some (.cells cur e (0,0))) (k:Nat):w.frozen? ⟨g,k,none⟩=false:=by simp [World.frozen?,hg]
theorem zrn (w:World) (base n:Nat) (v u:Value) (xs ys:List Value) (hbw:base<=w.heap.size) (hx:w.ownsRow base 85 2 v n xs) (hy:w.ownsRow base 85 2 u 1 ys) (h1y: ∀y∈ys,y.oneCell'=true) (hn:n<=4096):
 Calls Tryz.prog 302 #[v, .int .i64 (n:Int),u] w fun ex w'=> ∃v',ex= .returned v'/\w.grownBy w' v.ownBlock/\(∀g,v'.ownBlock=some g->v.ownBlock=some g\/w.heap.size<=g)/\w'.ownsRow base 85 2 v' (n+1) (xs++ys):=by
 obtain⟨hu,ie,ze,i1,i2,i3,i4,i5⟩:=zaK Tryz.tyd28
 have hzc:ze.cells.size=2:=by
  have:=congrArg List.length i5
  simpa using this
 obtain⟨g2,c2,cur2,rfl,_,hg2,_⟩:=zix hy (by omega)
 obtain⟨v',w',hrun,ho,hgr⟩:=zb8 (P:=Tryz.prog) w base 28 28 85 ie ze 2 32 hu i1 i2 i3 i4 hzc (by decide) v n xs hx (some ⟨g2,0,none⟩) 1 c2 ys hy.1 (fun _=>⟨_,rfl,fun j y hj=>hy.cells rfl j y hj⟩) h1y (by unfold maxLen; omega) (by omega) hbw
 have fin: ∃v'',Ending.returned v'= .returned v''/\w.grownBy w' v.ownBlock/\(∀g,v''.ownBlock=some g->v.ownBlock=some g\/w.heap.size<=g)/\w'.ownsRow base 85 2 v'' (n+1) (xs++ys):=by
  refine⟨v',rfl, ?_,fun g hg=> ?_,ho⟩
  ·rcases hgr with⟨_,h⟩ | ⟨_,h⟩
   ·exact h
   ·exact⟨h.os,h.tape,h.output,h.size,fun k hk _=>h.block k hk (by simp)⟩
  ·rcases hgr with⟨e,_⟩ | ⟨e,_⟩
   ·rw [e] at hg; exact .inl hg
   ·rw [e] at hg; cases hg; exact .inr (Nat.le_refl _)
 try clear hgr ho i1 i2 i3 i4 i5 hzc
 rcases hx.2 with⟨rfl,rfl⟩ | ⟨g,cap,cur,rfl,_,hg,hnc,hcm,_,_⟩
 ·clear hx hy
  go_enter Tryz.func302,Tryz.ntmps302
  go_wp2_with (at_builtin; refine Lib.wpList_append_run _ rfl _ _ _ _ rfl _ _ rfl rfl _ _ hrun ?_)
  all_goals (go_ret; exact fin)
 ·clear hx hy
  unfold maxLen at hcm
  go_enter Tryz.func302,Tryz.ntmps302
  go_wp2_with (at_builtin; refine Lib.wpList_append_run _ rfl _ _ _ _ rfl _ _ rfl rfl _ _ hrun ?_)
  all_goals (go_ret; exact fin)
def offR (cur:Array Value) (i n:Nat):List Value:=(cur.toList.drop (i*2)).take ((n-i)*2)
def zbJ (l:List Value) (o:Nat) (cs:List Value):List Value:=l.take o++cs++l.drop (o+cs.length)
theorem zfL {cur:Array Value} {i n cap:Nat} (hs:cur.size=cap*2) (hin:i<=n) (hn:n<=cap):(offR cur i n).length=(n-i)*2:=by
 unfold offR
 rw [List.length_take,List.length_drop,Array.length_toList,hs]
 omega
theorem ziy {cur:Array Value} {i n j:Nat} {v:Value} (h:(offR cur i n)[j]? =some v):cur[i*2+j]? =some v:=by
 unfold offR at h
 rw [List.getElem?_take] at h
 split at h
 ·rw [List.getElem?_drop] at h
  simpa using h
 ·cases h
theorem zb3 {l:List Value} {o:Nat} {cs:List Value} (h:o+cs.length<=l.length):(zbJ l o cs).length=l.length:=by
 unfold zbJ
 simp only [List.length_append,List.length_take,List.length_drop]
 omega
theorem zfr {w w':World} {g:Nat} {R:Array Value} (h:w.grownBy w' (some g)):w.grownBy (w'.setRow g R) (some g):=
 ⟨h.os,h.tape,h.output,by simp [World.setRow]; exact h.size,fun k hk hne=>by rw [setRow_other w' g k R (fun e=>hne (by rw [e]))]; exact h.block k hk hne⟩
theorem ze3 {w w':World} {r:Option Nat} (h:w.grownBy w' r):w.grownBy w'.drew r:=⟨h.os,h.tape,h.output,h.size,h.block⟩
theorem zpi (w:World) (g cap i n g2 c2:Nat) (cur cur2:Array Value) (hg:w.heap[g]? =some (.cells cur 85 (0,0))) (hg2:w.heap[g2]? =some (.cells cur2 85 (0,0))) (hne:g2≠g) (hi:i<n) (hroom:n+1<=cap) (hcap:cap<=9223372036854775807) (hsz:cur.size=cap*2) (hsz2:cur2.size=c2*2) (hc2:1<=c2)
 (h1c: ∀u∈offR cur i n,u.oneCell'=true) (h1y: ∀u∈offR cur2 0 1,u.oneCell'=true) (hn:n<=4096):
 Calls Tryz.prog 302 #[.slice (some ⟨g,0,none⟩) n cap, .int .i64 (i:Int), .slice (some ⟨g2,0,none⟩) 1 c2] w fun e w'=>
  e= .returned (.slice (some ⟨g,0,none⟩) (n+1) cap)/\w.grownBy w' (some g)/\w'.heap[g]? =some (.cells (zbJ (zbJ cur.toList ((i+1)*2) (offR cur i n)) (i*2) (offR cur2 0 1)).toArray 85 (0,0)):=by
 obtain⟨hu,ie,ze,i1,i2,i3,i4,i5⟩:=zaK Tryz.tyd28
 have hol:=zfL hsz (Nat.le_of_lt hi) (by omega:n<=cap)
 have hyl:=zfL hsz2 (Nat.zero_le 1) hc2
 have hl1:(zbJ cur.toList ((i+1)*2) (offR cur i n)).length=cap*2:=by rw [zb3 (by rw [hol,Array.length_toList,hsz]; omega),Array.length_toList,hsz]
 have hov: ∀(W:World) (lb cb:Nat),W.heap=w.heap->(callFunc 324 #[.slice (some ⟨g2,0,none⟩) 1 c2, .slice (some ⟨g,(i+1)*2,none⟩) lb cb]).run Tryz.prog W= .ok (.value (.bool false)) W:=fun W lb cb hW=>by
  have k1:W.heap[g]? =some (.cells cur 85 (0,0)):=by rw [hW]; exact hg
  have k2:W.heap[g2]? =some (.cells cur2 85 (0,0)):=by rw [hW]; exact hg2
  rw [run_callFunc_extern Tryz.func324 (by kernel_rfl) (by kernel_rfl) (by kernel_rfl) (e:=Extern.SlicesOverlaps.overlaps #[28,28] #[4]) (by kernel_rfl),
   Lib.run_overlaps_apart W 28 4 85 hu 2 (fun w0=>by simp [sizeOf,typeInfo,i1,i3]) ⟨g2,0,none⟩ ⟨g,(i+1)*2,none⟩ 1 c2 lb cb hne 85 85 cur2.size cur.size (by simp [World.shape?,k2]) (by simp [World.shape?,k1]) (by omega) (zht k2 _) (zht k2 _)]
  rfl
 have hcp1: ∀(W:World),W.heap=w.heap-> ∀(ty:TypeId) (dc sc:Nat),(Builtin.copy_ #[28,28] ty #[.slice (some ⟨g,(i+1)*2,none⟩) (n-i) dc, .slice (some ⟨g,i*2,none⟩) (n+1-i) sc]).run Tryz.prog W= .ok (goInt ((n-i:Nat):Int)) (W.setRow g (zbJ cur.toList ((i+1)*2) (offR cur i n)).toArray):=fun W hW ty dc sc=>by
  have k1:W.heap[g]? =some (.cells cur 85 (0,0)):=by rw [hW]; exact hg
  exact zc3 W _ _ ty 85 ie i1 g ((i+1)*2) (n-i) dc ⟨g,i*2,none⟩ (n+1-i) sc cur 85 (offR cur i n) (n-i) hu k1 (by simp only [Nat.min_def]; split<;>omega) (by rw [hol,i3])
   (fun j v hj=>by rw [Addr.add_lit,zev k1]; exact ziy hj) (by rw [hol,hsz]; omega) h1c
 obtain⟨R1,hR1⟩: ∃R1,R1=zbJ cur.toList ((i+1)*2) (offR cur i n):=⟨_,rfl⟩
 rw [<-hR1] at hcp1 hl1 |-
 have hcp2: ∀(W:World),W.heap=(w.setRow g R1.toArray).heap-> ∀(ty:TypeId) (dc:Nat),(Builtin.copy_ #[28,28] ty #[.slice (some ⟨g,i*2,none⟩) (n+1-i) dc, .slice (some ⟨g2,0,none⟩) 1 c2]).run Tryz.prog W= .ok (goInt 1) (W.setRow g (zbJ R1 (i*2) (offR cur2 0 1)).toArray):=fun W hW ty dc=>by
  have k1:W.heap[g]? =some (.cells R1.toArray 85 (0,0)):=by rw [hW]; exact setRow_heap w g cur _ _ _ hg
  have k2:W.heap[g2]? =some (.cells cur2 85 (0,0)):=by rw [hW,setRow_other w g g2 _ hne]; exact hg2
  exact zc3 W _ _ ty 85 ie i1 g (i*2) (n+1-i) dc ⟨g2,0,none⟩ 1 c2 R1.toArray 85 (offR cur2 0 1) 1 hu k1 (by simp only [Nat.min_def]; split<;>omega) (by rw [hyl,i3])
   (fun j v hj=>by rw [Addr.add_lit,zev k2]; exact ziy hj) (by rw [hyl]; simp only [List.size_toArray,hl1]; omega) h1y
 have fin: ∀(W:World),W=((w.drew.setRow g R1.toArray).setRow g (zbJ R1 (i*2) (offR cur2 0 1)).toArray)->w.grownBy W (some g)/\W.heap[g]? =some (.cells (zbJ R1 (i*2) (offR cur2 0 1)).toArray 85 (0,0)):=fun W hW=>by
  rw [hW]
  exact⟨zfr (zfr (ze3 (World.grownBy.refl w _))),setRow_heap _ g _ _ _ _ (setRow_heap w.drew g cur _ _ _ hg)⟩
 obtain⟨R2,hR2⟩: ∃R2,R2=(zbJ R1 (i*2) (offR cur2 0 1)).toArray:=⟨_,rfl⟩
 rw [<-hR2] at hcp2 fin |-
 obtain⟨A1,hA1⟩: ∃A1,A1=R1.toArray:=⟨_,rfl⟩
 rw [<-hA1] at hcp1 hcp2 fin
 have hw1:IntKind.i64.wrap ((i:Int)+1)=(i:Int)+1:=by rw [IntKind.wrap_i64]; omega
 have hw2:IntKind.i64.wrap ((n:Int)+1)=(n:Int)+1:=by rw [IntKind.wrap_i64]; omega
 have hz2: ¬((i:Int)=(n:Int)):=by omega
 have hb1:(0:Int)<=(i:Int)+1:=by omega
 have hin:i<=n:=by omega
 have htn:((i:Int)+1).toNat=i+1:=by omega
 have hb2: ¬(cap=i+1):=by omega
 have hb4: ¬(cap=i):=by omega
 have hb5: ¬((cap:Int)< (n:Int)+1):=by omega
 have hb3:(i:Int)<=(n:Int)+1:=by omega
 try clear hol hyl hl1 hsz hsz2 h1c h1y hR1 hR2 hA1 i1 i2 i3 i4 i5
 go_enter Tryz.func302,Tryz.ntmps302
 go_wp2_with (simp only [hov _ _ _ rfl])
 go_region_law (refine zfi rfl _ _ 28 28 rfl _ _ (by simp [Act.eval,Act.put]) (by simp [Act.eval,Act.put]) (hcp1 w.drew rfl 3 (cap-(i+1)) (cap-i)) ?_)
 go_wp2_with (refine zd6 _ rfl _ _ 28 28 rfl _ _ rfl rfl (hcp2 (w.drew.setRow g A1) rfl _ _) ?_)
 go_ret
 exact⟨rfl,fin _ rfl⟩
theorem zpj (w:World) (g cap i n g2 c2:Nat) (cur cur2:Array Value) (hg:w.heap[g]? =some (.cells cur 85 (0,0))) (hg2:w.heap[g2]? =some (.cells cur2 85 (0,0))) (hi:i<n) (hnc:n<=cap) (hroom:cap<n+1) (hsz:cur.size=cap*2) (hsz2:cur2.size=c2*2) (hc2:1<=c2)
 (h1c: ∀u∈offR cur i n,u.oneCell'=true) (h1y: ∀u∈offR cur2 0 1,u.oneCell'=true) (hn:n<=4096):
 Calls Tryz.prog 302 #[.slice (some ⟨g,0,none⟩) n cap, .int .i64 (i:Int), .slice (some ⟨g2,0,none⟩) 1 c2] w fun e w'=> ∃(G:Nat) (Z:List Value),
  e= .returned (.slice (some ⟨w.heap.size,0,none⟩) (n+1) G)/\w.grownBy w' none/\n+1<=G/\G<=maxLen/\Z.length=(G-i)*2/\w'.heap[w.heap.size]? =some (.cells (zbJ (zbJ (cur.toList.take (i*2)++Z) (i*2) (offR cur2 0 1)) ((i+1)*2) (offR cur i n)).toArray 85 (0,0)):=by
 obtain⟨hu,ie,ze,i1,i2,i3,i4,i5⟩:=zaK Tryz.tyd28
 have hzc:ze.cells.size=2:=by
  have:=congrArg List.length i5
  simpa using this
 have hol:=zfL hsz (Nat.le_of_lt hi) hnc
 have hyl:=zfL hsz2 (Nat.zero_le 1) hc2
 have hgw:g<w.heap.size:=(Array.getElem?_eq_some_iff.1 hg).1
 have hgw2:g2<w.heap.size:=(Array.getElem?_eq_some_iff.1 hg2).1
 have hkk:(n:Int)+1-(i:Int)=((n+1-i:Nat):Int):=by omega
 have hik:i+(n+1-i)=n+1:=by omega
 have hold:(Builtin.firstCells ie.size i (.slice (some ⟨g,0,none⟩) i cap)).run Tryz.prog w.drew= .ok (cur.toList.take (i*2)).toArray w.drew:=by
  rw [i3]
  refine run_firstCells_some w.drew 2 i ⟨g,0,none⟩ i cap (cur.toList.take (i*2)) (by rw [List.length_take,Array.length_toList]; omega) fun j v hj=> ?_
  rw [Addr.add_lit]
  show w.cell? _=_
  rw [zev hg]
  rw [List.getElem?_take] at hj
  split at hj
  ·simpa using hj
  ·cases hj
 have hui:Tryz.prog.underlying 3=some (.int .i64):=Tryz.underlying3
 have hrz: ∀ty,(Builtin.append_ #[28,3] ty #[.slice (some ⟨g,0,none⟩) i cap, .int .i64 ((n:Int)+1-(i:Int))]).run Tryz.prog w= .ok (.slice (some ⟨w.heap.size,0,none⟩) (n+1) (grownCap w (n+1) cap 85)) (w.drew.alloc (.cells ((cur.toList.take (i*2)).toArray++Builtin.zeroCells ze.cells (n+1-i)++Builtin.zeroCells ze.cells (grownCap w (n+1) cap 85-(n+1))) 85)):=fun ty=>by
  have h:=Lib.run_append_grow_zeros w 28 3 ty 85 ie ze .i64 .i64 hu hui i1 i2 (some ⟨g,0,none⟩) i cap (cur.toList.take (i*2)) hold (n+1-i) (by omega) (by omega) (by omega) (by omega) (by rw [i4]; omega) (by rw [i4,hik]; exact growslice_fits hroom (by omega))
  rw [hik] at h
  rw [hkk]
  exact h
 obtain⟨G,hG⟩: ∃G,G=grownCap w (n+1) cap 85:=⟨_,rfl⟩
 rw [<-hG] at hrz
 have hGn:n+1<=G:=by rw [hG]; exact grownCap_ge w _ _ _
 have hGm:G<=maxLen:=by rw [hG]; exact grownCap_le_maxLen w _ _ _ (by unfold maxLen; omega)
 obtain⟨Z,hZ⟩: ∃Z:List Value,Z=(Builtin.zeroCells ze.cells (n+1-i)).toList++(Builtin.zeroCells ze.cells (G-(n+1))).toList:=⟨_,rfl⟩
 have hZl:Z.length=(G-i)*2:=by
  rw [hZ,List.length_append,Array.length_toList,Array.length_toList,size_zeroCells,size_zeroCells,hzc]
  omega
 obtain⟨R0,hR0⟩: ∃R0:List Value,R0=cur.toList.take (i*2)++Z:=⟨_,rfl⟩
 have hr0:(cur.toList.take (i*2)).toArray++Builtin.zeroCells ze.cells (n+1-i)++Builtin.zeroCells ze.cells (G-(n+1))=R0.toArray:=by
  rw [hR0,hZ]
  apply Array.ext'
  simp
 have hrl:R0.length=G*2:=by
  rw [hR0,List.length_append,hZl,List.length_take,Array.length_toList,hsz]
  omega
 rw [hr0] at hrz
 obtain⟨W1,hW1⟩: ∃W1,W1=w.drew.alloc (.cells R0.toArray 85):=⟨_,rfl⟩
 rw [<-hW1] at hrz
 have hn1:W1.heap[w.heap.size]? =some (.cells R0.toArray 85 (0,0)):=by rw [hW1]; exact World.alloc_heap_new w.drew _
 have hn2:W1.heap[g]? =some (.cells cur 85 (0,0)):=by rw [hW1,Below.heap_alloc _ _ _ (by exact hgw)]; exact hg
 have hn3:W1.heap[g2]? =some (.cells cur2 85 (0,0)):=by rw [hW1,Below.heap_alloc _ _ _ (by exact hgw2)]; exact hg2
 have hgr1:w.grownBy W1 none:=by rw [hW1]; exact⟨rfl,rfl,rfl,by simp,fun k hk _=>by rw [Below.heap_alloc _ _ _ (by exact hk)]; rfl⟩
 obtain⟨A2,hA2⟩: ∃A2,A2=zbJ R0 (i*2) (offR cur2 0 1):=⟨_,rfl⟩
 have hl2:A2.length=G*2:=by rw [hA2,zb3 (by rw [hyl,hrl]; omega),hrl]
 have hcpA: ∀(W:World),W.heap=W1.heap-> ∀(ty:TypeId) (dc:Nat),(Builtin.copy_ #[28,28] ty #[.slice (some ⟨w.heap.size,i*2,none⟩) (n+1-i) dc, .slice (some ⟨g2,0,none⟩) 1 c2]).run Tryz.prog W= .ok (goInt 1) (W.setRow w.heap.size A2.toArray):=fun W hW ty dc=>by
  have k1:W.heap[w.heap.size]? =some (.cells R0.toArray 85 (0,0)):=by rw [hW]; exact hn1
  have k2:W.heap[g2]? =some (.cells cur2 85 (0,0)):=by rw [hW]; exact hn3
  rw [hA2]
  exact zc3 W _ _ ty 85 ie i1 w.heap.size (i*2) (n+1-i) dc ⟨g2,0,none⟩ 1 c2 R0.toArray 85 (offR cur2 0 1) 1 hu k1 (by simp only [Nat.min_def]; split<;>omega) (by rw [hyl,i3])
   (fun j v hj=>by rw [Addr.add_lit,zev k2]; exact ziy hj) (by rw [hyl]; simp only [List.size_toArray,hrl]; omega) h1y
 obtain⟨A3,hA3⟩: ∃A3,A3=zbJ A2 ((i+1)*2) (offR cur i n):=⟨_,rfl⟩
 have hcpB: ∀(W:World),W.heap=(W1.setRow w.heap.size A2.toArray).heap-> ∀(ty:TypeId) (dc sc:Nat),(Builtin.copy_ #[28,28] ty #[.slice (some ⟨w.heap.size,(i+1)*2,none⟩) (n-i) dc, .slice (some ⟨g,i*2,none⟩) (n-i) sc]).run Tryz.prog W= .ok (goInt ((n-i:Nat):Int)) (W.setRow w.heap.size A3.toArray):=fun W hW ty dc sc=>by
  have k1:W.heap[w.heap.size]? =some (.cells A2.toArray 85 (0,0)):=by rw [hW]; exact setRow_heap W1 _ _ _ _ _ hn1
  have k2:W.heap[g]? =some (.cells cur 85 (0,0)):=by rw [hW,setRow_other W1 w.heap.size g _ (Nat.ne_of_lt hgw)]; exact hn2
  rw [hA3]
  exact zc3 W _ _ ty 85 ie i1 w.heap.size ((i+1)*2) (n-i) dc ⟨g,i*2,none⟩ (n-i) sc A2.toArray 85 (offR cur i n) (n-i) hu k1 (by simp only [Nat.min_def]; split<;>omega) (by rw [hol,i3])
   (fun j v hj=>by rw [Addr.add_lit,zev k2]; exact ziy hj) (by rw [hol]; simp only [List.size_toArray,hl2]; omega) h1c
 have fin: ∀(W:World),w.grownBy W none->W.heap[w.heap.size]? =some (.cells A3.toArray 85 (0,0))-> ∃(G':Nat) (Z':List Value),(Ending.returned (.slice (some ⟨w.heap.size,0,none⟩) (n+1) G):Ending)= .returned (.slice (some ⟨w.heap.size,0,none⟩) (n+1) G')/\w.grownBy W none/\n+1<=G'/\G'<=maxLen/\Z'.length=(G'-i)*2/\W.heap[w.heap.size]? =some (.cells (zbJ (zbJ (cur.toList.take (i*2)++Z') (i*2) (offR cur2 0 1)) ((i+1)*2) (offR cur i n)).toArray 85 (0,0)):=fun W h1 h2=>
  ⟨G,Z,rfl,h1,hGn,hGm,hZl,by rw [h2,hA3,hA2,hR0]⟩
 have fin2: ∀(W:World),w.grownBy W none->W.heap[w.heap.size]? =some (.cells A2.toArray 85 (0,0))->w.grownBy (W.setRow w.heap.size A3.toArray) none/\(W.setRow w.heap.size A3.toArray).heap[w.heap.size]? =some (.cells A3.toArray 85 (0,0)):=fun W h1 h2=>
  ⟨⟨h1.os,h1.tape,h1.output,by simp [World.setRow]; exact h1.size,fun k hk hne=>by rw [setRow_other W _ k _ (Nat.ne_of_lt hk)]; exact h1.block k hk hne⟩,setRow_heap W _ _ _ _ _ h2⟩
 have hgrA:w.grownBy (W1.setRow w.heap.size A2.toArray) none:=⟨hgr1.os,hgr1.tape,hgr1.output,by simp [World.setRow]; exact hgr1.size,fun k hk hne=>by rw [setRow_other W1 _ k _ (Nat.ne_of_lt hk)]; exact hgr1.block k hk hne⟩
 have hnA:(W1.setRow w.heap.size A2.toArray).heap[w.heap.size]? =some (.cells A2.toArray 85 (0,0)):=setRow_heap W1 _ _ _ _ _ hn1
 have hw1:IntKind.i64.wrap ((i:Int)+1)=(i:Int)+1:=by rw [IntKind.wrap_i64]; omega
 have hw2:IntKind.i64.wrap ((n:Int)+1)=(n:Int)+1:=by rw [IntKind.wrap_i64]; omega
 have hw3:IntKind.i64.wrap ((n:Int)+1-(i:Int))=(n:Int)+1-(i:Int):=by rw [IntKind.wrap_i64]; omega
 have hz2: ¬((i:Int)=(n:Int)):=by omega
 have hz3:(cap:Int)< (n:Int)+1:=by omega
 have hb1:(0:Int)<=(i:Int)+1:=by omega
 have hin:i<=n:=by omega
 have htn:((i:Int)+1).toNat=i+1:=by omega
 have hGi: ¬(G=i):=by omega
 have hGim: ¬(G=i+1):=by omega
 have hci: ¬(cap=i):=by omega
 have hb3:(i:Int)<=(n:Int):=by omega
 obtain⟨B2,hB2⟩: ∃B2,B2=A2.toArray:=⟨_,rfl⟩
 obtain⟨B3,hB3⟩: ∃B3,B3=A3.toArray:=⟨_,rfl⟩
 obtain⟨N0,hN0⟩: ∃N0,N0=w.heap.size:=⟨_,rfl⟩
 rw [<-hB2] at hcpA hcpB hgrA hnA fin2
 rw [<-hB3] at hcpB fin fin2
 rw [<-hN0] at hrz hcpA hcpB fin fin2 hgrA hnA |-
 try clear hkk hik hold hG hrl hr0 hR0 hW1 hn1 hn2 hn3 hgr1 hA2 hA3 hl2 hB2 hB3 i1 i2 i3 i4 i5 hol hyl h1c h1y hsz hsz2 hZ hZl hzc hu hui hN0
 go_enter Tryz.func302,Tryz.ntmps302
 go_wp2_with (first
  |(at_builtin; refine Lib.wpList_append_run _ rfl _ _ _ _ rfl _ _ rfl rfl _ _ (hrz _) ?_)
  |(refine zd6 _ rfl _ _ 28 28 rfl _ _ rfl rfl (hcpA W1 rfl _ _) ?_))
 go_region_law (refine zfi rfl _ _ 28 28 rfl _ _ (by simp [Act.eval,Act.put]) (by simp [Act.eval,Act.put]) (hcpB (W1.setRow N0 B2).drew rfl 3 (G-(i+1)) (cap-i)) ?_)
 go_wp2
 go_ret
 exact fin _ (fin2 _ (ze3 hgrA) hnA).1 (fin2 _ (ze3 hgrA) hnA).2
end
section
theorem zrh (P Y Z X:List Value):zbJ (zbJ (P++Z) P.length Y) (P.length+Y.length) X=P++Y++X++(P++Y++Z.drop Y.length).drop (P.length+Y.length+X.length):=by
 have e1:zbJ (P++Z) P.length Y=P++Y++Z.drop Y.length:=by
  unfold zbJ
  rw [List.take_left',List.drop_append,List.drop_of_length_le (by omega),Nat.add_sub_cancel_left,List.nil_append]
  rfl
 rw [e1]
 unfold zbJ
 rw [show (P++Y++Z.drop Y.length).take (P.length+Y.length)=P++Y from List.take_left' (by rw [List.length_append])]
theorem zri (P Q S X Y:List Value) (h:Q.length=Y.length):zbJ (zbJ (P++Q++S) (P.length+Y.length) X) P.length Y=P++Y++X++(P++Q++S).drop (P.length+Y.length+X.length):=by
 have e1:zbJ (P++Q++S) (P.length+Y.length) X=P++Q++X++(P++Q++S).drop (P.length+Y.length+X.length):=by
  unfold zbJ
  rw [show (P++Q++S).take (P.length+Y.length)=P++Q from List.take_left' (by rw [List.length_append,h])]
 rw [e1]
 generalize (P++Q++S).drop (P.length+Y.length+X.length)=T
 unfold zbJ
 rw [show (P++Q++X++T).take P.length=P by rw [List.append_assoc,List.append_assoc]; exact List.take_left' rfl,show (P++Q++X++T).drop (P.length+Y.length)=X++T by rw [List.append_assoc]; exact List.drop_left' (by rw [List.length_append,h])]
 simp only [List.append_assoc]
theorem zsL (l:List Value) (a b:Nat):l=l.take a++(l.drop a).take b++l.drop (a+b):=by
 rw [List.append_assoc, <-List.drop_drop,List.take_append_drop,List.take_append_drop]
theorem insM:Insr Tryz.prog 302 85 2:=by
 refine⟨enters_of Tryz.func302 (by kernel_rfl) rfl,fun w base i n v u xs ys hbw hx hy hd h1x h1y hi hn=> ?_⟩
 by_cases he:i=n
 ·subst he
  have hxl:=hx.1
  rw [List.take_of_length_le (by omega),List.drop_of_length_le (by omega),List.append_nil]
  exact zrn w base i v u xs ys hbw hx hy h1y hn
 ·obtain⟨g,cap,cur,rfl,hbg,hg,hnc,hcm,hsz,htk⟩:=zix hx (by omega)
  obtain⟨g2,c2,cur2,rfl,_,hg2,hc2,_,hsz2,htk2⟩:=zix hy (by omega)
  have hne:g2≠g:=fun e=>hd g rfl (by rw [e]; rfl)
  have e2:offR cur2 0 1=ys:=by unfold offR; rw [<-htk2]; rfl
  have e1:offR cur i n=xs.drop (i*2):=by
   unfold offR
   rw [<-htk,List.drop_take]
   congr 1
   omega
  have hP:xs.take (i*2)=cur.toList.take (i*2):=by
   rw [<-htk,List.take_take,Nat.min_eq_left (by omega)]
  have hPl:(xs.take (i*2)).length=i*2:=by rw [List.length_take,hx.1]; omega
  have hYl:ys.length=2:=hy.1
  have hXl:(xs.drop (i*2)).length=(n-i)*2:=by rw [List.length_drop,hx.1]; omega
  have h1X: ∀x∈offR cur i n,x.oneCell'=true:=fun x hx'=>by rw [e1] at hx'; exact h1x x (List.mem_of_mem_drop hx')
  have h1Y: ∀x∈offR cur2 0 1,x.oneCell'=true:=fun x hx'=>by rw [e2] at hx'; exact h1y x hx'
  have hlen:(xs.take (i*2)++ys++xs.drop (i*2)).length=(n+1)*2:=by
   rw [List.length_append,List.length_append,hPl,hYl,hXl]
   omega
  by_cases hroom:n+1<=cap
  ·refine(zpi w g cap i n g2 c2 cur cur2 hg hg2 hne (by omega) hroom (by unfold maxLen at hcm; omega) hsz hsz2 hc2 h1X h1Y hn).mono ?_
   rintro ex w' ⟨rfl,h1,h2⟩
   refine⟨_,rfl,h1,fun k hk=> .inl hk,hlen, .inr ⟨g,cap,_,rfl,hbg,h2,hroom,hcm, ?_, ?_⟩⟩
   ·simp only [List.size_toArray]
    rw [zb3,zb3,Array.length_toList,hsz]
    ·rw [e1,hXl,Array.length_toList,hsz]; omega
    ·rw [zb3,e2,hYl,Array.length_toList,hsz]
     ·omega
     ·rw [e1,hXl,Array.length_toList,hsz]; omega
   ·rw [e1,e2]
    have hc:=zsL cur.toList (i*2) 2
    rw [<-hP] at hc
    have hQ:((cur.toList.drop (i*2)).take 2).length=ys.length:=by rw [List.length_take,List.length_drop,Array.length_toList,hsz,hYl]; omega
    have:=zri (xs.take (i*2)) ((cur.toList.drop (i*2)).take 2) (cur.toList.drop (i*2+2)) (xs.drop (i*2)) ys hQ
    rw [<-hc,hPl,hYl] at this
    rw [show (i+1)*2=i*2+2 by omega]
    show (List.take _ (zbJ _ _ _))=_
    rw [this]
    exact List.take_left' hlen
  ·refine(zpj w g cap i n g2 c2 cur cur2 hg hg2 (by omega) hnc (by omega) hsz hsz2 hc2 h1X h1Y hn).mono ?_
   rintro ex w' ⟨G,Z,rfl,h1,h2,h3,h4,h5⟩
   refine⟨_,rfl,⟨h1.os,h1.tape,h1.output,h1.size,fun k hk _=>h1.block k hk (by simp)⟩,fun k hk=> .inr (by cases hk; exact Nat.le_refl _),hlen, .inr ⟨w.heap.size,G,_,rfl,hbw,h5,h2,h3, ?_, ?_⟩⟩
   ·simp only [List.size_toArray]
    have hl0:(cur.toList.take (i*2)++Z).length=G*2:=by rw [List.length_append,h4,List.length_take,Array.length_toList,hsz]; omega
    rw [zb3,zb3,hl0]
    ·rw [e2,hYl,hl0]; omega
    ·rw [zb3,e1,hXl,hl0]
     ·omega
     ·rw [e2,hYl,hl0]; omega
   ·rw [e1,e2, <-hP]
    have:=zrh (xs.take (i*2)) ys Z (xs.drop (i*2))
    rw [hPl,hYl] at this
    rw [show (i+1)*2=i*2+2 by omega]
    show (List.take _ (zbJ _ _ _))=_
    rw [this]
    exact List.take_left' hlen
end

end Go.Proofs.YtnbjaghjdeicmaaGreatDoor