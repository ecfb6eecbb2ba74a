/- A transition moves from legal states to legal ones; histories lead back. Plain: no program is named here. -/
import Derived.Test.YtnbjaghjdeicmaaGreatDoorD19
import Derived.Test.YtnbjaghjdeicmaaGreatDoorD8
import Derived.Test.YtnbjaghjdeicmaaGreatDoorD6
set_option maxRecDepth 100000
set_option maxHeartbeats 16000000
set_option linter.unusedSimpArgs false
namespace Go.Proofs.YtnbjaghjdeicmaaGreatDoor
open Go.RowKit
section
def undR (c:ChD) (act:List Int) (i:Int):List Int:=(zL (sortL c act)).filter (aboveB c i)
def zeV (c:ChD) (l:List Int) (i:Int) (j:Nat):List Int:=(l.take j).filter (aboveB c i)
theorem zhR {c:ChD} {l:List Int} {i:Int} {j:Nat} {x:Int} (h:l[j]? =some x):zeV c l i (j+1)=if aboveB c i x then zeV c l i j++[x] else zeV c l i j:=by
 unfold zeV
 rw [List.take_add_one,h,List.filter_append]
 cases hb:aboveB c i x<;>simp [hb]
theorem zjJ (c:ChD) (l:List Int) (i:Int) (j:Nat):(zeV c l i j).length<=l.length:=by
 unfold zeV
 exact Nat.le_trans (List.length_filter_le ..) (by rw [List.length_take]; omega)
theorem zeZ {c:ChD} (hc:Right c) (act:List Int):(sortL c act).length<=32:=by
 unfold sortL
 split
 ·exact Nat.le_trans (List.length_filter_le ..) (ziy hc (by omega))
 ·simp
theorem zm5 (env:Env) (c:ChD) (hc:Right c) (act:List Int) (hl:act.length<=1000000) (d:Int):Con Tryz.prog env 217 [zaj c, .seq 1 (act.map intAV),I d] (.own 3 1 ((undR c act d).reverse.map intAV)):=by
 have f1:=zaL env c
 have f2:=zcw env c hc act hl
 have hsl:=zeZ hc act
 rw [<-zcP] at f2
 unfold undR
 have hsl:(zL (sortL c act)).length<=32:=by rw [zcn]; exact hsl
 generalize zL (sortL c act)=L at*
 unfold zaj zaq at f1
 unfold zaq at f2
 unfold zaj
 refine zaa Tryz.func217 rfl Tryz.call217 (by rw [Tryz.ntmps217]; simp) ?_
 rw [Tryz.ntmps217,Tryz.results217]
 repeat (first | refine st0 ?_ | refine cC0 f1 ?_ | refine cC0 f2 ?_)
 refine zaX 7 7 3 1 ?_
 refine zac (D:=Nat) (fun j vs=>[(0, .ref 9 [tabCells c] 0 0),(2,I d),(7, .row 7 (vs 7)),(13, .row 13 (vs 13)),(14,I L.length),(15,I j)]) (fun j _=>[(7,⟨1,(zeV c L d j).map intAV,3,true⟩),(13,⟨1,L.map intAV,3,true⟩)]) (fun j _ esc=>j<=L.length/\esc 7=false) (fun j=>L.length-j) 0 ?_ ?_ ?_ ?_
 ·exact⟨Nat.zero_le _,rfl⟩
 ·(simp only [go_sem])
  try rfl
 ·(simp only [go_sem])
  try rfl
 rintro j ws esc ⟨hj,e0⟩
 by_cases hlt:j<L.length
 ·obtain⟨x,hx⟩: ∃x,L[j]? =some x:=⟨L[j],List.getElem?_eq_getElem hlt⟩
  have q1:=nlt hlt
  have q2:=zab hlt (by omega)
  have f3:=zc3 env c hc d x
  unfold zaq at f3
  have hil:=zjJ c L d j
  have hf:Fits ((zeV c L d j).length+1) 8:=zai (by omega) (by omega)
  have hn:=zhR (c:=c) (i:=d) hx
  cases hb:aboveB c d x with
  | true=>
    rw [hb] at f3
    rw [hb,if_pos rfl] at hn
    have F:=ai q1<|ai q2<|ai hx<|ai hf<|e0
    repeat (first | refine st ?_ | refine cC f1 ?_ | refine cC f3 ?_)
    refine⟨j+1,⟨hlt,by simp only [go_sem,e0]⟩, ?_, ?_,by omega⟩
    ·(simp only [go_sem,F])
    ·have F:=hn
     (simp only [go_sem,List.map_append,F])
  | false=>
    rw [hb] at f3
    rw [hb,if_neg Bool.false_ne_true] at hn
    have F:=ai q1<|ai q2<|ai hx<|ai hf<|e0
    repeat (first | refine st ?_ | refine cC f1 ?_ | refine cC f3 ?_)
    refine⟨j+1,⟨hlt,by simp only [go_sem,e0]⟩, ?_, ?_,by omega⟩
    ·(simp only [go_sem,F])
    ·have F:=hn
     (simp only [go_sem,List.map_append,F])
 ·obtain rfl:j=L.length:=by omega
  have q1: ¬(L.length:Int)< (L.length:Int):=by omega
  have hall:zeV c L d L.length=L.filter (aboveB c d):=by unfold zeV; rw [List.take_length]
  rw [hall]
  have hfl:(L.filter (aboveB c d)).length<=32:=Nat.le_trans (List.length_filter_le ..) hsl
  generalize L.filter (aboveB c d)=U at*
  have f4:=zhW U (by omega)
  have F:=ai q1<|e0
  repeat refine st ?_
  refine znd 7 rfl (row:=⟨1,U.map intAV,3,true⟩) f4 (Nat.succ_ne_zero 0) rfl (litEs_int _).symm (by simp only [go_sem,e0]; exact iR) (by simp only [go_sem,e0]; exact iR) (by simp only [go_sem,e0]; exact iR) (by simp only [go_sem,e0]; exact iR) ?_
  rw [litEs_int]
  repeat refine st ?_
  exact aR
theorem zoK (env:Env) (a1 a8:Addr) (he:ChEnv env a1 a8) (s:List UInt8):Con Tryz.prog env 177 [Sg s] (errV (-1) (sentV a1)):=by
 have g1:=zhf he.e1
 have f0:=zb4 env s a1
 refine zaa Tryz.func177 rfl Tryz.call177 (by rw [Tryz.ntmps177]; simp) ?_
 rw [Tryz.ntmps177,Tryz.results177]
 have F:=g1
 repeat (first | refine st ?_ | refine cC f0 ?_)
 exact aR
def leaveR (c:ChD) (act:List Int) (t:TrD):List Int:=if t.target<0 then [] else(undR c act (domE c t.src t.target)).reverse
theorem zln (env:Env) (a1 a8:Addr) (he:ChEnv env a1 a8) (c:ChD) (h:Full c) (hs:Small c) (act:List Int) (hl:act.length<=1000000) (k:Nat) (t:TrD) (ht:c.trans[k]? =some t) (hb:lgB c act=true):Con Tryz.prog env 139 [zaj c, .seq 1 (act.map intAV),I k] (.tuple [.seq 1 ((leaveR c act t).map intAV),nilE]):=by
 have f0:=zcf env a1 a8 he c h hs act hl
 have f1:=ziF env c hs k t ht
 have f2:=zfL env c h.toRight hs t (h.src ht).1
 have f3:=zm5 env c h.toRight act hl (domE c t.src t.target)
 unfold chkE at f0
 rw [hb] at f0
 simp only [if_true] at f0
 unfold leaveR
 unfold trAV at f1 f2
 unfold zaj at f0 f1 f2 f3 |-
 by_cases h0:t.target<0
 ·rw [if_pos h0]
  refine zan Tryz.func139 rfl Tryz.call139 (by rw [Tryz.ntmps139]; simp) ?_
  rw [Tryz.ntmps139,Tryz.results139]
  have F:=h0
  repeat (first | refine st ?_ | refine cC f0 ?_ | refine cC f1 ?_ | refine cC f2 ?_ | refine cC f3 ?_)
  (refine zaf ?_; refine⟨_,(by show (zao _ _ _).run _=some _; simp only [go_sem,F]; rfl), ?_⟩)
  exact .of (.tuple (.cons (.nil 1) (.cons (.refl _) .nil))) (fun _ _ _ h=>by cases h) (fun _ _ _ h=>by cases h)
 ·rw [if_neg h0]
  refine zaa Tryz.func139 rfl Tryz.call139 (by rw [Tryz.ntmps139]; simp) ?_
  rw [Tryz.ntmps139,Tryz.results139]
  have F:=h0
  repeat (first | refine st ?_ | refine cC f0 ?_ | refine cC f1 ?_ | refine cC f2 ?_ | refine cC f3 ?_)
  exact aR
theorem zui {l:List Int} (h: ∀x∈l,0<=x):l=zL (l.map Int.toNat):=by
 unfold zL
 rw [List.map_map]
 conv=>lhs; rw [<-List.map_id l]
 refine List.map_congr_left fun x hx=> ?_
 have:=h x hx
 simp only [id_eq,Function.comp]
 omega
theorem zoh (env:Env) (c:ChD) (hc:Right c) (act:List Int) (hl:act.length<=1000000) (hz: ∀x∈act,0<=x):Con Tryz.prog env 78 [.agg (chAV c), .seq 1 (act.map intAV)] (.own 3 1 ((sortL c act).map zad)):=by
 have f:=zj2 env c hc (act.map Int.toNat) (by rw [List.length_map]; exact hl)
 rw [<-zcP, <-zui hz] at f
 exact f
theorem zj0 (env:Env) (c:ChD) (hc:Right c) (act:List Int) (hl:act.length<=1000000) (hz: ∀x∈act,0<=x) (i:Int):Con Tryz.prog env 155 [.agg (chAV c), .seq 1 (act.map intAV),I i] (.own 3 1 ((undR c act i).map intAV)):=by
 have f2:=zoh env c hc act hl hz
 have hsl:=zeZ hc act
 rw [<-zcP] at f2
 unfold undR
 have hsl:(zL (sortL c act)).length<=32:=by rw [zcn]; exact hsl
 generalize zL (sortL c act)=L at*
 unfold chAV at f2
 refine zaa Tryz.func155 rfl Tryz.call155 (by rw [Tryz.ntmps155]; simp) ?_
 rw [Tryz.ntmps155,Tryz.results155]
 have F:=chAV.eq_1
 repeat (first | refine st ?_ | refine cC f2 ?_)
 refine zac (D:=Nat) (fun j vs=>[(2,I i),(3, .loc 3 (vs 3) 0 0),(7, .row 10 (vs 10)),(8, .row 13 (vs 13)),(9,I j)]) (fun j _=>[(3,⟨5,[chAV c],26,false⟩),(10,⟨1,(zeV c L i j).map intAV,3,true⟩),(13,⟨1,L.map intAV,3,true⟩)]) (fun j _ esc=>j<=L.length/\esc 10=false) (fun j=>L.length-j) 0 ?_ ?_ ?_ ?_
 ·exact⟨Nat.zero_le _,rfl⟩
 ·(simp only [go_sem,F])
  try rfl
 ·have F:=chAV.eq_1
  (simp only [go_sem,F])
  try rfl
 rintro j ws esc ⟨hj,e0⟩
 by_cases hlt:j<L.length
 ·obtain⟨x,hx⟩: ∃x,L[j]? =some x:=⟨L[j],List.getElem?_eq_getElem hlt⟩
  have q1:=nlt hlt
  have q2:=zab hlt (by omega)
  have f3:=zcb env c hc i x
  unfold chAV at f3
  have hil:=zjJ c L i j
  have hf:Fits ((zeV c L i j).length+1) 8:=zai (by omega) (by omega)
  have hn:=zhR (c:=c) (i:=i) hx
  cases hb:aboveB c i x with
  | true=>
    rw [hb] at f3
    rw [hb,if_pos rfl] at hn
    have F:=ai chAV.eq_1<|ai q1<|ai q2<|ai hx<|ai hf<|e0
    repeat (first | refine st ?_ | refine cC f3 ?_)
    refine⟨j+1,⟨hlt,by simp only [go_sem,e0]⟩, ?_, ?_,by omega⟩
    ·(simp only [go_sem,F])
    ·have F:=ai chAV.eq_1<|hn
     (simp only [go_sem,List.map_append,F])
  | false=>
    rw [hb] at f3
    rw [hb,if_neg Bool.false_ne_true] at hn
    have F:=ai chAV.eq_1<|ai q1<|ai q2<|ai hx<|ai hf<|e0
    repeat (first | refine st ?_ | refine cC f3 ?_)
    refine⟨j+1,⟨hlt,by simp only [go_sem,e0]⟩, ?_, ?_,by omega⟩
    ·(simp only [go_sem,F])
    ·have F:=ai chAV.eq_1<|hn
     (simp only [go_sem,List.map_append,F])
 ·obtain rfl:j=L.length:=by omega
  have q1: ¬(L.length:Int)< (L.length:Int):=by omega
  have hall:zeV c L i L.length=L.filter (aboveB c i):=by unfold zeV; rw [List.take_length]
  rw [hall]
  have F:=ai q1<|e0
  repeat refine st ?_
  exact aR
def zgQ (l:List Int) (m:Nat):List Int:=(l.drop (l.length-m)).reverse
theorem zn7 {l:List Int} {m:Nat} {x:Int} (hm:m<l.length) (h:l[l.length-m-1]? =some x):zgQ l (m+1)=zgQ l m++[x]:=by
 unfold zgQ
 rw [show l.length-(m+1)=l.length-m-1 by omega]
 obtain⟨h1,rfl⟩:=List.getElem?_eq_some_iff.1 h
 rw [List.drop_eq_getElem_cons h1,List.reverse_cons]
 congr 3
 omega
theorem ziW (env:Env) (l:List Int) (hl:l.length<=1000000):Con Tryz.prog env 77 [.seq 1 (l.map intAV)] (.own 3 1 (l.reverse.map intAV)):=by
 have g0:IntKind.i64.wrap ((l.length:Int)-1)=(l.length:Int)-1-((0:Nat):Int):=by rw [zaC (by omega) (by omega)]; omega
 refine zaa Tryz.func77 rfl Tryz.call77 (by rw [Tryz.ntmps77]; simp) ?_
 rw [Tryz.ntmps77,Tryz.results77]
 have F:=g0
 repeat refine st ?_
 refine zac (D:=Nat) (fun m vs=>[(0, .seq 1 (l.map intAV)),(3, .row 5 (vs 5)),(4,I ((l.length:Int)-1-(m:Int)))]) (fun m _=>[(5,⟨1,(zgQ l m).map intAV,3,true⟩)]) (fun m _ esc=>m<=l.length/\esc 5=false) (fun m=>l.length-m) 0 ?_ ?_ ?_ ?_
 ·exact⟨Nat.zero_le _,rfl⟩
 ·(simp only [go_sem,F])
 ·have:zgQ l 0=[]:=by unfold zgQ; simp
  rw [this]
  (simp only [go_sem,F])
  try rfl
 rintro m ws esc ⟨hm,e0⟩
 have hrl:(zgQ l m).length=m:=by unfold zgQ; rw [List.length_reverse,List.length_drop]; omega
 by_cases hlt:m<l.length
 ·obtain⟨x,hx⟩: ∃x,l[l.length-m-1]? =some x:=⟨l[l.length-m-1]'(by omega),List.getElem?_eq_getElem _⟩
  have q0:(l.length:Int)-1-(m:Int)=((l.length-m-1:Nat):Int):=by omega
  have q1:(0:Int)<=((l.length-m-1:Nat):Int):=by omega
  have q2:IntKind.i64.wrap (((l.length-m-1:Nat):Int)-1)=(l.length:Int)-1-((m+1:Nat):Int):=by rw [zaC (by omega) (by omega)]; omega
  have q3:((l.length-m-1:Nat):Int)< (l.length:Int):=by omega
  have hf:Fits ((zgQ l m).length+1) 8:=⟨by omega,by omega⟩
  have hn:=zn7 hlt hx
  rw [q0]
  have F:=ai hx<|ai q1<|ai q2<|ai q3<|ai hf<|e0
  repeat refine st ?_
  refine⟨m+1,⟨hlt,by simp only [go_sem,e0]⟩, ?_, ?_,by omega⟩
  ·(simp only [go_sem,F])
  ·have F:=hn
   (simp only [go_sem,List.map_append,F])
 ·obtain rfl:m=l.length:=by omega
  have q1: ¬(0:Int)<=(l.length:Int)-1-(l.length:Int):=by omega
  have hall:zgQ l l.length=l.reverse:=by unfold zgQ; simp
  rw [hall]
  have F:=ai q1<|e0
  repeat refine st ?_
  exact aR
theorem zfZ (env:Env) (c:ChD) (h:Full c) (act:List Int) (hl:act.length<=1000000) (hz: ∀x∈act,0<=x) (k:Nat) (t:TrD) (ht:c.trans[k]? =some t):Con Tryz.prog env 76 [.agg (chAV c), .seq 1 (act.map intAV), .agg (trAV t)] (.own 3 1 ((leaveR c act t).map intAV)):=by
 have f1:=zi1 env c h.toRight t (h.src ht).1
 have f2:=zj0 env c h.toRight act hl hz (domE c t.src t.target)
 have hul:(undR c act (domE c t.src t.target)).length<=32:=Nat.le_trans (List.length_filter_le ..) (by rw [zcn]; exact zeZ h.toRight act)
 have f3:=ziW env (undR c act (domE c t.src t.target)) (by omega)
 unfold leaveR
 unfold trAV at f1
 unfold chAV at f1 f2
 by_cases h0:t.target<0
 ·rw [if_pos h0]
  refine zan Tryz.func76 rfl Tryz.call76 (by rw [Tryz.ntmps76]; simp) ?_
  rw [Tryz.ntmps76,Tryz.results76]
  have F:=ai trAV.eq_1<|ai chAV.eq_1<|h0
  repeat (first | refine st ?_ | refine cC f1 ?_ | refine cC f2 ?_ | refine cC f3 ?_)
  (refine zaf ?_; refine⟨_,(by show (zao _ _ _).run _=some _; simp only [go_sem,F]; rfl), ?_⟩)
  exact RStr.own_nil _ _ (by decide)
 ·rw [if_neg h0]
  refine zaa Tryz.func76 rfl Tryz.call76 (by rw [Tryz.ntmps76]; simp) ?_
  rw [Tryz.ntmps76,Tryz.results76]
  have F:=ai trAV.eq_1<|ai chAV.eq_1<|h0
  repeat (first | refine st ?_ | refine cC f1 ?_ | refine cC f2 ?_ | refine cC f3 ?_)
  exact aR
end
section
def idxZ:List Int->Int->Nat->Option Nat
 | [],_,_=>none
 | x::l,k,n=>if k=x then some n else idxZ l k (n+1)
theorem zff {k:Int} : ∀ {l:List Int} {n:Nat},k∉l->idxZ l k n=none
 | [],_,_=>rfl
 | x::l,n,h=>by
   unfold idxZ
   rw [if_neg (fun e=>h (by rw [e]; exact List.mem_cons_self ..)),zff (fun hh=>h (List.mem_cons_of_mem _ hh))]
theorem zha {k:Int} : ∀ {l:List Int} {n:Nat},k∈l-> ∃i,idxZ l k n=some (n+i)/\l[i]? =some k
 | [],n,h=>by cases h
 | x::l,n,h=>by
   unfold idxZ
   by_cases e:k=x
   ·exact⟨0,by rw [if_pos e]; rfl,by rw [e]; rfl⟩
   ·obtain⟨i,h1,h2⟩:=zha (n:=n+1) ((List.mem_cons.1 h).resolve_left e)
    exact⟨i+1,by rw [if_neg e,h1]; congr 1; omega,by simpa using h2⟩
def zdq (l:List Int):List (List AV):=l.map fun k=>[I k,I 1]
theorem zfD (k:Int): ∀(l:List Int) (n:Nat),mfind Tryz.prog 3 (I k) (zdq l) n=some (idxZ l k n)
 | [],n=>rfl
 | x::l,n=>by
   have ih:=zfD k l (n+1)
   unfold zdq at ih |-
   unfold idxZ
   by_cases e:k=x
   ·have e1:(k==x)=true:=by simp [e]
    simp only [go_sem,zbp,zby,List.map_cons,e1,if_pos e]
   ·have e1:(k==x)=false:=by simpa using e
    simp only [go_sem,zbp,zby,List.map_cons,e1,if_neg e,ih]
theorem zjI (env:Env) (o:List Int) (i:Int) (ho:o.length<=4000) (te:TypeId):ConI Tryz.prog env 303 [1000,1001] (fun k=>k==1001) (fun vs=>[I i, .loc 1000 (vs 1000) 0 0]) (fun vs=>[(1000,⟨1,[[.row 1001 (vs 1001)]],te,false⟩),(1001,⟨1,o.map intAV,3,true⟩)]) (fun vs=>[(1000,⟨1,[[.row 1001 (vs 1001)]],te,false⟩),(1001,⟨1,(addU o i).map intAV,3,true⟩)]) (fun _=> .lit (.tuple #[])):=by
 have f0:=(zaO env o i (by omega)).lend rfl
 unfold addU
 cases hc:o.contains i with
 | true=>
   rw [hc] at f0
   simp only [if_true]
   refine⟨Tryz.call303,_,_,Tryz.func303,rfl,(by intro _; rw [Tryz.ntmps303]; simp), ?_⟩
   intro vs esc hesc
   rw [Tryz.ntmps303,Tryz.results303]
   have e0:=hesc 1000 (by simp)
   have e1:=hesc 1001 (by simp)
   have F:=ai e0<|e1
   repeat refine st ?_
   refine oL rfl (f0) (by simp only [go_sem,F]; exact iR) (by simp only [go_sem,F]; exact⟨rfl,rfl⟩) ?_
   repeat refine st ?_
   (refine ziT ?_ ?_<;>simp only [go_sem,F,implies_true,and_self,imp_self,false_implies,AV.tuple.injEq,exists_eq_left',ne_eq])
 | false=>
   rw [hc] at f0
   have hf:Fits (o.length+1) 8:=zai (by omega) (by omega)
   simp only [Bool.false_eq_true,if_false,List.map_append]
   refine⟨Tryz.call303,_,_,Tryz.func303,rfl,(by intro _; rw [Tryz.ntmps303]; simp), ?_⟩
   intro vs esc hesc
   rw [Tryz.ntmps303,Tryz.results303]
   have e0:=hesc 1000 (by simp)
   have e1:=hesc 1001 (by simp)
   have F:=ai e0<|ai e1<|hf
   repeat refine st ?_
   refine oL rfl (f0) (by simp only [go_sem,F]; exact iR) (by simp only [go_sem,F]; exact⟨rfl,rfl⟩) ?_
   repeat refine st ?_
   (refine ziT ?_ ?_<;>simp only [go_sem,F,implies_true,and_self,imp_self,false_implies,AV.tuple.injEq,exists_eq_left',ne_eq])
theorem zdy {c:ChD} {a:List Int} (hn:a.Nodup) (hz: ∀x∈a,inZ c x=true):a.length<=c.states.length:=by
 have:=zgn (c:=c) (l:=[]) hn fun k hk=>⟨by simp,hz k hk⟩
 have:=ztR c []
 omega
theorem zpr {c:ChD} {d:Int} {o U:List Int} {m:Nat} {k:Int} (h:U[m]? =some k):upTo c d o U (m+1)=if 0<=k/\aboveB c d k=true then addU (upTo c d o U m) k else upTo c d o U m:=zbJ _ _ h
theorem znT {c:ChD} {d:Int} {l:List Int} {j:Nat} {k:Int} (h:l[j]? =some k):upsTo c d l (j+1)=upTo c d (addU (upsTo c d l j) k) (upL c k) (upL c k).length:=zbJ _ _ h
theorem zpp {c:ChD} (hc:Right c) {d:Int} {l:List Int} (hz: ∀x∈l,inZ c x=true) {j:Nat} (hj:j<=l.length):(upsTo c d l j).Nodup/\(∀x∈upsTo c d l j,inZ c x=true)/\(upsTo c d l j).length<=32:=by
 obtain⟨h1,h2⟩:=ziA (c:=c) (d:=d) (l:=l) j hj
 have h3: ∀x∈upsTo c d l j,inZ c x=true:=fun x hx=>by
  rcases (h2 x).1 hx with h | ⟨i,h,q1,q2,_⟩
  ·exact hz x (List.mem_of_mem_take h)
  ·exact(zcZ hc q1 q2).1
 exact⟨h1,h3,Nat.le_trans (zdy h1 h3) hc.few⟩
theorem zrY {c:ChD} (hc:Right c) {d i:Int} {o:List Int} (hn:o.Nodup) (hz: ∀x∈o,inZ c x=true) {m:Nat} (hm:m<=(upL c i).length):(upTo c d o (upL c i) m).Nodup/\(∀x∈upTo c d o (upL c i) m,inZ c x=true)/\(upTo c d o (upL c i) m).length<=32:=by
 obtain⟨h1,h2⟩:=zlt (c:=c) (d:=d) (U:=upL c i) m hm hn
 have h3: ∀x∈upTo c d o (upL c i) m,inZ c x=true:=fun x hx=>by
  rcases (h2 x).1 hx with h | ⟨h,q2,_⟩
  ·exact hz x h
  ·exact(zcZ hc (List.mem_of_mem_take h) q2).1
 exact⟨h1,h3,Nat.le_trans (zdy h1 h3) hc.few⟩
theorem ztb (env:Env) (c:ChD) (hc:Right c) (l:List Int) (hl:l.length<=1000000) (hz: ∀x∈l,inZ c x=true) (d:Int):Con Tryz.prog env 274 [zaj c, .seq 1 (l.map intAV),I d] (.own 3 1 ((upsL c l d).map intAV)):=by
 have hlen:=hc.few
 have f1:=zaL env c
 unfold zaj zaq at f1
 unfold zaj
 refine zaa Tryz.func274 rfl Tryz.call274 (by rw [Tryz.ntmps274]; simp) ?_
 rw [Tryz.ntmps274,Tryz.results274]
 repeat refine st0 ?_
 refine zaN 7 9000 0 0 ⟨1,[[nilS]],27,false⟩ [nilS] 3 1 (by decide) (by decide) (Nat.succ_ne_zero 0) rfl rfl rfl (by simp only [go_sem]; exact iR) (by simp only [go_sem]; exact iR) ?_
 refine zac (D:=Nat) (fun j vs=>[(0, .ref 9 [tabCells c] 0 0),(2,I d),(7, .loc 7 (vs 7) 0 0),(8, .clo 303 [.loc 7 (vs 7) 0 0]),(14, .seq 1 (l.map intAV)),(15,I l.length),(16,I j)]) (fun j vs=>[(7,⟨1,[[.row 9000 (vs 9000)]],27,false⟩),(9000,⟨1,(upsTo c d l j).map intAV,3,true⟩)]) (fun j _ esc=>j<=l.length/\esc 7=false/\esc 9000=false) (fun j=>l.length-j) 0 ?_ ?_ ?_ ?_
 ·exact⟨Nat.zero_le _,rfl,rfl⟩
 ·(simp only [go_sem])
  try rfl
 ·(simp only [go_sem])
  try rfl
 rintro j ws esc ⟨hj,e0,e1⟩
 by_cases hlt:j<l.length
 ·obtain⟨x,hx⟩: ∃x,l[j]? =some x:=⟨l[j],List.getElem?_eq_getElem hlt⟩
  have q1:=nlt hlt
  have q2:=zab hlt (by omega)
  obtain⟨n1,n2,n3⟩:=zpp hc (d:=d) hz hj
  have hxz:=hz x (List.mem_of_getElem? hx)
  have hn:=znT (c:=c) (d:=d) hx
  have fa:=zjI env (upsTo c d l j) x (by omega) 27
  have f2:=ziE env c hc x
  unfold zaq at f2
  have m1:=zfT n1 x
  have m2: ∀y∈addU (upsTo c d l j) x,inZ c y=true:=fun y hy=>(zjE.1 hy).elim (n2 y) fun e=>by rw [e]; exact hxz
  have hfew:=fun m hm=>zrY hc (d:=d) (i:=x) m1 m2 (m:=m) hm
  have hUl:(upL c x).length<=40:=zeU 40 x
  have hUr: ∀y∈upL c x,y<0\/inZ c y=true:=fun y hy=>by
   rcases Int.lt_or_le y 0 with h | h
   ·exact .inl h
   ·exact .inr (zcZ hc hy h).1
  generalize addU (upsTo c d l j) x=o at*
  generalize upL c x=U at*
  have z0:upTo c d o U 0=o:=rfl
  have F:=ai hx<|ai q1<|ai q2<|ai e0<|e1
  repeat refine st ?_
  refine zaV [(1000,7),(1001,9000)] (zcu rfl (by simp only [go_sem,F]; exact iR)) (fa) (by decide) (by decide) (by simp only [go_sem,F]<;>rfl) (by simp only [go_sem,F,and_self]<;>trivial) (by simp only [go_sem,F,and_self]<;>trivial) (by intro o; simp only [go_sem,F,behind,and_self]<;>trivial) (by intro o; simp only [go_sem,F]<;>rfl) (by simp only [go_sem,F,behind]; exact iR) (by simp only [go_sem,F,behind]; exact iR) ?_
  repeat (first | refine st ?_ | refine cC f1 ?_ | refine cC f2 ?_)
  refine zac (D:=Nat) (fun m vs=>[(0, .ref 9 [tabCells c] 0 0),(2,I d),(7, .loc 7 (vs 7) 0 0),(8, .clo 303 [.loc 7 (vs 7) 0 0]),(14, .seq 1 (l.map intAV)),(15,I l.length),(16,I j),(26, .row 26 (vs 26)),(27,I U.length),(28,I m)]) (fun m vs=>[(7,⟨1,[[.row 9000 (vs 9000)]],27,false⟩),(9000,⟨1,(upTo c d o U m).map intAV,3,true⟩),(26,⟨1,U.map intAV,3,true⟩)]) (fun m _ esc=>m<=U.length/\esc 7=false/\esc 9000=false) (fun m=>U.length-m) 0 ?_ ?_ ?_ ?_
  ·exact⟨Nat.zero_le _,by simp only [go_sem,e0],by simp only [go_sem,e1]⟩
  ·(simp only [go_sem,F])
   try rfl
  ·have F:=z0
   (simp only [go_sem,F])
   try rfl
  try clear e0 e1
  rintro m vs es ⟨hm,e0,e1⟩
  obtain⟨k1,k2,k3⟩:=hfew m hm
  by_cases hml:m<U.length
  ·obtain⟨y,hy⟩: ∃y,U[m]? =some y:=⟨U[m],List.getElem?_eq_getElem hml⟩
   have p1:=nlt hml
   have p2:=zab hml (by omega)
   have hnm:=zpr (c:=c) (d:=d) (o:=o) hy
   have fb:=zjI env (upTo c d o U m) y (by omega) 27
   have f3:=zc3 env c hc d y
   unfold zaq at f3
   rcases hUr y (List.mem_of_getElem? hy) with h0 | hyz
   ·have h1: ¬0<=y:=by omega
    rw [if_neg (fun q=>h1 q.1)] at hnm
    have F:=ai hy<|ai p1<|ai p2<|ai h1<|ai e0<|e1
    repeat (first | refine st ?_ | refine cC f1 ?_ | refine cC f3 ?_)
    refine⟨m+1,⟨hml,by simp only [go_sem,e0],by simp only [go_sem,e1]⟩, ?_, ?_,by omega⟩
    ·(simp only [go_sem,F])
    ·have F:=hnm
     (simp only [go_sem,F])
   ·have h1:=(zak.1 hyz).1
    cases hab:aboveB c d y with
    | false=>
      rw [hab] at f3 hnm
      rw [if_neg (by simp)] at hnm
      have F:=ai hy<|ai p1<|ai p2<|ai h1<|ai e0<|e1
      repeat (first | refine st ?_ | refine cC f1 ?_ | refine cC f3 ?_)
      refine⟨m+1,⟨hml,by simp only [go_sem,e0],by simp only [go_sem,e1]⟩, ?_, ?_,by omega⟩
      ·(simp only [go_sem,F])
      ·have F:=hnm
       (simp only [go_sem,F])
    | true=>
      rw [hab] at f3 hnm
      rw [if_pos ⟨h1,rfl⟩] at hnm
      generalize upTo c d o U m=a at*
      have F:=ai hy<|ai p1<|ai p2<|ai h1<|ai e0<|e1
      repeat (first | refine st ?_ | refine cC f1 ?_ | refine cC f3 ?_)
      refine zaV [(1000,7),(1001,9000)] (zcu rfl (by simp only [go_sem,F]; exact iR)) (fb) (by decide) (by decide) (by simp only [go_sem,F]<;>rfl) (by simp only [go_sem,F,and_self]<;>trivial) (by simp only [go_sem,F,and_self]<;>trivial) (by intro o; simp only [go_sem,F,behind,and_self]<;>trivial) (by intro o; simp only [go_sem,F]<;>rfl) (by simp only [go_sem,F,behind]; exact iR) (by simp only [go_sem,F,behind]; exact iR) ?_
      repeat refine st ?_
      refine⟨m+1,⟨hml,by simp only [go_sem,e0],by simp only [go_sem,e1]⟩, ?_, ?_,by omega⟩
      ·(simp only [go_sem,F])
      ·have F:=hnm
       (simp only [go_sem,F])
  ·obtain rfl:m=U.length:=by omega
   have p1: ¬(U.length:Int)< (U.length:Int):=by omega
   have F:=ai p1<|ai q2<|ai e0<|e1
   repeat refine st ?_
   refine⟨j+1,⟨hlt,by simp only [go_sem,e0],by simp only [go_sem,e1]⟩, ?_, ?_,by omega⟩
   ·(simp only [go_sem,F])
   ·have F:=hn
    (simp only [go_sem,F])
 ·obtain rfl:j=l.length:=by omega
  have q1: ¬(l.length:Int)< (l.length:Int):=by omega
  show awp _ _ _ _ _ _
  have hall:upsTo c d l l.length=upsL c l d:=rfl
  rw [hall]
  have F:=ai q1<|ai e0<|e1
  repeat refine st ?_
  exact aR
end
section
theorem zkB (l:List Int) (x:Int):zdq (l++[x])=zdq l++[[I x,I 1]]:=by unfold zdq; rw [List.map_append]; rfl
def zbX (L K:List Int) (j:Nat):List Int:=(K.take j).filter fun k=> !L.contains k
theorem zo7 {L K:List Int} {j:Nat} {x:Int} (h:K[j]? =some x):zbX L K (j+1)=if L.contains x=true then zbX L K j else zbX L K j++[x]:=by
 unfold zbX
 rw [List.take_add_one,h,List.filter_append]
 cases hb:L.contains x<;>simp only [List.filter_cons,hb,Bool.not_true,Bool.not_false,Bool.false_eq_true,if_true,if_false,List.filter_nil,List.append_nil,Option.toList_some]
theorem zrM {L K:List Int} {j:Nat} {x:Int} :x∈zbX L K j↔x∈K.take j/\x∉L:=by
 unfold zbX
 rw [List.mem_filter]
 simp
theorem zh2 {K:List Int} (hn:K.Nodup) {j:Nat} {x:Int} (h:K[j]? =some x):x∉K.take j:=fun hh=>by
 obtain⟨k,hk,e⟩:=List.mem_take_iff_getElem.1 hh
 obtain⟨hj,e2⟩:=List.getElem?_eq_some_iff.1 h
 have:=(List.getElem_inj hn (h₀:=by omega) (h₁:=hj)).1 (e.trans e2.symm)
 omega
theorem zrE {l:List Int} {k:Int} {i:Nat} (h:l[i]? =some k):(zdq l)[i]? =some [I k,I 1]:=by unfold zdq; rw [List.getElem?_map,h]; rfl
theorem znc (env:Env) (c:ChD) (h:Full c) (hs:Small c) (l:List Int) (hn:l.Nodup) (hz: ∀x∈l,inZ c x=true):Con Tryz.prog env 273 [zaj c, .seq 1 (l.map intAV)] (.seq 1 ((growL c l).map intAV)):=by
 have hc:=h.toRight
 have hlen:=hc.few
 have hl32:l.length<=32:=Nat.le_trans (zdy hn hz) hlen
 have f0:=zax env c hs
 have w1:IntKind.i64.wrap (0+1)=1:=rfl
 have w2: ¬(0:Int)<0:=by omega
 have w3:(0:Int)<1:=by omega
 unfold zaj at f0 |-
 refine zaa Tryz.func273 rfl Tryz.call273 (by rw [Tryz.ntmps273]; simp) ?_
 rw [Tryz.ntmps273,Tryz.results273]
 repeat refine st0 ?_
 refine zrz ?_
 have F:=chAV.eq_1
 repeat (first | refine st ?_ | refine cC f0 ?_)
 refine zac (D:=Nat) (fun j vs=>[(0, .ref 9 [tabCells c] 0 0),(1, .seq 1 (l.map intAV)),(5, .loc 5 (vs 5) 0 0),(6, .mp 18 (vs 18)),(19, .seq 1 (l.map intAV)),(20,I l.length),(21,I j)]) (fun j _=>[(5,⟨5,[chAV c],26,false⟩),(18,⟨0,zdq (l.take j),345,true⟩)]) (fun j _ _=>j<=l.length) (fun j=>l.length-j) 0 ?_ ?_ ?_ ?_
 ·exact Nat.zero_le _
 ·(simp only [go_sem,F])
  try rfl
 ·have F:=chAV.eq_1
  (simp only [go_sem,F])
  try rfl
 ·rintro j ws esc hj
  by_cases hlt:j<l.length
  ·obtain⟨x,hx⟩: ∃x,l[j]? =some x:=⟨l[j],List.getElem?_eq_getElem hlt⟩
   have q1:=nlt hlt
   have q2:=zab hlt (by omega)
   have hm:=zfD x (l.take j) 0
   rw [zff (zh2 hn hx)] at hm
   have ht:zdq (l.take (j+1))=zdq (l.take j)++[[I x,I 1]]:=by rw [List.take_add_one,hx]; exact zkB _ _
   have F:=ai hx<|ai q1<|ai q2<|ai hm<|w1
   repeat refine st ?_
   refine⟨j+1,hlt, ?_, ?_,by omega⟩
   ·(simp only [go_sem,F])
   ·have F:=ht
    (simp only [go_sem,F])
  obtain rfl:j=l.length:=by omega
  have q1: ¬(l.length:Int)< (l.length:Int):=by omega
  rw [List.take_length]
  have F:=q1
  repeat refine st ?_
  refine zrB ?_
  show awp _ _ _ _ _ _
  repeat refine st ?_
  refine zac (D:=List Int×List Int) (fun d vs=>[(0, .ref 9 [tabCells c] 0 0),(1, .seq 1 (d.1.map intAV)),(5, .loc 5 (vs 5) 0 0),(6, .mp 18 (vs 18)),(9, .seq 1 (d.2.map intAV))]) (fun d _=>[(5,⟨5,[chAV c],26,false⟩),(18,⟨0,zdq d.1,345,true⟩)])
   (fun d _ _=>Grown c l d.1 d.2/\d.1.Nodup/\zeu c (missL c d.1+d.2.length) d.1 d.2=growL c l) (fun d=>missL c d.1+d.2.length) (l,l) ?_ ?_ ?_ ?_
  ·exact⟨zhg hn,hn,rfl⟩
  ·(simp only [go_sem,F])
   try rfl
  ·(simp only [go_sem,F])
   try rfl
  try clear hj hlt q1
  rintro⟨L,T⟩ ws esc ⟨hg,hLn,hgr⟩
  simp only at hg hLn hgr
  have hLz: ∀x∈L,inZ c x=true:=fun x hx=>(hg.gr x hx).in h hz
  have hL32:L.length<=32:=Nat.le_trans (zdy hLn hLz) hlen
  have hT32:T.length<=32:=Nat.le_trans (zdy hg.nd fun x hx=>hLz x (hg.todo x hx)) hlen
  cases T with
  | nil=>
    have hL:growL c l=L:=by
     rw [<-hgr]
     cases missL c L+([]:List Int).length<;>rfl
    rw [hL]
    have q1: ¬(0:Int)<0:=by omega
    have F:=q1
    repeat refine st ?_
    exact aR
  | cons i r=>
  have hi:=hg.todo i (by simp)
  obtain⟨k,s,rfl,hsk,hat⟩:=zcL (hLz i hi)
  have hk:=(List.getElem?_eq_some_iff.1 hsk).1
  have q1:(0:Int)< (((k:Int)::r).length:Int):=by simp only [List.length_cons]; omega
  have q2:((k:Nat):Int)< (c.states.length:Int):=by omega
  have q3:(((k:Int)::r).drop 1).take (((k:Int)::r).length-1)=r:=by simp
  have q4:(1:Int)<=(((k:Int)::r).length:Int):=by simp only [List.length_cons]; omega
  have q5:((k:Int)::r)[0]? =some (k:Int):=rfl
  have f1:=zbA env c h k
  rw [if_pos (.inr (hLz _ hi)), <-zcP] at f1
  unfold zaj at f1
  have hKd:zL (kidsL c (k:Int) true)=kidZ c (k:Int):=rfl
  rw [hKd] at f1
  have hpl:=zi3 hsk
  have hini:iniZ c (k:Int)=s.initial:=by unfold iniZ; rw [hat]
  have hstep:=hg.step h
  have hmiss:=zgn (c:=c) (l:=L) (zcv c L k) fun x hx=>⟨(zcM h hx).1,(zcM h hx).2.1⟩
  have hgr':zeu c (missL c L+r.length) (L++addK c L k) (r++addK c L k)=growL c l:=by
   rw [<-hgr,List.length_cons,show missL c L+(r.length+1)=(missL c L+r.length)+1 by omega]
   rfl
  have hmore:zeu c (missL c (L++addK c L k)+(r++addK c L k).length) (L++addK c L k) (r++addK c L k)=growL c l:=by
   rw [<-hgr']
   refine zkC h hstep ?_ ?_
   ·exact Nat.le_refl _
   ·rw [List.length_append]; omega
  have hnext:(L++addK c L k).Nodup:=by
   rw [List.nodup_append]
   exact⟨hLn,zcv c L k,fun x hx y hy e=>(zcM h hy).1 (by rw [<-e]; exact hx)⟩
  have hmu:missL c (L++addK c L k)+(r++addK c L k).length<missL c L+((k:Int)::r).length:=by
   rw [List.length_append,List.length_cons]; omega
  generalize hKK:kidZ c (k:Int)=KK at*
  have hKn:KK.Nodup:=by rw [<-hKK]; exact zh7 c k
  have hK32:KK.length<=32:=by
   rw [<-hKK,kidZ,zcn]; exact zbb hc k true
  have fin: ∀x:Int,x∉L->mfind Tryz.prog 3 (I x) (zdq L) 0=some none:=fun x hx=>by rw [zfD,zff hx]
  have fyes: ∀x:Int,x∈L-> ∃p,mfind Tryz.prog 3 (I x) (zdq L) 0=some (some p)/\(zdq L)[p]? =some [I x,I 1]:=fun x hx=>by
   obtain⟨p,h1,h2⟩:=zha (n:=0) hx
   exact⟨p,by rw [zfD,h1,Nat.zero_add],zrE h2⟩
  generalize hT:(k:Int)::r=T at*
  have F:=ai q1<|ai q2<|ai q3<|ai q4<|ai q5<|ai hsk<|ai chAV.eq_1<|stAV.eq_1
  repeat (first | refine st ?_ | refine cC f1 ?_)
  refine zub (D:=List Int) (fun K vs=>[(0, .ref 9 [tabCells c] 0 0),(1, .seq 1 (L.map intAV)),(5, .loc 5 (vs 5) 0 0),(6, .mp 18 (vs 18)),(9, .seq 1 (r.map intAV)),(11, .seq 1 (K.map intAV))]) (fun _ _=>[(5,⟨5,[chAV c],26,false⟩),(18,⟨0,zdq L,345,true⟩)]) (fun K _ _=>K=newK c L k) ?_ ?_
  ·refine zjx ?_
   by_cases hk1:s.kind=1
   ·have b1:(s.kind==1)=true:=by simp [hk1]
    rw [b1] at hpl
    have F:=b1
    repeat refine st ?_
    refine zac (D:=Nat) (fun j vs=>[(0, .ref 9 [tabCells c] 0 0),(1, .seq 1 (L.map intAV)),(5, .loc 5 (vs 5) 0 0),(6, .mp 18 (vs 18)),(9, .seq 1 (r.map intAV)),(10,I k),(49, .row 41 (vs 41)),(50,I KK.length),(51,I j)]) (fun _ _=>[(5,⟨5,[chAV c],26,false⟩),(18,⟨0,zdq L,345,true⟩),(41,⟨1,KK.map intAV,3,true⟩)]) (fun j _ _=>j<=KK.length/\ ∀m (y:Int),m<j->KK[m]? =some y->y∉L) (fun j=>KK.length-j) 0 ?_ ?_ ?_ ?_
    ·exact⟨Nat.zero_le _,fun m y hm=>absurd hm (by omega)⟩
    ·(simp only [go_sem,F])
     try rfl
    ·have F:=chAV.eq_1
     (simp only [go_sem,F])
     try rfl
    rintro j us es ⟨hj,hno⟩
    by_cases hlt:j<KK.length
    ·obtain⟨x,hx⟩: ∃x,KK[j]? =some x:=⟨KK[j],List.getElem?_eq_getElem hlt⟩
     have p1:=nlt hlt
     have p2:=zab hlt (by omega)
     by_cases hxL:x∈L
     ·obtain⟨p,m1,m2⟩:=fyes x hxL
      have hnk:addK c L k=[]:=by
       unfold addK newK
       rw [if_pos hpl,hKK,if_pos (List.any_eq_true.2 ⟨x,List.mem_of_getElem? hx,List.contains_iff_mem.2 hxL⟩)]
       rfl
      rw [hnk,List.append_nil,List.append_nil] at hmore hmu hstep
      have F:=ai hx<|ai p1<|ai p2<|ai m1<|ai m2<|w3
      repeat refine st ?_
      refine⟨_,Turned.refl _,(L,r),⟨hstep,hLn,hmore⟩, ?_, ?_,hmu⟩
      ·(simp only [go_sem,F])
      ·have F:=chAV.eq_1
       (simp only [go_sem,F])
     ·have m1:=fin x hxL
      have F:=ai hx<|ai p1<|ai p2<|ai m1<|w2
      repeat refine st ?_
      refine⟨j+1,⟨hlt,fun m y hm hy=> ?_⟩, ?_, ?_,by omega⟩
      ·rcases Nat.lt_succ_iff_lt_or_eq.1 hm with e | e
       ·exact hno m y e hy
       ·rw [e,hx] at hy; cases hy; exact hxL
      ·(simp only [go_sem,F])
      ·have F:=chAV.eq_1
       (simp only [go_sem,F])
    ·obtain rfl:j=KK.length:=by omega
     have p1: ¬(KK.length:Int)< (KK.length:Int):=by omega
     have hany:(kidZ c (k:Int)).any (fun k=>L.contains k)=false:=by
      rw [List.any_eq_false]
      intro y hy
      rw [hKK] at hy
      obtain⟨m,hm⟩:=List.mem_iff_getElem?.1 hy
      have:=hno m y (List.getElem?_eq_some_iff.1 hm).1 hm
      simpa using this
     by_cases h0:0<=s.initial
     ·have hnew:newK c L k=[s.initial]:=by
       unfold newK
       rw [if_pos hpl,if_neg (by rw [hany]; simp),hini,if_pos h0]
      have F:=ai p1<|ai h0<|ai q2<|ai hsk<|ai chAV.eq_1<|stAV.eq_1
      repeat refine st ?_
      refine⟨_,Turned.frozen 73 11 ⟨1,[[I s.initial]],3,true⟩ rfl (Nat.succ_ne_zero 0) (by simp only [go_sem]) (by simp only [go_sem]),[s.initial],hnew.symm, ?_, ?_⟩
      ·(simp only [go_sem,F])
      ·have F:=chAV.eq_1
       (simp only [go_sem,F])
     ·have hnew:newK c L k=[]:=by
       unfold newK
       rw [if_pos hpl,if_neg (by rw [hany]; simp),hini,if_neg h0]
      have F:=ai p1<|ai h0<|ai q2<|ai hsk<|ai chAV.eq_1<|stAV.eq_1
      repeat refine st ?_
      refine⟨_,Turned.nil 11 1 (by simp only [go_sem]),[],hnew.symm, ?_, ?_⟩
      ·(simp only [go_sem,F])
      ·have F:=chAV.eq_1
       (simp only [go_sem,F])
   ·have b1:(s.kind==1)=false:=by simpa using hk1
    rw [b1] at hpl
    have hnew:newK c L k=KK:=by
     unfold newK
     rw [if_neg (by rw [hpl]; simp),hKK]
    have F:=b1
    repeat refine st ?_
    refine⟨_,Turned.frozen 41 11 ⟨1,KK.map intAV,3,true⟩ rfl (Nat.succ_ne_zero 0) (by simp only [go_sem]) (by simp only [go_sem]),KK,hnew.symm, ?_, ?_⟩
    ·(simp only [go_sem,F])
    ·have F:=chAV.eq_1
     (simp only [go_sem,F])
  ·intro K us es hK
   have hKn2:K.Nodup:=by rw [hK]; exact zh4 c L k
   have hKz: ∀x∈K,inZ c x=true:=fun x hx=>by
    rw [hK] at hx
    exact(zeL hc (zm1 h hx)).1
   have hK32b:K.length<=32:=Nat.le_trans (zdy hKn2 hKz) hlen
   have hadd:zbX L K K.length=addK c L k:=by unfold zbX addK; rw [List.take_length,hK]
   have hr32:r.length<=32:=by rw [<-hT,List.length_cons] at hT32; omega
   repeat (first | refine oO rfl (by simp only [go_sem,chAV]; exact⟨rfl,rfl⟩) ?_ | refine gR ?_ | refine gO ?_ | refine oZ (zas ?_) | refine oZ ?_ | refine oS ?_ | refine gT ?_ | refine gD Tryz.mixed ?_ | refine oB ?_ | refine oK ?_ | (refine oX ?_; simp only [zal,zah, ↓reduceIte,Nat.reduceEqDiff,reduceCtorEq]) | refine oY (by simp only [go_sem,chAV]; exact iR) ?_ | refine oN (by simp only [go_sem,chAV]; exact iR) ?_)
   refine zac (D:=Nat) (fun j vs=>[(0, .ref 9 [tabCells c] 0 0),(1, .seq 1 ((L++zbX L K j).map intAV)),(5, .loc 5 (vs 5) 0 0),(6, .mp 18 (vs 18)),(9, .seq 1 ((r++zbX L K j).map intAV)),(74, .seq 1 (K.map intAV)),(75,I K.length),(76,I j)]) (fun j _=>[(5,⟨5,[chAV c],26,false⟩),(18,⟨0,zdq (L++zbX L K j),345,true⟩)]) (fun j _ _=>j<=K.length) (fun j=>K.length-j) 0 ?_ ?_ ?_ ?_
   ·exact Nat.zero_le _
   ·have:zbX L K 0=[]:=rfl
    rw [this,List.append_nil,List.append_nil]
    (simp only [go_sem,chAV])
    try rfl
   ·have:zbX L K 0=[]:=rfl
    rw [this,List.append_nil]
    (simp only [go_sem,chAV])
    try rfl
   rintro j us es hj
   by_cases hlt:j<K.length
   ·obtain⟨x,hx⟩: ∃x,K[j]? =some x:=⟨K[j],List.getElem?_eq_getElem hlt⟩
    have p1:=nlt hlt
    have p2:=zab hlt (by omega)
    have hnx:=zo7 (L:=L) hx
    have hal:(zbX L K j).length<=32:=Nat.le_trans (List.length_filter_le ..) (by rw [List.length_take]; omega)
    refine zjx ?_
    by_cases hxL:x∈L
    ·rw [if_pos (List.contains_iff_mem.2 hxL)] at hnx
     obtain⟨p,m1,m2⟩:=zha (n:=0) (show x∈L++zbX L K j from List.mem_append_left _ hxL)
     have m3:=zfD x (L++zbX L K j) 0
     rw [m1,Nat.zero_add] at m3
     have m4:=zrE m2
     have F:=ai hx<|ai p1<|ai p2<|ai m3<|m4
     repeat refine st ?_
     refine⟨_,Turned.refl _,j+1,hlt, ?_, ?_,by omega⟩
     ·have F:=hnx
      (simp only [go_sem,F])
     ·have F:=ai hnx<|chAV.eq_1
      (simp only [go_sem,F])
    ·have hxn:x∉L++zbX L K j:=fun hh=>by
      rcases List.mem_append.1 hh with hh | hh
      ·exact hxL hh
      ·exact zh2 hKn2 hx (zrM.1 hh).1
     rw [if_neg (by simpa using hxL)] at hnx
     have m3:=zfD x (L++zbX L K j) 0
     rw [zff hxn] at m3
     have e1:zdq (L++zbX L K (j+1))=zdq (L++zbX L K j)++[[I x,I 1]]:=by rw [hnx, <-List.append_assoc]; exact zkB _ _
     have e2:L++zbX L K (j+1)=(L++zbX L K j)++[x]:=by rw [hnx,List.append_assoc]
     have e3:r++zbX L K (j+1)=(r++zbX L K j)++[x]:=by rw [hnx,List.append_assoc]
     have hf1:Fits ((L++zbX L K j).length+1) 8:=zai (by rw [List.length_append]; omega) (by omega)
     have hf2:Fits ((r++zbX L K j).length+1) 8:=zai (by rw [List.length_append]; omega) (by omega)
     generalize hA:L++zbX L K j=A at*
     generalize hB:r++zbX L K j=B at*
     have F:=ai hx<|ai p1<|ai p2<|ai m3<|ai w1<|ai hf1<|hf2
     repeat refine st ?_
     refine⟨_,(Turned.frozen 96 1 ⟨1,(A++[x]).map intAV,3,true⟩ rfl (Nat.succ_ne_zero 0) (by simp only [go_sem,List.map_append]) (by simp only [go_sem])).trans (Turned.frozen 105 9 ⟨1,(B++[x]).map intAV,3,true⟩ rfl (Nat.succ_ne_zero 0) (by simp only [go_sem,List.map_append]) (by simp only [go_sem])),j+1,hlt, ?_, ?_,by omega⟩
     ·have F:=ai e2<|e3
      (simp only [go_sem,F])
     ·have F:=ai e1<|chAV.eq_1
      (simp only [go_sem,F])
   ·obtain rfl:j=K.length:=by omega
    have p1: ¬(K.length:Int)< (K.length:Int):=by omega
    rw [hadd]
    have F:=p1
    repeat refine st ?_
    refine⟨(L++addK c L k,r++addK c L k),⟨hstep,hnext,hmore⟩, ?_, ?_,hmu⟩
    ·(simp only [go_sem,F])
    ·have F:=chAV.eq_1
     (simp only [go_sem,F])
end
section
def leadL (c:ChD) (tg:Int) (mem:List MemD):List Int:=match at_ c tg with
 | some s=>if zaD s=true then(match mem.find? (fun m=>m.1==tg) with
   | some m=>m.2
   | none=>[s.initial]) else [tg]
 | none=>[]
theorem zlf {c:ChD} (h:Right c) {i k1 k2 m:Int} (z1:inZ c k1=true) (z2:inZ c k2=true) (p1:parZ c k1=i) (p2:parZ c k2=i) (hm:inZ c m=true) (c1:m=k1\/k1∈upL c m) (c2:m=k2\/k2∈upL c m):k1=k2:=by
 obtain⟨a,_,rfl,_⟩:=zcL z1
 obtain⟨b,_,rfl,_⟩:=zcL z2
 obtain⟨m,_,rfl,_⟩:=zcL hm
 have:=zl5 h (zdY.2 ⟨zaS.1 z1,p1⟩) (zdY.2 ⟨zaS.1 z2,p2⟩) (m+1) m (by omega) (zaS.1 hm) (c1.imp (by omega) id) (c2.imp (by omega) id)
 omega
theorem znD {c:ChD} (h:Right c) {d:Int} : ∀(n:Nat) (t:Int),t<n->aboveB c d t=true-> ∃k,(k=t\/(k∈upL c t/\aboveB c d k=true))/\inZ c k=true/\parZ c k=d
 | 0,t,hn,ha=>by
   cases hh:inZ c t with
   | true=>have:=zak.1 hh; omega
   | false=>unfold aboveB at ha; rw [zbM hh] at ha; simp at ha
 | n+1,t,hn,ha=>by
   have hz:inZ c t=true:=by
    cases hh:inZ c t with
    | true=>rfl
    | false=>unfold aboveB at ha; rw [zbM hh] at ha; simp at ha
   rcases (zbD h hz).1 ha with e | e
   ·exact⟨t, .inl rfl,hz,e⟩
   ·have hp:=zbZ h hz
    obtain⟨k,hk,k1,k2⟩:=znD h n (parZ c t) (by omega) e
    refine⟨k, .inr ?_,k1,k2⟩
    rcases hk with rfl | ⟨hk,hd⟩
    ·exact⟨(zbN h hz).2 (.inl rfl),e⟩
    ·exact⟨(zbN h hz).2 (.inr hk),hd⟩
theorem zaT {c:ChD} {d x:Int} (h:aboveB c d x=true):inZ c x=true:=by
 cases hh:inZ c x with
 | true=>rfl
 | false=>unfold aboveB at h; rw [zbM hh] at h; simp at h
theorem zmE {c:ChD} (h:Right c) {a b d:Int} (h1:aboveB c a b=true) (h2:aboveB c b d=true):aboveB c a d=true:=by
 have hz:=zak.1 (zaT h2)
 unfold aboveB at*
 rw [List.contains_iff_mem] at*
 exact zec h (c.states.length) d b a hz.2 h2 h1
theorem zll {c:ChD} (h:Right c) {a b:Int} : ∀(n:Nat) (t:Int),t<n->a∈upL c t->b∈upL c t->a=b\/a∈upL c b\/b∈upL c a
 | 0,t,hn,ha,_=>by
   cases hh:inZ c t with
   | true=>have:=zak.1 hh; omega
   | false=>rw [zbM hh] at ha; simp at ha
 | n+1,t,hn,ha,hb=>by
   have hz:inZ c t=true:=by
    cases hh:inZ c t with
    | true=>rfl
    | false=>rw [zbM hh] at ha; simp at ha
   have hp:=zbZ h hz
   rw [zbN h hz] at ha hb
   rcases ha with rfl | ha
   ·rcases hb with rfl | hb
    ·exact .inl rfl
    ·exact .inr (.inr hb)
   ·rcases hb with rfl | hb
    ·exact .inr (.inl ha)
    ·exact zll h n _ (by omega) ha hb
theorem zuB {c:ChD} (h:Full c) {src tg:Int} (hs:inZ c src=true) (ht:inZ c tg=true):aboveB c (domE c src tg) tg=true/\domE c src tg∈upL c src/\(domE c src tg= -1\/(0<=domE c src tg/\zbu c (domE c src tg)=true)):=by
 have hr:=h.toRight
 have root: ∀ {x},inZ c x=true-> -1∈upL c x:=fun {x} hx=>ziB hr (c.states.length) x hx (zak.1 hx).2
 unfold domE
 cases hf:(upL c src).find? (domP c tg) with
 | none=>
   rw [List.find?_eq_none] at hf
   exact absurd rfl (hf _ (root hs))
 | some d=>
   have h1:=List.find?_some hf
   have h2:=List.mem_of_find?_eq_some hf
   have h3:=(zfs hr 40 _ _ h2).1
   simp only [Option.getD_some]
   unfold domP at h1
   rw [Bool.or_eq_true,decide_eq_true_eq,Bool.and_eq_true] at h1
   rcases h1 with h1 | h1
   ·have:d= -1:=by omega
    subst this
    exact⟨by unfold aboveB; rw [List.contains_iff_mem]; exact root ht,h2, .inl rfl⟩
   ·refine⟨h1.2,h2, ?_⟩
    rcases Int.lt_or_le d 0 with q | q
    ·exact .inl (by omega)
    ·exact .inr ⟨q,h1.1⟩
structure Uni (c:ChD) (d:Int) (P:List Int):Prop where
 real: ∀k∈P,∃s,at_ c k=some s/\zaD s=false
 bel: ∀k∈P,aboveB c d k=true
 up: ∀k∈P,parZ c k=d\/parZ c k∈P
 one: ∀x,zbu c x=true\/x= -1-> ∀k1∈P,∀k2∈P,parZ c k1=x->parZ c k2=x->k1=k2
 has: ∃k∈P,parZ c k=d
theorem zkg {c:ChD} {x:Int} (h:zaA c x=true): ∃s,at_ c x=some s/\zaD s=false:=by
 obtain⟨s,hs,hk⟩:=zda h
 refine⟨s,hs, ?_⟩
 unfold zaD
 rcases hk with e | e<;>simp [e]
theorem zpo {c:ChD} (h:Full c) {d:Int} {l:List Int} (hl: ∀x∈l,aboveB c d x=true/\ ∃s,at_ c x=some s/\zaD s=false) (hne:l≠[]) (_hd: -1<=d)
 (hone: ∀x,zbu c x=true\/x= -1-> ∀k1∈upsL c l d,∀k2∈upsL c l d,parZ c k1=x->parZ c k2=x->k1=k2):Uni c d (upsL c l d):=by
 have hr:=h.toRight
 have hm:=(zeT (c:=c) (d:=d) (l:=l)).2
 have hbel: ∀k∈upsL c l d,aboveB c d k=true:=fun k hk=>by
  rcases (hm k).1 hk with hk | ⟨_,_,_,_,hk⟩
  ·exact(hl k hk).1
  ·exact hk
 refine⟨fun k hk=> ?_,hbel,fun k hk=> ?_,hone, ?_⟩
 ·rcases (hm k).1 hk with hk | ⟨i,hi,h1,h2,_⟩
  ·exact(hl k hk).2
  ·exact zkg (ziC h (c.states.length) i k (zak.1 (zaT (hl i hi).1)).2 h1 h2)
 ·have hz:=zaT (hbel k hk)
  rcases (zbD hr hz).1 (hbel k hk) with e | e
  ·exact .inl e
  ·refine .inr ((hm _).2 (.inr ?_))
   have h0:0<=parZ c k:=(zak.1 (zaT e)).1
   rcases (hm k).1 hk with hk | ⟨i,hi,h1,h2,_⟩
   ·exact⟨k,hk,(zbN hr hz).2 (.inl rfl),h0,e⟩
   ·exact⟨i,hi,zec hr (c.states.length) i k _ (zak.1 (zaT (hl i hi).1)).2 h1 ((zbN hr hz).2 (.inl rfl)),h0,e⟩
 ·obtain⟨t,ht⟩:=List.exists_mem_of_ne_nil l hne
  obtain⟨k,hk,k1,k2⟩:=znD hr (c.states.length) t (zak.1 (zaT (hl t ht).1)).2 (hl t ht).1
  refine⟨k,(hm k).2 ?_,k2⟩
  rcases hk with rfl | ⟨hk,e⟩
  ·exact .inl ht
  ·exact .inr ⟨t,ht,hk,(zak.1 k1).1,e⟩
theorem zps {c:ChD} (h:Full c) {d t:Int} (ha:aboveB c d t=true) (hd: -1<=d) (hr: ∃s,at_ c t=some s/\zaD s=false):Uni c d (upsL c [t] d):=by
 have hm:=(zeT (c:=c) (d:=d) (l:=[t])).2
 have hc: ∀k∈upsL c [t] d,inZ c k=true/\(t=k\/k∈upL c t):=fun k hk=>by
  rcases (hm k).1 hk with hk | ⟨i,hi,h1,h2,_⟩
  ·rw [List.mem_singleton.1 hk]; exact⟨zaT ha, .inl rfl⟩
  ·rw [List.mem_singleton.1 hi] at h1; exact⟨(zcZ h.toRight h1 h2).1, .inr h1⟩
 refine zpo h (fun x hx=>by rw [List.mem_singleton.1 hx]; exact⟨ha,hr⟩) (by simp) hd fun x _ k1 h1 k2 h2 e1 e2=> ?_
 exact zlf h.toRight (hc k1 h1).1 (hc k2 h2).1 e1 e2 (zaT ha) (hc k1 h1).2 (hc k2 h2).2
theorem zl1 {act:List Int} {ks:List Nat} (h:manyI act ks<=1) {a b:Int} (ha:a∈zL ks) (hb:b∈zL ks) (h1:a∈act) (h2:b∈act):a=b:=by
 rw [<-zl3] at h
 have m1:a∈(zL ks).filter fun k=>act.contains k:=List.mem_filter.2 ⟨ha,by simpa using h1⟩
 have m2:b∈(zL ks).filter fun k=>act.contains k:=List.mem_filter.2 ⟨hb,by simpa using h2⟩
 generalize (zL ks).filter (fun k=>act.contains k)=q at*
 match q,h with
 | [],_=>simp at m1
 | [x],_=>rw [List.mem_singleton.1 m1,List.mem_singleton.1 m2]
theorem zrZ {c:ChD} (h:Full c) {d p:Int} (hp:zaA c p=true) {l:List Int} (hb:zoR c p l=true) (hd: -1<=d) (hdp:d=p\/aboveB c d p=true):Uni c d (upsL c l d):=by
 have hr:=h.toRight
 unfold zoR at hb
 rw [Bool.and_eq_true,Bool.and_eq_true,List.all_eq_true,List.all_eq_true] at hb
 obtain⟨⟨b1,b2⟩,b3⟩:=hb
 have hlp: ∀x∈l,aboveB c p x=true/\ ∃s,at_ c x=some s/\zaD s=false:=fun x hx=>by
  have:=b2 x hx
  unfold zbO at this
  rw [Bool.and_eq_true,Bool.and_eq_true] at this
  refine⟨this.1.1, ?_⟩
  have:=this.1.2
  split at this
  ·rename_i s hs; exact⟨s,hs,by simpa using this⟩
  ·cases this
 have hdx: ∀x,aboveB c p x=true->aboveB c d x=true:=fun x hx=>by
  rcases hdp with rfl | e
  ·exact hx
  ·exact zmE hr e hx
 have hm:=(zeT (c:=c) (d:=d) (l:=l)).2
 have hz: ∀k∈upsL c l d,inZ c k=true:=fun k hk=>by
  rcases (hm k).1 hk with hk | ⟨_,_,_,_,hk⟩
  ·exact zaT (hlp k hk).1
  ·exact zaT hk
 have hpz:inZ c p=true:=by
  obtain⟨s,hs,_⟩:=zda hp
  unfold at_ at hs
  split at hs
  ·rename_i h0
   have:=(List.getElem?_eq_some_iff.1 hs).1
   exact zak.2 ⟨h0,by omega⟩
  ·cases hs
 obtain⟨t,ht⟩:=List.exists_mem_of_ne_nil l (zpR b1)
 refine zpo h (fun x hx=>⟨hdx x (hlp x hx).1,(hlp x hx).2⟩) (zpR b1) hd fun x hx k1 h1 k2 h2 e1 e2=> ?_
 have tri: ∀k∈upsL c l d,aboveB c p k=true\/p=k\/k∈upL c p:=fun k hk=>by
  rcases (hm k).1 hk with hk | ⟨i,hi,q1,q2,_⟩
  ·exact .inl (hlp k hk).1
  ·have hip:p∈upL c i:=List.contains_iff_mem.1 (hlp i hi).1
   rcases zll hr (c.states.length) i (zak.1 (zaT (hlp i hi).1)).2 hip q1 with e | e | e
   ·exact .inr (.inl e)
   ·exact .inl (List.contains_iff_mem.2 e)
   ·exact .inr (.inr e)
 have low: ∀k,k∈upsL c l d->aboveB c p k=true->k∈deepRA c p l:=fun k hk ha=>by
  unfold deepRA
  rw [List.mem_append,zmY hr fun x hx=>zaT (hlp x hx).1,zeT.2]
  rcases (hm k).1 hk with hk | ⟨i,hi,q1,q2,_⟩
  ·exact .inl (.inl hk)
  ·exact .inl (.inr ⟨i,hi,q1,q2,ha⟩)
 have hreal: ∀k∈upsL c l d,k∈kidZ c (parZ c k):=fun k hk=>by
  obtain⟨j,s,rfl,hs,ha⟩:=zcL (hz k hk)
  refine List.mem_map.2 ⟨j,zuw hs (zc1 hs).symm ?_,rfl⟩
  rcases (hm _).1 hk with hk | ⟨i,hi,q1,q2,_⟩
  ·obtain⟨s',e,e2⟩:=(hlp _ hk).2
   rw [ha] at e; cases e; exact e2
  ·obtain⟨s',e,e2⟩:=zkg (ziC h (c.states.length) i _ (zak.1 (zaT (hlp i hi).1)).2 q1 q2)
   rw [ha] at e; cases e; exact e2
 have both: ∀ka kb,ka∈upsL c l d->kb∈upsL c l d->parZ c ka=x->parZ c kb=x->aboveB c p ka=true->ka=kb:=fun ka kb ha hb ea eb hap=>by
  have hkb:aboveB c p kb=true:=by
   have:=(zbD hr (hz ka ha)).1 hap
   rw [ea, <-eb] at this
   exact(zbD hr (hz kb hb)).2 this
  have hxd:x∈deepRA c p l:=by
   rcases (zbD hr (hz ka ha)).1 hap with e | e
   ·unfold deepRA
    rw [<-ea,e]
    simp
   ·have hx0:0<=parZ c ka:=(zak.1 (zaT e)).1
    rw [ea] at e hx0
    refine low x ((hm x).2 (.inr ?_)) e
    have hup:x∈upL c ka:=(zbN hr (hz ka ha)).2 (.inl ea.symm)
    rcases (hm ka).1 ha with q | ⟨i,hi,q1,q2,_⟩
    ·exact⟨ka,q,hup,hx0,hdx x e⟩
    ·exact⟨i,hi,zec hr (c.states.length) i ka x (zak.1 (zaT (hlp i hi).1)).2 q1 hup,hx0,hdx x e⟩
  have hc:=b3 x hxd
  unfold zbQ at hc
  cases hs:at_ c x with
  | none=>rw [hs] at hc; cases hc
  | some s=>
    have hpl:zbu c x=true:=hx.resolve_right fun e=>by rw [e] at hs; simp [at_] at hs
    rw [zc8 hs] at hpl
    rw [hs] at hc
    have hk1:s.kind=1:=by simpa using hpl
    simp only [hk1] at hc
    have hle:manyI (deepRA c p l) (kidsL c x true)<=1:=by
     simp at hc
     omega
    have r1:=hreal ka ha
    have r2:=hreal kb hb
    rw [ea] at r1
    rw [eb] at r2
    exact zl1 hle r1 r2 (low ka ha hap) (low kb hb hkb)
 rcases tri k1 h1 with a | a
 ·exact both k1 k2 h1 h2 e1 e2 a
 ·rcases tri k2 h2 with b | b
  ·exact(both k2 k1 h2 h1 e2 e1 b).symm
  ·exact zlf hr (hz k1 h1) (hz k2 h2) e1 e2 hpz a b
theorem zss {c:ChD} (h:Full c) {d tg:Int} (hz:inZ c tg=true) {mem:List MemD} (hm:zeI c mem=true) (ha:aboveB c d tg=true) (hd: -1<=d):Uni c d (upsL c (leadL c tg mem) d):=by
 have hr:=h.toRight
 obtain⟨k,s,rfl,hs,hat⟩:=zcL hz
 unfold leadL
 rw [hat]
 simp only
 by_cases hmy:zaD s=true
 ·rw [if_pos hmy]
  obtain⟨q1,q2,q3,q4,q5⟩:=zt0 h hs hmy
  have hdp:d=s.parent\/aboveB c d s.parent=true:=by
   have:=(zbD hr hz).1 ha
   rw [zc1 hs] at this
   exact this.imp Eq.symm id
  have kidcase: ∀t∈kidZ c s.parent,Uni c d (upsL c [t] d):=fun t ht=>by
   obtain⟨t1,t2,_⟩:=zeL hr ht
   refine zps h ((zbD hr t1).2 (by rw [t2]; exact hdp.imp Eq.symm id)) hd ?_
   obtain⟨j,hj,rfl⟩:=List.mem_map.1 ht
   obtain⟨s',e1,_,e2,_⟩:=zti hj
   exact⟨s',by rw [zbV]; exact e1,e2⟩
  cases hf:mem.find? (fun m=>m.1==(k:Int)) with
  | none=>
    refine kidcase _ ?_
    rcases h.cases hs with⟨e,_⟩ | ⟨e,_⟩ | ⟨e,_⟩ | ⟨_,_,_,e⟩
    ·omega
    ·omega
    ·omega
    ·obtain⟨j,hj,e⟩:=zjf.1 e
     exact List.mem_map.2 ⟨j,hj,e⟩
  | some m=>
    have e1:=List.find?_some hf
    have e2:=(zlY hm).2 m (List.mem_of_find?_eq_some hf)
    simp only [beq_iff_eq] at e1
    unfold memB at e2
    rw [e1,hat] at e2
    simp only at e2 |-
    split at e2
    ·rw [Bool.and_eq_true,decide_eq_true_eq] at e2
     obtain⟨t,ht⟩:=List.length_eq_one_iff.1 e2.1
     rw [ht] at e2 |-
     exact kidcase t (by simpa using e2.2)
    ·rw [Bool.and_eq_true,zk9 h q2] at e2
     exact zrZ h q2 e2.2 hd hdp
 ·rw [if_neg hmy]
  exact zps h ha hd ⟨s,hat,by simpa using hmy⟩
end

end Go.Proofs.YtnbjaghjdeicmaaGreatDoor