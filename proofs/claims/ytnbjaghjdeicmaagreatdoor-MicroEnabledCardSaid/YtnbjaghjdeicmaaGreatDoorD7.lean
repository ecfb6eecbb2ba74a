/- What expressions come to: on a stack, and as trees: the same. No program is named here. -/
import Derived.Test.YtnbjaghjdeicmaaGreatDoorD6
set_option maxRecDepth 100000
set_option maxHeartbeats 1000000
set_option linter.unusedSimpArgs false
namespace Go.Proofs.YtnbjaghjdeicmaaGreatDoor
section
open Go.RowKit
/-! Expressions -/
def zae (k:Int):Int:=if 1<=k/\k<=4 then 0 else if k=5\/k=6 then 1 else if 7<=k/\k<=19 then 2 else -1
theorem zdV (k:Int): -1<=zae k/\zae k<=2:=by
 unfold zae
 repeat' split
 all_goals omega
def numB (o:OpD) (vs ss:Int):Bool:=if o.kind=1 then decide (0<=o.n/\o.n<=2147483647) else if o.kind=2 then decide (0<=o.n/\o.n<vs) else if o.kind=4 then decide (0<=o.n/\o.n<ss) else decide (o.n=0)
def zbt (vs ss n:Int) (o:OpD):Bool:=decide (0<=zae o.kind)&&decide (zae o.kind<=n)&&numB o vs ss
def hgt (vs ss:Int):List OpD->Int->Option Int
 | [],n=>some n
 | o::l,n=>if zbt vs ss n o then hgt vs ss l (n-zae o.kind+1) else none
def zev (l:List OpD) (vs ss:Int):Int:=if 32<l.length then 8 else if hgt vs ss l 0=some 1 then 0 else 1
def zaH (l:List OpD) (vs ss:Int):Bool:=zev l vs ss==0
theorem zjh {vs ss:Int} {l:List OpD} {k:Nat} {o:OpD} {n:Int} (h:l[k]? =some o) (hn:hgt vs ss l 0=hgt vs ss (l.drop k) n):(zbt vs ss n o=true->hgt vs ss l 0=hgt vs ss (l.drop (k+1)) (n-zae o.kind+1))/\(zbt vs ss n o=false->hgt vs ss l 0=none):=by
 have hk:k<l.length:=(List.getElem?_eq_some_iff.1 h).1
 have he:l.drop k=o::l.drop (k+1):=by
  rw [List.drop_eq_getElem_cons hk]
  congr 1
  rw [List.getElem?_eq_getElem hk] at h
  exact Option.some.inj h
 rw [he] at hn
 simp only [hgt] at hn
 exact⟨fun e=>by rw [hn,if_pos e],fun e=>by rw [hn,if_neg (by rw [e]; simp)]⟩
theorem zma {vs ss:Int} {l:List OpD} {k:Nat} {n:Int} (h:l.length<=k) (hn:hgt vs ss l 0=hgt vs ss (l.drop k) n):hgt vs ss l 0=some n:=by
 rw [hn,List.drop_eq_nil_of_le h]
 rfl
/-! Actions, states -/
def actB (nv ns:Int) (a:ActD):Bool:=
 if a.kind=1 then decide (0<=a.n/\a.n<nv)&&(a.name == [])&&zaH a.code nv ns
 else if a.kind=2\/a.kind=4 then(a.n==0)&&zaJ a.name&&zaH a.code nv ns
 else if a.kind=3 then(a.n==0)&&(a.name == [])&&zaH a.code nv ns
 else if a.kind=5 then(a.n==0)&&zaJ a.name&&(a.code == [])
 else false
def zbY (nv ns:Int) (l:List ActD):Bool:=decide (l.length<=32)&&l.all (actB nv ns)
def zcc (s:StD):Bool:=(s.kind==1)||(s.kind==2)
def zaD (s:StD):Bool:=(s.kind==4)||(s.kind==5)
def zb6 (c:ChD) (i:Int) (real:Bool) (k:Nat):Bool:=match c.states[k]? with
 | some s=>(s.parent==i)&&(!real|| !zaD s)
 | none=>false
def za4 (c:ChD) (i:Int) (real:Bool) (n:Nat):List Nat:=(List.range n).filter (zb6 c i real)
def kidsL (c:ChD) (i:Int) (real:Bool):List Nat:=za4 c i real c.states.length
theorem zg6 (c:ChD) (i:Int) (real:Bool) (k:Nat):za4 c i real (k+1)=za4 c i real k++if zb6 c i real k then [k] else []:=by
 unfold za4
 rw [List.range_succ,List.filter_append]
 congr 1
 simp only [List.filter_cons,List.filter_nil]
theorem za9 (c:ChD) (i:Int) (real:Bool) (k:Nat):(za4 c i real k).length<=k:=by
 have:=List.length_filter_le (zb6 c i real) (List.range k)
 simpa [za4] using this
theorem zfd {c:ChD} {i:Int} {real:Bool} {k n:Nat} (h:k∈za4 c i real n):k<n/\zb6 c i real k=true:=by
 simpa [za4,List.mem_filter] using h
def zcF (c:ChD) (name:List UInt8):Nat->Int
 | 0=> -1
 | k+1=>if zcF c name k= -1 then(match c.states[k]? with
   | some s=>if s.name=name then(k:Int) else -1
   | none=> -1) else zcF c name k
def zhP (c:ChD) (name:List UInt8):Int:=zcF c name c.states.length
theorem zmf (c:ChD) (name:List UInt8) {k:Nat} (h:zcF c name k≠ -1): ∀n,k<=n->zcF c name n=zcF c name k:=by
 intro n hn
 induction n with
 | zero=>obtain rfl:k=0:=by omega
         rfl
 | succ n ih=>
   by_cases e:k=n+1
   ·rw [e]
   ·have:=ih (by omega)
    simp only [zcF]
    rw [this,if_neg h]
theorem zkL (c:ChD) (name:List UInt8) {k:Nat} (hk:k<c.states.length) (hn:zcF c name k= -1) (s:StD) (hs:c.states[k]? =some s) (he:s.name=name):zhP c name=k:=by
 have h1:zcF c name (k+1)=k:=by
  simp only [zcF,if_pos hn,hs,if_pos he]
 unfold zhP
 rw [zmf c name (k:=k+1) (by rw [h1]; omega) _ hk,h1]
theorem zhm (c:ChD) (name:List UInt8) {k:Nat} (hn:zcF c name k= -1) (s:StD) (hs:c.states[k]? =some s) (he:s.name≠name):zcF c name (k+1)= -1:=by
 simp only [zcF,if_pos hn,hs,if_neg he]
def zaG (p:Nat->Bool) (n:Nat):Option Nat:=(List.range n).find? fun k=> !p k
theorem zaF {p:Nat->Bool} {n:Nat} (h: ∀j,j<n->p j=true):zaG p n=none:=by
 unfold zaG
 rw [List.find?_eq_none]
 intro x hx
 simp [h x (by simpa using hx)]
theorem zbC {p:Nat->Bool} {n k:Nat} (hk:k<n) (h: ∀j,j<k->p j=true) (hb:p k=false):zaG p n=some k:=by
 unfold zaG
 have e:List.range n=List.range k++(k::(List.range (n-k-1)).map (k+1+ ·)):=by
  have:n=k+(n-k):=by omega
  rw [this,List.range_add]
  congr 1
  have e2:k+(n-k)-k-1+1=n-k:=by omega
  have:n-k=(n-k-1)+1:=by omega
  rw [show k+(n-k)-k-1=n-k-1 by omega,this,List.range_succ_eq_map,List.map_cons,List.map_map]
  simp only [Nat.add_zero,Nat.add_sub_cancel,List.cons.injEq,true_and]
  apply List.map_congr_left
  intro a _
  simp only [Function.comp]
  omega
 rw [e,List.find?_append]
 have h1:(List.range k).find? (fun k=> !p k)=none:=zaF h
 rw [h1]
 simp [hb]
/-! What is right -/
def at_ (c:ChD) (i:Int):Option StD:=if 0<=i then c.states[i.toNat]? else none
def zaA (c:ChD) (i:Int):Bool:=match at_ c i with
 | some q=>zcc q
 | none=>false
def zaR (c:ChD) (i:Nat) (s:StD):Bool:=(s.parent == -1)||(decide (0<=s.parent)&&decide (s.parent<i)&&zaA c s.parent)
def zaQ (c:ChD) (s:StD):Bool:=match at_ c s.parent with
 | some q=>q.kind==1
 | none=>false
def inL (l:List Nat) (n:Int):Bool:=l.any fun k=>(k:Int)==n
def zav (c:ChD) (i:Nat) (s:StD):Bool:=
 if s.kind=1 then(if kidsL c i true=[] then s.initial == -1 else inL (kidsL c i true) s.initial)
 else if s.kind=2 then((kidsL c i true).all fun k=>zaA c k)&&decide (0< (kidsL c i true).length)&&(s.initial == -1)
 else if s.kind=3 then(kidsL c i false == [])&&((s.parent == -1)||zaQ c s)&&(s.initial == -1)&&(s.out == [])
 else if s.kind=4\/s.kind=5 then(kidsL c i false == [])&&zaQ c s&&inL (kidsL c s.parent true) s.initial&&(s.inn == [])&&(s.out == [])
 else false
def zay (c:ChD) (i:Nat) (s:StD):Bool:=zaJ s.name&&(zhP c s.name==(i:Int))&&zaR c i s&&zav c i s&&zbY c.vars.length c.states.length s.inn&&zbY c.vars.length c.states.length s.out
def zgh (c:ChD) (i:Nat):Bool:=match c.states[i]? with
 | some s=>zay c i s
 | none=>false
def newVar (c:ChD) (name:List UInt8) (i:Nat):Bool:=(c.vars.take i).all fun x=> !(x.name==name)
def varB (c:ChD) (i:Nat) (v:VarD):Bool:=newVar c v.name i&&zaJ v.name&& !(v.name == [100,97,116,97])&& !(v.name == [105,110])&&decide (-2147483647<=v.start)&&decide (v.start<=2147483647)
def zfo (c:ChD) (i:Nat):Bool:=match c.vars[i]? with
 | some v=>varB c i v
 | none=>false
def zcx (c:ChD) (t:TrD):Bool:=zaA c t.src&&((t.event == [])||zaJ t.event)&&((t.guard == [])||zaH t.guard c.vars.length c.states.length)&&zbY c.vars.length c.states.length t.acts&&((t.target == -1)||(decide (0<=t.target)&&decide (t.target<c.states.length)))
def zju (c:ChD) (i:Nat):Bool:=match c.trans[i]? with
 | some t=>zcx c t
 | none=>false
def topB (c:ChD):Bool:=match at_ c c.initial with
 | some q=>(q.parent == -1)&&zcc q
 | none=>false
def chk (c:ChD):Int×Int:=
 if 32<c.states.length\/64<c.trans.length\/8<c.vars.length then(8, -1)
 else if c.states=[]\/zaJ c.name=false then(1, -1)
 else match zaG (zfo c) c.vars.length with
  | some i=>(1,2000+i)
  | none=>match zaG (zgh c) c.states.length with
    | some i=>(1,i)
    | none=>if topB c=false then(1, -1) else match zaG (zju c) c.trans.length with
      | some i=>(1,1000+i)
      | none=>(0, -1)
end
section
open Go.RowKit
theorem zb1 (env:Env) (l:List UInt8) (hl:l.length<=9223372036854775807):Con Tryz.prog env 178 [Sg l] (B (zaJ l)):=
 zmp Tryz.call178 fun w S vs hE hlen hv=>by
  match vs,hlen with
  | [v],_=>
    obtain rfl:=(hv 0 v _ rfl rfl).lit_inv
    refine(zsm l hl w).mono ?_
    rintro e w' ⟨rfl,rfl⟩
    exact⟨rfl,Below.refl _ _⟩
def zau (n:Int):Bool:=decide (-2147483647<=n)&&decide (n<=2147483647)
theorem za2 (env:Env) (n:Int):Con Tryz.prog env 92 [I n] (B (zau n)):=by
 unfold zau
 refine zaa Tryz.func92 rfl Tryz.call92 (by rw [Tryz.ntmps92]; simp) ?_
 rw [Tryz.ntmps92,Tryz.results92]
 by_cases h1: -2147483647<=n<;>by_cases h2:n<=2147483647<;>
 ·have F:=ai h1<|h2
  repeat refine st ?_
  exact aR
theorem zbS (env:Env) (n:Int):Con Tryz.prog env 61 [I n] (B (zau n)):=by
 unfold zau
 refine zaa Tryz.func61 rfl Tryz.call61 (by rw [Tryz.ntmps61]; simp) ?_
 rw [Tryz.ntmps61,Tryz.results61]
 by_cases h1: -2147483647<=n<;>by_cases h2:n<=2147483647<;>
 ·have F:=ai h1<|h2
  repeat refine st ?_
  exact aR
/-! Expressions' kinds -/
theorem zez {p:Int->Int->Prop} (h1: ∀k:Int,1<=k->k<=4-> ¬k<1-> ¬19<k-> ¬4<k->p k 0) (h5:p 5 1) (h6:p 6 1)
 (h7: ∀k:Int,1<=k-> ¬k<=4->(k==5)=false->(k==6)=false->7<=k->k<=19-> ¬k<1-> ¬19<k-> ¬k<=6->p k 2)
 (h8: ∀k:Int,¬1<=k->(k==5)=false->(k==6)=false-> ¬7<=k->k<1->p k (-1))
 (h9: ∀k:Int,1<=k-> ¬k<=4->(k==5)=false->(k==6)=false->7<=k-> ¬k<=19-> ¬k<1->19<k->p k (-1)) (k:Int):p k (zae k):=by
 have ne: ∀a b:Int,a≠b->(a==b)=false:=fun a b h=>by simpa using h
 by_cases a:1<=k
 ·by_cases b:k<=4
  ·rw [show zae k=0 by unfold zae; rw [if_pos ⟨a,b⟩]]
   exact h1 k a b (by omega) (by omega) (by omega)
  ·by_cases c:k=5
   ·subst c; exact h5
   ·by_cases d:k=6
    ·subst d; exact h6
    ·by_cases e:k<=19
     ·rw [show zae k=2 by unfold zae; rw [if_neg (by omega),if_neg (by omega),if_pos (by omega)]]
      exact h7 k a b (ne _ _ c) (ne _ _ d) (by omega) e (by omega) (by omega) (by omega)
     ·rw [show zae k= -1 by unfold zae; rw [if_neg (by omega),if_neg (by omega),if_neg (by omega)]]
      exact h9 k a b (ne _ _ c) (ne _ _ d) (by omega) e (by omega) (by omega)
 ·rw [show zae k= -1 by unfold zae; rw [if_neg (by omega),if_neg (by omega),if_neg (by omega)]]
  exact h8 k a (ne _ _ (by omega)) (ne _ _ (by omega)) (by omega) (by omega)
theorem zcr (env:Env) (k:Int):Con Tryz.prog env 321 [I k] (I (zae k)):=by
 refine zez (p:=fun k r=>Con Tryz.prog env 321 [I k] (I r)) ?_ ?_ ?_ ?_ ?_ ?_ k
 ·intro k a1 a2 a3 a4 a5
  refine zaa Tryz.func321 rfl Tryz.call321 (by rw [Tryz.ntmps321]; simp) ?_
  rw [Tryz.ntmps321,Tryz.results321]
  have F:=ai a1<|ai a2<|ai a3<|ai a4<|a5
  repeat refine st ?_
  exact aR
 ·refine zaa Tryz.func321 rfl Tryz.call321 (by rw [Tryz.ntmps321]; simp) ?_
  rw [Tryz.ntmps321,Tryz.results321]
  repeat refine st0 ?_
  exact aR0
 ·refine zaa Tryz.func321 rfl Tryz.call321 (by rw [Tryz.ntmps321]; simp) ?_
  rw [Tryz.ntmps321,Tryz.results321]
  repeat refine st0 ?_
  exact aR0
 ·intro k a1 a2 a3 a4 a5 a6 a7 a8 a9
  refine zaa Tryz.func321 rfl Tryz.call321 (by rw [Tryz.ntmps321]; simp) ?_
  rw [Tryz.ntmps321,Tryz.results321]
  have F:=ai a1<|ai a2<|ai a3<|ai a4<|ai a5<|ai a6<|ai a7<|ai a8<|a9
  repeat refine st ?_
  exact aR
 ·intro k a1 a2 a3 a4 a5
  refine zaa Tryz.func321 rfl Tryz.call321 (by rw [Tryz.ntmps321]; simp) ?_
  rw [Tryz.ntmps321,Tryz.results321]
  have F:=ai a1<|ai a2<|ai a3<|ai a4<|a5
  repeat refine st ?_
  exact aR
 ·intro k a1 a2 a3 a4 a5 a6 a7 a8
  refine zaa Tryz.func321 rfl Tryz.call321 (by rw [Tryz.ntmps321]; simp) ?_
  rw [Tryz.ntmps321,Tryz.results321]
  have F:=ai a1<|ai a2<|ai a3<|ai a4<|ai a5<|ai a6<|ai a7<|a8
  repeat refine st ?_
  exact aR
theorem zbR (env:Env) (k:Int):Con Tryz.prog env 288 [I k] (I (zae k)):=by
 refine zez (p:=fun k r=>Con Tryz.prog env 288 [I k] (I r)) ?_ ?_ ?_ ?_ ?_ ?_ k
 ·intro k a1 a2 a3 a4 a5
  refine zaa Tryz.func288 rfl Tryz.call288 (by rw [Tryz.ntmps288]; simp) ?_
  rw [Tryz.ntmps288,Tryz.results288]
  have F:=ai a1<|ai a2<|ai a3<|ai a4<|a5
  repeat refine st ?_
  exact aR
 ·refine zaa Tryz.func288 rfl Tryz.call288 (by rw [Tryz.ntmps288]; simp) ?_
  rw [Tryz.ntmps288,Tryz.results288]
  repeat refine st0 ?_
  exact aR0
 ·refine zaa Tryz.func288 rfl Tryz.call288 (by rw [Tryz.ntmps288]; simp) ?_
  rw [Tryz.ntmps288,Tryz.results288]
  repeat refine st0 ?_
  exact aR0
 ·intro k a1 a2 a3 a4 a5 a6 a7 a8 a9
  refine zaa Tryz.func288 rfl Tryz.call288 (by rw [Tryz.ntmps288]; simp) ?_
  rw [Tryz.ntmps288,Tryz.results288]
  have F:=ai a1<|ai a2<|ai a3<|ai a4<|ai a5<|ai a6<|ai a7<|ai a8<|a9
  repeat refine st ?_
  exact aR
 ·intro k a1 a2 a3 a4 a5
  refine zaa Tryz.func288 rfl Tryz.call288 (by rw [Tryz.ntmps288]; simp) ?_
  rw [Tryz.ntmps288,Tryz.results288]
  have F:=ai a1<|ai a2<|ai a3<|ai a4<|a5
  repeat refine st ?_
  exact aR
 ·intro k a1 a2 a3 a4 a5 a6 a7 a8
  refine zaa Tryz.func288 rfl Tryz.call288 (by rw [Tryz.ntmps288]; simp) ?_
  rw [Tryz.ntmps288,Tryz.results288]
  have F:=ai a1<|ai a2<|ai a3<|ai a4<|ai a5<|ai a6<|ai a7<|a8
  repeat refine st ?_
  exact aR
theorem zh1 {p:OpD->Bool->Prop} (vs ss:Int)
 (h1: ∀n:Int,p ⟨1,n⟩ (decide (0<=n)&&decide (n<=2147483647))) (h2: ∀n:Int,p ⟨2,n⟩ (decide (0<=n)&&decide (n<vs))) (h4: ∀n:Int,p ⟨4,n⟩ (decide (0<=n)&&decide (n<ss)))
 (h: ∀k n:Int,(k==1)=false->(k==2)=false->(k==4)=false->p ⟨k,n⟩ (decide (n=0))) (o:OpD):p o (numB o vs ss):=by
 have ne: ∀a b:Int,a≠b->(a==b)=false:=fun a b h=>by simpa using h
 obtain⟨k,n⟩:=o
 unfold numB
 simp only [Bool.decide_and]
 by_cases a:k=1
 ·subst a; simpa using h1 n
 by_cases b:k=2
 ·subst b; simpa using h2 n
 by_cases c:k=4
 ·subst c; simpa using h4 n
 rw [if_neg a,if_neg b,if_neg c]
 exact h k n (ne _ _ a) (ne _ _ b) (ne _ _ c)
theorem zdn (env:Env) (o:OpD) (vs ss:Int):Con Tryz.prog env 322 [.agg (opAV o),I vs,I ss] (B (numB o vs ss)):=by
 refine zh1 (p:=fun o r=>Con Tryz.prog env 322 [.agg (opAV o),I vs,I ss] (B r)) vs ss (fun n=> ?_) (fun n=> ?_) (fun n=> ?_) (fun k n a1 a2 a3=> ?_) o
 ·refine zaa Tryz.func322 rfl Tryz.call322 (by rw [Tryz.ntmps322]; simp) ?_
  rw [Tryz.ntmps322,Tryz.results322]
  by_cases h1:0<=n<;>by_cases h2:n<=2147483647<;>
  ·have h3:(n<2147483648)=(n<=2147483647):=by rw [eq_iff_iff]; omega
   have F:=ai opAV.eq_1<|ai h1<|ai h2<|h3
   repeat refine st ?_
   exact aR
 ·refine zaa Tryz.func322 rfl Tryz.call322 (by rw [Tryz.ntmps322]; simp) ?_
  rw [Tryz.ntmps322,Tryz.results322]
  by_cases h1:0<=n<;>by_cases h2:n<vs<;>
  ·have F:=ai opAV.eq_1<|ai h1<|h2
   repeat refine st ?_
   exact aR
 ·refine zaa Tryz.func322 rfl Tryz.call322 (by rw [Tryz.ntmps322]; simp) ?_
  rw [Tryz.ntmps322,Tryz.results322]
  by_cases h1:0<=n<;>by_cases h2:n<ss<;>
  ·have F:=ai opAV.eq_1<|ai h1<|h2
   repeat refine st ?_
   exact aR
 ·refine zaa Tryz.func322 rfl Tryz.call322 (by rw [Tryz.ntmps322]; simp) ?_
  rw [Tryz.ntmps322,Tryz.results322]
  by_cases h1:0<=n<;>by_cases h2:n<1<;>
  ·have h3:(n=0)=(0<=n/\n<1):=by rw [eq_iff_iff]; omega
   have F:=ai opAV.eq_1<|ai h1<|ai h2<|ai h3<|ai a1<|ai a2<|a3
   repeat refine st ?_
   exact aR
theorem zdl (env:Env) (o:OpD) (vs ss:Int):Con Tryz.prog env 289 [.agg (opAV o),I vs,I ss] (B (numB o vs ss)):=by
 refine zh1 (p:=fun o r=>Con Tryz.prog env 289 [.agg (opAV o),I vs,I ss] (B r)) vs ss (fun n=> ?_) (fun n=> ?_) (fun n=> ?_) (fun k n a1 a2 a3=> ?_) o
 ·refine zaa Tryz.func289 rfl Tryz.call289 (by rw [Tryz.ntmps289]; simp) ?_
  rw [Tryz.ntmps289,Tryz.results289]
  by_cases h1:0<=n<;>by_cases h2:n<=2147483647<;>
  ·have F:=ai opAV.eq_1<|ai h1<|h2
   repeat refine st ?_
   exact aR
 ·refine zaa Tryz.func289 rfl Tryz.call289 (by rw [Tryz.ntmps289]; simp) ?_
  rw [Tryz.ntmps289,Tryz.results289]
  by_cases h1:0<=n<;>by_cases h2:n<vs<;>
  ·have F:=ai opAV.eq_1<|ai h1<|h2
   repeat refine st ?_
   exact aR
 ·refine zaa Tryz.func289 rfl Tryz.call289 (by rw [Tryz.ntmps289]; simp) ?_
  rw [Tryz.ntmps289,Tryz.results289]
  by_cases h1:0<=n<;>by_cases h2:n<ss<;>
  ·have F:=ai opAV.eq_1<|ai h1<|h2
   repeat refine st ?_
   exact aR
 ·refine zaa Tryz.func289 rfl Tryz.call289 (by rw [Tryz.ntmps289]; simp) ?_
  rw [Tryz.ntmps289,Tryz.results289]
  have h3:decide (n=0)=(n==0):=by rw [Bool.eq_iff_iff]; simp
  rw [h3]
  have F:=ai opAV.eq_1<|ai a1<|ai a2<|a3
  repeat refine st ?_
  exact aR
/-! States' kinds -/
theorem zdT (env:Env) (s:StD):Con Tryz.prog env 204 [.agg (stAV s)] (B (zaD s)):=by
 unfold zaD
 refine zaa Tryz.func204 rfl Tryz.call204 (by rw [Tryz.ntmps204]; simp) ?_
 rw [Tryz.ntmps204,Tryz.results204]
 cases h1:(s.kind==4)<;>cases h2:(s.kind==5)<;>
 ·have F:=ai stAV.eq_1<|ai h1<|h2
  repeat refine st ?_
  exact aR
theorem zbe (env:Env) (s:StD):Con Tryz.prog env 157 [.agg (stAV s)] (B (zaD s)):=by
 unfold zaD
 refine zaa Tryz.func157 rfl Tryz.call157 (by rw [Tryz.ntmps157]; simp) ?_
 rw [Tryz.ntmps157,Tryz.results157]
 cases h1:(s.kind==4)<;>cases h2:(s.kind==5)<;>
 ·have F:=ai stAV.eq_1<|ai h1<|h2
  repeat refine st ?_
  exact aR
theorem zdo (env:Env) (s:StD):Con Tryz.prog env 202 [.agg (stAV s)] (B (zcc s)):=by
 unfold zcc
 refine zaa Tryz.func202 rfl Tryz.call202 (by rw [Tryz.ntmps202]; simp) ?_
 rw [Tryz.ntmps202,Tryz.results202]
 cases h1:(s.kind==1)<;>cases h2:(s.kind==2)<;>
 ·have F:=ai stAV.eq_1<|ai h1<|h2
  repeat refine st ?_
  exact aR
theorem zdm (env:Env) (s:StD):Con Tryz.prog env 113 [.agg (stAV s)] (B (zcc s)):=by
 unfold zcc
 refine zaa Tryz.func113 rfl Tryz.call113 (by rw [Tryz.ntmps113]; simp) ?_
 rw [Tryz.ntmps113,Tryz.results113]
 cases h1:(s.kind==1)<;>cases h2:(s.kind==2)<;>
 ·have F:=ai stAV.eq_1<|ai h1<|h2
  repeat refine st ?_
  exact aR
end
section
theorem zat {α:Type} {l:List α} {i:Nat} (h:i<l.length): ∃x,l[i]? =some x/\x∈l:=⟨l[i],List.getElem?_eq_getElem h,List.getElem_mem h⟩
end
section
open Go.RowKit
structure WoD where
 vars:List Int
 data:Int
 act:List Bool
def trI (b:Bool):Int:=if b then 1 else 0
def leafI (w:WoD) (o:OpD):Int:=if o.kind=1 then o.n else if o.kind=2 then w.vars.getD o.n.toNat 0 else if o.kind=4 then trI (w.act.getD o.n.toNat false) else w.data
def unI (k a:Int):Int:=if k=6 then trI (a==0) else 0-a
def cmpB (k a b:Int):Bool:=if k=12 then decide (a<b) else if k=13 then decide (b<a) else if k=14 then decide (a<=b) else if k=15 then decide (b<=a) else if k=16 then a==b else a != b
def binI (k a b:Int):Int×Bool:=
 if k=7 then(a*b,zau (a*b))
 else if k=8 then(if b=0 then(0,false) else(a.tdiv b,true))
 else if k=9 then(if b=0 then(0,false) else(a.tmod b,true))
 else if k=10 then(a+b,zau (a+b))
 else if k=11 then(a-b,zau (a-b))
 else if k=18 then(trI (a != 0&&b != 0),true)
 else if k=19 then(trI (a != 0||b != 0),true)
 else(trI (cmpB k a b),true)
def zdH (w:WoD) (o:OpD) (s:List Int):Option (List Int):=
 if o.kind<=4 then some (leafI w o::s)
 else if o.kind<=6 then(match s with
  | a::s=>some (unI o.kind a::s)
  | []=>none)
 else match s with
  | b::a::s=>if (binI o.kind a b).2 then some ((binI o.kind a b).1::s) else none
  | _=>none
def runS (w:WoD):List OpD->List Int->Option (List Int)
 | [],s=>some s
 | o::l,s=>(zdH w o s).bind (runS w l)
theorem ze0 (w:WoD): ∀(l m:List OpD) (s:List Int),runS w (l++m) s=(runS w l s).bind (runS w m)
 | [],_,_=>rfl
 | o::l,m,s=>by
   simp only [List.cons_append,runS]
   cases zdH w o s with
   | none=>rfl
   | some t=>exact ze0 w l m t
theorem zgk (w:WoD) (o:OpD) (s:List Int):runS w [o] s=zdH w o s:=by
 simp only [runS]
 cases zdH w o s<;>rfl
def lastTo (l:List OpD):Nat->Int->Nat
 | 0,_=>0
 | i+1,need=>match l[i]? with
   | some o=>if need-1+zae o.kind=0 then i else lastTo l i (need-1+zae o.kind)
   | none=>0
theorem zkr (l:List OpD): ∀(i:Nat) (n:Int),lastTo l i n<=i
 | 0,_=>Nat.le_refl 0
 | i+1,n=>by
   unfold lastTo
   split
   ·split
    ·omega
    ·have:=zkr l i (n-1+zae ‹OpD›.kind)
     omega
   ·omega
theorem zfG (l m:List OpD): ∀(i:Nat) (n:Int),i<=l.length->lastTo (l++m) i n=lastTo l i n
 | 0,_,_=>rfl
 | i+1,n,h=>by
   unfold lastTo
   rw [List.getElem?_append_left (by omega)]
   cases l[i]? with
   | none=>rfl
   | some o=>simp only [zfG l m i _ (by omega)]
def treeF (w:WoD):Nat->List OpD->Int×Bool
 | 0,_=>(0,false)
 | f+1,code=>match code[code.length-1]? with
   | none=>(0,false)
   | some o=>
     if o.kind<=4 then(leafI w o,true)
     else if o.kind=5 then(0-(treeF w f (code.take (code.length-1))).1,(treeF w f (code.take (code.length-1))).2)
     else if o.kind=6 then(trI ((treeF w f (code.take (code.length-1))).1==0),(treeF w f (code.take (code.length-1))).2)
     else if (treeF w f (code.take (lastTo code (code.length-1) 1))).2&&(treeF w f ((code.take (code.length-1)).drop (lastTo code (code.length-1) 1))).2 then
      binI o.kind (treeF w f (code.take (lastTo code (code.length-1) 1))).1 (treeF w f ((code.take (code.length-1)).drop (lastTo code (code.length-1) 1))).1
     else(0,false)
theorem zmb (vs ss:Int): ∀(l m:List OpD) (n:Int),hgt vs ss (l++m) n=(hgt vs ss l n).bind (hgt vs ss m)
 | [],_,_=>rfl
 | o::l,m,n=>by
   simp only [List.cons_append,hgt]
   split
   ·exact zmb vs ss l m _
   ·rfl
theorem zdI {vs ss n:Int} {o:OpD} (h:zbt vs ss n o=true):0<=zae o.kind/\zae o.kind<=n:=by
 simp only [zbt,Bool.and_eq_true,decide_eq_true_eq] at h
 exact⟨h.1.1,h.1.2⟩
theorem zqL {vs ss:Int} : ∀ {l:List OpD} {n k:Int},hgt vs ss l n=some k->0<=n->0<=k/\(l≠[]->1<=k)
 | [],n,k,h,hn=>by
   simp only [hgt,Option.some.injEq] at h
   exact⟨by omega,fun h=>absurd rfl h⟩
 | o::l,n,k,h,hn=>by
   simp only [hgt] at h
   split at h
   ·rename_i hs
    have h1:zae o.kind<=n:=by
     have:=zdI hs
     exact this.2
    cases l with
    | nil=>
      simp only [hgt,Option.some.injEq] at h
      exact⟨by omega,fun _=>by omega⟩
    | cons p l=>
      have:=zqL h (by omega)
      exact⟨this.1,fun _=>this.2 (by simp)⟩
   ·simp at h
theorem zjP {vs ss n m:Int} {o:OpD} (h:zbt vs ss n o=true) (hm:zae o.kind<=m):zbt vs ss m o=true:=by
 simp only [zbt,Bool.and_eq_true,decide_eq_true_eq] at h |-
 exact⟨⟨h.1.1,hm⟩,h.2⟩
theorem zm6 {vs ss:Int} {l:List OpD} {m:Int} (hm:0<=m): ∀(i:Nat) (h:Int),i<=l.length->hgt vs ss (l.take i) 0=some h->m+1<=h->hgt vs ss (l.drop i) (h-m)=some 1->
 hgt vs ss (l.take (lastTo l i (h-m))) 0=some m/\hgt vs ss (l.drop (lastTo l i (h-m))) 0=some 1/\lastTo l i (h-m)<l.length
 | 0,h,_,e,hh,_=>by
   simp only [List.take_zero,hgt,Option.some.injEq] at e
   omega
 | i+1,h,hi,e,hh,ed=>by
   obtain⟨o,ho,_⟩:=zat (show i<l.length by omega)
   have he:l.take (i+1)=l.take i++[o]:=by rw [List.take_add_one,ho]; rfl
   have hd:l.drop i=o::l.drop (i+1):=by
    rw [List.drop_eq_getElem_cons (by omega)]
    congr 1
    rw [List.getElem?_eq_getElem (by omega)] at ho
    exact Option.some.inj ho
   rw [he,zmb] at e
   obtain⟨h',e1,e2⟩:=Option.bind_eq_some_iff.1 e
   simp only [hgt] at e2
   split at e2
   ·rename_i hs
    have hk:=zdI hs
    simp only [Option.some.injEq] at e2
    unfold lastTo
    rw [ho]
    simp only
    have en:h-m-1+zae o.kind=h'-m:=by omega
    rw [en]
    by_cases h0:h'-m=0
    ·rw [if_pos h0]
     refine⟨by rw [e1]; congr 1; omega, ?_,by omega⟩
     rw [hd]
     simp only [hgt]
     rw [if_pos (zjP hs (by omega))]
     rw [<-ed]
     congr 1
     omega
    ·rw [if_neg h0]
     refine zm6 hm i h' (by omega) e1 (by omega) ?_
     rw [hd]
     simp only [hgt]
     rw [if_pos (zjP hs (by omega)), <-ed]
     congr 1
     omega
   ·simp at e2
theorem zji {vs ss:Int} {code:List OpD} (h:hgt vs ss code 0=some 1): ∃l o,code=l++[o]/\zbt vs ss (zae o.kind) o=true/\hgt vs ss l 0=some (zae o.kind):=by
 rcases List.eq_nil_or_concat code with rfl | ⟨l,o,rfl⟩
 ·simp [hgt] at h
 ·refine⟨l,o,by simp, ?_⟩
  rw [List.concat_eq_append,zmb] at h
  obtain⟨h',e1,e2⟩:=Option.bind_eq_some_iff.1 h
  simp only [hgt] at e2
  split at e2
  ·rename_i hs
   simp only [Option.some.injEq] at e2
   have:h'=zae o.kind:=by omega
   subst this
   exact⟨hs,e1⟩
  ·simp at e2
theorem zt1 {vs ss:Int} {l:List OpD} (h:hgt vs ss l 0=some 0):l=[]:=by
 cases l with
 | nil=>rfl
 | cons o l=>have:=(zqL h (Int.le_refl 0)).2 (by simp); omega
theorem ztX (l:List OpD) (o:OpD):(l++[o])[(l++[o]).length-1]? =some o:=by simp
theorem zqz (l:List OpD) (o:OpD):(l++[o]).take ((l++[o]).length-1)=l:=by simp
theorem zqB {k:Int} (h:0<=zae k):(zae k=0/\k<=4)\/(zae k=1/\k=5)\/(zae k=1/\k=6)\/(zae k=2/\7<=k):=by
 unfold zae at h |-
 split
 ·exact .inl ⟨rfl,by omega⟩
 ·split
  ·rename_i h1 h2
   rcases h2 with h2 | h2
   ·exact .inr (.inl ⟨rfl,h2⟩)
   ·exact .inr (.inr (.inl ⟨rfl,h2⟩))
  ·split
   ·exact .inr (.inr (.inr ⟨rfl,by omega⟩))
   ·rename_i h1 h2 h3
    rw [if_neg h1,if_neg h2,if_neg h3] at h
    omega
theorem zjb {vs ss:Int} {l:List OpD} (h:hgt vs ss l 0=some 2):hgt vs ss (l.take (lastTo l l.length 1)) 0=some 1/\hgt vs ss (l.drop (lastTo l l.length 1)) 0=some 1/\lastTo l l.length 1<l.length:=by
 have:=zm6 (vs:=vs) (ss:=ss) (l:=l) (m:=1) (by omega) l.length 2 (Nat.le_refl _) (by rw [List.take_length,h]) (by omega) (by rw [List.drop_length]; rfl)
 simpa using this
theorem zbk (w:WoD) (f:Nat) (l:List OpD) (o:OpD):treeF w (f+1) (l++[o])=if o.kind<=4 then(leafI w o,true)
 else if o.kind=5 then(0-(treeF w f l).1,(treeF w f l).2)
 else if o.kind=6 then(trI ((treeF w f l).1==0),(treeF w f l).2)
 else if (treeF w f (l.take (lastTo l l.length 1))).2&&(treeF w f (l.drop (lastTo l l.length 1))).2 then
  binI o.kind (treeF w f (l.take (lastTo l l.length 1))).1 (treeF w f (l.drop (lastTo l l.length 1))).1
 else(0,false):=by
 have ea:lastTo (l++[o]) ((l++[o]).length-1) 1=lastTo l l.length 1:=by
  rw [show (l++[o]).length-1=l.length by simp]
  exact zfG l [o] _ _ (Nat.le_refl _)
 conv=>lhs; unfold treeF
 rw [ztX,zqz,ea,List.take_append_of_le_length (zkr l l.length 1)]
theorem zeW (vs ss:Int) (w:WoD): ∀(f:Nat) (code:List OpD),code.length<=f->hgt vs ss code 0=some 1-> ∀s,runS w code s=if (treeF w f code).2 then some ((treeF w f code).1::s) else none
 | 0,code,hf,h,s=>by
   obtain rfl:code=[]:=List.length_eq_zero_iff.1 (by omega)
   simp [hgt] at h
 | f+1,code,hf,h,s=>by
   obtain⟨l,o,rfl,hs,hl⟩:=zji h
   have hlen:l.length<=f:=by simp at hf; omega
   rw [ze0]
   rcases zqB (zdI hs).1 with⟨e,hk⟩ | ⟨e,hk⟩ | ⟨e,hk⟩ | ⟨e,hk⟩
   ·rw [e] at hl
    obtain rfl:=zt1 hl
    have ev:treeF w (f+1) ([]++[o])=(leafI w o,true):=by rw [zbk,if_pos hk]
    rw [ev]
    simp only [runS,Option.bind_some,zdH,if_pos hk,if_true]
   ·rw [e] at hl
    have ev:treeF w (f+1) (l++[o])=(0-(treeF w f l).1,(treeF w f l).2):=by rw [zbk,if_neg (by omega),if_pos hk]
    rw [ev,zeW vs ss w f l hlen hl s]
    cases (treeF w f l).2 with
    | false=>rfl
    | true=>
      simp only [if_true,Option.bind_some,zgk,zdH]
      rw [if_neg (by omega),if_pos (by omega)]
      simp only [unI]
      rw [if_neg (by omega)]
   ·rw [e] at hl
    have ev:treeF w (f+1) (l++[o])=(trI ((treeF w f l).1==0),(treeF w f l).2):=by rw [zbk,if_neg (by omega),if_neg (by omega),if_pos hk]
    rw [ev,zeW vs ss w f l hlen hl s]
    cases (treeF w f l).2 with
    | false=>rfl
    | true=>
      simp only [if_true,Option.bind_some,zgk,zdH]
      rw [if_neg (by omega),if_pos (by omega)]
      simp only [unI]
      rw [if_pos hk]
   ·rw [e] at hl
    obtain⟨h1,h2,h3⟩:=zjb hl
    have ev:=zbk w f l o
    rw [if_neg (by omega),if_neg (by omega),if_neg (by omega)] at ev
    rw [ev]
    generalize lastTo l l.length 1=p at*
    have r1:=zeW vs ss w f (l.take p) (by rw [List.length_take]; omega) h1
    have r2:=zeW vs ss w f (l.drop p) (by rw [List.length_drop]; omega) h2
    have er:runS w l s=(runS w (l.take p) s).bind (runS w (l.drop p)):=by
     rw [<-ze0,List.take_append_drop]
    rw [er,r1 s]
    cases (treeF w f (l.take p)).2 with
    | false=>rfl
    | true=>
      simp only [if_true,Option.bind_some,Bool.true_and]
      rw [r2]
      cases (treeF w f (l.drop p)).2 with
      | false=>rfl
      | true=>
        simp only [if_true,Option.bind_some,zgk,zdH]
        rw [if_neg (by omega),if_neg (by omega)]
/-! How large values are. -/
theorem zbj {n:Int} :zau n=true↔ -2147483647<=n/\n<=2147483647:=by
 unfold zau
 rw [Bool.and_eq_true,decide_eq_true_eq,decide_eq_true_eq]
def Big (n:Int):Prop:= -4611686014132420609<=n/\n<=4611686014132420609
theorem zcX (b:Bool):zau (trI b)=true:=by cases b<;>rfl
theorem zqj {a b:Int} (ha:zau a=true) (hb:zau b=true):Big (a*b):=by
 rw [zbj] at ha hb
 have h1:a.natAbs<=2147483647:=by omega
 have h2:b.natAbs<=2147483647:=by omega
 have h3:(a*b).natAbs<=2147483647*2147483647:=by
  rw [Int.natAbs_mul]
  exact Nat.mul_le_mul h1 h2
 unfold Big
 omega
theorem zeX {a b:Int} (ha:zau a=true):zau (a.tdiv b)=true:=by
 rw [zbj] at ha |-
 have:(a.tdiv b).natAbs<=a.natAbs:=by
  rw [Int.natAbs_tdiv]
  exact Nat.div_le_self _ _
 omega
theorem zjK {a b:Int} (ha:zau a=true):zau (a.tmod b)=true:=by
 rw [zbj] at ha |-
 have:(a.tmod b).natAbs<=a.natAbs:=by
  rw [Int.natAbs_tmod]
  exact Nat.mod_le _ _
 omega
theorem zjw (k:Int) {a b:Int} (ha:zau a=true) (hb:zau b=true):Big (binI k a b).1/\((binI k a b).2=true->zau (binI k a b).1=true):=by
 have big: ∀ {n:Int},zau n=true->Big n:=fun h=>by rw [zbj] at h; unfold Big; omega
 have both: ∀ {n:Int} {b:Bool},zau n=true->Big (n,b).1/\((n,b).2=true->zau (n,b).1=true):=fun h=>⟨big h,fun _=>h⟩
 unfold binI
 split
 ·exact⟨zqj ha hb,id⟩
 split
 ·split
  ·exact both rfl
  ·exact both (zeX ha)
 split
 ·split
  ·exact both rfl
  ·exact both (zjK ha)
 have ha':=zbj.1 ha
 have hb':=zbj.1 hb
 split
 ·exact⟨by unfold Big; simp only; omega,id⟩
 split
 ·exact⟨by unfold Big; simp only; omega,id⟩
 split
 ·exact both (zcX _)
 split
 ·exact both (zcX _)
 ·exact both (zcX _)
structure WoD.Ok (w:WoD):Prop where
 vars: ∀x∈w.vars,zau x=true
 data:zau w.data=true
theorem zg5 {w:WoD} (hw:w.Ok) {o:OpD} {vs ss:Int} (h:numB o vs ss=true):zau (leafI w o)=true:=by
 unfold leafI
 split
 ·rename_i h1
  unfold numB at h
  rw [if_pos h1,decide_eq_true_eq] at h
  rw [zbj]
  omega
 split
 ·rw [List.getD_eq_getElem?_getD]
  cases e:w.vars[o.n.toNat]? with
  | none=>rfl
  | some x=>exact hw.vars x (List.mem_of_getElem? e)
 split
 ·exact zcX _
 ·exact hw.data
theorem zpu (k:Int) {a:Int} (ha:zau a=true):zau (unI k a)=true:=by
 unfold unI
 split
 ·exact zcX _
 ·rw [zbj] at ha |-
  omega
theorem zgH {w:WoD} (hw:w.Ok) {o:OpD} {vs ss:Int} (h:numB o vs ss=true) {s t:List Int} (hs: ∀x∈s,zau x=true) (e:zdH w o s=some t): ∀x∈t,zau x=true:=by
 unfold zdH at e
 split at e
 ·cases e
  intro x hx
  rcases List.mem_cons.1 hx with rfl | hx
  ·exact zg5 hw h
  ·exact hs x hx
 split at e
 ·split at e
  ·cases e
   intro x hx
   rcases List.mem_cons.1 hx with rfl | hx
   ·exact zpu _ (hs _ (by simp))
   ·exact hs x (by simp [hx])
  ·simp at e
 ·split at e
  ·split at e
   ·rename_i b a s hok
    cases e
    intro x hx
    rcases List.mem_cons.1 hx with rfl | hx
    ·exact(zjw _ (hs a (by simp)) (hs b (by simp))).2 hok
    ·exact hs x (by simp [hx])
   ·simp at e
  ·simp at e
theorem zee {vs ss:Int} {w:WoD} (hw:w.Ok): ∀(f:Nat) (code:List OpD),code.length<=f->hgt vs ss code 0=some 1->Big (treeF w f code).1/\((treeF w f code).2=true->zau (treeF w f code).1=true)
 | 0,code,hf,h=>by
   obtain rfl:code=[]:=List.length_eq_zero_iff.1 (by omega)
   simp [hgt] at h
 | f+1,code,hf,h=>by
   have big: ∀ {n:Int},zau n=true->Big n:=fun h=>by rw [zbj] at h; unfold Big; omega
   obtain⟨l,o,rfl,hs,hl⟩:=zji h
   have hlen:l.length<=f:=by simp at hf; omega
   have hnum:numB o vs ss=true:=by simp only [zbt,Bool.and_eq_true] at hs; exact hs.2
   rcases zqB (zdI hs).1 with⟨e,hk⟩ | ⟨e,hk⟩ | ⟨e,hk⟩ | ⟨e,hk⟩
   ·rw [zbk,if_pos hk]
    exact⟨big (zg5 hw hnum),fun _=>zg5 hw hnum⟩
   ·rw [e] at hl
    rw [zbk,if_neg (by omega),if_pos hk]
    obtain⟨h1,h2⟩:=zee hw f l hlen hl
    refine⟨by unfold Big at*; simp only; omega,fun h=> ?_⟩
    have:=h2 h
    rw [zbj] at this |-
    simp only
    omega
   ·rw [zbk,if_neg (by omega),if_neg (by omega),if_pos hk]
    exact⟨big (zcX _),fun _=>zcX _⟩
   ·rw [e] at hl
    obtain⟨h1,h2,h3⟩:=zjb hl
    rw [zbk,if_neg (by omega),if_neg (by omega),if_neg (by omega)]
    generalize lastTo l l.length 1=p at*
    split
    ·rename_i hh
     rw [Bool.and_eq_true] at hh
     exact zjw _ ((zee hw f _ (by rw [List.length_take]; omega) h1).2 hh.1) ((zee hw f _ (by rw [List.length_drop]; omega) h2).2 hh.2)
    ·exact⟨big rfl,fun _=>rfl⟩
def zmi (w:WoD) (code:List OpD):Option Int:=if (treeF w code.length code).2 then some (treeF w code.length code).1 else none
theorem zsH {vs ss:Int} (w:WoD) {code:List OpD} (h:hgt vs ss code 0=some 1):runS w code []=(zmi w code).map fun n=>[n]:=by
 rw [zeW vs ss w code.length code (Nat.le_refl _) h]
 unfold zmi
 split<;>rfl
end

end Go.Proofs.YtnbjaghjdeicmaaGreatDoor