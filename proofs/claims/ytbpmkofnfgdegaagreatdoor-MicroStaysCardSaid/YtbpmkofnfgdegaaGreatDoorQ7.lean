/- What expressions come to: on a stack, and as trees: the same. No program is named here. -/
import Derived.Test.YtbpmkofnfgdegaaGreatDoorQ6
namespace Go.Proofs.YtbpmkofnfgdegaaGreatDoor
open Go.RowKit
structure WoD where
 vars:List Int
 data:Int
 act:List Bool
def trI (b:Bool):Int:=if b then 1 else 0
def leafI (w:WoD) (o:OpD):Int:=if o.kind=1 then o.n else if o.kind=2 then w.vars.getD o.n.toNat 0 else if o.kind=4 then trI (w.act.getD o.n.toNat false) else w.data
def unI (k a:Int):Int:=if k=6 then trI (a==0) else 0-a
def cmpB (k a b:Int):Bool:=if k=12 then decide (a<b) else if k=13 then decide (b<a) else if k=14 then decide (a<=b) else if k=15 then decide (b<=a) else if k=16 then a==b else a != b
def binI (k a b:Int):Int×Bool:=
 if k=7 then(a*b,zai (a*b))
 else if k=8 then(if b=0 then(0,false) else(a.tdiv b,true))
 else if k=9 then(if b=0 then(0,false) else(a.tmod b,true))
 else if k=10 then(a+b,zai (a+b))
 else if k=11 then(a-b,zai (a-b))
 else if k=18 then(trI (a != 0&&b != 0),true)
 else if k=19 then(trI (a != 0||b != 0),true)
 else(trI (cmpB k a b),true)
def zcH (w:WoD) (o:OpD) (s:List Int):Option (List Int):=
 if o.kind<=4 then some (leafI w o::s)
 else if o.kind<=6 then(match s with
  |a::s=>some (unI o.kind a::s)
  |[]=>none)
 else match s with
  |b::a::s=>if (binI o.kind a b).2 then some ((binI o.kind a b).1::s) else none
  |_=>none
def runS (w:WoD):List OpD->List Int->Option (List Int)
 |[],s=>some s
 |o::l,s=>(zcH w o s).bind (runS w l)
theorem zfc (w:WoD): ∀(l m:List OpD) (s:List Int),runS w (l++m) s=(runS w l s).bind (runS w m)
 |[],_,_=>rfl
 | o::l,m,s=>by
   simp only[List.cons_append,runS];cases zcH w o s with
   |none=>rfl
   |some t=>exact zfc w l m t
theorem zgE (w:WoD) (o:OpD) (s:List Int):runS w [o] s=zcH w o s:=by
 simp only[runS];cases zcH w o s<;>rfl
def lastTo (l:List OpD):Nat->Int->Nat
 |0,_=>0
 | i+1,need=>match l[i]? with
   |some o=>if need-1+zad o.kind=0 then i else lastTo l i (need-1+zad o.kind)
   |none=>0
theorem zk6 (l:List OpD): ∀(i:Nat) (n:Int),lastTo l i n<=i
 |0,_=>Nat.le_refl 0
 | i+1,n=>by
   unfold lastTo;split
   ·split
    ·omega
    ·have:=zk6 l i (n-1+zad ‹OpD›.kind);omega
   ·omega
theorem ziJ (l m:List OpD): ∀(i:Nat) (n:Int),i<=l.length->lastTo (l++m) i n=lastTo l i n
 |0,_,_=>rfl
 | i+1,n,h=>by
   unfold lastTo;rw[List.getElem?_append_left (by omega)];cases l[i]? with
   |none=>rfl
   |some o=>simp only[ziJ l m i _ (by omega)]
def za8 (w:WoD):Nat->List OpD->Int×Bool
 |0,_=>(0,false)
 | f+1,code=>match code[code.length-1]? with
   |none=>(0,false)
   | some o=>
     if o.kind<=4 then(leafI w o,true)
     else if o.kind=5 then(0-(za8 w f (code.take (code.length-1))).1,(za8 w f (code.take (code.length-1))).2)
     else if o.kind=6 then(trI ((za8 w f (code.take (code.length-1))).1==0),(za8 w f (code.take (code.length-1))).2)
     else if (za8 w f (code.take (lastTo code (code.length-1) 1))).2&&(za8 w f ((code.take (code.length-1)).drop (lastTo code (code.length-1) 1))).2 then
      binI o.kind (za8 w f (code.take (lastTo code (code.length-1) 1))).1 (za8 w f ((code.take (code.length-1)).drop (lastTo code (code.length-1) 1))).1
     else(0,false)
theorem zm4 (vs ss:Int): ∀(l m:List OpD) (n:Int),hgt vs ss (l++m) n=(hgt vs ss l n).bind (hgt vs ss m)
 |[],_,_=>rfl
 | o::l,m,n=>by
   simp only[List.cons_append,hgt];split
   ·exact zm4 vs ss l m _
   ·rfl
theorem zd1 {vs ss n:Int} {o:OpD} (h:zbc vs ss n o=true):0<=zad o.kind/\zad o.kind<=n:=by
 simp only[zbc,Bool.and_eq_true,decide_eq_true_eq]at h;exact⟨h.1.1,h.1.2⟩
theorem zsg {vs ss:Int} : ∀ {l:List OpD} {n k:Int},hgt vs ss l n=some k->0<=n->0<=k/\(l≠[]->1<=k)
 | [],n,k,h,hn=>by
   simp only[hgt,Option.some.injEq]at h;exact⟨by omega,fun h=>absurd rfl h⟩
 | o::l,n,k,h,hn=>by
   simp only[hgt]at h;split at h
   ·rename_i hs
    have h1:zad o.kind<=n:=by
     have:=zd1 hs;exact this.2
    cases l with
    | nil=>
      simp only[hgt,Option.some.injEq]at h;exact⟨by omega,fun _=>by omega⟩
    | cons p l=>
      have:=zsg h (by omega);exact⟨this.1,fun _=>this.2 (by simp)⟩
   ·simp at h
theorem zkD {vs ss n m:Int} {o:OpD} (h:zbc vs ss n o=true) (hm:zad o.kind<=m):zbc vs ss m o=true:=by
 simp only[zbc,Bool.and_eq_true,decide_eq_true_eq]at h |-;exact⟨⟨h.1.1,hm⟩,h.2⟩
theorem zof {vs ss:Int} {l:List OpD} {m:Int} (hm:0<=m): ∀(i:Nat) (h:Int),i<=l.length->hgt vs ss (l.take i) 0=some h->m+1<=h->hgt vs ss (l.drop i) (h-m)=some 1->
 hgt vs ss (l.take (lastTo l i (h-m))) 0=some m/\hgt vs ss (l.drop (lastTo l i (h-m))) 0=some 1/\lastTo l i (h-m)<l.length
 | 0,h,_,e,hh,_=>by
   simp only[List.take_zero,hgt,Option.some.injEq]at e;omega
 | i+1,h,hi,e,hh,ed=>by
   obtain⟨o,ho,_⟩:=zak (show i<l.length by omega);have he:l.take (i+1)=l.take i++[o]:=by rw[List.take_add_one,ho];rfl
   have hd:l.drop i=o::l.drop (i+1):=by
    rw[List.drop_eq_getElem_cons (by omega)]
    congr 1
    rw[List.getElem?_eq_getElem (by omega)]at ho;exact Option.some.inj ho
   rw[he,zm4]at e;obtain⟨h',e1,e2⟩:=Option.bind_eq_some_iff.1 e;simp only[hgt]at e2;split at e2
   ·rename_i hs;have hk:=zd1 hs;simp only[Option.some.injEq]at e2;unfold lastTo;rw[ho];simp only;have en:h-m-1+zad o.kind=h'-m:=by omega
    rw[en];by_cases h0:h'-m=0
    ·rw[if_pos h0];refine⟨by rw[e1];congr 1;omega,?_,by omega⟩;rw[hd];simp only[hgt];rw[if_pos (zkD hs (by omega))];rw[<-ed]
     congr 1
     omega
    ·rw[if_neg h0];refine zof hm i h' (by omega) e1 (by omega) ?_;rw[hd];simp only[hgt];rw[if_pos (zkD hs (by omega)), <-ed]
     congr 1
     omega
   ·simp at e2
theorem zok {vs ss:Int} {code:List OpD} (h:hgt vs ss code 0=some 1): ∃l o,code=l++[o]/\zbc vs ss (zad o.kind) o=true/\hgt vs ss l 0=some (zad o.kind):=by
 rcases List.eq_nil_or_concat code with rfl|⟨l,o,rfl⟩
 ·simp[hgt]at h
 ·refine⟨l,o,by simp,?_⟩;rw[List.concat_eq_append,zm4]at h;obtain⟨h',e1,e2⟩:=Option.bind_eq_some_iff.1 h;simp only[hgt]at e2;split at e2
  ·rename_i hs;simp only[Option.some.injEq]at e2;have:h'=zad o.kind:=by omega
   subst this;exact⟨hs,e1⟩
  ·simp at e2
theorem zv5 {vs ss:Int} {l:List OpD} (h:hgt vs ss l 0=some 0):l=[]:=by
 cases l with
 |nil=>rfl
 |cons o l=>have:=(zsg h (Int.le_refl 0)).2 (by simp);omega
theorem zvZ (l:List OpD) (o:OpD):(l++[o])[(l++[o]).length-1]? =some o:=by simp
theorem zrX (l:List OpD) (o:OpD):(l++[o]).take ((l++[o]).length-1)=l:=by simp
theorem zrY {k:Int} (h:0<=zad k):(zad k=0/\k<=4)\/(zad k=1/\k=5)\/(zad k=1/\k=6)\/(zad k=2/\7<=k):=by
 unfold zad at h |-;split
 ·exact .inl ⟨rfl,by omega⟩
 ·split
  ·rename_i h1 h2;rcases h2 with h2|h2
   ·exact .inr (.inl ⟨rfl,h2⟩)
   ·exact .inr (.inr (.inl ⟨rfl,h2⟩))
  ·split
   ·exact .inr (.inr (.inr ⟨rfl,by omega⟩))
   ·rename_i h1 h2 h3;rw[if_neg h1,if_neg h2,if_neg h3]at h;omega
theorem zoe {vs ss:Int} {l:List OpD} (h:hgt vs ss l 0=some 2):hgt vs ss (l.take (lastTo l l.length 1)) 0=some 1/\hgt vs ss (l.drop (lastTo l l.length 1)) 0=some 1/\lastTo l l.length 1<l.length:=by
 have:=zof (vs:=vs) (ss:=ss) (l:=l) (m:=1) (by omega) l.length 2 (Nat.le_refl _) (by rw[List.take_length,h]) (by omega) (by rw[List.drop_length];rfl);simpa using this
theorem zbG (w:WoD) (f:Nat) (l:List OpD) (o:OpD):za8 w (f+1) (l++[o])=if o.kind<=4 then(leafI w o,true)
 else if o.kind=5 then(0-(za8 w f l).1,(za8 w f l).2)
 else if o.kind=6 then(trI ((za8 w f l).1==0),(za8 w f l).2)
 else if (za8 w f (l.take (lastTo l l.length 1))).2&&(za8 w f (l.drop (lastTo l l.length 1))).2 then
  binI o.kind (za8 w f (l.take (lastTo l l.length 1))).1 (za8 w f (l.drop (lastTo l l.length 1))).1
 else(0,false):=by
 have ea:lastTo (l++[o]) ((l++[o]).length-1) 1=lastTo l l.length 1:=by
  rw[show (l++[o]).length-1=l.length by simp];exact ziJ l [o] _ _ (Nat.le_refl _)
 conv=>lhs;unfold za8
 rw[zvZ,zrX,ea,List.take_append_of_le_length (zk6 l l.length 1)]
theorem zfa (vs ss:Int) (w:WoD): ∀(f:Nat) (code:List OpD),code.length<=f->hgt vs ss code 0=some 1-> ∀s,runS w code s=if (za8 w f code).2 then some ((za8 w f code).1::s) else none
 | 0,code,hf,h,s=>by
   obtain rfl:code=[]:=List.length_eq_zero_iff.1 (by omega);simp[hgt]at h
 | f+1,code,hf,h,s=>by
   obtain⟨l,o,rfl,hs,hl⟩:=zok h;have hlen:l.length<=f:=by simp at hf;omega
   rw[zfc];rcases zrY (zd1 hs).1 with⟨e,hk⟩|⟨e,hk⟩|⟨e,hk⟩|⟨e,hk⟩
   ·rw[e]at hl;obtain rfl:=zv5 hl;have ev:za8 w (f+1) ([]++[o])=(leafI w o,true):=by rw[zbG,if_pos hk]
    rw[ev];simp only[runS,Option.bind_some,zcH,if_pos hk,if_true]
   ·rw[e]at hl;have ev:za8 w (f+1) (l++[o])=(0-(za8 w f l).1,(za8 w f l).2):=by rw[zbG,if_neg (by omega),if_pos hk]
    rw[ev,zfa vs ss w f l hlen hl s];cases (za8 w f l).2 with
    |false=>rfl
    | true=>
      simp only[if_true,Option.bind_some,zgE,zcH];rw[if_neg (by omega),if_pos (by omega)];simp only[unI];rw[if_neg (by omega)]
   ·rw[e]at hl;have ev:za8 w (f+1) (l++[o])=(trI ((za8 w f l).1==0),(za8 w f l).2):=by rw[zbG,if_neg (by omega),if_neg (by omega),if_pos hk]
    rw[ev,zfa vs ss w f l hlen hl s];cases (za8 w f l).2 with
    |false=>rfl
    | true=>
      simp only[if_true,Option.bind_some,zgE,zcH];rw[if_neg (by omega),if_pos (by omega)];simp only[unI];rw[if_pos hk]
   ·rw[e]at hl;obtain⟨h1,h2,h3⟩:=zoe hl;have ev:=zbG w f l o;rw[if_neg (by omega),if_neg (by omega),if_neg (by omega)]at ev;rw[ev];generalize lastTo l l.length 1=p at*;have r1:=zfa vs ss w f (l.take p) (by rw[List.length_take];omega) h1;have r2:=zfa vs ss w f (l.drop p) (by rw[List.length_drop];omega) h2
    have er:runS w l s=(runS w (l.take p) s).bind (runS w (l.drop p)):=by
     rw[<-zfc,List.take_append_drop]
    rw[er,r1 s];cases (za8 w f (l.take p)).2 with
    |false=>rfl
    | true=>
      simp only[if_true,Option.bind_some,Bool.true_and];rw[r2];cases (za8 w f (l.drop p)).2 with
      |false=>rfl
      | true=>
        simp only[if_true,Option.bind_some,zgE,zcH];rw[if_neg (by omega),if_neg (by omega)]
/-! How large values are. -/
theorem zaY {n:Int} :zai n=true↔ -2147483647<=n/\n<=2147483647:=by
 unfold zai;rw[Bool.and_eq_true,decide_eq_true_eq,decide_eq_true_eq]
def Big (n:Int):Prop:= -4611686014132420609<=n/\n<=4611686014132420609
theorem zc7 (b:Bool):zai (trI b)=true:=by cases b<;>rfl
theorem zvU {a b:Int} (ha:zai a=true) (hb:zai b=true):Big (a*b):=by
 rw[zaY]at ha hb;have h1:a.natAbs<=2147483647:=by omega
 have h2:b.natAbs<=2147483647:=by omega
 have h3:(a*b).natAbs<=2147483647*2147483647:=by
  rw[Int.natAbs_mul];exact Nat.mul_le_mul h1 h2
 unfold Big;omega
theorem zky {a b:Int} (ha:zai a=true):zai (a.tdiv b)=true:=by
 rw[zaY]at ha |-
 have:(a.tdiv b).natAbs<=a.natAbs:=by
  rw[Int.natAbs_tdiv];exact Nat.div_le_self _ _
 omega
theorem zqN {a b:Int} (ha:zai a=true):zai (a.tmod b)=true:=by
 rw[zaY]at ha |-
 have:(a.tmod b).natAbs<=a.natAbs:=by
  rw[Int.natAbs_tmod];exact Nat.mod_le _ _
 omega
theorem znp (k:Int) {a b:Int} (ha:zai a=true) (hb:zai b=true):Big (binI k a b).1/\((binI k a b).2=true->zai (binI k a b).1=true):=by
 have big: ∀ {n:Int},zai n=true->Big n:=fun h=>by rw[zaY]at h;unfold Big;omega
 have both: ∀ {n:Int} {b:Bool},zai n=true->Big (n,b).1/\((n,b).2=true->zai (n,b).1=true):=fun h=>⟨big h,fun _=>h⟩;unfold binI;split
 ·exact⟨zvU ha hb,id⟩
 split
 ·split
  ·exact both rfl
  ·exact both (zky ha)
 split
 ·split
  ·exact both rfl
  ·exact both (zqN ha)
 have ha':=zaY.1 ha;have hb':=zaY.1 hb;split
 ·exact⟨by unfold Big;simp only;omega,id⟩
 split
 ·exact⟨by unfold Big;simp only;omega,id⟩
 split
 ·exact both (zc7 _)
 split
 ·exact both (zc7 _)
 ·exact both (zc7 _)
structure WoD.Ok (w:WoD):Prop where
 vars: ∀x∈w.vars,zai x=true
 data:zai w.data=true
theorem zhv {w:WoD} (hw:w.Ok) {o:OpD} {vs ss:Int} (h:numB o vs ss=true):zai (leafI w o)=true:=by
 unfold leafI;split
 ·rename_i h1;unfold numB at h;rw[if_pos h1,decide_eq_true_eq]at h;rw[zaY];omega
 split
 ·rw[List.getD_eq_getElem?_getD];cases e:w.vars[o.n.toNat]? with
  |none=>rfl
  |some x=>exact hw.vars x (List.mem_of_getElem? e)
 split
 ·exact zc7 _
 ·exact hw.data
theorem zqH (k:Int) {a:Int} (ha:zai a=true):zai (unI k a)=true:=by
 unfold unI;split
 ·exact zc7 _
 ·rw[zaY]at ha |-;omega
theorem zdf {w:WoD} (hw:w.Ok) {o:OpD} {vs ss:Int} (h:numB o vs ss=true) {s t:List Int} (hs: ∀x∈s,zai x=true) (e:zcH w o s=some t): ∀x∈t,zai x=true:=by
 unfold zcH at e;split at e
 ·cases e;intro x hx;rcases List.mem_cons.1 hx with rfl|hx
  ·exact zhv hw h
  ·exact hs x hx
 split at e
 ·split at e
  ·cases e;intro x hx;rcases List.mem_cons.1 hx with rfl|hx
   ·exact zqH _ (hs _ (by simp))
   ·exact hs x (by simp[hx])
  ·simp at e
 ·split at e
  ·split at e
   ·rename_i b a s hok;cases e;intro x hx;rcases List.mem_cons.1 hx with rfl|hx
    ·exact(znp _ (hs a (by simp)) (hs b (by simp))).2 hok
    ·exact hs x (by simp[hx])
   ·simp at e
  ·simp at e
theorem zgC {vs ss:Int} {w:WoD} (hw:w.Ok): ∀(f:Nat) (code:List OpD),code.length<=f->hgt vs ss code 0=some 1->Big (za8 w f code).1/\((za8 w f code).2=true->zai (za8 w f code).1=true)
 | 0,code,hf,h=>by
   obtain rfl:code=[]:=List.length_eq_zero_iff.1 (by omega);simp[hgt]at h
 | f+1,code,hf,h=>by
   have big: ∀ {n:Int},zai n=true->Big n:=fun h=>by rw[zaY]at h;unfold Big;omega
   obtain⟨l,o,rfl,hs,hl⟩:=zok h;have hlen:l.length<=f:=by simp at hf;omega
   have hnum:numB o vs ss=true:=by simp only[zbc,Bool.and_eq_true]at hs;exact hs.2
   rcases zrY (zd1 hs).1 with⟨e,hk⟩|⟨e,hk⟩|⟨e,hk⟩|⟨e,hk⟩
   ·rw[zbG,if_pos hk];exact⟨big (zhv hw hnum),fun _=>zhv hw hnum⟩
   ·rw[e]at hl;rw[zbG,if_neg (by omega),if_pos hk];obtain⟨h1,h2⟩:=zgC hw f l hlen hl;refine⟨by unfold Big at*;simp only;omega,fun h=> ?_⟩;have:=h2 h;rw[zaY]at this |-;simp only;omega
   ·rw[zbG,if_neg (by omega),if_neg (by omega),if_pos hk];exact⟨big (zc7 _),fun _=>zc7 _⟩
   ·rw[e]at hl;obtain⟨h1,h2,h3⟩:=zoe hl;rw[zbG,if_neg (by omega),if_neg (by omega),if_neg (by omega)];generalize lastTo l l.length 1=p at*;split
    ·rename_i hh;rw[Bool.and_eq_true]at hh;exact znp _ ((zgC hw f _ (by rw[List.length_take];omega) h1).2 hh.1) ((zgC hw f _ (by rw[List.length_drop];omega) h2).2 hh.2)
    ·exact⟨big rfl,fun _=>rfl⟩
def zj5 (w:WoD) (code:List OpD):Option Int:=if (za8 w code.length code).2 then some (za8 w code.length code).1 else none
theorem zox {vs ss:Int} (w:WoD) {code:List OpD} (h:hgt vs ss code 0=some 1):runS w code []=(zj5 w code).map fun n=>[n]:=by
 rw[zfa vs ss w code.length code (Nat.le_refl _) h];unfold zj5;split<;>rfl
theorem zsG {vs ss:Int} {w:WoD} (hw:w.Ok) {code:List OpD} (h:hgt vs ss code 0=some 1) {n:Int} (e:zj5 w code=some n):zai n=true:=by
 unfold zj5 at e;split at e
 ·rename_i hh;cases e;exact(zgC hw code.length code (Nat.le_refl _) h).2 hh
 ·simp at e
end Go.Proofs.YtbpmkofnfgdegaaGreatDoor
