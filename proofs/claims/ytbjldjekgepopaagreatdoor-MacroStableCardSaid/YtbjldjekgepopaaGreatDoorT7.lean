/- What expressions come to: on a stack, and as trees: the same. No program is named here. -/
import Derived.Test.YtbjldjekgepopaaGreatDoorT6
set_option linter.unusedSimpArgs false
namespace Go.Proofs.YtbjldjekgepopaaGreatDoor
open Go.RowKit
structure WoD where
 vars:List Int
 data:Int
 act:List Bool
def trI (b:Bool):Int:=if b then 1 else 0
def leafI (w:WoD) (o:OpD):Int:=if o.kind=1 then o.n else if o.kind=2 then w.vars.getD o.n.toNat 0 else if o.kind=4 then trI (w.act.getD o.n.toNat false) else w.data
def unI (k a:Int):Int:=if k=6 then trI (a==0) else 0-a
def cmpB (k a b:Int):Bool:=if k=12 then decide (a<b) else if k=13 then decide (b<a) else if k=14 then decide (a<=b) else if k=15 then decide (b<=a) else if k=16 then a==b else a != b
def binI (k a b:Int):Int×Bool:=
 if k=7 then(a*b,aJ (a*b))
 else if k=8 then(if b=0 then(0,false) else(a.tdiv b,true))
 else if k=9 then(if b=0 then(0,false) else(a.tmod b,true))
 else if k=10 then(a+b,aJ (a+b))
 else if k=11 then(a-b,aJ (a-b))
 else if k=18 then(trI (a != 0&&b != 0),true)
 else if k=19 then(trI (a != 0||b != 0),true)
 else(trI (cmpB k a b),true)
def d6 (w:WoD) (o:OpD) (s:List Int):Option (List Int):=
 if o.kind<=4 then some (leafI w o::s)
 else if o.kind<=6 then(match s with
  |a::s=>some (unI o.kind a::s)
  |[]=>none)
 else match s with
  |b::a::s=>if (binI o.kind a b).2 then some ((binI o.kind a b).1::s) else none
  |_=>none
def lc (w:WoD):List OpD->List Int->Option (List Int)
 |[],s=>some s
 |o::l,s=>(d6 w o s).bind (lc w l)
theorem kJ (w:WoD): ∀(l m:List OpD) (s:List Int),lc w (l++m) s=(lc w l s).bind (lc w m)
 |[],_,_=>rfl
 | o::l,m,s=>by
   simp only[Oq,lc];cases d6 w o s with
   |none=>rfl
   |some t=>exact kJ w l m t
theorem nA (w:WoD) (o:OpD) (s:List Int):lc w [o] s=d6 w o s:=by
 simp only[lc];cases d6 w o s<;>rfl
def lastTo (l:List OpD):Nat->Int->Nat
 |0,_=>0
 | i+1,need=>match l[i]? with
   |some o=>if need-1+aF o.kind=0 then i else lastTo l i (need-1+aF o.kind)
   |none=>0
theorem uq (l:List OpD): ∀(i:Nat) (n:Int),lastTo l i n<=i
 |0,_=>K8 0
 | i+1,n=>by
   unfold lastTo;split
   ·split
    ·omega
    ·have:=uq l i (n-1+aF ‹OpD›.kind);omega
   ·omega
theorem rV (l m:List OpD): ∀(i:Nat) (n:Int),i<=l.length->lastTo (l++m) i n=lastTo l i n
 |0,_,_=>rfl
 | i+1,n,h=>by
   unfold lastTo;rw[LB (by omega)];cases l[i]? with
   |none=>rfl
   |some o=>simp only[rV l m i _ (by omega)]
def bO (w:WoD):Nat->List OpD->Int×Bool
 |0,_=>(0,false)
 | f+1,code=>match code[code.length-1]? with
   |none=>(0,false)
   | some o=>
     if o.kind<=4 then(leafI w o,true)
     else if o.kind=5 then(0-(bO w f (code.take (code.length-1))).1,(bO w f (code.take (code.length-1))).2)
     else if o.kind=6 then(trI ((bO w f (code.take (code.length-1))).1==0),(bO w f (code.take (code.length-1))).2)
     else if (bO w f (code.take (lastTo code (code.length-1) 1))).2&&(bO w f ((code.take (code.length-1)).drop (lastTo code (code.length-1) 1))).2 then
      binI o.kind (bO w f (code.take (lastTo code (code.length-1) 1))).1 (bO w f ((code.take (code.length-1)).drop (lastTo code (code.length-1) 1))).1
     else(0,false)
theorem wz (vs ss:Int): ∀(l m:List OpD) (n:Int),hgt vs ss (l++m) n=(hgt vs ss l n).bind (hgt vs ss m)
 |[],_,_=>rfl
 | o::l,m,n=>by
   simp only[Oq,hgt];split
   ·exact wz vs ss l m _
   ·rfl
theorem ix {vs ss n:Int} {o:OpD} (h:bh vs ss n o=true):0<=aF o.kind/\aF o.kind<=n:=by
 simp only[bh,KY,K6]at h;exact⟨h.1.1,h.1.2⟩
theorem DT {vs ss:Int} : ∀ {l:List OpD} {n k:Int},hgt vs ss l n=some k->0<=n->0<=k/\(l≠[]->1<=k)
 | [],n,k,h,hn=>by
   simp only[hgt,KX]at h;exact⟨by omega,fun h=>absurd rfl h⟩
 | o::l,n,k,h,hn=>by
   simp only[hgt]at h;split at h
   ·rename_i hs
    have h1:aF o.kind<=n:=by
     have:=ix hs;exact this.2
    cases l with
    | nil=>
      simp only[hgt,KX]at h;exact⟨by omega,fun _=>by omega⟩
    | cons p l=>
      have:=DT h (by omega);exact⟨this.1,fun _=>this.2 (by simp)⟩
   ·simp at h
theorem uV {vs ss n m:Int} {o:OpD} (h:bh vs ss n o=true) (hm:aF o.kind<=m):bh vs ss m o=true:=by
 simp only[bh,KY,K6]at h |-;exact⟨⟨h.1.1,hm⟩,h.2⟩
theorem zg {vs ss:Int} {l:List OpD} {m:Int} (hm:0<=m): ∀(i:Nat) (h:Int),i<=l.length->hgt vs ss (l.take i) 0=some h->m+1<=h->hgt vs ss (l.drop i) (h-m)=some 1->
 hgt vs ss (l.take (lastTo l i (h-m))) 0=some m/\hgt vs ss (l.drop (lastTo l i (h-m))) 0=some 1/\lastTo l i (h-m)<l.length
 | 0,h,_,e,hh,_=>by
   simp only[List.take_zero,hgt,KX]at e;omega
 | i+1,h,hi,e,hh,ed=>by
   obtain⟨o,ho,_⟩:=aQ (show i<l.length by omega);have he:l.take (i+1)=l.take i++[o]:=by rw[Kv,ho];rfl
   have hd:l.drop i=o::l.drop (i+1):=by
    rw[M6 (by omega)]
    congr 1
    rw[KV (by omega)]at ho;exact Lo ho
   rw[he,wz]at e;obtain⟨h',e1,e2⟩:=Option.bind_eq_some_iff.1 e;simp only[hgt]at e2;split at e2
   ·rename_i hs;have hk:=ix hs;simp only[KX]at e2;unfold lastTo;rw[ho];simp only;have en:h-m-1+aF o.kind=h'-m:=by omega
    rw[en];by_cases h0:h'-m=0
    ·rw[K0 h0];refine⟨by rw[e1];congr 1;omega,?_,by omega⟩;rw[hd];simp only[hgt];rw[K0 (uV hs (by omega))];rw[<-ed]
     congr 1
     omega
    ·rw[KZ h0];refine zg hm i h' (by omega) e1 (by omega) ?_;rw[hd];simp only[hgt];rw[K0 (uV hs (by omega)), <-ed]
     congr 1
     omega
   ·simp at e2
theorem zj {vs ss:Int} {code:List OpD} (h:hgt vs ss code 0=some 1): ∃l o,code=l++[o]/\bh vs ss (aF o.kind) o=true/\hgt vs ss l 0=some (aF o.kind):=by
 rcases List.eq_nil_or_concat code with rfl|⟨l,o,rfl⟩
 ·simp[hgt]at h
 ·refine⟨l,o,by simp,?_⟩;rw[List.concat_eq_append,wz]at h;obtain⟨h',e1,e2⟩:=Option.bind_eq_some_iff.1 h;simp only[hgt]at e2;split at e2
  ·rename_i hs;simp only[KX]at e2;have:h'=aF o.kind:=by omega
   subst this;exact⟨hs,e1⟩
  ·simp at e2
theorem Ii {vs ss:Int} {l:List OpD} (h:hgt vs ss l 0=some 0):l=[]:=by
 cases l with
 |nil=>rfl
 |cons o l=>have:=(DT h (OV 0)).2 (by simp);omega
theorem I9 (l:List OpD) (o:OpD):(l++[o])[(l++[o]).length-1]? =some o:=by simp
theorem Ey (l:List OpD) (o:OpD):(l++[o]).take ((l++[o]).length-1)=l:=by simp
theorem DK {k:Int} (h:0<=aF k):(aF k=0/\k<=4)\/(aF k=1/\k=5)\/(aF k=1/\k=6)\/(aF k=2/\7<=k):=by
 unfold aF at h |-;split
 ·exact .inl ⟨rfl,by omega⟩
 ·split
  ·rename_i h1 h2;rcases h2 with h2|h2
   ·exact .inr (.inl ⟨rfl,h2⟩)
   ·exact .inr (.inr (.inl ⟨rfl,h2⟩))
  ·split
   ·exact .inr (.inr (.inr ⟨rfl,by omega⟩))
   ·rename_i h1 h2 h3;rw[KZ h1,KZ h2,KZ h3]at h;omega
theorem zf {vs ss:Int} {l:List OpD} (h:hgt vs ss l 0=some 2):hgt vs ss (l.take (lastTo l l.length 1)) 0=some 1/\hgt vs ss (l.drop (lastTo l l.length 1)) 0=some 1/\lastTo l l.length 1<l.length:=by
 have:=zg (vs:=vs) (ss:=ss) (l:=l) (m:=1) (by omega) l.length 2 (K8 _) (by rw[Kp,h]) (by omega) (by rw[MP];rfl);simpa using this
theorem cw (w:WoD) (f:Nat) (l:List OpD) (o:OpD):bO w (f+1) (l++[o])=if o.kind<=4 then(leafI w o,true)
 else if o.kind=5 then(0-(bO w f l).1,(bO w f l).2)
 else if o.kind=6 then(trI ((bO w f l).1==0),(bO w f l).2)
 else if (bO w f (l.take (lastTo l l.length 1))).2&&(bO w f (l.drop (lastTo l l.length 1))).2 then
  binI o.kind (bO w f (l.take (lastTo l l.length 1))).1 (bO w f (l.drop (lastTo l l.length 1))).1
 else(0,false):=by
 have ea:lastTo (l++[o]) ((l++[o]).length-1) 1=lastTo l l.length 1:=by
  rw[show (l++[o]).length-1=l.length by simp];exact rV l [o] _ _ (K8 _)
 conv=>lhs;unfold bO
 rw[I9,Ey,ea,MU (uq l l.length 1)]
theorem kG (vs ss:Int) (w:WoD): ∀(f:Nat) (code:List OpD),code.length<=f->hgt vs ss code 0=some 1-> ∀s,lc w code s=if (bO w f code).2 then some ((bO w f code).1::s) else none
 | 0,code,hf,h,s=>by
   obtain rfl:code=[]:=M0.1 (by omega);simp[hgt]at h
 | f+1,code,hf,h,s=>by
   obtain⟨l,o,rfl,hs,hl⟩:=zj h;have hlen:l.length<=f:=by simp at hf;omega
   rw[kJ];rcases DK (ix hs).1 with⟨e,hk⟩|⟨e,hk⟩|⟨e,hk⟩|⟨e,hk⟩
   ·rw[e]at hl;obtain rfl:=Ii hl;have ev:bO w (f+1) ([]++[o])=(leafI w o,true):=by rw[cw,K0 hk]
    rw[ev];simp only[lc,LX,d6,K0 hk,L4]
   ·rw[e]at hl;have ev:bO w (f+1) (l++[o])=(0-(bO w f l).1,(bO w f l).2):=by rw[cw,KZ (by omega),K0 hk]
    rw[ev,kG vs ss w f l hlen hl s];cases (bO w f l).2 with
    |false=>rfl
    | true=>
      simp only[L4,LX,nA,d6];rw[KZ (by omega),K0 (by omega)];simp only[unI];rw[KZ (by omega)]
   ·rw[e]at hl;have ev:bO w (f+1) (l++[o])=(trI ((bO w f l).1==0),(bO w f l).2):=by rw[cw,KZ (by omega),KZ (by omega),K0 hk]
    rw[ev,kG vs ss w f l hlen hl s];cases (bO w f l).2 with
    |false=>rfl
    | true=>
      simp only[L4,LX,nA,d6];rw[KZ (by omega),K0 (by omega)];simp only[unI];rw[K0 hk]
   ·rw[e]at hl;obtain⟨h1,h2,h3⟩:=zf hl;have ev:=cw w f l o;rw[KZ (by omega),KZ (by omega),KZ (by omega)]at ev;rw[ev];generalize lastTo l l.length 1=p at*;have r1:=kG vs ss w f (l.take p) (by rw[Kf];omega) h1;have r2:=kG vs ss w f (l.drop p) (by rw[M2];omega) h2
    have er:lc w l s=(lc w (l.take p) s).bind (lc w (l.drop p)):=by
     rw[<-kJ,Mq]
    rw[er,r1 s];cases (bO w f (l.take p)).2 with
    |false=>rfl
    | true=>
      simp only[L4,LX,LK];rw[r2];cases (bO w f (l.drop p)).2 with
      |false=>rfl
      | true=>
        simp only[L4,LX,nA,d6];rw[KZ (by omega),KZ (by omega)]
/-! How large values are. -/
theorem cA {n:Int} :aJ n=true↔ -2147483647<=n/\n<=2147483647:=by
 unfold aJ;rw[KY,K6,K6]
def Big (n:Int):Prop:= -4611686014132420609<=n/\n<=4611686014132420609
theorem fY (b:Bool):aJ (trI b)=true:=by cases b<;>rfl
theorem I3 {a b:Int} (ha:aJ a=true) (hb:aJ b=true):Big (a*b):=by
 rw[cA]at ha hb;have h1:a.natAbs<=2147483647:=by omega
 have h2:b.natAbs<=2147483647:=by omega
 have h3:(a*b).natAbs<=2147483647*2147483647:=by
  rw[Int.natAbs_mul];exact Nat.mul_le_mul h1 h2
 unfold Big;omega
theorem uT {a b:Int} (ha:aJ a=true):aJ (a.tdiv b)=true:=by
 rw[cA]at ha |-
 have:(a.tdiv b).natAbs<=a.natAbs:=by
  rw[Int.natAbs_tdiv];exact Nat.div_le_self _ _
 omega
theorem EG {a b:Int} (ha:aJ a=true):aJ (a.tmod b)=true:=by
 rw[cA]at ha |-
 have:(a.tmod b).natAbs<=a.natAbs:=by
  rw[Int.natAbs_tmod];exact Nat.mod_le _ _
 omega
theorem xN (k:Int) {a b:Int} (ha:aJ a=true) (hb:aJ b=true):Big (binI k a b).1/\((binI k a b).2=true->aJ (binI k a b).1=true):=by
 have big: ∀ {n:Int},aJ n=true->Big n:=fun h=>by rw[cA]at h;unfold Big;omega
 have both: ∀ {n:Int} {b:Bool},aJ n=true->Big (n,b).1/\((n,b).2=true->aJ (n,b).1=true):=fun h=>⟨big h,fun _=>h⟩;unfold binI;split
 ·exact⟨I3 ha hb,id⟩
 split
 ·split
  ·exact both rfl
  ·exact both (uT ha)
 split
 ·split
  ·exact both rfl
  ·exact both (EG ha)
 have ha':=cA.1 ha;have hb':=cA.1 hb;split
 ·exact⟨by unfold Big;simp only;omega,id⟩
 split
 ·exact⟨by unfold Big;simp only;omega,id⟩
 split
 ·exact both (fY _)
 split
 ·exact both (fY _)
 ·exact both (fY _)
structure WoD.Ok (w:WoD):Prop where
 vars: ∀x∈w.vars,aJ x=true
 data:aJ w.data=true
theorem o6 {w:WoD} (hw:w.Ok) {o:OpD} {vs ss:Int} (h:mQ o vs ss=true):aJ (leafI w o)=true:=by
 unfold leafI;split
 ·rename_i h1;unfold mQ at h;rw[K0 h1,K6]at h;rw[cA];omega
 split
 ·rw[Ko];cases e:w.vars[o.n.toNat]? with
  |none=>rfl
  |some x=>exact hw.vars x (K1 e)
 split
 ·exact fY _
 ·exact hw.data
theorem Cn (k:Int) {a:Int} (ha:aJ a=true):aJ (unI k a)=true:=by
 unfold unI;split
 ·exact fY _
 ·rw[cA]at ha |-;omega
theorem gG {w:WoD} (hw:w.Ok) {o:OpD} {vs ss:Int} (h:mQ o vs ss=true) {s t:List Int} (hs: ∀x∈s,aJ x=true) (e:d6 w o s=some t): ∀x∈t,aJ x=true:=by
 unfold d6 at e;split at e
 ·cases e;intro x hx;rcases Kk.1 hx with rfl|hx
  ·exact o6 hw h
  ·exact hs x hx
 split at e
 ·split at e
  ·cases e;intro x hx;rcases Kk.1 hx with rfl|hx
   ·exact Cn _ (hs _ (by simp))
   ·exact hs x (by simp[hx])
  ·simp at e
 ·split at e
  ·split at e
   ·rename_i b a s hok;cases e;intro x hx;rcases Kk.1 hx with rfl|hx
    ·exact(xN _ (hs a (by simp)) (hs b (by simp))).2 hok
    ·exact hs x (by simp[hx])
   ·simp at e
  ·simp at e
theorem mq {vs ss:Int} {w:WoD} (hw:w.Ok): ∀(f:Nat) (code:List OpD),code.length<=f->hgt vs ss code 0=some 1->Big (bO w f code).1/\((bO w f code).2=true->aJ (bO w f code).1=true)
 | 0,code,hf,h=>by
   obtain rfl:code=[]:=M0.1 (by omega);simp[hgt]at h
 | f+1,code,hf,h=>by
   have big: ∀ {n:Int},aJ n=true->Big n:=fun h=>by rw[cA]at h;unfold Big;omega
   obtain⟨l,o,rfl,hs,hl⟩:=zj h;have hlen:l.length<=f:=by simp at hf;omega
   have hnum:mQ o vs ss=true:=by simp only[bh,KY]at hs;exact hs.2
   rcases DK (ix hs).1 with⟨e,hk⟩|⟨e,hk⟩|⟨e,hk⟩|⟨e,hk⟩
   ·rw[cw,K0 hk];exact⟨big (o6 hw hnum),fun _=>o6 hw hnum⟩
   ·rw[e]at hl;rw[cw,KZ (by omega),K0 hk];obtain⟨h1,h2⟩:=mq hw f l hlen hl;refine⟨by unfold Big at*;simp only;omega,fun h=> ?_⟩;have:=h2 h;rw[cA]at this |-;simp only;omega
   ·rw[cw,KZ (by omega),KZ (by omega),K0 hk];exact⟨big (fY _),fun _=>fY _⟩
   ·rw[e]at hl;obtain⟨h1,h2,h3⟩:=zf hl;rw[cw,KZ (by omega),KZ (by omega),KZ (by omega)];generalize lastTo l l.length 1=p at*;split
    ·rename_i hh;rw[KY]at hh;exact xN _ ((mq hw f _ (by rw[Kf];omega) h1).2 hh.1) ((mq hw f _ (by rw[M2];omega) h2).2 hh.2)
    ·exact⟨big rfl,fun _=>rfl⟩
def pt (w:WoD) (code:List OpD):Option Int:=if (bO w code.length code).2 then some (bO w code.length code).1 else none
theorem zw {vs ss:Int} (w:WoD) {code:List OpD} (h:hgt vs ss code 0=some 1):lc w code []=(pt w code).map fun n=>[n]:=by
 rw[kG vs ss w code.length code (K8 _) h];unfold pt;split<;>rfl
theorem FY {vs ss:Int} {w:WoD} (hw:w.Ok) {code:List OpD} (h:hgt vs ss code 0=some 1) {n:Int} (e:pt w code=some n):aJ n=true:=by
 unfold pt at e;split at e
 ·rename_i hh;cases e;exact(mq hw code.length code (K8 _) h).2 hh
 ·simp at e
end Go.Proofs.YtbjldjekgepopaaGreatDoor
