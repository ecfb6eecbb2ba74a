/- What expressions come to: on a stack, and as trees: the same. No program is named here. -/
import Derived.Test.YtdpjgflalmnkdaaGreatDoorT6
set_option linter.unusedSimpArgs false
namespace Go.Proofs.YtdpjgflalmnkdaaGreatDoor
open Go.RowKit
structure WoD where
 vars:List Int
 data:Int
 act:List Bool
def trI (b:Bool):Int:=if b then 1 else 0
def leafI (w:WoD) (o:OpD):Int:=if o.kind=1 then o.n else if o.kind=2 then w.vars.getD o.n.toNat 0 else if o.kind=4 then trI (w.act.getD o.n.toNat false) else w.data
def unI (k a:Int):Int:=if k=6 then trI (a==0) else 0-a
def cmpB (k a b:Int):Bool:=if k=12 then decide (a<b) else if k=13 then decide (b<a) else if k=14 then decide (a<=b) else if k=15 then decide (b<=a) else if k=16 then a==b else a != b
def binI (k a b:Int):Int×Bool:=
 if k=7 then(a*b,aL (a*b))
 else if k=8 then(if b=0 then(0,false) else(a.tdiv b,true))
 else if k=9 then(if b=0 then(0,false) else(a.tmod b,true))
 else if k=10 then(a+b,aL (a+b))
 else if k=11 then(a-b,aL (a-b))
 else if k=18 then(trI (a != 0&&b != 0),true)
 else if k=19 then(trI (a != 0||b != 0),true)
 else(trI (cmpB k a b),true)
def dn (w:WoD) (o:OpD) (s:List Int):Option (List Int):=
 if o.kind<=4 then some (leafI w o::s)
 else if o.kind<=6 then(match s with
  |a::s=>some (unI o.kind a::s)
  |[]=>none)
 else match s with
  |b::a::s=>if (binI o.kind a b).2 then some ((binI o.kind a b).1::s) else none
  |_=>none
def mA (w:WoD):List OpD->List Int->Option (List Int)
 |[],s=>some s
 |o::l,s=>(dn w o s).bind (mA w l)
theorem kT (w:WoD): ∀(l m:List OpD) (s:List Int),mA w (l++m) s=(mA w l s).bind (mA w m)
 |[],_,_=>rfl
 | o::l,m,s=>by
   simp only[Oy,mA];cases dn w o s with
   |none=>rfl
   |some t=>exact kT w l m t
theorem nP (w:WoD) (o:OpD) (s:List Int):mA w [o] s=dn w o s:=by
 simp only[mA];cases dn w o s<;>rfl
def lastTo (l:List OpD):Nat->Int->Nat
 |0,_=>0
 | i+1,need=>match l[i]? with
   |some o=>if need-1+aF o.kind=0 then i else lastTo l i (need-1+aF o.kind)
   |none=>0
theorem vC (l:List OpD): ∀(i:Nat) (n:Int),lastTo l i n<=i
 |0,_=>Kc 0
 | i+1,n=>by
   unfold lastTo;split
   ·split
    ·omega
    ·have:=vC l i (n-1+aF ‹OpD›.kind);omega
   ·omega
theorem mK (l m:List OpD): ∀(i:Nat) (n:Int),i<=l.length->lastTo (l++m) i n=lastTo l i n
 |0,_,_=>rfl
 | i+1,n,h=>by
   unfold lastTo;rw[LH (by omega)];cases l[i]? with
   |none=>rfl
   |some o=>simp only[mK l m i _ (by omega)]
def treeF (w:WoD):Nat->List OpD->Int×Bool
 |0,_=>(0,false)
 | f+1,code=>match code[code.length-1]? with
   |none=>(0,false)
   | some o=>
     if o.kind<=4 then(leafI w o,true)
     else if o.kind=5 then(0-(treeF w f (code.take (code.length-1))).1,(treeF w f (code.take (code.length-1))).2)
     else if o.kind=6 then(trI ((treeF w f (code.take (code.length-1))).1==0),(treeF w f (code.take (code.length-1))).2)
     else if (treeF w f (code.take (lastTo code (code.length-1) 1))).2&&(treeF w f ((code.take (code.length-1)).drop (lastTo code (code.length-1) 1))).2 then
      binI o.kind (treeF w f (code.take (lastTo code (code.length-1) 1))).1 (treeF w f ((code.take (code.length-1)).drop (lastTo code (code.length-1) 1))).1
     else(0,false)
theorem xE (vs ss:Int): ∀(l m:List OpD) (n:Int),hgt vs ss (l++m) n=(hgt vs ss l n).bind (hgt vs ss m)
 |[],_,_=>rfl
 | o::l,m,n=>by
   simp only[Oy,hgt];split
   ·exact xE vs ss l m _
   ·rfl
theorem jC {vs ss n:Int} {o:OpD} (h:bo vs ss n o=true):0<=aF o.kind/\aF o.kind<=n:=by
 simp only[bo,K3,Kh]at h;exact⟨h.1.1,h.1.2⟩
theorem DN {vs ss:Int} : ∀ {l:List OpD} {n k:Int},hgt vs ss l n=some k->0<=n->0<=k/\(l≠[]->1<=k)
 | [],n,k,h,hn=>by
   simp only[hgt,K1]at h;exact⟨by omega,fun h=>absurd rfl h⟩
 | o::l,n,k,h,hn=>by
   simp only[hgt]at h;split at h
   ·rename_i hs
    have h1:aF o.kind<=n:=by
     have:=jC hs;exact this.2
    cases l with
    | nil=>
      simp only[hgt,K1]at h;exact⟨by omega,fun _=>by omega⟩
    | cons p l=>
      have:=DN h (by omega);exact⟨this.1,fun _=>this.2 (by simp)⟩
   ·simp at h
theorem uc {vs ss n m:Int} {o:OpD} (h:bo vs ss n o=true) (hm:aF o.kind<=m):bo vs ss m o=true:=by
 simp only[bo,K3,Kh]at h |-;exact⟨⟨h.1.1,hm⟩,h.2⟩
theorem zg {vs ss:Int} {l:List OpD} {m:Int} (hm:0<=m): ∀(i:Nat) (h:Int),i<=l.length->hgt vs ss (l.take i) 0=some h->m+1<=h->hgt vs ss (l.drop i) (h-m)=some 1->
 hgt vs ss (l.take (lastTo l i (h-m))) 0=some m/\hgt vs ss (l.drop (lastTo l i (h-m))) 0=some 1/\lastTo l i (h-m)<l.length
 | 0,h,_,e,hh,_=>by
   simp only[List.take_zero,hgt,K1]at e;omega
 | i+1,h,hi,e,hh,ed=>by
   obtain⟨o,ho,_⟩:=aQ (show i<l.length by omega);have he:l.take (i+1)=l.take i++[o]:=by rw[Ky,ho];rfl
   have hd:l.drop i=o::l.drop (i+1):=by
    rw[MP (by omega)]
    congr 1
    rw[KZ (by omega)]at ho;exact MF ho
   rw[he,xE]at e;obtain⟨h',e1,e2⟩:=Option.bind_eq_some_iff.1 e;simp only[hgt]at e2;split at e2
   ·rename_i hs;have hk:=jC hs;simp only[K1]at e2;unfold lastTo;rw[ho];simp only;have en:h-m-1+aF o.kind=h'-m:=by omega
    rw[en];by_cases h0:h'-m=0
    ·rw[K5 h0];refine⟨by rw[e1];congr 1;omega,?_,by omega⟩;rw[hd];simp only[hgt];rw[K5 (uc hs (by omega))];rw[<-ed]
     congr 1
     omega
    ·rw[K2 h0];refine zg hm i h' (by omega) e1 (by omega) ?_;rw[hd];simp only[hgt];rw[K5 (uc hs (by omega)), <-ed]
     congr 1
     omega
   ·simp at e2
theorem tH {vs ss:Int} {code:List OpD} (h:hgt vs ss code 0=some 1): ∃l o,code=l++[o]/\bo vs ss (aF o.kind) o=true/\hgt vs ss l 0=some (aF o.kind):=by
 rcases List.eq_nil_or_concat code with rfl|⟨l,o,rfl⟩
 ·simp[hgt]at h
 ·refine⟨l,o,by simp,?_⟩;rw[List.concat_eq_append,xE]at h;obtain⟨h',e1,e2⟩:=Option.bind_eq_some_iff.1 h;simp only[hgt]at e2;split at e2
  ·rename_i hs;simp only[K1]at e2;have:h'=aF o.kind:=by omega
   subst this;exact⟨hs,e1⟩
  ·simp at e2
theorem Iy {vs ss:Int} {l:List OpD} (h:hgt vs ss l 0=some 0):l=[]:=by
 cases l with
 |nil=>rfl
 |cons o l=>have:=(DN h (O5 0)).2 (by simp);omega
theorem Ip (l:List OpD) (o:OpD):(l++[o])[(l++[o]).length-1]? =some o:=by simp
theorem Ez (l:List OpD) (o:OpD):(l++[o]).take ((l++[o]).length-1)=l:=by simp
theorem DF {k:Int} (h:0<=aF k):(aF k=0/\k<=4)\/(aF k=1/\k=5)\/(aF k=1/\k=6)\/(aF k=2/\7<=k):=by
 unfold aF at h |-;split
 ·exact .inl ⟨rfl,by omega⟩
 ·split
  ·rename_i h1 h2;rcases h2 with h2|h2
   ·exact .inr (.inl ⟨rfl,h2⟩)
   ·exact .inr (.inr (.inl ⟨rfl,h2⟩))
  ·split
   ·exact .inr (.inr (.inr ⟨rfl,by omega⟩))
   ·rename_i h1 h2 h3;rw[K2 h1,K2 h2,K2 h3]at h;omega
theorem su {vs ss:Int} {l:List OpD} (h:hgt vs ss l 0=some 2):hgt vs ss (l.take (lastTo l l.length 1)) 0=some 1/\hgt vs ss (l.drop (lastTo l l.length 1)) 0=some 1/\lastTo l l.length 1<l.length:=by
 have:=zg (vs:=vs) (ss:=ss) (l:=l) (m:=1) (by omega) l.length 2 (Kc _) (by rw[Kt,h]) (by omega) (by rw[Ls];rfl);simpa using this
theorem cV (w:WoD) (f:Nat) (l:List OpD) (o:OpD):treeF w (f+1) (l++[o])=if o.kind<=4 then(leafI w o,true)
 else if o.kind=5 then(0-(treeF w f l).1,(treeF w f l).2)
 else if o.kind=6 then(trI ((treeF w f l).1==0),(treeF w f l).2)
 else if (treeF w f (l.take (lastTo l l.length 1))).2&&(treeF w f (l.drop (lastTo l l.length 1))).2 then
  binI o.kind (treeF w f (l.take (lastTo l l.length 1))).1 (treeF w f (l.drop (lastTo l l.length 1))).1
 else(0,false):=by
 have ea:lastTo (l++[o]) ((l++[o]).length-1) 1=lastTo l l.length 1:=by
  rw[show (l++[o]).length-1=l.length by simp];exact mK l [o] _ _ (Kc _)
 conv=>lhs;unfold treeF
 rw[Ip,Ez,ea,MM (vC l l.length 1)]
theorem kQ (vs ss:Int) (w:WoD): ∀(f:Nat) (code:List OpD),code.length<=f->hgt vs ss code 0=some 1-> ∀s,mA w code s=if (treeF w f code).2 then some ((treeF w f code).1::s) else none
 | 0,code,hf,h,s=>by
   obtain rfl:code=[]:=Lz.1 (by omega);simp[hgt]at h
 | f+1,code,hf,h,s=>by
   obtain⟨l,o,rfl,hs,hl⟩:=tH h;have hlen:l.length<=f:=by simp at hf;omega
   rw[kT];rcases DF (jC hs).1 with⟨e,hk⟩|⟨e,hk⟩|⟨e,hk⟩|⟨e,hk⟩
   ·rw[e]at hl;obtain rfl:=Iy hl;have ev:treeF w (f+1) ([]++[o])=(leafI w o,true):=by rw[cV,K5 hk]
    rw[ev];simp only[mA,L9,dn,K5 hk,L1]
   ·rw[e]at hl;have ev:treeF w (f+1) (l++[o])=(0-(treeF w f l).1,(treeF w f l).2):=by rw[cV,K2 (by omega),K5 hk]
    rw[ev,kQ vs ss w f l hlen hl s];cases (treeF w f l).2 with
    |false=>rfl
    | true=>
      simp only[L1,L9,nP,dn];rw[K2 (by omega),K5 (by omega)];simp only[unI];rw[K2 (by omega)]
   ·rw[e]at hl;have ev:treeF w (f+1) (l++[o])=(trI ((treeF w f l).1==0),(treeF w f l).2):=by rw[cV,K2 (by omega),K2 (by omega),K5 hk]
    rw[ev,kQ vs ss w f l hlen hl s];cases (treeF w f l).2 with
    |false=>rfl
    | true=>
      simp only[L1,L9,nP,dn];rw[K2 (by omega),K5 (by omega)];simp only[unI];rw[K5 hk]
   ·rw[e]at hl;obtain⟨h1,h2,h3⟩:=su hl;have ev:=cV w f l o;rw[K2 (by omega),K2 (by omega),K2 (by omega)]at ev;rw[ev];generalize lastTo l l.length 1=p at*;have r1:=kQ vs ss w f (l.take p) (by rw[Kg];omega) h1;have r2:=kQ vs ss w f (l.drop p) (by rw[ME];omega) h2
    have er:mA w l s=(mA w (l.take p) s).bind (mA w (l.drop p)):=by
     rw[<-kT,Mh]
    rw[er,r1 s];cases (treeF w f (l.take p)).2 with
    |false=>rfl
    | true=>
      simp only[L1,L9,LN];rw[r2];cases (treeF w f (l.drop p)).2 with
      |false=>rfl
      | true=>
        simp only[L1,L9,nP,dn];rw[K2 (by omega),K2 (by omega)]
/-! How large values are. -/
theorem bm {n:Int} :aL n=true↔ -2147483647<=n/\n<=2147483647:=by
 unfold aL;rw[K3,Kh,Kh]
def Big (n:Int):Prop:= -4611686014132420609<=n/\n<=4611686014132420609
theorem gF (b:Bool):aL (trI b)=true:=by cases b<;>rfl
theorem Cu {a b:Int} (ha:aL a=true) (hb:aL b=true):Big (a*b):=by
 rw[bm]at ha hb;have h1:a.natAbs<=2147483647:=by omega
 have h2:b.natAbs<=2147483647:=by omega
 have h3:(a*b).natAbs<=2147483647*2147483647:=by
  rw[Int.natAbs_mul];exact Nat.mul_le_mul h1 h2
 unfold Big;omega
theorem kl {a b:Int} (ha:aL a=true):aL (a.tdiv b)=true:=by
 rw[bm]at ha |-
 have:(a.tdiv b).natAbs<=a.natAbs:=by
  rw[Int.natAbs_tdiv];exact Nat.div_le_self _ _
 omega
theorem ua {a b:Int} (ha:aL a=true):aL (a.tmod b)=true:=by
 rw[bm]at ha |-
 have:(a.tmod b).natAbs<=a.natAbs:=by
  rw[Int.natAbs_tmod];exact Nat.mod_le _ _
 omega
theorem sM (k:Int) {a b:Int} (ha:aL a=true) (hb:aL b=true):Big (binI k a b).1/\((binI k a b).2=true->aL (binI k a b).1=true):=by
 have big: ∀ {n:Int},aL n=true->Big n:=fun h=>by rw[bm]at h;unfold Big;omega
 have both: ∀ {n:Int} {b:Bool},aL n=true->Big (n,b).1/\((n,b).2=true->aL (n,b).1=true):=fun h=>⟨big h,fun _=>h⟩;unfold binI;split
 ·exact⟨Cu ha hb,id⟩
 split
 ·split
  ·exact both rfl
  ·exact both (kl ha)
 split
 ·split
  ·exact both rfl
  ·exact both (ua ha)
 have ha':=bm.1 ha;have hb':=bm.1 hb;split
 ·exact⟨by unfold Big;simp only;omega,id⟩
 split
 ·exact⟨by unfold Big;simp only;omega,id⟩
 split
 ·exact both (gF _)
 split
 ·exact both (gF _)
 ·exact both (gF _)
structure WoD.Ok (w:WoD):Prop where
 vars: ∀x∈w.vars,aL x=true
 data:aL w.data=true
theorem om {w:WoD} (hw:w.Ok) {o:OpD} {vs ss:Int} (h:mF o vs ss=true):aL (leafI w o)=true:=by
 unfold leafI;split
 ·rename_i h1;unfold mF at h;rw[K5 h1,Kh]at h;rw[bm];omega
 split
 ·rw[Kv];cases e:w.vars[o.n.toNat]? with
  |none=>rfl
  |some x=>exact hw.vars x (K4 e)
 split
 ·exact gF _
 ·exact hw.data
theorem Cd (k:Int) {a:Int} (ha:aL a=true):aL (unI k a)=true:=by
 unfold unI;split
 ·exact gF _
 ·rw[bm]at ha |-;omega
theorem gW {w:WoD} (hw:w.Ok) {o:OpD} {vs ss:Int} (h:mF o vs ss=true) {s t:List Int} (hs: ∀x∈s,aL x=true) (e:dn w o s=some t): ∀x∈t,aL x=true:=by
 unfold dn at e;split at e
 ·cases e;intro x hx;rcases Kr.1 hx with rfl|hx
  ·exact om hw h
  ·exact hs x hx
 split at e
 ·split at e
  ·cases e;intro x hx;rcases Kr.1 hx with rfl|hx
   ·exact Cd _ (hs _ (by simp))
   ·exact hs x (by simp[hx])
  ·simp at e
 ·split at e
  ·split at e
   ·rename_i b a s hok;cases e;intro x hx;rcases Kr.1 hx with rfl|hx
    ·exact(sM _ (hs a (by simp)) (hs b (by simp))).2 hok
    ·exact hs x (by simp[hx])
   ·simp at e
  ·simp at e
theorem iF {vs ss:Int} {w:WoD} (hw:w.Ok): ∀(f:Nat) (code:List OpD),code.length<=f->hgt vs ss code 0=some 1->Big (treeF w f code).1/\((treeF w f code).2=true->aL (treeF w f code).1=true)
 | 0,code,hf,h=>by
   obtain rfl:code=[]:=Lz.1 (by omega);simp[hgt]at h
 | f+1,code,hf,h=>by
   have big: ∀ {n:Int},aL n=true->Big n:=fun h=>by rw[bm]at h;unfold Big;omega
   obtain⟨l,o,rfl,hs,hl⟩:=tH h;have hlen:l.length<=f:=by simp at hf;omega
   have hnum:mF o vs ss=true:=by simp only[bo,K3]at hs;exact hs.2
   rcases DF (jC hs).1 with⟨e,hk⟩|⟨e,hk⟩|⟨e,hk⟩|⟨e,hk⟩
   ·rw[cV,K5 hk];exact⟨big (om hw hnum),fun _=>om hw hnum⟩
   ·rw[e]at hl;rw[cV,K2 (by omega),K5 hk];obtain⟨h1,h2⟩:=iF hw f l hlen hl;refine⟨by unfold Big at*;simp only;omega,fun h=> ?_⟩;have:=h2 h;rw[bm]at this |-;simp only;omega
   ·rw[cV,K2 (by omega),K2 (by omega),K5 hk];exact⟨big (gF _),fun _=>gF _⟩
   ·rw[e]at hl;obtain⟨h1,h2,h3⟩:=su hl;rw[cV,K2 (by omega),K2 (by omega),K2 (by omega)];generalize lastTo l l.length 1=p at*;split
    ·rename_i hh;rw[K3]at hh;exact sM _ ((iF hw f _ (by rw[Kg];omega) h1).2 hh.1) ((iF hw f _ (by rw[ME];omega) h2).2 hh.2)
    ·exact⟨big rfl,fun _=>rfl⟩
def lD (w:WoD) (code:List OpD):Option Int:=if (treeF w code.length code).2 then some (treeF w code.length code).1 else none
theorem zt {vs ss:Int} (w:WoD) {code:List OpD} (h:hgt vs ss code 0=some 1):mA w code []=(lD w code).map fun n=>[n]:=by
 rw[kQ vs ss w code.length code (Kc _) h];unfold lD;split<;>rfl
theorem F7 {vs ss:Int} {w:WoD} (hw:w.Ok) {code:List OpD} (h:hgt vs ss code 0=some 1) {n:Int} (e:lD w code=some n):aL n=true:=by
 unfold lD at e;split at e
 ·rename_i hh;cases e;exact(iF hw code.length code (Kc _) h).2 hh
 ·simp at e
end Go.Proofs.YtdpjgflalmnkdaaGreatDoor
