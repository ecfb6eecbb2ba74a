/- Errors in errors; checks of any states. -/
import Derived.Test.YtdpjgflalmnkdaaGreatDoorT16
set_option maxRecDepth 100000
set_option maxHeartbeats 8000000
set_option linter.unusedSimpArgs false
namespace Go.Proofs.YtdpjgflalmnkdaaGreatDoor
open Go.Proofs.Tryz
open Go.RowKit
section
theorem sG (env:Env):Con prog env 70 [nilS] (.own 3 1 []):=(dJ env [] (by simp)).args (Strs.cons (Str.nil 1) Strs.nil)
theorem bL (env:Env) (c:ChD):Con prog env 62 [aJ c] (aP c):=by
 refine qf func62 call62 ntmps62 results62 ?_;have F:=ai3 aJ.eq_1 tabCells.eq_1 aP.eq_1;repeat refine st ?_
 exact aR
theorem ao (env:Env) (c:ChD) (hs:Small c):Con prog env 22 [aJ c] (.agg (aA c)):=by
 have f0:=oe env c hs;unfold aA at f0;refine qf func22 call22 ntmps22 results22 ?_;have F:=ai aJ.eq_1 tabCells.eq_1;repeat refine tz1 f0 ?_
 (refine aM ?_;show (ae _ _ _).run _=some _;simp only[go_sem,F])
 rfl
theorem wF (env:Env) (c:ChD) (hc:c.trans.length<=4096) (s:List UInt8):Con prog env 52 [aJ c,Sg s] (I (evI c s)):=v7 env c (by omega) _ _ s
def I3 (c:ChD) (i e:Int):List Nat:=if e<0 then [] else atL c i e
theorem Dl (c:ChD) (i e:Int):(atL c i e).length<=c.trans.length:=Cl ..
theorem AP {c:ChD} {i e:Int} {q:Nat} (hq:qN (i,e) (keysTo c c.trans.length) 0=some q):(ej c)[q]? =some [.agg [I i,I e], .seq 1 ((atL c i e).map aB)]:=by
 have:=(ox hq).2;unfold ej;rw[K9,Mq]at*;rw[this];rfl
theorem EF (env:Env) (c:ChD) (hc:c.trans.length<=4096) (i e:Int):Con prog env 128 [aJ c,I i,I e] (.own 3 1 ((I3 c i e).map aB)):=by
 have hl:=Dl c i e;have hm:=Cw c i e;unfold I3;by_cases h:e<0
 ·rw[K5 h];refine qw func128 call128 ntmps128 results128 ?_;have F:=ai3 aJ.eq_1 tabCells.eq_1 h;repeat refine st ?_
  (refine aM ?_;refine⟨_,(by show (ae _ _ _).run _=some _;simp only[go_sem,F];rfl),?_⟩)
  exact fo.own_nil _ _ (by decide)
 ·rw[K2 h];cases hq:qN (i,e) (keysTo c c.trans.length) 0 with
  | none=>
    rw[hq]at hm;have f0:=sG env;rw[show atL c i e=[] from sd (lB hq)];refine qf func128 call128 ntmps128 results128 ?_;have F:=ai4 aJ.eq_1 tabCells.eq_1 h hm;repeat refine tz1 f0 ?_
    exact aR
  | some q=>
    rw[hq]at hm;have hk:=AP hq;have f0:=dJ env ((atL c i e).map aB) (by rw[Ko];omega);refine qf func128 call128 ntmps128 results128 ?_;have F:=ai5 aJ.eq_1 tabCells.eq_1 h hm hk;repeat refine tz1 f0 ?_
    exact aR
theorem xx (env:Env) (c:ChD) (hc:c.trans.length<=4096) (i:Int):Con prog env 127 [aJ c,I i] (.own 3 1 ((atL c i (-1)).map aB)):=by
 have hl:=Dl c i (-1);have hm:=Cw c i (-1);cases hq:qN (i, -1) (keysTo c c.trans.length) 0 with
 | none=>
   rw[hq]at hm;have f0:=sG env;rw[show atL c i (-1)=[] from sd (lB hq)];refine qf func127 call127 ntmps127 results127 ?_;have F:=ai3 aJ.eq_1 tabCells.eq_1 hm;repeat refine tz1 f0 ?_
   exact aR
 | some q=>
   rw[hq]at hm;have hk:=AP hq;have f0:=dJ env ((atL c i (-1)).map aB) (by rw[Ko];omega);refine qf func127 call127 ntmps127 results127 ?_;have F:=ai4 aJ.eq_1 tabCells.eq_1 hm hk;repeat refine tz1 f0 ?_
   exact aR
theorem km (env:Env) (c:ChD) (i:Int):Con prog env 115 [aJ c,I i] (B (inZ c i)):=by
 unfold inZ;by_cases h0:0<=i
 ·by_cases h1:i< (c.states.length:Int)
  ·refine qf func115 call115 ntmps115 results115 ?_;have F:=ai4 aJ.eq_1 tabCells.eq_1 h0 h1;repeat refine st ?_
   exact aR
  ·refine qf func115 call115 ntmps115 results115 ?_;have F:=ai4 aJ.eq_1 tabCells.eq_1 h0 h1;repeat refine st ?_
   exact aR
 ·refine qf func115 call115 ntmps115 results115 ?_;have F:=ai3 aJ.eq_1 tabCells.eq_1 h0;repeat refine st ?_
  exact aR
def tbegL (c:ChD) (i:Int):List Nat:=if inZ c (if i= -1 then c.initial else i)=true then sbL c (if i= -1 then c.initial else i).toNat else []
theorem wG (env:Env) (c:ChD) (h:Full c) (i:Int):Con prog env 57 [aJ c,I i] (.own 3 1 ((tbegL c i).map aB)):=by
 have hlen:=h.few;unfold tbegL;by_cases e:i= -1
 ·subst e;simp only[L1];obtain⟨s,hs,hini,_⟩:=h.topS;have hi:=(K0.1 hs).1;have f0:=km env c c.initial;have hz:inZ c c.initial=true:=by rw[hini];exact aV.2 hi
  rw[hz]at f0;rw[hz,K5 rfl];have f1:=dJ env ((sbL c (iniN c)).map aB) (by rw[Ko];have:=CW h (iniN c);omega);have hb:(pg c c.states.length)[iniN c]? =some [.seq 1 ((sbL c (iniN c)).map aB)]:=by unfold pg;rw[K9,MB hi];rfl
  have hbl:(pg c c.states.length).length=c.states.length:=by simp[pg]
  have g0:((iniN c:Nat):Int)< (c.states.length:Int):=by omega
  rw[hini]at f0 |-;rw[Ln];unfold aJ tabCells at f0 |-;rw[hini]at f0 |-;refine qf func57 call57 ntmps57 results57 ?_;have F:=ai3 hb hbl g0;repeat refine tz2 f0 f1 ?_
  exact aR
 ·rw[K2 e];have e1:(i == -1)=false:=by simpa using e
  have f0:=km env c i;cases hz:inZ c i with
  | false=>
    rw[hz]at f0;rw[K2 (by simp)];unfold aJ tabCells at f0 |-;refine qw func57 call57 ntmps57 results57 ?_;have F:=e1;repeat refine tz1 f0 ?_
    (refine aM ?_;refine⟨_,(by show (ae _ _ _).run _=some _;simp only[go_sem,F];rfl),?_⟩)
    exact fo.own_nil _ _ (by decide)
  | true=>
    obtain⟨k,s,rfl,hs,ha⟩:=cF hz;have hi:=(K0.1 hs).1;rw[hz]at f0;rw[K5 rfl,Ln];have f1:=dJ env ((sbL c k).map aB) (by rw[Ko];have:=CW h k;omega);have hb:(pg c c.states.length)[k]? =some [.seq 1 ((sbL c k).map aB)]:=by unfold pg;rw[K9,MB hi];rfl
    have hbl:(pg c c.states.length).length=c.states.length:=by simp[pg]
    have g0:((k:Nat):Int)< (c.states.length:Int):=by omega
    unfold aJ tabCells at f0 |-;refine qf func57 call57 ntmps57 results57 ?_;have F:=ai4 hb hbl g0 e1;repeat refine tz2 f0 f1 ?_
    exact aR
theorem bV (env:Env) (c:ChD) (h:Full c) (i:Int):Con prog env 123 [aJ c,I i] (.own 3 1 ((if i= -1\/inZ c i=true then kidsL c i true else []).map aB)):=by
 have hlen:=h.few;have f0:=km env c i;have f1:=gX env c i (by omega);unfold aA at f1;unfold aJ tabCells at f0 |-;by_cases e:i= -1
 ·subst e;have hz:inZ c (-1)=false:=by unfold inZ;simp
  rw[hz]at f0;rw[K5 (.inl rfl)];refine qf func123 call123 ntmps123 results123 ?_;repeat refine Ce f0 f1 ?_
  exact aR0
 ·have e1:(i != -1)=true:=by simpa using e
  cases hz:inZ c i with
  | false=>
    rw[hz]at f0;rw[K2 (by simp[e])];refine qw func123 call123 ntmps123 results123 ?_;have F:=e1;repeat refine tz2 f0 f1 ?_
    (refine aM ?_;refine⟨_,(by show (ae _ _ _).run _=some _;simp only[go_sem,F];rfl),?_⟩)
    exact fo.own_nil _ _ (by decide)
  | true=>
    rw[hz]at f0;rw[K5 (.inr rfl)];refine qf func123 call123 ntmps123 results123 ?_;have F:=e1;repeat refine tz2 f0 f1 ?_
    exact aR
def Io (c:ChD) (i:Int) (k:Nat):Bool:=match c.states[k]? with
 |some s=>inZ c i&&((s.parent==i)&&aT s)
 |none=>false
def memL (c:ChD) (i:Int):List Nat:=(List.range c.states.length).filter (Io c i)
theorem Gf {c:ChD} (i:Int) (hz:inZ c i=true):memL c i=(kidsL c i false).filter fun k:Nat=> !inL (kidsL c i true) (k:Int):=by
 unfold memL kidsL bY;rw[List.filter_filter];apply MG;intro k hk;have hk:=Kw.1 hk;obtain⟨s,hs⟩:=gE hk;have e1:dB c i false k=(s.parent==i):=by unfold dB;rw[hs];simp
 have e2:inL ((List.range c.states.length).filter (dB c i true)) (k:Int)=((s.parent==i)&& !aT s):=by
  rw[LC,oR];constructor
  ·rintro⟨j,hj,e⟩;have:j=k:=by omega
   subst this;have:=(Ke.1 hj).2;unfold dB at this;rw[hs]at this;simpa using this
  ·intro e;refine⟨k,Ke.2 ⟨Kw.2 hk,?_⟩,rfl⟩;unfold dB;rw[hs];simpa using e
 unfold Io;rw[e1,e2,hs];simp only[hz,LN];cases (s.parent==i)<;>cases aT s<;>rfl
def nY (K R:List Nat) (j:Nat):List Nat:=(K.take j).filter fun k:Nat=> !inL R (k:Int)
theorem BQ {K R:List Nat} {j k:Nat} (h:K[j]? =some k):nY K R (j+1)=if inL R (k:Int) then nY K R j else nY K R j++[k]:=by
 unfold nY;rw[Ky,h,LE];cases hb:inL R (k:Int)<;>simp[hb]
theorem Eo (K R:List Nat) (j:Nat):(nY K R j).length<=K.length:=by
 unfold nY;exact Km (Kq ..) (by rw[Kg];omega)
theorem A5 (env:Env) (c:ChD) (h:Full c) (i:Int):Con prog env 183 [aJ c,I i] (.own 3 1 ((memL c i).map aB)):=by
 have hlen:=h.few;have f0:=km env c i;cases hz:inZ c i with
 | false=>
   rw[hz]at f0
   have hm:memL c i=[]:=by
    unfold memL;rw[Mu];intro k _;unfold Io;cases c.states[k]? with
    |none=>simp
    |some s=>simp[hz]
   rw[hm];unfold aJ tabCells at f0 |-;refine qw func183 call183 ntmps183 results183 ?_;repeat refine kB f0 ?_
   (refine aM ?_;refine⟨_,(by show (ae _ _ _).run _=some _;simp only[go_sem];rfl),?_⟩)
   exact fo.own_nil _ _ (by decide)
 | true=>
   rw[hz]at f0;rw[Gf i hz];have f1:=gX env c i (by omega);have f2:=od env c i (by omega);unfold aA at f1 f2;have hKl:=bD h.toRight i false;have hRl:=bD h.toRight i true;generalize kidsL c i true=R at*;generalize kidsL c i false=K at*;unfold aJ tabCells at f0 |-;refine qf func183 call183 ntmps183 results183 ?_;repeat refine GE f0 f1 f2 ?_
   refine aj 6 6 3 1 ?_;refine lq0 K.length (by omega) (fun j vs=>[(5, .row 18 (vs 18)),(6, .row 6 (vs 6)),(24, .row 24 (vs 24)),(25,I K.length),(26,I j)]) (fun j _=>[(6,⟨1,(nY K R j).map aB,3,true⟩),(18,⟨1,R.map aB,3,true⟩),(24,⟨1,K.map aB,3,true⟩)]) (fun j _ esc=>esc 6=false) rfl ?_ ?_
   ·rintro j ws esc hlt q1 q2 e0;obtain⟨k,hk⟩:=gE hlt;have f3:=j8 env R k (by omega);have hil:=Eo K R j;have hf:Fits ((nY K R j).length+1) 8:=aC (by omega) (by omega);have hn:=BQ (R:=R) hk;cases hb:inL R k with
    | true=>
      rw[hb]at f3;rw[hb,K5 rfl]at hn;have F:=ai6 aB.eq_1 q1 q2 hk hf e0;repeat refine tz1 f3 ?_
      refine⟨j+1,⟨hlt,by simp only[go_sem,e0]⟩,?_,?_,by omega⟩
      ·exact qe
      ·have F:=ai3 aB.eq_1 hn @Ka.{0,0};exact qe
    | false=>
      rw[hb]at f3;rw[hb,K2 LO]at hn;have F:=ai6 aB.eq_1 q1 q2 hk hf e0;repeat refine tz1 f3 ?_
      refine⟨j+1,⟨hlt,by simp only[go_sem,e0]⟩,?_,?_,by omega⟩
      ·exact qe
      ·have F:=ai3 aB.eq_1 hn @Ka.{0,0};exact qe
   ·rintro ws esc q1 e0;have hall:nY K R K.length=K.filter fun k:Nat=> !inL R (k:Int):=by unfold nY;rw[Kt]
    have F:=ai3 q1 hall e0;repeat refine st ?_
    exact aR
end
section
theorem Str.seq {sz:Nat} {es' es:List (List AV)} (hl:es'.length=es.length) (hs: ∀(i:Nat) (e' e:List AV),es'[i]? =some e'->es[i]? =some e->Strs e' e):Str (.seq sz es') (.seq sz es):=fun S w v h=>by
 have cell: ∀ {i j:Nat} {c:AV},cellAt es i j=some c-> ∃c',cellAt es' i j=some c'/\Str c' c:=fun {i j c} hc=>by
  unfold cellAt at hc |-;cases he:es[i]? with
  |none=>rw[he]at hc;cases hc
  | some e=>
    rw[he]at hc;have hi:=(K0.1 he).1;have he':es'[i]? =some es'[i]:=KZ (by omega);obtain⟨h1,h2⟩:=hs i _ e he' he;have hj:=(K0.1 (show e[j]? =some c from hc)).1;rw[he'];exact⟨es'[i][j],KZ (by omega),h2 j _ c (KZ (by omega)) hc⟩
 cases h with
 | seq A n cap sz es' b o u hn hcap hA hz hc hr=>
   refine .seq A n cap sz es b o u (by omega) hcap hA (fun i e he=> ?_) (fun i j c h=> ?_) fun i j c h=> ?_
   ·have hi:=(K0.1 he).1;have he':es'[i]? =some es'[i]:=KZ (by omega);rw[<-(hs i _ e he' he).1];exact hz i _ he'
   ·obtain⟨c',h1,_⟩:=cell h;exact hc i j c' h1
   ·obtain⟨c',h1,h2⟩:=cell h;exact h2 _ _ _ (hr i j c' h1)
theorem Strs.one {c' c:AV} (h:Str c' c):Strs [c'] [c]:= .cons h .nil
def Strss (es' es:List (List AV)):Prop:=es'.length=es.length/\ ∀(i:Nat) (e' e:List AV),es'[i]? =some e'->es[i]? =some e->Strs e' e
theorem Strss.nil:Strss [] []:=⟨rfl,fun i c' c h _=>by simp at h⟩
theorem Strss.cons {e' e:List AV} {es' es:List (List AV)} (h:Strs e' e) (hs:Strss es' es):Strss (e'::es') (e::es):=⟨by simp[hs.1],fun i a b ha hb=>by
 cases i with
 | zero=>
   simp only[LV,K1]at ha hb;subst ha hb;exact h
 |succ i=>exact hs.2 i a b (by simpa using ha) (by simpa using hb)⟩
theorem Str.seqs {sz:Nat} {es' es:List (List AV)} (h:Strss es' es):Str (.seq sz es') (.seq sz es):= .seq h.1 h.2
end
section
def rR (c:ChD):Bool:=decide ((c.states.length:Int)<=40)&&decide ((c.trans.length:Int)<=70)&&decide ((c.vars.length:Int)<=10)
theorem mD (env:Env) (c:ChD):Con prog env 16 [.agg (aA c)] (B ((chk c).1==0)):=by
 have f0:=BE env c;unfold chkT at f0;refine qf func16 call16 ntmps16 results16 ?_;repeat refine kB f0 ?_
 exact aR0
def mP (c:ChD):Bool:=rR c&&((chk c).1==0)
theorem Jo {c:ChD} (h:(chk c).1=0):chk c=(0, -1):=by
 unfold chk at h |-;split at h
 ·simp at h
 rename_i h1;rw[K2 h1];split at h
 ·simp at h
 rename_i h2;rw[K2 h2];split at h
 ·simp at h
 rename_i h3;try simp only at h |-
 split at h
 ·simp at h
 rename_i h4;try simp only at h |-
 split at h
 ·simp at h
 rename_i h5;rw[K2 h5];split at h
 ·simp at h
 ·rfl
theorem FU {c:ChD} (h:mP c=true):Full c:=by
 unfold mP at h;rw[K3,L5]at h;exact full_of h.2
end
section
def xZ (c:ChD) (i:Int) (s:List UInt8) (k:Nat):Bool:=match c.trans[k]? with|some t=>decide (t.src=i/\t.event=s)|none=>false
def d4 (c:ChD) (i:Int) (s:List UInt8) (j:Nat):List Nat:=(List.range j).filter (xZ c i s)
theorem mh (p:Nat->Bool) (j:Nat):(List.range (j+1)).filter p=if p j then(List.range j).filter p++[j] else(List.range j).filter p:=by
 rw[Mb,LE];cases hb:p j<;>simp[hb]
theorem kI (p:Nat->Bool) (j:Nat):((List.range j).filter p).length<=j:=Km (Kq ..) (by simp)
theorem Ay (c:ChD) (i:Int):d4 c i [] c.trans.length=atL c i (-1):=by
 have:=IL (c:=c) i [] (.inl rfl);rw[xL]at this;rw[this];rfl
theorem Ax (c:ChD) (i:Int) {s:List UInt8} (hs:s≠[]):d4 c i s c.trans.length=I3 c i (evI c s):=by
 by_cases h:s∈evL c
 ·obtain⟨k,h1,_⟩:=uI h;have:=IL (c:=c) i s (.inr h);unfold I3;rw[K2 (by omega),this];rfl
 ·unfold I3;rw[D8 h,K5 (by omega)];unfold d4;rw[Mu];intro k hk hp;unfold xZ at hp;cases ht:c.trans[k]? with
  |none=>rw[ht]at hp;cases hp
  | some t=>
    rw[ht]at hp;simp only[Kh]at hp;exact h (xi.2 ⟨hs,t,K4 ht,hp.2⟩)
end
section
theorem jJ (env:Env) (c:ChD) (hc:c.states.length<=4000) (act:List Int) (hl:act.length<=1000000):Con prog env 119 [aJ c, .seq 1 (act.map intAV)] (.own 4 1 (flagA c.states.length act)):=by
 have f0:=bL env c;have f1:=yx env c;have hz:=FY c.states.length;have m1: ¬(16777216:Int)< (c.states.length:Int):=by omega
 have m2: ¬(281474976710656:Int)<1*(c.states.length:Int):=by omega
 have m3: ¬(c.states.length:Int)<0:=by omega
 have m4: ¬(281474976710656:Int)< (c.states.length:Int):=by omega
 unfold aP at f0 f1;unfold aJ at f0 |-;refine qf func119 call119 ntmps119 results119 ?_;have F:=ai4 m1 m2 m3 m4;repeat refine tz2 f0 f1 ?_
 have F:=hz;refine lq act.length (by omega) (fun j vs=>[(5, .row 11 (vs 11)),(12, .seq 1 (act.map intAV)),(13,I act.length),(14,I j)]) (fun j _=>[(11,⟨1,flagA c.states.length (act.take j),4,true⟩)]) (fun j _ esc=>esc 11=false) rfl ?_ ?_
 ·rintro j ws esc hlt q1 q2 e0;obtain⟨x,hx⟩:=gE hlt;have ht:act.take (j+1)=act.take j++[x]:=by rw[Ky,hx];rfl
  have hfl:=eT c.states.length (act.take j);by_cases h0:0<=x
  ·obtain⟨k,rfl⟩:=fJ h0;by_cases h1:k<c.states.length
   ·have q3:=nlt h1;have hs:=HD (act:=act.take j) h1;have hat:=js (act:=act.take j) h1;rw[<-ht]at hs;have F:=ai8 hx q1 q2 q3 hat hs hfl e0;repeat refine st ?_
    exact qn (j+1) ⟨hlt,by simp only[go_sem,e0]⟩
   ·have q3: ¬(k:Int)< (c.states.length:Int):=by omega
    have hs:=zo (n:=c.states.length) (act:=act.take j) (i:=(k:Int)) (fun m hm=>by omega);rw[<-ht]at hs;have F:=ai6 hx q1 q2 q3 hfl e0;repeat refine st ?_
    refine⟨j+1,⟨hlt,by simp only[go_sem,e0]⟩,?_,?_,by omega⟩
    ·exact qe
    ·have F:=hs;exact qe
  ·have hs:=zo (n:=c.states.length) (act:=act.take j) (i:=x) (fun m hm=>by omega);rw[<-ht]at hs;have F:=ai6 hx q1 q2 h0 hfl e0;repeat refine st ?_
   refine⟨j+1,⟨hlt,by simp only[go_sem,e0]⟩,?_,?_,by omega⟩
   ·exact qe
   ·have F:=hs;exact qe
 ·rintro ws esc q1 e0;have hta:act.take act.length=act:=Kt;have F:=ai3 q1 hta e0;repeat refine st ?_
  exact aR
theorem so (env:Env) (n:Nat) (act:List Int) (ks:List Nat) (_hn:n<=4000) (hl:ks.length<=4000) (hk: ∀k∈ks,k<n):Con prog env 122 [.seq 1 (flagA n act), .seq 1 (ks.map aB)] (I (manyI act ks:Nat)):=by
 have hfl:=eT n act;have z0:manyI act []=0:=rfl;refine qf func122 call122 ntmps122 results122 ?_;repeat refine st0 ?_
 have F:=z0;refine lq ks.length (by omega) (fun j _=>[(0, .seq 1 (flagA n act)),(5,I (manyI act (ks.take j):Nat)),(8, .seq 1 (ks.map aB)),(9,I ks.length),(10,I j)]) (fun _ _=>[]) (fun _ _ _=>True) trivial ?_ ?_
 ·rintro j ws esc hlt q1 q2 _;obtain⟨k,hk2⟩:=gE hlt;have hkn:=hk k (K4 hk2);have q3:=nlt hkn;have hat:=js (act:=act) hkn;have hm:=wx (act:=act) hk2;have hle:=wy act (ks.take j);rw[Kg]at hle;have q4:=aD (show manyI act (ks.take j)<ks.length by omega) (by omega);cases hb:act.contains (k:Int) with
  | true=>
    rw[hb]at hat hm;rw[K5 rfl]at hm;have F:=ai8 aB.eq_1 hk2 q1 q2 q3 q4 hat hfl;repeat refine st ?_
    refine⟨j+1,⟨hlt,trivial⟩,?_,?_,by omega⟩
    ·have F:=hm;exact qe
    ·(simp only[go_sem,hm])
  | false=>
    rw[hb]at hat hm;rw[K2 LO,Mk]at hm;have F:=ai7 aB.eq_1 hk2 q1 q2 q3 hat hfl;repeat refine st ?_
    refine⟨j+1,⟨hlt,trivial⟩,?_,?_,by omega⟩
    ·have F:=hm;exact qe
    ·(simp only[go_sem,hm])
 ·rintro ws esc q1 _;have hta:ks.take ks.length=ks:=Kt;have F:=ai q1 hta;repeat refine st ?_
  exact aR
theorem Ea {c:ChD} (h:Right c) {k:Nat} {s:StD} (hs:c.states[k]? =some s) (act:List Int):(s.parent<0/\decide (s.parent<0)=true)\/(¬s.parent<0/\decide (s.parent<0)=false/\0<=s.parent/\s.parent< (c.states.length:Int)/\(flagA c.states.length act)[s.parent.toNat]? =some [B (act.contains s.parent)]):=by
 have hi:=(K0.1 hs).1;have h2:=(h.par k s hs).2;by_cases e:s.parent<0
 ·exact .inl ⟨e,LK e⟩
 ·refine .inr ⟨e,LD e,by omega,by omega,?_⟩;rw[js (by omega)];rw[show ((s.parent.toNat:Nat):Int)=s.parent by omega]
theorem HG (env:Env) (c:ChD) (h:Full c) (act:List Int) (k:Nat) (s:StD) (hs:c.states[k]? =some s):Con prog env 120 [.agg (aA c),aJ c, .seq 1 (flagA c.states.length act),I k] (B (qO c act k s)):=by
 have hlen:=h.few;have hi:=(K0.1 hs).1;have q0:((k:Nat):Int)< (c.states.length:Int):=by omega
 have f0:=bV env c h k;rw[K5 (.inr (aV.2 hi))]at f0;have hK:=bD h.toRight k true;have hKm: ∀j∈kidsL c k true,j<c.states.length:=fun j hj=>by have:=bE h.toRight (aX hj).1;omega
 have f1:=so env c.states.length act (kidsL c k true) (by omega) (by omega) hKm;have hfl:=eT c.states.length act;have hp:=Ea h.toRight hs act;have hF:qO c act k s=(!aT s&&(decide (s.parent<0)||act.contains s.parent)&&(if s.kind=1/\kidsL c k true≠[] then manyI act (kidsL c k true)==1 else if s.kind=2 then manyI act (kidsL c k true)==(kidsL c k true).length else true)):=rfl;rw[hF];try clear hF
 generalize kidsL c k true=K at*;unfold aJ at f0 |-;by_cases e4:s.kind=4
 ·have b4:(s.kind==4)=true:=by simpa using e4
  have hm:aT s=true:=by unfold aT;rw[b4];rfl
  rw[hm];refine qf func120 call120 ntmps120 results120 ?_;have F:=ai5 aA.eq_1 aK.eq_1 hs q0 b4;repeat refine tz1 f0 ?_
  exact aR
 have b4:(s.kind==4)=false:=by simpa using e4
 by_cases e5:s.kind=5
 ·have b5:(s.kind==5)=true:=by simpa using e5
  have hm:aT s=true:=by unfold aT;rw[b5,Bool.or_true]
  rw[hm];refine qf func120 call120 ntmps120 results120 ?_;have F:=ai6 aA.eq_1 aK.eq_1 hs q0 b4 b5;repeat refine tz1 f0 ?_
  exact aR
 have b5:(s.kind==5)=false:=by simpa using e5
 have hm:aT s=false:=by unfold aT;rw[b4,b5];rfl
 rw[hm];by_cases e1:s.kind=1
 ·have b1:(s.kind==1)=true:=by simpa using e1
  by_cases hk0:K=[]
  ·rw[K2 (by simp[hk0]),K2 (by omega)];have q1: ¬(0:Int)< (K.length:Int):=by rw[hk0];simp
   rcases hp with⟨g0,g1⟩|⟨g0,g1,g2,g3,g4⟩
   ·refine qf func120 call120 ntmps120 results120 ?_;have F:=ai10 aA.eq_1 aK.eq_1 hs q0 b4 b5 b1 q1 g0 g1;repeat refine tz1 f0 ?_
    exact aR
   ·refine qf func120 call120 ntmps120 results120 ?_;have F:=ai12 aA.eq_1 aK.eq_1 hs q0 b4 b5 b1 q1 g0 g1 g2<|ai3 g3 g4 hfl;repeat refine tz1 f0 ?_
    exact aR
  ·rw[K5 ⟨e1,hk0⟩];have q1:(0:Int)< (K.length:Int):=by have:=Lw.2 hk0;omega
   by_cases hm1:manyI act K=1
   ·have hmi:((manyI act K:Nat):Int)=1:=by omega
    rw[hm1];rcases hp with⟨g0,g1⟩|⟨g0,g1,g2,g3,g4⟩
    ·refine qf func120 call120 ntmps120 results120 ?_;have F:=ai11 aA.eq_1 aK.eq_1 hs q0 b4 b5 b1 q1 hmi g0 g1;repeat refine tz2 f0 f1 ?_
     exact aR
    ·refine qf func120 call120 ntmps120 results120 ?_;have F:=ai12 aA.eq_1 aK.eq_1 hs q0 b4 b5 b1 q1 hmi g0 g1<|ai4 g2 g3 g4 hfl;repeat refine tz2 f0 f1 ?_
     exact aR
   ·have hmi:(((manyI act K:Nat):Int) != 1)=true:=by simp;omega
    have hmb:(manyI act K==1)=false:=by simpa using hm1
    rw[hmb];refine qf func120 call120 ntmps120 results120 ?_;have F:=ai9 aA.eq_1 aK.eq_1 hs q0 b4 b5 b1 q1 hmi;repeat refine tz2 f0 f1 ?_
    exact aR
 have b1:(s.kind==1)=false:=by simpa using e1
 rw[K2 (fun e=>e1 e.1)];by_cases e2:s.kind=2
 ·have b2:(s.kind==2)=true:=by simpa using e2
  rw[K5 e2];by_cases hm1:manyI act K=K.length
  ·have hmi:(((manyI act K:Nat):Int) != (K.length:Int))=false:=by simp;omega
   rw[hm1];rcases hp with⟨g0,g1⟩|⟨g0,g1,g2,g3,g4⟩
   ·refine qf func120 call120 ntmps120 results120 ?_;have F:=ai11 aA.eq_1 aK.eq_1 hs q0 b4 b5 b1 b2 hmi g0 g1;repeat refine tz2 f0 f1 ?_
    exact aR
   ·refine qf func120 call120 ntmps120 results120 ?_;have F:=ai12 aA.eq_1 aK.eq_1 hs q0 b4 b5 b1 b2 hmi g0 g1<|ai4 g2 g3 g4 hfl;repeat refine tz2 f0 f1 ?_
    exact aR
  ·have hmi:(((manyI act K:Nat):Int) != (K.length:Int))=true:=by simp;omega
   have hmb:(manyI act K==K.length)=false:=by simpa using hm1
   rw[hmb];refine qf func120 call120 ntmps120 results120 ?_;have F:=ai9 aA.eq_1 aK.eq_1 hs q0 b4 b5 b1 b2 hmi;repeat refine tz2 f0 f1 ?_
   exact aR
 ·have b2:(s.kind==2)=false:=by simpa using e2
  rw[K2 e2];rcases hp with⟨g0,g1⟩|⟨g0,g1,g2,g3,g4⟩
  ·refine qf func120 call120 ntmps120 results120 ?_;have F:=ai10 aA.eq_1 aK.eq_1 hs q0 b4 b5 b1 b2 g0 g1;repeat refine tz1 f0 ?_
   exact aR
  ·refine qf func120 call120 ntmps120 results120 ?_;have F:=ai12 aA.eq_1 aK.eq_1 hs q0 b4 b5 b1 b2 g0 g1 g2<|ai3 g3 g4 hfl;repeat refine tz1 f0 ?_
   exact aR
theorem Fj (env:Env) (a1 a8:Addr) (he:ChEnv env a1 a8) (p:Int) (hp: -1<=p):Con prog env 121 [I p] (errV p (sentV a1)):=by
 have g1:=jz he.e1;have f0:=xJ env [108,101,103,97,108,46,67,104,101,99,107] p a1 hp;refine qf func121 call121 ntmps121 results121 ?_;have F:=g1;repeat refine tz1 f0 ?_
 exact aR
def uO (a1:Addr) (c:ChD) (act:List Int):AV:=if lgB c act=true then nilE else errV (jj c act).2 (sentV a1)
theorem AK {a1:Addr} {c:ChD} {act:List Int} {p:Int} (h:jj c act=(1,p)):uO a1 c act=errV p (sentV a1):=by
 unfold uO lgB;rw[h];rfl
theorem JH {a1:Addr} {c:ChD} {act:List Int} {p:Int} (h:jj c act=(0,p)):uO a1 c act=nilE:=by
 unfold uO lgB;rw[h];rfl
theorem rT {c:ChD} {act:List Int} {j:Nat} {x:Int} (hx:act[j]? =some x):tx c act j=((j==0||decide (act.getD (j-1) 0<x))&&uB c act x):=by unfold tx;rw[hx]
theorem zq {c:ChD} {act:List Int} {k:Nat} {s:StD} (hs:c.states[k]? =some s):uB c act (k:Int)=qO c act k s:=by
 unfold uB;rw[bI,hs];rfl
theorem nk {c:ChD} {act:List Int} {x:Int} (hz:inZ c x=false):uB c act x=false:=by
 unfold uB at_;unfold inZ at hz;by_cases h0:0<=x
 ·rw[K5 h0];rw[LK h0,LN,LZ]at hz;rw[Kf (by omega)]
 ·rw[K2 h0]
end
section
theorem Co {act:List Int} {j:Nat} (h0:0<j) (hj:j<act.length):act[j-1]? =some (act.getD (j-1) 0):=by
 rw[Kv,KZ (show j-1<act.length by omega)];rfl
theorem bl (l:List Int):bJ (l.map rY)=l.map intAV:=by
 unfold bJ;rw[Ms];rfl
end
section
theorem Ff {act:List Int} {j:Nat} {x v:Int} (hx:act[j]? =some x) (hn:(act.take j).contains v=false) (he:x≠v):(act.take (j+1)).contains v=false:=by
 rw[Ky,hx];simp at hn |-;exact⟨hn,fun q=>he q.symm⟩
theorem cL (env:Env) (act:List Int) (v:Int) (hl:act.length<=1000000):Con prog env 81 [.seq 1 (act.map intAV),I v] (B (act.contains v)):=by
 refine qf func81 call81 ntmps81 results81 ?_;repeat refine st0 ?_
 refine lq0 act.length (by omega) (fun j _=>[(0, .seq 1 (act.map intAV)),(1,I v),(5,I j)]) (fun _ _=>[]) (fun j _ _=>(act.take j).contains v=false) rfl ?_ ?_
 ·rintro j ws esc hlt q1 q2 hno;obtain⟨x,hx⟩:=gE hlt;by_cases e:x=v
  ·have hr:act.contains v=true:=by rw[K6, <-e];exact K4 hx
   rw[hr];have q3:(x==v)=true:=by simpa using e
   have F:=ai3 hx q1 q3;repeat refine st ?_
   exact aR
  ·have q3:(x==v)=false:=by simpa using e
   have F:=ai4 hx q1 q2 q3;repeat refine st ?_
   exact qn (j+1) ⟨hlt,Ff hx hno e⟩
 ·rintro ws esc q1 hno;rw[Kt]at hno;rw[hno];have F:=q1;repeat refine st ?_
  exact aR
theorem jE (env:Env) (act:List Int) (ks:List Nat) (hl:act.length<=1000000) (hk:ks.length<=4000):Con prog env 146 [.seq 1 (act.map intAV), .seq 1 (ks.map aB)] (I (manyI act ks:Nat)):=by
 have z0:manyI act []=0:=rfl;refine qf func146 call146 ntmps146 results146 ?_;repeat refine st0 ?_
 have F:=z0;refine lq ks.length (by omega) (fun j _=>[(0, .seq 1 (act.map intAV)),(1, .seq 1 (ks.map aB)),(5,I (manyI act (ks.take j):Nat)),(6,I j)]) (fun _ _=>[]) (fun _ _ _=>True) trivial ?_ ?_
 ·rintro j ws esc hlt q1 q2 _;obtain⟨k,hk2⟩:=gE hlt;have f0:=cL env act k hl;have hm:=wx (act:=act) hk2;have hle:=wy act (ks.take j);rw[Kg]at hle;have q4:=aD (show manyI act (ks.take j)<ks.length by omega) (by omega);cases hb:act.contains (k:Int) with
  | true=>
    rw[hb]at f0 hm;rw[K5 rfl]at hm;have F:=ai5 aB.eq_1 hk2 q1 q2 q4;repeat refine tz1 f0 ?_
    refine⟨j+1,⟨hlt,trivial⟩,?_,?_,by omega⟩
    ·have F:=hm;exact qe
    ·(simp only[go_sem,hm])
  | false=>
    rw[hb]at f0 hm;rw[K2 LO,Mk]at hm;have F:=ai4 aB.eq_1 hk2 q1 q2;repeat refine tz1 f0 ?_
    refine⟨j+1,⟨hlt,trivial⟩,?_,?_,by omega⟩
    ·have F:=hm;exact qe
    ·(simp only[go_sem,hm])
 ·rintro ws esc q1 _;have hta:ks.take ks.length=ks:=Kt;have F:=ai q1 hta;repeat refine st ?_
  exact aR
theorem yW (env:Env) (c:ChD) (h:Full c) (act:List Int) (hl:act.length<=1000000) (k:Nat) (s:StD) (hs:c.states[k]? =some s):Con prog env 153 [.agg (aA c), .seq 1 (act.map intAV),I k] (B (qO c act k s)):=by
 have hlen:=h.few;have hi:=(K0.1 hs).1;have q0:((k:Nat):Int)< (c.states.length:Int):=by omega
 have f0:=bj env c k true (by omega);have hK:=bD h.toRight k true;have f1:=jE env act (kidsL c k true) hl (by omega);have f2:=bf env s;have f3:=cL env act s.parent hl;have hF:qO c act k s=(!aT s&&(decide (s.parent<0)||act.contains s.parent)&&(if s.kind=1/\kidsL c k true≠[] then manyI act (kidsL c k true)==1 else if s.kind=2 then manyI act (kidsL c k true)==(kidsL c k true).length else true)):=rfl;rw[hF];try clear hF
 generalize kidsL c k true=K at*;cases hm:aT s with
 | true=>
   rw[hm]at f2;refine qf func153 call153 ntmps153 results153 ?_;have F:=ai4 aA.eq_1 aK.eq_1 hs q0;repeat refine tz1 f2 ?_
   exact aR
 | false=>
   rw[hm]at f2;by_cases hp:s.parent<0
   ·have g0: ¬0<=s.parent:=by omega
    rw[LK hp];by_cases e1:s.kind=1/\K≠[]
    ·have b1:(s.kind==1)=true:=by simpa using e1.1
     have q1:(0:Int)< (K.length:Int):=by have:=Lw.2 e1.2;omega
     have q2:(((manyI act K:Nat):Int)==1)=(manyI act K==1):=by rw[LC,L5,L5];omega
     rw[K5 e1];refine qf func153 call153 ntmps153 results153 ?_;have F:=ai8 aA.eq_1 aK.eq_1 hs q0 g0 b1 q1 q2;repeat refine tz3 f0 f1 f2 ?_
     exact aR
    ·rw[K2 e1];have q2:(((manyI act K:Nat):Int)==(K.length:Int))=(manyI act K==K.length):=by rw[LC,L5,L5];omega
     by_cases e2:s.kind=2
     ·have b1:(s.kind==1)=false:=by simp[e2]
      have b2:(s.kind != 2)=false:=by simp[e2]
      rw[K5 e2];refine qf func153 call153 ntmps153 results153 ?_;have F:=ai8 aA.eq_1 aK.eq_1 hs q0 g0 b1 b2 q2;repeat refine tz3 f0 f1 f2 ?_
      exact aR
     ·have b2:(s.kind != 2)=true:=by simpa using e2
      rw[K2 e2];by_cases e3:s.kind=1
      ·have b1:(s.kind==1)=true:=by simpa using e3
       have q1: ¬(0:Int)< (K.length:Int):=by
        have:K=[]:=Me fun q=>e1 ⟨e3,q⟩;rw[this];simp
       refine qf func153 call153 ntmps153 results153 ?_;have F:=ai8 aA.eq_1 aK.eq_1 hs q0 g0 b1 b2 q1;repeat refine tz3 f0 f1 f2 ?_
       exact aR
      ·have b1:(s.kind==1)=false:=by simpa using e3
       refine qf func153 call153 ntmps153 results153 ?_;have F:=ai7 aA.eq_1 aK.eq_1 hs q0 g0 b1 b2;repeat refine tz3 f0 f1 f2 ?_
       exact aR
   ·have g0:0<=s.parent:=by omega
    rw[LD hp];cases hin:act.contains s.parent with
    | false=>
      rw[hin]at f3;refine qf func153 call153 ntmps153 results153 ?_;have F:=ai5 aA.eq_1 aK.eq_1 hs q0 g0;repeat refine tz4 f0 f1 f2 f3 ?_
      exact aR
    | true=>
      rw[hin]at f3;by_cases e1:s.kind=1/\K≠[]
      ·have b1:(s.kind==1)=true:=by simpa using e1.1
       have q1:(0:Int)< (K.length:Int):=by have:=Lw.2 e1.2;omega
       have q2:(((manyI act K:Nat):Int)==1)=(manyI act K==1):=by rw[LC,L5,L5];omega
       rw[K5 e1];refine qf func153 call153 ntmps153 results153 ?_;have F:=ai8 aA.eq_1 aK.eq_1 hs q0 g0 b1 q1 q2;repeat refine tz4 f0 f1 f2 f3 ?_
       exact aR
      ·rw[K2 e1];have q2:(((manyI act K:Nat):Int)==(K.length:Int))=(manyI act K==K.length):=by rw[LC,L5,L5];omega
       by_cases e2:s.kind=2
       ·have b1:(s.kind==1)=false:=by simp[e2]
        have b2:(s.kind != 2)=false:=by simp[e2]
        rw[K5 e2];refine qf func153 call153 ntmps153 results153 ?_;have F:=ai8 aA.eq_1 aK.eq_1 hs q0 g0 b1 b2 q2;repeat refine tz4 f0 f1 f2 f3 ?_
        exact aR
       ·have b2:(s.kind != 2)=true:=by simpa using e2
        rw[K2 e2];by_cases e3:s.kind=1
        ·have b1:(s.kind==1)=true:=by simpa using e3
         have q1: ¬(0:Int)< (K.length:Int):=by
          have:K=[]:=Me fun q=>e1 ⟨e3,q⟩;rw[this];simp
         refine qf func153 call153 ntmps153 results153 ?_;have F:=ai8 aA.eq_1 aK.eq_1 hs q0 g0 b1 b2 q1;repeat refine tz4 f0 f1 f2 f3 ?_
         exact aR
        ·have b1:(s.kind==1)=false:=by simpa using e3
         refine qf func153 call153 ntmps153 results153 ?_;have F:=ai7 aA.eq_1 aK.eq_1 hs q0 g0 b1 b2;repeat refine tz4 f0 f1 f2 f3 ?_
         exact aR
def nJ (l:List Nat) (j:Nat):List Nat:=(List.range j).filter fun k=>inL l (k:Int)
theorem Am (env:Env) (c:ChD) (hc:c.states.length<=4000) (l:List Nat) (hl:l.length<=1000000):Con prog env 89 [.agg (aA c), .seq 1 (l.map aB)] (.own 3 1 ((qt c l).map aB)):=by
 show Con _ _ _ _ (.own _ 1 ((nJ l c.states.length).map aB));refine qf func89 call89 ntmps89 results89 ?_;have F:=aA.eq_1;repeat refine st ?_
 have F:=aA.eq_1;refine lq c.states.length (by omega) (fun j vs=>[(1, .seq 1 (l.map aB)),(2, .loc 2 (vs 2) 0 0),(5, .row 7 (vs 7)),(6,I j)]) (fun j _=>[(2,⟨5,[aA c],26,false⟩),(7,⟨1,(nJ l j).map aB,3,true⟩)]) (fun j _ esc=>esc 7=false) rfl ?_ ?_
 ·rintro j ws esc hlt g1 g2 e0;have f1:=rB env l j hl;unfold nsAV at f1;have hn:nJ l (j+1)=if inL l (j:Int) then nJ l j++[j] else nJ l j:=mh (fun k:Nat=>inL l (k:Int)) j
  have hle:(nJ l j).length<=j:=kI (fun k:Nat=>inL l (k:Int)) j;have hf:Fits ((nJ l j).length+1) 8:=aC (by omega) (by omega);cases b1:inL l (j:Int) with
  | true=>
    rw[b1]at f1 hn;rw[K5 rfl]at hn;have F:=ai6 aA.eq_1 aB.eq_1 g1 g2 hf e0;repeat refine tz1 f1 ?_
    refine⟨j+1,⟨hlt,by simp only[go_sem,e0]⟩,?_,?_,by omega⟩
    ·exact qe
    ·have F:=ai4 aA.eq_1 aB.eq_1 hn @Ka.{0,0};exact qe
  | false=>
    rw[b1]at f1 hn;rw[K2 LO]at hn;have F:=ai5 aA.eq_1 aB.eq_1 g1 g2 e0;repeat refine tz1 f1 ?_
    refine⟨j+1,⟨hlt,by simp only[go_sem,e0]⟩,?_,?_,by omega⟩
    ·exact qe
    ·have F:=ai3 aA.eq_1 aB.eq_1 hn;exact qe
 ·rintro ws esc g1 e0;have F:=ai3 aA.eq_1 g1 e0;repeat refine st ?_
  exact aR
end
section
def chainV (ps:List Int) (e:AV):AV:=ps.foldr (fun p x=>errV p x) e
theorem AM {S:Nat->Nat->Prop} {w:World} {a:Addr} (ha:Lies w a): ∀(ps:List Int) (v:Value),RV S w v (chainV ps (sentV a))->iB w a ps.length v
 |[],v,h=>⟨h.lit_inv,ha⟩
 | p::ps,v,h=>by
   have h:RV S w v (.iface 122 (.ref 3 [[.any,I p,chainV ps (sentV a)]] 0 0)):=h;cases h with
   | iface t v c h=>
     cases h with
     | ref sz es i off b o u hz hc hr=>
       have h2:=hc 0 2 (chainV ps (sentV a)) rfl;have h3:=hr 0 2 (chainV ps (sentV a)) rfl;refine⟨b,o+(0*3+0),u 0 2,rfl,?_,AM ha ps _ h3⟩;have:=h2.2.1;simpa using this
theorem Bt (ad:Nat->Addr) (mo:More) (k:Nat) (hk:1<=k/\k<=9) (ps:List Int):Con prog (cE ad mo) 28 [chainV ps (sentV (ad k))] (I k):=
 De call28 fun w S vs hE hl hv=>by
  match vs,hl with
  | [v],_=>
    have hS:Sents w ad:=hE.inv.1;refine(H5 hS k hk ps.length v (AM (Ak hS k hk) ps v (hv 0 v _ rfl rfl))).mono ?_;rintro e w' ⟨rfl,rfl⟩;exact⟨rfl,MX _ _⟩
theorem nN (env:Env) (s:List UInt8) (p:Int) (e:AV):Con prog env 24 [Sg s,errV p e] (errV (-1) (errV p e)):=by
 refine qw func24 call24 ntmps24 results24 ?_;repeat refine st0 ?_
 (refine aM ?_;refine⟨_,(by show (ae _ _ _).run _=some _;simp only[go_sem];rfl),?_⟩)
 exact lF _ _ _ rfl _ _ (.refl _)
theorem HP (env:Env) (s:List UInt8) (p:Int) (a:Addr):Con prog env 126 [Sg s,I p,sentV a] (errV (max p (-1)) (sentV a)):=by
 refine Con.args (cs:=[Sg s,I p, .iface 307 (.lit (.pointer (some a)))]) ?_ (.cons (.refl _) (.cons (.refl _) (.cons (.ifl _ _) .nil)));by_cases h1:p< -1
 ·rw[show max p (-1)= -1 by omega];refine qw func126 call126 ntmps126 results126 ?_;have F:=h1;repeat refine st ?_
  (refine aM ?_;refine⟨_,(by show (ae _ _ _).run _=some _;simp only[go_sem,F];rfl),?_⟩)
  exact lF _ _ _ rfl _ _ (.lfi _ _)
 ·rw[show max p (-1)=p by omega];refine qw func126 call126 ntmps126 results126 ?_;have F:=h1;repeat refine st ?_
  (refine aM ?_;refine⟨_,(by show (ae _ _ _).run _=some _;simp only[go_sem,F];rfl),?_⟩)
  exact lF _ _ _ rfl _ _ (.lfi _ _)
theorem CI (env:Env) (a1 a8:Addr) (he:ChEnv env a1 a8) (p:Int):Con prog env 121 [I p] (errV (max p (-1)) (sentV a1)):=by
 have g1:=jz he.e1;have f0:=HP env [108,101,103,97,108,46,67,104,101,99,107] p a1;refine qf func121 call121 ntmps121 results121 ?_;have F:=g1;repeat refine tz1 f0 ?_
 exact aR
theorem rS {c:ChD} {act:List Int} {j:Nat} {x:Int} (hx:act[j]? =some x) (hall: ∀m,m<j->tx c act m=true) (hb:tx c act j=false):jj c act=(1,max x (-1)):=by
 have hj:=(K0.1 hx).1;unfold jj;rw[dE hj hall hb];simp only[Kv,hx,Lb]
theorem cQ (env:Env) (a1 a8:Addr) (he:ChEnv env a1 a8) (c:ChD) (h:Full c) (hsm:Small c) (act:List Int) (hl:act.length<=1000000):Con prog env 60 [aJ c, .seq 1 (act.map intAV)] (uO a1 c act):=by
 have hlen:=h.few;have f0:=ao env c hsm;have f1:=jJ env c (by omega) act hl;have f2:=fun(k:Nat) (s:StD) (hs:c.states[k]? =some s)=>HG env c h act k s hs;have f3:=bV env c h (-1);rw[K5 (.inl rfl)]at f3;have hK:=bD h.toRight (-1) true;have hKm: ∀j∈kidsL c (-1) true,j<c.states.length:=fun j hj=>by have:=bE h.toRight (aX hj).1;omega
 have f4:=so env c.states.length act (kidsL c (-1) true) (by omega) (by omega) hKm;have fb:=Fj env a1 a8 he (-1) (by omega);have hfl:=eT c.states.length act;unfold aJ at f0 f1 f2 f3 |-;refine qf func60 call60 ntmps60 results60 ?_;have F:=aA.eq_1;repeat refine tz2 f0 f1 ?_
 have F:=aA.eq_1;refine lq act.length (by omega) (fun j vs=>[(0, .ref 9 [tabCells c] 0 0),(1, .seq 1 (act.map intAV)),(5, .loc 5 (vs 5) 0 0),(6, .row 17 (vs 17)),(18, .seq 1 (act.map intAV)),(19,I act.length),(20,I j)]) (fun _ _=>[(5,⟨5,[aA c],26,false⟩),(17,⟨1,flagA c.states.length act,4,true⟩)]) (fun j _ _=> ∀m,m<j->tx c act m=true) (fun m hm=>absurd hm (by omega)) ?_ ?_
 ·rintro j ws esc hlt q1 q2 hall;obtain⟨x,hx⟩:=gE hlt;have hat:=rT (c:=c) hx;have fx:=CI env a1 a8 he x;have bad:tx c act j=false->uO a1 c act=errV (max x (-1)) (sentV a1):=fun hb=>AK (rS hx hall hb);by_cases h0:x<0
  ·rw[bad (by rw[hat,nk (by unfold inZ;rw[LD (by omega)];rfl),L8])];have F:=ai3 hx q1 h0;repeat refine tz1 fx ?_
   exact aR
  obtain⟨k,rfl⟩:=fJ (show 0<=x by omega);by_cases h1:(c.states.length:Int)<=k
  ·rw[bad (by rw[hat,nk (by unfold inZ;rw[LD (p:=(k:Int)<_) (by omega),L8]),L8])];have F:=ai5 hx q1 h0 h1 hfl;repeat refine tz1 fx ?_
   exact aR
  obtain⟨s,hs⟩: ∃s,c.states[k]? =some s:=⟨c.states[k]'(by omega),KZ _⟩;have f2:=f2 k s hs;rw[zq hs]at hat;by_cases hj0:0<j
  ·have q3:(0:Int)< (j:Int):=by omega
   have q4:IntKind.i64.wrap ((j:Int)-1)=((j-1:Nat):Int):=by rw[aU (by omega) (by omega)];omega
   have hy:=Co hj0 hlt;have q5:((j-1:Nat):Int)< (act.length:Int):=by omega
   have b0:(j==0)=false:=by simp;omega
   generalize act.getD (j-1) 0=y at*;by_cases h2:(k:Int)<=y
   ·rw[bad (by rw[hat,b0,LD (by omega)];rfl)];have F:=ai10 hx q1 h0 h1 hfl q3 q4 q5 hy h2;repeat refine tz1 fx ?_
    exact aR
   cases hb:qO c act k s with
   | false=>
     rw[hb]at f2 hat;rw[bad (by rw[hat,L8])];have F:=ai11 aA.eq_1 hx q1 h0 h1 hfl q3 q4 q5 hy h2;repeat refine tz2 f2 fx ?_
     exact aR
   | true=>
     rw[hb,b0,LK (show y< (k:Int) by omega)]at hat;rw[hb]at f2;have F:=ai12 aA.eq_1 hx q1 q2 h0 h1 hfl q3 q4 q5 hy h2;repeat refine tz1 f2 ?_
     refine⟨j+1,⟨hlt,fun m hm=>by rcases Lq.1 hm with e|e;exact hall m e;rw[e];exact hat⟩,?_,?_,by omega⟩
     ·exact qe
     ·have F:=aA.eq_1;exact qe
  ·have q3: ¬(0:Int)< (j:Int):=by omega
   have b0:(j==0)=true:=by simp;omega
   cases hb:qO c act k s with
   | false=>
     rw[hb,b0]at hat;rw[hb]at f2;rw[bad (by rw[hat,L8])];have F:=ai7 aA.eq_1 hx q1 h0 h1 hfl q3;repeat refine tz2 f2 fx ?_
     exact aR
   | true=>
     rw[hb,b0]at hat;rw[hb]at f2;have F:=ai8 aA.eq_1 hx q1 q2 h0 h1 hfl q3;repeat refine tz1 f2 ?_
     refine⟨j+1,⟨hlt,fun m hm=>by rcases Lq.1 hm with e|e;exact hall m e;rw[e];exact hat⟩,?_,?_,by omega⟩
     ·exact qe
     ·have F:=aA.eq_1;exact qe
 ·rintro ws esc q1 hall
  have hc1:jj c act=if manyI act (kidsL c (-1) true)=1 then(0, -1) else(1, -1):=by
   unfold jj;rw[bF hall]
  by_cases hm:manyI act (kidsL c (-1) true)=1
  ·rw[K5 hm]at hc1;rw[JH hc1];have hmi:((manyI act (kidsL c (-1) true):Nat):Int)=1:=by omega
   have F:=ai q1 hmi;repeat refine tz2 f3 f4 ?_
   exact aR
  ·rw[K2 hm]at hc1;rw[AK hc1];have hmi:(((manyI act (kidsL c (-1) true):Nat):Int) != 1)=true:=by simp;omega
   have F:=ai q1 hmi;repeat refine tz3 f3 f4 fb ?_
   exact aR
theorem tw (env:Env) (c:ChD) (h:Full c) (act:List Int) (hl:act.length<=1000000):Con prog env 93 [.agg (aA c), .seq 1 (act.map intAV)] (.tuple [I (jj c act).1,I (jj c act).2]):=by
 have hlen:=h.few;have f3:=bj env c (-1) true (by omega);have hK:=bD h.toRight (-1) true;have f4:=jE env act (kidsL c (-1) true) hl (by omega);refine qf func93 call93 ntmps93 results93 ?_;have F:=aA.eq_1;repeat refine st ?_
 have F:=aA.eq_1;refine lq act.length (by omega) (fun j vs=>[(1, .seq 1 (act.map intAV)),(2, .loc 2 (vs 2) 0 0),(6,I j)]) (fun _ _=>[(2,⟨5,[aA c],26,false⟩)]) (fun j _ _=> ∀m,m<j->tx c act m=true) (fun m hm=>absurd hm (by omega)) ?_ ?_
 ·rintro j ws esc hlt q1 q2 hall;obtain⟨x,hx⟩:=gE hlt;have q6:max x (-1)=if x< -1 then -1 else x:=by split<;>omega
  have hat:=rT (c:=c) hx;have f0:=rA env c x;have bad:tx c act j=false->jj c act=(1,max x (-1)):=fun hb=>rS hx hall hb;cases hz:inZ c x with
  | false=>
    rw[hz]at f0;rw[bad (by rw[hat,nk hz,L8])];have F:=ai4 aA.eq_1 hx q1 q6;repeat refine tz1 f0 ?_
    exact aR
  | true=>
    rw[hz]at f0;obtain⟨k,s,rfl,hs,ha⟩:=cF hz;have f2:=yW env c h act hl k s hs;rw[zq hs]at hat;by_cases hj0:0<j
    ·have q3:(0:Int)< (j:Int):=by omega
     have q4:IntKind.i64.wrap ((j:Int)-1)=((j-1:Nat):Int):=by rw[aU (by omega) (by omega)];omega
     have hy:=Co hj0 hlt;have q5:((j-1:Nat):Int)< (act.length:Int):=by omega
     have b0:(j==0)=false:=by simp;omega
     generalize act.getD (j-1) 0=y at*;by_cases h2:(k:Int)<=y
     ·rw[bad (by rw[hat,b0,LD (by omega)];rfl)];have F:=ai9 aA.eq_1 hx q1 q3 q4 q5 q6 hy h2;repeat refine tz1 f0 ?_
      exact aR
     cases hb:qO c act k s with
     | false=>
       rw[hb]at f2 hat;rw[bad (by rw[hat,L8])];have F:=ai9 aA.eq_1 hx q1 q3 q4 q5 q6 hy h2;repeat refine tz2 f0 f2 ?_
       exact aR
     | true=>
       rw[hb,b0,LK (show y< (k:Int) by omega)]at hat;rw[hb]at f2;have F:=ai9 aA.eq_1 hx q1 q2 q3 q4 q5 hy h2;repeat refine tz2 f0 f2 ?_
       refine⟨j+1,⟨hlt,fun m hm=>by rcases Lq.1 hm with e|e;exact hall m e;rw[e];exact hat⟩,?_,?_,by omega⟩
       ·exact qe
       ·have F:=aA.eq_1;exact qe
    ·have q3: ¬(0:Int)< (j:Int):=by omega
     have b0:(j==0)=true:=by simp;omega
     cases hb:qO c act k s with
     | false=>
       rw[hb,b0]at hat;rw[hb]at f2;rw[bad (by rw[hat,L8])];have F:=ai5 aA.eq_1 hx q1 q3 q6;repeat refine tz2 f0 f2 ?_
       exact aR
     | true=>
       rw[hb,b0]at hat;rw[hb]at f2;have F:=ai5 aA.eq_1 hx q1 q2 q3;repeat refine tz2 f0 f2 ?_
       refine⟨j+1,⟨hlt,fun m hm=>by rcases Lq.1 hm with e|e;exact hall m e;rw[e];exact hat⟩,?_,?_,by omega⟩
       ·exact qe
       ·have F:=aA.eq_1;exact qe
 ·rintro ws esc q1 hall
  have hc1:jj c act=if manyI act (kidsL c (-1) true)=1 then(0, -1) else(1, -1):=by
   unfold jj;rw[bF hall]
  rw[hc1];by_cases hm:manyI act (kidsL c (-1) true)=1
  ·rw[K5 hm];have hmi:((manyI act (kidsL c (-1) true):Nat):Int)=1:=by omega
   have F:=ai3 aA.eq_1 q1 hmi;repeat refine tz2 f3 f4 ?_
   exact aR
  ·rw[K2 hm];have hmi:(((manyI act (kidsL c (-1) true):Nat):Int) != 1)=true:=by simp;omega
   have F:=ai3 aA.eq_1 q1 hmi;repeat refine tz2 f3 f4 ?_
   exact aR
end

end Go.Proofs.YtdpjgflalmnkdaaGreatDoor