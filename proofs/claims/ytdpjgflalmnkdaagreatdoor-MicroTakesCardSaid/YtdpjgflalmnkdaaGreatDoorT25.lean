/- The document's words on enabled transitions. -/
import Derived.Test.YtdpjgflalmnkdaaGreatDoorT24
set_option maxRecDepth 100000
set_option maxHeartbeats 16000000
set_option linter.unusedSimpArgs false
namespace Go.Proofs.YtdpjgflalmnkdaaGreatDoor
open Go.Proofs.Tryz
section
open Go.RowKit
def posM:List MemD->Int->Nat
 |[],_=>0
 |x::r,h=>if x.1<h then posM r h+1 else 0
theorem wt (h:Int): ∀l:List MemD,posM l h<=l.length
 |[]=>Kc _
 | x::r=>by
   unfold posM;split
   ·have:=wt h r;simp only[Ks];omega
   ·exact Kj _
theorem Cq {h:Int} : ∀ {l:List MemD},Srt l-> ∀ {j:Nat} {y:MemD},l[j]? =some y->(j<posM l h↔y.1<h)
 |[],_,j,y,hy=>by simp at hy
 | x::r,hs,j,y,hy=>by
   obtain⟨h1,h2⟩:=MI.1 hs;unfold posM;by_cases hx:x.1<h
   ·rw[K5 hx];cases j with
    | zero=>
      simp only[LV,K1]at hy;subst hy;exact⟨fun _=>hx,fun _=>by omega⟩
    | succ j=>
      rw[ML]at hy;have:=Cq (h:=h) h2 hy;omega
   ·rw[K2 hx];refine⟨fun h=>by omega,fun hyl=> ?_⟩;cases j with
    | zero=>
      simp only[LV,K1]at hy;subst hy;exact absurd hyl hx
    | succ j=>
      rw[ML]at hy;have:=h1 y (K4 hy);omega
def isM (l:List MemD) (h:Int):Bool:=match l[posM l h]? with
 |some y=>y.1==h
 |none=>false
theorem zR {m:MemD} : ∀ {l:List MemD},isM l m.1=true->kX l m=l.set (posM l m.1) m
 |[],h=>by simp[isM]at h
 | x::r,h=>by
   unfold kX;unfold isM at h;unfold posM at h |-;by_cases hx:x.1<m.1
   ·rw[K5 hx]at h |-;rw[K5 hx,List.set_cons_succ,zR (by unfold isM;rw[ML]at h;exact h)]
   ·rw[K2 hx]at h |-;rw[K2 hx];have h:(x.1==m.1)=true:=h;rw[K5 (by simpa using h)];rfl
theorem zS {m:MemD} : ∀ {l:List MemD},isM l m.1=false->kX l m=l.take (posM l m.1)++m::l.drop (posM l m.1)
 |[],h=>by simp[kX,posM]
 | x::r,h=>by
   unfold kX;unfold isM at h;unfold posM at h |-;by_cases hx:x.1<m.1
   ·rw[K5 hx]at h |-;rw[K5 hx,zS (by unfold isM;rw[ML]at h;exact h)];rfl
   ·rw[K2 hx]at h |-;rw[K2 hx];have h:(x.1==m.1)=false:=h;rw[K2 (by simpa using h)];rfl
theorem Ji {l:List MemD} {h:Int} (hi:isM l h=true):posM l h<l.length:=by
 unfold isM at hi;cases hg:l[posM l h]? with
 |none=>rw[hg]at hi;cases hi
 |some y=>exact(K0.1 hg).1
end
section
open Go.RowKit
theorem Bo (env:Env) (mem:List MemD) (hl:mem.length<=4096) (hm: ∀m∈mem,m.2.length<=4096):Con prog env 182 [memsAV mem] (.own 134 2 (mem.map mmAV)):=by
 refine qf func182 call182 ntmps182 results182 ?_;repeat refine st0 ?_
 refine aj 3 3 134 2 ?_;refine lq0 mem.length (by omega) (fun j vs=>[(3, .row 3 (vs 3)),(6,memsAV mem),(7,I mem.length),(8,I j)]) (fun j _=>[(3,⟨2,(mem.take j).map mmAV,134,true⟩)]) (fun j _ esc=>esc 3=false) rfl ?_ ?_
 ·rintro j ws esc hlt g1 g2 e0;obtain⟨a,ha⟩:=gE hlt;have f0:=dJ env (a.2.map intAV) (by rw[Ko];exact hm a (K4 ha));have htl:(mem.take j).length=j:=by rw[Kg];omega
  have hf:Fits (j+1) 32:=aC (by omega) (by omega);have htk:mem.take (j+1)=mem.take j++[a]:=by rw[Ky,ha];rfl
  have F:=ai7 mmAV.eq_1 g1 g2 ha htl hf e0;repeat refine tz1 f0 ?_
  refine⟨j+1,⟨hlt,by simp only[go_sem,e0]⟩,?_,?_,by omega⟩
  ·exact qe
  ·have F:=ai3 mmAV.eq_1 htk @Ka.{0,0};exact qe
 ·rintro ws esc g1 e0;have hta:mem.take mem.length=mem:=Kt;have F:=ai3 g1 hta e0;repeat refine st ?_
  exact aR
theorem yp (env:Env) (c:ChD) (hc:Right c) (L:List Int) (hl:L.length<=4000) (d:Int):Con prog env 185 [aJ c, .seq 1 (L.map intAV),I d] (.own 3 1 ((underL c L d).map intAV)):=by
 have f1:=bL env c;unfold aJ aP at f1;unfold aJ;refine qf func185 call185 ntmps185 results185 ?_;repeat refine st0 ?_
 refine aj 7 7 3 1 ?_;refine lq0 L.length (by omega) (fun j vs=>[(0, .ref 9 [tabCells c] 0 0),(2,I d),(7, .row 7 (vs 7)),(10, .seq 1 (L.map intAV)),(11,I L.length),(12,I j)]) (fun j _=>[(7,⟨1,(gK c L d j).map intAV,3,true⟩)]) (fun j _ esc=>esc 7=false) rfl ?_ ?_
 ·rintro j ws esc hlt q1 q2 e0;obtain⟨x,hx⟩:=gE hlt;have f3:=eu env c hc d x;unfold aP at f3;have hil:=o8 c L d j;have hf:Fits ((gK c L d j).length+1) 8:=aC (by omega) (by omega);have hn:=lu (c:=c) (i:=d) hx;cases hb:aboveB c d x with
  | true=>
    rw[hb]at f3;rw[hb,K5 rfl]at hn;have F:=ai5 q1 q2 hx hf e0;repeat refine tz2 f1 f3 ?_
    refine⟨j+1,⟨hlt,by simp only[go_sem,e0]⟩,?_,?_,by omega⟩
    ·exact qe
    ·have F:=ai hn @Ka.{0,0};exact qe
  | false=>
    rw[hb]at f3;rw[hb,K2 LO]at hn;have F:=ai5 q1 q2 hx hf e0;repeat refine tz2 f1 f3 ?_
    refine⟨j+1,⟨hlt,by simp only[go_sem,e0]⟩,?_,?_,by omega⟩
    ·exact qe
    ·have F:=ai hn @Ka.{0,0};exact qe
 ·rintro ws esc q1 e0;have hall:gK c L d L.length=underL c L d:=by unfold gK underL;rw[Kt]
  rw[hall];have F:=ai q1 e0;repeat refine st ?_
  exact aR
theorem kG (env:Env) (l:List Int) (p:Int->Bool) (g:FuncId) (caps:List (List AV)) (hp: ∀d,Con prog env g [I d, .ref 1 caps 0 0] (B (p d))) (hl:l.length<=4096):Con prog env 129 [.seq 1 (l.map intAV), .clo g [.ref 1 caps 0 0]] (B (l.any p)):=by
 have f0:=pV env l p g caps hp hl;cases hi:l6 p l with
 | none=>
   rw[hi]at f0;have h0:l.any p=false:=Nh.2 fun x hx=>by rw[(ow hi).2 x hx];simp
   rw[h0];unfold l7 at f0;refine qf func129 call129 ntmps129 results129 ?_;repeat refine kB f0 ?_
   exact aR0
 | some i=>
   rw[hi]at f0;obtain⟨_,_,d,h3,h4⟩:=ov hi;have h0:l.any p=true:=Lj.2 ⟨d,K4 h3,h4⟩;have q0:(0:Int)<=(i:Int):=by omega
   rw[h0];unfold l7 at f0;refine qf func129 call129 ntmps129 results129 ?_;have F:=q0;repeat refine tz1 f0 ?_
   exact aR
theorem B9 (env:Env) (G:List Int) (hG:G.length<=1000000) (i:Int):Con prog env 221 [I i, .ref 1 [[.seq 1 (G.map intAV)]] 0 0] (B (G.contains i)):=by
 have f0:=bG env G i hG;refine qf func221 call221 ntmps221 results221 ?_;repeat refine kB f0 ?_
 exact aR0
def ng (c:ChD) (l:List Int) (j:Nat):List Int:=(l.take j).filter (innerP c l)
theorem Ba {c:ChD} {l:List Int} {j:Nat} {x:Int} (h:l[j]? =some x):ng c l (j+1)=if innerP c l x then ng c l j++[x] else ng c l j:=by
 unfold ng;rw[Ky,h,LE];cases hb:innerP c l x<;>simp[hb]
theorem FK (c:ChD) (l:List Int) (j:Nat):(ng c l j).length<=l.length:=by
 unfold ng;exact Km (Kq ..) (by rw[Kg];omega)
theorem FJ (env:Env) (c:ChD) (h:Full c) (l:List Int) (hl:l.length<=4000) (hz: ∀x∈l,inZ c x=true):Con prog env 184 [aJ c, .seq 1 (l.map intAV)] (.own 3 1 ((innerL c l).map intAV)):=by
 unfold aJ;refine qf func184 call184 ntmps184 results184 ?_;repeat refine st0 ?_
 refine aj 5 5 3 1 ?_;refine lq0 l.length (by omega) (fun j vs=>[(0, .ref 9 [tabCells c] 0 0),(3, .loc 3 (vs 3) 0 0),(5, .row 5 (vs 5)),(9, .seq 1 (l.map intAV)),(10,I l.length),(11,I j)]) (fun j _=>[(3,⟨1,[[.seq 1 (l.map intAV)]],27,false⟩),(5,⟨1,(ng c l j).map intAV,3,true⟩)]) (fun j _ esc=>esc 3=false/\esc 5=false) ⟨rfl,rfl⟩ ?_ ?_
 ·rintro j ws esc hlt q1 q2 ⟨e0,e1⟩;obtain⟨x,hx⟩:=gE hlt;have f2:=bV env c h x;rw[K5 (.inr (hz x (K4 hx)))]at f2;have hK:=bD h.toRight x true;have f3:=(kG env (kidZ c x) (fun d=>l.contains d) 221 [[.seq 1 (l.map intAV)]] (B9 env l (by omega)) (by rw[an];omega)).lend rfl;rw[bc]at f3;have hil:=FK c l j;have hf:Fits ((ng c l j).length+1) 8:=aC (by omega) (by omega);have hn:=Ba (c:=c) hx;have hP:innerP c l x= !((kidZ c x).any fun d=>l.contains d):=rfl;generalize ((kidZ c x).any fun d=>l.contains d)=b at*;generalize kidsL c x true=K at*;unfold aJ at f2;cases b with
  | true=>
    rw[hP,M1,K2 LO]at hn;have F:=ai6 q1 q2 hx hf e0 e1;repeat refine tz1 f2 ?_
    refine lL f3 ?_;repeat refine st ?_
    refine⟨j+1,⟨hlt,by simp only[go_sem,e0],by simp only[go_sem,e1]⟩,?_,?_,by omega⟩
    ·exact qe
    ·have F:=hn;exact qe
  | false=>
    rw[hP,Lx,K5 rfl]at hn;have F:=ai6 q1 q2 hx hf e0 e1;repeat refine tz1 f2 ?_
    refine lL f3 ?_;repeat refine st ?_
    refine⟨j+1,⟨hlt,by simp only[go_sem,e0],by simp only[go_sem,e1]⟩,?_,?_,by omega⟩
    ·exact qe
    ·have F:=ai hn @Ka.{0,0};exact qe
 ·rintro ws esc q1 ⟨e0,e1⟩;have hall:ng c l l.length=l.filter (innerP c l):=by unfold ng;rw[Kt]
  rw[hall];have hU:(l.filter (innerP c l)).length<=l.length:=Kq ..;unfold innerL;generalize l.filter (innerP c l)=U at*;have f4:=pK U (by omega);have F:=ai3 q1 e0 e1;repeat refine st ?_
  refine nL 5 rfl (row:=⟨1,U.map intAV,3,true⟩) f4 (LL 0) rfl (bl _).symm (by simp only[go_sem,e0,e1];exact iR) (by simp only[go_sem,e0,e1];exact iR) (by simp only[go_sem,e0,e1];exact iR) (by simp only[go_sem,e0,e1];exact iR) ?_;rw[bl];repeat refine st ?_
  exact aR
end
section
open Go.RowKit Go.ChangeShapes Go.WideShapes Go.ChangeAt
abbrev InD:=List Int×List Int×List MemD×List (List UInt8×Int)×Bool
def inE (x:InD):List AV:=[ints34 x.1,ints34 x.2.1, .seq 2 (x.2.2.1.map mmAV), .seq 2 (x.2.2.2.1.map tmAV),B x.2.2.2.2]
def uD (t:List UInt8×Int):Prop:=t.1.length<=maxLen
def C4 (x:InD):Prop:=(x.1.length<=maxLen/\x.2.1.length<=maxLen)/\(x.2.2.1.length<=maxLen/\ ∀m∈x.2.2.1,IA m)/\x.2.2.2.1.length<=maxLen/\ ∀t∈x.2.2.2.1,uD t
theorem Jr:prog.cellsOf 4=1:=by kernel_rfl
theorem c_tm:prog.cellsOf 92=2:=by kernel_rfl
theorem Jq:prog.cellsOf 31=5:=by kernel_rfl
section
variable {H:Type} {enc:TypeId×Value->H} {w:World} {base:Nat} {spare:Nat->Bool} {held:Bool}
theorem Ig (m:Nat) (cs:List Value) (y:DataW H×List MemPlace) (h:DataW.trod enc prog w base spare held m 92 cs=some y): ∃a:List UInt8×Int,RE w tmAV uD cs a:=by
 obtain⟨xs,n,_,_,hl,hxl,hg⟩:=M9 Tryz.underlying92 h;rw[c_tm]at hl;obtain⟨c0,c1,rfl⟩:=GB hl;obtain⟨y0,h0⟩:=bZ hxl hg 0 _ rfl 9 0 1 rfl rfl iN;obtain⟨x0,e0, -,s0⟩:=NE Tryz.underlying9 (show DataW.trod enc prog w base spare held n 9 [c0]=some y0 from h0);cases e0;obtain⟨⟨t0⟩⟩:=x0;obtain⟨y1,h1⟩:=bZ hxl hg 1 _ rfl 3 1 1 rfl rfl c_int;obtain⟨x1,e1, -, -⟩:=MC Tryz.underlying3 (show DataW.trod enc prog w base spare held n 3 [c1]=some y1 from h1);cases e1;exact⟨(t0,x1),⟨⟨rfl, .lit _⟩,⟨rfl, .lit _⟩,trivial⟩,(by simpa[uD,ByteArray.size]using s0)⟩
end
end
section
open Go.RowKit
def jk (c:ChD) (x:InD) (ev:List UInt8) (d n:Int):List AV:=[Sg c.name,I c.initial,varsAV c.vars,stsAV c.states,trsAV c.trans,ints34 x.1,ints34 x.2.1, .seq 2 (x.2.2.1.map mmAV), .seq 2 (x.2.2.2.1.map tmAV),B x.2.2.2.2,Sg ev,I d,I n]
theorem kJ (env:Env) (c:ChD):Con prog env 15 [.agg (aA c)] (B (rR c)):=by
 unfold rR;by_cases h1:(c.states.length:Int)<=40<;>by_cases h2:(c.trans.length:Int)<=70<;>by_cases h3:(c.vars.length:Int)<=10
 all_goals (refine i7 func15 rfl call15 (by rw [ntmps15]; simp) ?_
            rw[ntmps15,results15])
 all_goals have F:=ai4 aA.eq_1 h1 h2 h3
 all_goals (repeat refine st ?_)
 all_goals ((refine aM ?_;show (ae _ _ _).run _=some _;simp only[go_sem,F]))
theorem BX (env:Env) (a1 a8:Addr) (he:ChEnv env a1 a8) (hT: ∀W,env.inv W->TabAt W) (c:ChD) (hcf:jS c) (h:mP c=true):Con prog env 4 [.agg (aA c)] (aJ c):=by
 have f0:=kJ env c;have f1:=mD env c;unfold mP at h;rw[K3]at h;rw[h.1]at f0;rw[h.2]at f1;rw[L5]at h;have f2:=ub env a1 a8 he hT c (Jo h.2) hcf;unfold aJ at f2 |-;refine qf func4 call4 ntmps4 results4 ?_;repeat refine GE f0 f1 f2 ?_
 exact aR0
def kV (c:ChD) (x:InD):Bool:= !mP c||decide (60< (x.1.length:Int))||decide (60< (x.2.2.1.length:Int))||decide (60< (x.2.1.length:Int))
theorem yL (env:Env) (c:ChD) (x:InD) (ev:List UInt8) (d n:Int):Con prog env 5 [.agg (jk c x ev d n)] (B (kV c x)):=by
 have f0:=kJ env c;have f1:=mD env c;unfold aA at f0 f1;unfold kV mP;refine qf func5 call5 ntmps5 results5 ?_;have F:=jk.eq_1;exact gz2 f0 f1
theorem xv (ad:Nat->Addr) (mo:More) (k:Nat) (hk:1<=k/\k<=9) (p:Int) (ps:List Int):Con prog (cE ad mo) 9 [errV p (chainV ps (sentV (ad k))),I k] (B true):=by
 have f0:Con prog (cE ad mo) 28 [errV p (chainV ps (sentV (ad k)))] (I k):=Bt ad mo k hk (p::ps);have b0:(((k:Nat):Int)==0)=false:=by simp;omega
 generalize chainV ps (sentV (ad k))=X at*;refine qf func9 call9 ntmps9 results9 ?_;have F:=b0;repeat refine tz1 f0 ?_
 exact aR
end
section
open Go.RowKit
def woX (c:ChD) (act vars:List Int) (d:Int):WoD:=⟨vars,d,(List.range c.states.length).map fun k:Nat=>act.contains (k:Int)⟩
theorem wb (c:ChD) (act vars:List Int) (d:Int):(woX c act vars d).act.map bCell=flagA c.states.length act:=by
 unfold woX flagA;rw[Ms];rfl
theorem qY (c:ChD) (act vars:List Int) (d:Int):(woX c act vars d).act.length=c.states.length:=by
 unfold woX;simp
theorem cS {c:ChD} (h:Full c):ActsOk c:=by
 have hs: ∀(i:Int) (s:StD),at_ c i=some s-> ∃k,bz c k s=true:=fun i s e=>by
  unfold at_ at e;split at e
  ·exact⟨_,h.st _ s e⟩
  ·cases e
 refine⟨fun i a ha=> ?_,fun i a ha=> ?_,fun n t ht a ha=> ?_⟩
 ·unfold zV at ha;split at ha
  ·rename_i s e;obtain⟨k,hk⟩:=hs i s e;unfold bz eI at hk;simp only[K3]at hk;exact K7.1 hk.2.2 a ha
  ·simp at ha
 ·unfold inA at ha;split at ha
  ·rename_i s e;obtain⟨k,hk⟩:=hs i s e;unfold bz eI at hk;simp only[K3]at hk;exact K7.1 hk.1.2.2 a ha
  ·simp at ha
 ·have:=h.tr n t ht;unfold dU eI at this;simp only[K3]at this;exact K7.1 this.1.2.2 a ha
theorem zk {c:ChD} (h:Full c) {n:Nat} {t:TrD} (ht:c.trans[n]? =some t):t.guard=[]\/bg t.guard c.vars.length c.states.length=true:=by
 have:=h.tr n t ht;unfold dU at this;simp only[K3,Ll,L5]at this;exact this.1.1.2
def rnE (c:ChD) (x:InD) (d:Int):List AV:=[ints34 x.1,ints34 x.2.1, .seq 2 (x.2.2.1.map mmAV), .seq 2 (x.2.2.2.1.map tmAV),B x.2.2.2.2,nilS,nilS, .ref 9 [tabCells c] 0 0,Sg c.name,I c.initial,varsAV c.vars,stsAV c.states,trsAV c.trans,I d,I 0]
structure Asked (c:ChD) (x:InD) (d:Int):Prop where
 act:x.1.length<=1000
 len:x.2.1.length=c.vars.length
 fit: ∀v∈x.2.1,aL v=true
 data:aL d=true
 lg:lgB c x.1=true
theorem Asked.ok {c:ChD} {x:InD} {d:Int} (h:Asked c x d):(woX c x.1 x.2.1 d).Ok:=⟨h.fit,h.data⟩
theorem Dr (env:Env) (c:ChD) (hc:c.states.length<=4000) (x:InD) (d:Int) (hx:Asked c x d):Con prog env 125 [.ref 15 [rnE c x d] 0 0] (.agg (dl (woX c x.1 x.2.1 d))):=by
 have f0:=jJ env c hc x.1 (by have:=hx.act;omega);unfold aJ at f0;unfold dl;rw[wb];show Con _ _ _ _ (.agg [ints34 x.2.1,I d, .seq 1 (flagA c.states.length x.1)]);generalize flagA c.states.length x.1=L at*;refine qf func125 call125 ntmps125 results125 ?_;have F:=rnE.eq_1;repeat refine tz1 f0 ?_
 exact aR
def rl (a2:Addr):Fd->AV
 | .no=> .tuple [I (-1),nilE]
 | .one n=> .tuple [I (n:Nat),nilE]
 | .bad n=> .tuple [I (-1),errV (1000+(n:Nat)) (sentV a2)]
theorem Bf {c:ChD} {w:WoD} {n:Nat} {l:List Nat} (h:ij w (l8 c n)=none):ce c w (n::l)= .bad n:=by unfold ce;rw[h]
theorem F0 {c:ChD} {w:WoD} {n:Nat} {l:List Nat} (h:ij w (l8 c n)=some true):ce c w (n::l)= .one n:=by unfold ce;rw[h]
theorem HH {c:ChD} {w:WoD} {n:Nat} {l:List Nat} (h:ij w (l8 c n)=some false):ce c w (n::l)=ce c w l:=by conv=>lhs;unfold ce;rw[h]
theorem F1 (env:Env) (a1 a2 a8:Addr) (he:ChEnv env a1 a8) (h2:env 2=some (sentV a2)) (c:ChD) (h:Full c) (hs:Small c) (x:InD) (d:Int) (hx:Asked c x d) (l:List Nat) (hl:l.length<=1000) (hk: ∀n∈l,n<c.trans.length):
 Con prog env 64 [.ref 15 [rnE c x d] 0 0, .seq 1 (l.map aB)] (rl a2 (ce c (woX c x.1 x.2.1 d) l)):=by
 have hfew:=h.few;have hftr:=h.ftr;have f0:=Dr env c (by omega) x d hx;have g2:=jz h2;have hvl:(woX c x.1 x.2.1 d).vars.length<=1000000:=by show x.2.1.length<=_;have:=hx.len;have:=hs.vars;omega
 have f1: ∀(n:Nat) (t:TrD),c.trans[n]? =some t-> ∀b,ij (woX c x.1 x.2.1 d) t.guard=some b->_:=fun n t ht b hb=>GN env a1 a2 a8 he h2 (woX c x.1 x.2.1 d) hx.ok hvl t.guard (by rw[qY];show _\/bg t.guard (x.2.1.length:Int) _=true;rw[hx.len];exact zk h ht) b hb;have f2: ∀(n:Nat) (t:TrD),c.trans[n]? =some t->ij (woX c x.1 x.2.1 d) t.guard=none->_:=fun n t ht hb=>EC env a1 a2 a8 he h2 (woX c x.1 x.2.1 d) hx.ok hvl t.guard (by rw[qY];show _\/bg t.guard (x.2.1.length:Int) _=true;rw[hx.len];exact zk h ht) hb;generalize woX c x.1 x.2.1 d=W at*;unfold dl at f0 f1 f2;refine qf func64 call64 ntmps64 results64 ?_;repeat refine st0 ?_
 refine lq0 l.length (by omega) (fun j _=>[(0, .ref 15 [rnE c x d] 0 0),(10, .seq 1 (l.map aB)),(11,I l.length),(12,I j)]) (fun _ _=>[]) (fun j _ _=>ce c W l=ce c W (l.drop j)) rfl ?_ ?_
 ·rintro j vs esc hlt q1 q2 hq;obtain⟨n,hn⟩:=gE hlt;have hnl:=hk n (K4 hn);obtain⟨t,ht⟩:=gE hnl;have q3:=nlt hnl;have q4:IntKind.i64.wrap (1000+(n:Int))=1000+(n:Int):=aU (by omega) (by omega);have hdc:=bB hn;have hga:l8 c n=t.guard:=by unfold l8;rw[ht]
  rw[hdc]at hq;cases hv:ij W t.guard with
  | none=>
    rw[Bf (by rw[hga];exact hv)]at hq;rw[hq];have f3:=f2 n t ht hv;have f4:=xJ env [109,105,99,114,111,46,69,110,97,98,108,101,100] (1000+(n:Int)) a2 (by omega);show awp _ _ _ _ _ _;unfold rl;have F:=ai9 rnE.eq_1 az.eq_1 aB.eq_1 hn ht q1 q3 q4 g2;repeat refine tz3 f0 f3 f4 ?_
    exact aR
  | some b=>
    have f3:=f1 n t ht b hv;cases b with
    | true=>
      rw[F0 (by rw[hga];exact hv)]at hq;rw[hq];show awp _ _ _ _ _ _;unfold rl;have F:=ai7 rnE.eq_1 az.eq_1 aB.eq_1 hn ht q1 q3;repeat refine tz2 f0 f3 ?_
      exact aR
    | false=>
      rw[HH (by rw[hga];exact hv)]at hq;have F:=ai8 rnE.eq_1 az.eq_1 aB.eq_1 hn ht q1 q2 q3;repeat refine tz2 f0 f3 ?_
      exact qn (j+1) ⟨hlt,hq⟩
 ·rintro vs esc q1 hq;rw[Ls]at hq;rw[hq];show awp _ _ _ _ _ _;show awp _ _ _ _ _ _;unfold ce rl;have F:=q1;repeat refine st ?_
  exact aR
theorem Jc (env:Env) (c:ChD) (h:Full c) (x:InD) (d:Int) (k:Int) (ev:List UInt8):Con prog env 65 [.ref 15 [rnE c x d] 0 0,I k,Sg ev] (.own 3 1 ((d4 c k ev c.trans.length).map aB)):=by
 have hftr:=h.ftr;by_cases he:ev=[]
 ·subst he;rw[Ay];have f0:=xx env c (by omega) k;unfold aJ at f0;refine qf func65 call65 ntmps65 results65 ?_;have F:=rnE.eq_1;repeat refine tz1 f0 ?_
  exact aR
 ·rw[Ax c k he];have f0:=wF env c (by omega) ev;have f1:=EF env c (by omega) k (evI c ev);have q0:(ev == [])=false:=by simpa using he
  unfold aJ at f0 f1;refine qf func65 call65 ntmps65 results65 ?_;have F:=ai rnE.eq_1 q0;repeat refine tz2 f0 f1 ?_
  exact aR
theorem GX {c:ChD} {k:Int} {ev:List UInt8} {j n:Nat} (h:n∈d4 c k ev j):n<j:=Kw.1 (Ke.1 h).1
theorem JA {c:ChD} {w:WoD} {ev:List UInt8} {k:Int} {l:List Int} (h:ce c w (d4 c k ev c.trans.length)= .no):eV c w ev (k::l)=eV c w ev l:=by
 conv=>lhs;unfold eV
 rw[h]
theorem HJ {c:ChD} {w:WoD} {ev:List UInt8} {k:Int} {l:List Int} {n:Nat} (h:ce c w (d4 c k ev c.trans.length)= .one n):eV c w ev (k::l)= .one n:=by
 unfold eV;rw[h]
theorem HL {c:ChD} {w:WoD} {ev:List UInt8} {k:Int} {l:List Int} {n:Nat} (h:ce c w (d4 c k ev c.trans.length)= .bad n):eV c w ev (k::l)= .bad n:=by
 unfold eV;rw[h]
theorem HK (env:Env) (a1 a2 a8:Addr) (he:ChEnv env a1 a8) (h2:env 2=some (sentV a2)) (c:ChD) (h:Full c) (hs:Small c) (x:InD) (d:Int) (hx:Asked c x d) (i:Int) (ev:List UInt8):
 Con prog env 25 [.ref 15 [rnE c x d] 0 0,I i,Sg ev] (rl a2 (eV c (woX c x.1 x.2.1 d) ev (i::upL c i))):=by
 have hfew:=h.few;have hftr:=h.ftr;have f0:=bL env c;have f1:Con prog env 63 [aP c,I i] (.own 3 1 ((upL c i).map intAV)):=wj env c h.toRight i;have f2:=Jc env c h x d;have f3:=fun k=>F1 env a1 a2 a8 he h2 c h hs x d hx (d4 c k ev c.trans.length) (by have:(d4 c k ev c.trans.length).length<=c.trans.length:=kI (xZ c k ev) c.trans.length;omega) (fun n hn=>GX hn);have hul:(upL c i).length<=40:=lK ..;have hf:Fits (1+(upL c i).length) 8:=aC (by omega) (by omega);have e0:[[I i]]++(upL c i).map intAV=(i::upL c i).map intAV:=rfl;have hwl:(i::upL c i).length<=4000:=by simp only[Ks];omega
 have ew:((i::upL c i).map intAV).length=(i::upL c i).length:=Ko ..;generalize woX c x.1 x.2.1 d=W at*;generalize hR:(i::upL c i)=R at*;unfold aP at f0 f1;unfold aJ at f0;refine qf func25 call25 ntmps25 results25 ?_;have F:=ai3 rnE.eq_1 hf e0;repeat refine tz2 f0 f1 ?_
 have F:=rnE.eq_1;refine lq R.length (by omega) (fun j vs=>[(0, .ref 15 [rnE c x d] 0 0),(2,Sg ev),(21, .row 13 (vs 13)),(22,I R.length),(23,I j)]) (fun _ _=>[(13,⟨1,R.map intAV,3,true⟩)]) (fun j _ _=>eV c W ev R=eV c W ev (R.drop j)) rfl ?_ ?_
 ·rintro j vs esc hlt q1 q2 hq;obtain⟨k,hk⟩:=gE hlt;have f4:=f2 k ev;have f5:=f3 k;rw[bB hk]at hq;cases hv:ce c W (d4 c k ev c.trans.length) with
  | no=>
    rw[hv]at f5;unfold rl at f5;rw[JA hv]at hq;have F:=ai4 intAV.eq_1 hk q1 q2;repeat refine tz2 f4 f5 ?_
    exact qn (j+1) ⟨hlt,hq⟩
  | one n=>
    rw[hv]at f5;unfold rl at f5;rw[HJ hv]at hq;rw[hq];have q3:(0:Int)<=(n:Int):=by omega
    show awp _ _ _ _ _ _;unfold rl;have F:=ai5 intAV.eq_1 hk q1 q2 q3;repeat refine tz2 f4 f5 ?_
    exact aR
  | bad n=>
    rw[hv]at f5;unfold rl at f5;rw[HL hv]at hq;rw[hq];show awp _ _ _ _ _ _;unfold rl;have F:=ai4 intAV.eq_1 hk q1 q2;repeat refine tz2 f4 f5 ?_
    exact aR
 ·rintro vs esc q1 hq;rw[Ls]at hq;rw[hq];show awp _ _ _ _ _ _;unfold eV rl;have F:=q1;repeat refine st ?_
  exact aR
end
section
open Go.RowKit
theorem JS.seq {S:Nat->Nat->Prop} {w:World} {base:Nat} {v:Value} {e:TypeId} {sz:Nat} {es:List (List AV)} (h:JS S w base v e sz es):
 ∃S':Nat->Nat->Prop,(∀b o,S b o->S' b o)/\(∀b o,S' b o->S b o\/(base<=b/\b<w.heap.size))/\RV S' w v (.seq sz es):=by
 obtain⟨l,ho,hpos,hE,_⟩:=h;obtain⟨S',hS'⟩: ∃S':Nat->Nat->Prop,S'=fun b o=>S b o\/v.ownBlock=some b:=⟨_,rfl⟩;have hsup: ∀b o,S b o->S' b o/\Stay w w b o:=fun b o hh=>⟨by rw[hS'];exact .inl hh, .rfl⟩;refine⟨S',fun b o hh=>(hsup b o hh).1,fun b o hh=> ?_,?_⟩
 ·rw[hS']at hh;exact hh.imp id fun hh=>bX ho hh
 rcases ho.2 with⟨rfl,hn⟩|⟨g,cap,cur,rfl,hb,hc,hle,_,_,htake⟩
 ·have hes:es=[]:=LS hn;subst hes;exact .seq none 0 0 sz [] 0 0 (fun _ _=>undef) rfl (Kc _) (fun hh=>by omega) (fun i e he=>by simp at he) (fun i j c hh=>by simp[cellAt]at hh) (fun i j c hh=>by simp[cellAt]at hh)
 ·have k:=hE;refine .seq (some ⟨g,0,none⟩) es.length cap sz es g 0 (fun i j=>l.getD (i*sz+j) undef) rfl hle (fun _=>rfl) k.els (fun i j c hcc=> ?_) fun i j c hcc=> ?_
  ·obtain⟨u,h1,h2⟩:=k.cell i j c hcc;have hu:l.getD (i*sz+j) undef=u:=by simp[List.getD,h1]
   rw[hu,Li];exact⟨by rw[hS'];exact .inr rfl,iI ho rfl _ u h1,k.one u (K4 h1)⟩
  ·obtain⟨u,h1,h2⟩:=k.cell i j c hcc;have hu:l.getD (i*sz+j) undef=u:=by simp[List.getD,h1]
   rw[hu];exact h2.mono hsup
theorem ConF.seen {P:Program} {env:Env} {f:FuncId} {cs:List AV} {e:TypeId} {sz:Nat} {es:List (List AV)} (h:ConF P env f cs (.own e sz es)):ConF P env f cs (.seq sz es):=by
 refine⟨h.enter,fun w S vs hE hl hv=>(h.calls w S vs hE hl hv).mono ?_⟩;rintro ex w' ⟨v,rfl,hb,S1,h1,hr⟩;obtain⟨S2,k1,k2,k3⟩:=JS.seq hr;exact⟨v,rfl,hb,S2,fun b o hh=>(k2 b o hh).elim (h1 b o) id,k3⟩
def RYe (c:ChD) (d now:Int) (M:List (List AV)) (o:Bool) (g:Nat->Nat):List AV:=[.row 1001 (g 1001), .row 1002 (g 1002), .seq 2 M, .row 1003 (g 1003),B o, .row 1004 (g 1004), .row 1005 (g 1005), .ref 9 [tabCells c] 0 0,Sg c.name,I c.initial,varsAV c.vars,stsAV c.states,trsAV c.trans,I d,I now]
def RY (c:ChD) (d now:Int) (r:RunD) (g:Nat->Nat):List (Nat×Row):=[(1000,⟨15,[RYe c d now (r.mem.map mmAV) r.over g],71,false⟩),(1001,⟨1,r.act.map intAV,3,true⟩),(1002,⟨1,r.vars.map intAV,3,true⟩),(1003,⟨2,r.tms.map tmAV,92,true⟩),(1004,⟨1,r.outs.map intAV,3,true⟩),(1005,⟨2,r.rais.map tmAV,210,true⟩)]
def gr5 (k:Nat):Bool:=k==1001||(k==1003||(k==1004||k==1005))
def cv (a2 a8:Addr):ErD->AV
 |none=>nilE
 |some (k,ps)=>errV (ps.headD (-1)) (chainV ps.tail (sentV (if k=2 then a2 else a8)))
theorem eW (a2 a8:Addr) (e:ErD) (L:Nat->Nat->Option (Nat×Nat)):(cv a2 a8 e).ren L=cv a2 a8 e:=by rcases e with _|⟨_,_⟩<;>rfl
theorem AW (env:Env) (c:ChD) (hc:c.states.length<=4000) (d now:Int) (r:RunD) (hl:r.act.length<=1000000):ConI prog env 125 [1000,1001,1002,1003,1004,1005] (fun _=>false) (fun g=>[.loc 1000 (g 1000) 0 0]) (RY c d now r) (RY c d now r) (fun g=>woI (woR c d r) g):=by
 have f0:=jJ env c hc r.act hl;have f0:=(f0.lend (ag (fun _=>rfl) _)).seen;have h0:(woR c d r).act.map bCell=flagA c.states.length r.act:=wb c r.act r.vars d;unfold woI;rw[h0];show ConI _ _ _ _ _ _ _ _ fun g=> .agg [.row 1002 (g 1002),I d, .seq 1 (flagA c.states.length r.act)];unfold aJ at f0;generalize flagA c.states.length r.act=L at*;refine qi func125 call125 ntmps125 results125 ?_;intro vs esc hesc;obtain⟨e0,e1,e2,e3,e4,e5⟩:=es6 hesc;have F:=ai8 RY.eq_1 RYe.eq_1 e0 e1 e2 e3 e4 e5;repeat refine st ?_
 refine lL f0 ?_;repeat refine st ?_
 exact rI
theorem EG (env:Env) (G:List UInt8) (x:List UInt8×Int):Con prog env 228 [.agg (tmAV x), .ref 1 [[Sg G]] 0 0] (B (x.1==G)):=by
 have h0:(x.1==G)=(x.1.toArray==G.toArray):=by rw[LC];simp
 unfold tmAV;refine qf func228 call228 ntmps228 results228 ?_;repeat refine st0 ?_
 exact aR0
theorem zC (env:Env) (c:ChD) (d now:Int) (r:RunD) (hl:r.tms.length<=4096) (s:List UInt8):ConI prog env 190 [1000,1001,1002,1003,1004,1005] gr5 (fun g=>[.loc 1000 (g 1000) 0 0,Sg s]) (RY c d now r) (RY c d now { r with tms:=without r.tms s }) (fun _=> .lit (.tuple #[])):=by
 have f0:ConI prog env _ _ _ _ _ (fun _=>[(1000,⟨2,(without r.tms s).map tmAV,92,true⟩),_]) _:=wY env r.tms (fun x=>x.1==s) 228 s 9 (EG env s) hl;generalize without r.tms s=L at*;refine qi func190 call190 ntmps190 results190 ?_;intro vs esc hesc;have e0:=hesc 1000 (by simp);have e1:=hesc 1001 (by simp);have e2:=hesc 1002 (by simp);have e3:=hesc 1003 (by simp);have e4:=hesc 1004 (by simp);have e5:=hesc 1005 (by simp);have F:=ai9 RY.eq_1 RYe.eq_1 gr5.eq_1 e0 e1 e2 e3 e4 e5;repeat refine st ?_
 refine iL [(1000,1003),(1001,3)] f0 ?_;repeat refine st ?_
 exact rN
theorem sq (env:Env) (a8:Addr) (h8:env 7=some (sentV a8)):Con prog env 192 [] (errV (-1) (sentV a8)):=by
 have g1:=jz h8;have f0:=cn env [109,105,99,114,111,46,100,111] a8;refine qf func192 call192 ntmps192 results192 ?_;have F:=g1;repeat refine tz1 f0 ?_
 exact aR
theorem ui (env:Env) (a2 a8:Addr) (h8:env 7=some (sentV a8)) (c:ChD) (d now:Int) (r:RunD) (s:List UInt8) (v:Int):ConI prog env 176 [1000,1001,1002,1003,1004,1005] gr5 (fun g=>[.loc 1000 (g 1000) 0 0,Sg s,I v]) (RY c d now r) (RY c d now (raiseP r s v).1) (fun _=>cv a2 a8 (raiseP r s v).2):=by
 have f0:=sq env a8 h8;unfold raiseP;by_cases hl:16<=r.rais.length
 ·rw[K5 hl];have q0:(16:Int)<=(r.rais.length:Int):=by omega
  show ConI _ _ _ _ _ _ _ _ fun _=>errV (-1) (sentV a8);refine qi func176 call176 ntmps176 results176 ?_;intro vs esc hesc;obtain⟨e0,e1,e2,e3,e4,e5⟩:=es6 hesc;have F:=ai10 RY.eq_1 RYe.eq_1 gr5.eq_1 q0 e0 e1 e2 e3 e4 e5;repeat refine tz1 f0 ?_
  exact rI
 ·rw[K2 hl];have q0: ¬(16:Int)<=(r.rais.length:Int):=by omega
  have q1:Fits (r.rais.length+1) 24:=aC (by omega) (by omega);show ConI _ _ _ _ _ _ _ _ fun _=>nilE;unfold RY;simp only[Ka,LR,MD];refine qi func176 call176 ntmps176 results176 ?_;intro vs esc hesc;obtain⟨e0,e1,e2,e3,e4,e5⟩:=es6 hesc;have F:=ai11 RYe.eq_1 tmAV.eq_1 gr5.eq_1 q0 q1 e0 e1 e2 e3 e4 e5;repeat refine st ?_
  exact rI
theorem EL (env:Env) (a2 a8:Addr) (h2:env 2=some (sentV a2)) (h8:env 7=some (sentV a8)) (c:ChD) (d now:Int) (hn:0<=now/\now<=1099511627776) (r:RunD) (hr:RunOk c r) (s:List UInt8) (v:Int):ConI prog env 191 [1000,1001,1002,1003,1004,1005] gr5 (fun g=>[.loc 1000 (g 1000) 0 0,Sg s,I v]) (RY c d now r) (RY c d now (startP now r s v).1) (fun _=>cv a2 a8 (startP now r s v).2):=by
 have f0:=sq env a8 h8;have f1:=zC env c d now r (by have:=hr.tml;omega) s;have f2:=cn env [109,105,99,114,111,46,115,116,97,114,116] a2;have g2:=jz h2;have k0:IntKind.i64.wrap (1099511627776-now)=1099511627776-now:=aU (by omega) (by omega);unfold startP;by_cases hv:v<0\/1099511627776-now<v
 ·rw[K5 hv];show ConI _ _ _ _ _ _ _ _ fun _=>errV (-1) (sentV a2);by_cases hv0:v<0
  ·refine qi func191 call191 ntmps191 results191 ?_;intro vs esc hesc;obtain⟨e0,e1,e2,e3,e4,e5⟩:=es6 hesc;have F:=ai11 RY.eq_1 RYe.eq_1 gr5.eq_1 hv0 g2 e0 e1 e2 e3 e4 e5;repeat refine tz1 f2 ?_
   exact rI
  ·have hv1:1099511627776-now<v:=by omega
   refine qi func191 call191 ntmps191 results191 ?_;intro vs esc hesc;obtain⟨e0,e1,e2,e3,e4,e5⟩:=es6 hesc;have F:=ai12 RY.eq_1 RYe.eq_1 gr5.eq_1 hv0 hv1 k0 g2 e0 e1 e2 e3<|ai e4 e5;repeat refine tz1 f2 ?_
   exact rI
 rw[K2 hv];have hv0: ¬v<0:=by omega
 have hv1: ¬1099511627776-now<v:=by omega
 by_cases h8:8<=(without r.tms s).length
 ·rw[K5 h8];have q0:(8:Int)<=((without r.tms s).length:Int):=by omega
  show ConI _ _ _ _ _ _ _ _ fun _=>errV (-1) (sentV a8);generalize without r.tms s=L at*;unfold RY RYe at f1;refine qi func191 call191 ntmps191 results191 ?_;intro vs esc hesc;obtain⟨e0,e1,e2,e3,e4,e5⟩:=es6 hesc;have F:=ai12 RY.eq_1 RYe.eq_1 gr5.eq_1 hv0 hv1 k0 q0 e0 e1 e2 e3<|ai e4 e5;repeat refine st ?_
  refine iL L6 f1 ?_;repeat refine tz1 f0 ?_
  exact rI
 ·rw[K2 h8];have q0: ¬(8:Int)<=((without r.tms s).length:Int):=by omega
  have q1:Fits ((without r.tms s).length+1) 24:=aC (by omega) (by omega);have q2:IntKind.i64.wrap (now+v)=now+v:=aU (by omega) (by omega);have hT:=EB (s,now+v) (without r.tms s) (hr.tms.without s).rise qZ (by omega);have k1:bJ ((without r.tms s++[(s,now+v)]).map o6)=(without r.tms s).map tmAV++[[Sg s,I (now+v)]]:=by rw[za,Ka];rfl
  have k2:=za (insT (s,now+v) (without r.tms s));show ConI _ _ _ _ _ _ _ _ fun _=>nilE;generalize insT (s,now+v) (without r.tms s)=L2 at*;generalize without r.tms s=L at*;unfold RY RYe at f1;refine qi func191 call191 ntmps191 results191 ?_;intro vs esc hesc;obtain⟨e0,e1,e2,e3,e4,e5⟩:=es6 hesc;have F:=ai12 RY.eq_1 RYe.eq_1 gr5.eq_1 hv0 hv1 k0 q0 q1 q2 e0 e1<|ai4 e2 e3 e4 e5;repeat refine st ?_
  refine iL L6 f1 ?_;repeat refine st ?_
  refine vv 1003 rfl (row:=⟨2,L.map tmAV++[[Sg s,I (now+v)]],92,true⟩) (by simp only[go_sem]<;>exact iR) (by simp only[go_sem]<;>exact iR) (by simp only[go_sem]<;>exact iR) hT k1.symm rfl (LL 1) (by simp only[go_sem];exact iR) ?_;rw[k2];repeat refine st ?_
  exact rI
end
section
open Go.RowKit
theorem Jn (env:Env) (a1 a2 a8:Addr) (he:ChEnv env a1 a8) (h2:env 2=some (sentV a2)) (c:ChD) (hc:c.states.length<=4000) (hcv:c.vars.length<=1000000) (d now:Int) (hd:aL d=true) (hn:0<=now/\now<=1099511627776) (r:RunD) (hr:RunOk c r) (hl:r.act.length<=1000000) (a:ActD) (ha:fh c.vars.length c.states.length a=true):
 ConI prog env 143 [1000,1001,1002,1003,1004,1005] gr5 (fun g=>[.loc 1000 (g 1000) 0 0, .agg (au a)]) (RY c d now r) (RY c d now (doP c d now r a).1) (fun _=>cv a2 a8 (doP c d now r a).2):=by
 unfold doP;by_cases h5:a.kind=5
 ·rw[K5 h5];have f1:=zC env c d now r (by have:=hr.tml;omega) a.name;show ConI _ _ _ _ _ _ _ _ fun _=>nilE;generalize without r.tms a.name=L at*;have k5:(a.kind==5)=true:=by simp[h5]
  unfold RY RYe at f1;refine qi func143 call143 ntmps143 results143 ?_;intro vs esc hesc;obtain⟨e0,e1,e2,e3,e4,e5⟩:=es6 hesc;have F:=ai12 au.eq_1 RY.eq_1 RYe.eq_1 gr5.eq_1 eW k5 e0 e1 e2 e3 e4 e5;repeat refine st ?_
  refine iL L6 f1 ?_;repeat refine st ?_
  exact rI
 rw[K2 h5]
 have hcode:bg a.code c.vars.length c.states.length=true:=by
  unfold fh at ha;repeat' split at ha
  all_goals (first|(exact absurd ‹a.kind=5› h5)|(simp only[K3]at ha;exact ha.2)|cases ha)
 have f1:=AW env c hc d now r hl;have f2:=F8 env a1 a2 a8 he h2 (woR c d r) (CS hr hd) (by show r.vars.length<=_;rw[hr.len];exact hcv) a.code (by rw[show (woR c d r).act.length=c.states.length from qY c r.act r.vars d,show (woR c d r).vars.length=c.vars.length from hr.len];exact hcode);have hw:(woR c d r).vars=r.vars:=rfl;generalize (woR c d r)=W at*;have k5:(a.kind==5)=false:=by simp[h5]
 unfold woI at f1 f2;unfold tj at f2;rw[hw]at f2;cases hv:lD W a.code with
 | none=>
   have f3:=nN env [109,105,99,114,111,46,100,111] (-1) (sentV a2);rw[hv]at f2;unfold jT at f2;show ConI _ _ _ _ _ _ _ _ fun _=>errV (-1) (errV (-1) (sentV a2));simp only;unfold RY RYe at f1;refine qi func143 call143 ntmps143 results143 ?_;intro vs esc hesc;obtain⟨e0,e1,e2,e3,e4,e5⟩:=es6 hesc;have F:=ai12 au.eq_1 RY.eq_1 RYe.eq_1 gr5.eq_1 eW k5 e0 e1 e2 e3 e4 e5;repeat refine st ?_
   refine iL L6 f1 ?_;repeat refine st ?_
   refine iL [(1002,1002)] f2 ?_;repeat refine tz1 f3 ?_
   exact rI
 | some v=>
   rw[hv]at f2;unfold jT at f2;simp only;have r0:=ui env a2 a8 he.e8 c d now r a.name v;have r1:=EL env a2 a8 h2 he.e8 c d now hn r hr a.name v;have r2:=sq env a8 he.e8;by_cases k1:a.kind=1
   ·rw[K5 k1];have q1:(a.kind==1)=true:=by simp[k1]
    obtain⟨hn0,hn1⟩:0<=a.n/\a.n<c.vars.length:=by
     unfold fh at ha;rw[K5 k1]at ha;simp only[K3,Kh]at ha;exact ha.1.1
    have hlen:=hr.len;have q2:a.n< (r.vars.length:Int):=by omega
    obtain⟨x,hx⟩: ∃x,r.vars[a.n.toNat]? =some x:=⟨r.vars[a.n.toNat]'(by omega),KZ _⟩;show ConI _ _ _ _ _ _ _ _ fun _=>nilE;unfold RY RYe at f1;unfold RY;simp only[NT];refine qi func143 call143 ntmps143 results143 ?_;intro vs esc hesc;obtain⟨e0,e1,e2,e3,e4,e5⟩:=es6 hesc;have F:=ai12 au.eq_1 intAV.eq_1 RYe.eq_1 gr5.eq_1 eW k5 q1 q2 hn0 hx e0<|ai5 e1 e2 e3 e4 e5;repeat refine st ?_
    refine iL L6 f1 ?_;repeat refine st ?_
    refine iL [(1002,1002)] f2 ?_;repeat refine st ?_
    exact rI
   rw[K2 k1];have q1:(a.kind==1)=false:=by simp[k1]
   by_cases k2:a.kind=2
   ·rw[K5 k2];have q2:(a.kind==2)=true:=by simp[k2]
    generalize raiseP r a.name v=X at*;unfold RY RYe at f1 r0;refine qi func143 call143 ntmps143 results143 ?_;intro vs esc hesc;obtain⟨e0,e1,e2,e3,e4,e5⟩:=es6 hesc;have F:=ai12 au.eq_1 RY.eq_1 RYe.eq_1 gr5.eq_1 eW k5 q1 q2 e0 e1 e2<|ai3 e3 e4 e5;repeat refine st ?_
    refine iL L6 f1 ?_;repeat refine st ?_
    refine iL [(1002,1002)] f2 ?_;repeat refine st ?_
    refine iL L6 r0 ?_;repeat refine st ?_
    exact rI
   rw[K2 k2];have q2:(a.kind==2)=false:=by simp[k2]
   by_cases k4:a.kind=4
   ·rw[K5 k4];have q4:(a.kind==4)=true:=by simp[k4]
    generalize startP now r a.name v=X at*;unfold RY RYe at f1 r1;refine qi func143 call143 ntmps143 results143 ?_;intro vs esc hesc;obtain⟨e0,e1,e2,e3,e4,e5⟩:=es6 hesc;have F:=ai12 au.eq_1 RY.eq_1 RYe.eq_1 gr5.eq_1 eW k5 q1 q2 q4 e0 e1<|ai4 e2 e3 e4 e5;repeat refine st ?_
    refine iL L6 f1 ?_;repeat refine st ?_
    refine iL [(1002,1002)] f2 ?_;repeat refine st ?_
    refine iL L6 r1 ?_;repeat refine st ?_
    exact rI
   rw[K2 k4];have q4:(a.kind==4)=false:=by simp[k4]
   unfold Ie;by_cases ho:256<=r.outs.length
   ·rw[K5 ho];have q0:(256:Int)<=(r.outs.length:Int):=by omega
    show ConI _ _ _ _ _ _ _ _ fun _=>errV (-1) (sentV a8);unfold RY RYe at f1;refine qi func143 call143 ntmps143 results143 ?_;intro vs esc hesc;obtain⟨e0,e1,e2,e3,e4,e5⟩:=es6 hesc;have F:=ai12 au.eq_1 RY.eq_1 RYe.eq_1 gr5.eq_1 eW k5 q1 q2 q4 q0 e0<|ai5 e1 e2 e3 e4 e5;repeat refine st ?_
    refine iL L6 f1 ?_;repeat refine st ?_
    refine iL [(1002,1002)] f2 ?_;repeat refine tz1 r2 ?_
    exact rI
   ·rw[K2 ho];have q0: ¬(256:Int)<=(r.outs.length:Int):=by omega
    have q3:Fits (r.outs.length+1) 8:=aC (by omega) (by omega);show ConI _ _ _ _ _ _ _ _ fun _=>nilE;unfold RY RYe at f1;unfold RY;simp only[Ka,LR,MD];refine qi func143 call143 ntmps143 results143 ?_;intro vs esc hesc;obtain⟨e0,e1,e2,e3,e4,e5⟩:=es6 hesc;have F:=ai12 au.eq_1 intAV.eq_1 RYe.eq_1 gr5.eq_1 eW k5 q1 q2 q4 q0 q3<|ai6 e0 e1 e2 e3 e4 e5;repeat refine st ?_
    refine iL L6 f1 ?_;repeat refine st ?_
    refine iL [(1002,1002)] f2 ?_;repeat refine st ?_
    exact rI
structure RunEnv (env:Env) (a1 a2 a8:Addr) (c:ChD) (d now:Int):Prop where
 he:ChEnv env a1 a8
 h2:env 2=some (sentV a2)
 h:Full c
 hs:Small c
 hd:aL d=true
 hn:0<=now/\now<=1099511627776
theorem AR {c:ChD} {d now:Int} {r:RunD} {l:List ActD} {j:Nat} {a:ActD} (ha:l[j]? =some a):allP c d now r (l.drop j)=match doP c d now r a with
 |(r1,none)=>allP c d now r1 (l.drop (j+1))
 |x=>x:=by
 rw[bB ha]
 conv=>lhs;unfold allP
 rcases doP c d now r a with⟨r1,_|_⟩<;>rfl
theorem xV (env:Env) (a1 a2 a8:Addr) (c:ChD) (d now:Int) (E:RunEnv env a1 a2 a8 c d now) (r:RunD) (hr:RunOk c r) (hl:r.act.length<=1000000) (l:List ActD) (hll:l.length<=1000) (ha: ∀a∈l,fh c.vars.length c.states.length a=true):
 ConI prog env 76 [1000,1001,1002,1003,1004,1005] gr5 (fun g=>[.loc 1000 (g 1000) 0 0, .seq 4 (l.map au)]) (RY c d now r) (RY c d now (allP c d now r l).1) (fun _=>cv a2 a8 (allP c d now r l).2):=by
 have hfew:=E.h.few;have hcv:=E.hs.vars;have hdo:=fun(r:RunD) hr hl (a:ActD) ha=>Jn env a1 a2 a8 E.he E.h2 c (by omega) (by omega) d now E.hd E.hn r hr hl a ha;have hok:=fun(r:RunD) (hr:RunOk c r) (a:ActD) ha=>IW E.hd E.hn hr (a:=a) ha;refine qi func76 call76 ntmps76 results76 ?_;intro vs esc hesc;obtain⟨e0,e1,e2,e3,e4,e5⟩:=es6 hesc;have F:=ai9 RY.eq_1 RYe.eq_1 gr5.eq_1 e0 e1 e2 e3 e4 e5;repeat refine st ?_
 refine lp (D:=Nat×RunD) (fun x vs'=>[(0, .loc 1000 (vs' 1000) 0 0),(8, .seq 4 (l.map au)),(9,I l.length),(10,I x.1)]) (fun x vs'=>RY c d now x.2 vs') (fun x vs' esc'=>(x.1<=l.length/\allP c d now r l=allP c d now x.2 (l.drop x.1)/\RunOk c x.2/\x.2.act=r.act)/\(vs' 1000=vs 1000/\vs' 1002=vs 1002)/\esc' 1000=false/\esc' 1001=false/\esc' 1002=false/\esc' 1003=false/\esc' 1004=false/\esc' 1005=false) (fun x=>l.length-x.1) (0,r) ⟨⟨Kj _,rfl,hr,rfl⟩,by simp only[go_sem,Kk],by simp only[go_sem,e0,e1,e2,e3,e4,e5,Kk]⟩ ?_;try clear e0 e1 e2 e3 e4 e5
 rintro⟨j,r1⟩ ws es ⟨⟨hj,heq,hr1,hact⟩,⟨v0,v2⟩,e0,e1,e2,e3,e4,e5⟩;simp only at hj heq hr1 hact;by_cases hlt:j<l.length
 ·obtain⟨a,hx⟩:=gE hlt;have ham:=ha a (K4 hx);have f0:=hdo r1 hr1 (by rw[hact];exact hl) a ham;obtain⟨k1,k2⟩:=hok r1 hr1 a ham;have q1:=nlt hlt;have q2:=aD hlt (by omega);rw[AR hx]at heq;rcases hX:doP c d now r1 a with⟨r2,_|⟨k,ps⟩⟩
  ·rw[hX]at heq f0 k1 k2;simp only at heq k1 k2;unfold cv RY RYe at f0;simp only at f0;unfold au at f0;have F:=ai12 au.eq_1 RY.eq_1 RYe.eq_1 gr5.eq_1 hx q1 q2 e0 e1 e2 e3<|ai e4 e5;repeat refine st ?_
   refine iL L6 f0 ?_;repeat refine st ?_
   refine⟨(j+1,r2),⟨⟨hlt,heq,k1,k2.act.trans hact⟩,?_,?_⟩,?_,?_,?_⟩
   ·simp only[go_sem,v0,v2,Kk]
   ·simp only[go_sem,e0,e1,e2,e3,e4,e5,Kk]
   ·exact qe
   ·exact qe
   ·simp only;omega
  ·rw[hX]at heq f0;simp only at heq;rw[heq];unfold cv RY RYe at f0;unfold au at f0;simp only at f0;show awp _ _ _ _ _ _;unfold cv;simp only;have F:=ai12 au.eq_1 RY.eq_1 RYe.eq_1 gr5.eq_1 hx q1 q2 v0 v2 e0 e1<|ai4 e2 e3 e4 e5;repeat refine st ?_
   refine iL L6 f0 ?_;repeat refine st ?_
   exact rI
 ·obtain rfl:j=l.length:=by omega
  have q1:=nl l.length;rw[Ls]at heq;rw[heq];unfold allP;show awp _ _ _ _ _ _;unfold cv;simp only;have F:=ai12 RY.eq_1 RYe.eq_1 gr5.eq_1 q1 v0 v2 e0 e1 e2 e3 e4 e5;repeat refine st ?_
  exact rI
end
section
open Go.RowKit
theorem FZ (n:Nat) (act:List Int) (j:Nat) (hj:j<n):(((List.range j).map fun k:Nat=>[B (act.contains (k:Int))])++List.replicate (n-j) [B false]).set j [B (act.contains (j:Int))]=((List.range (j+1)).map fun k:Nat=>[B (act.contains (k:Int))])++List.replicate (n-(j+1)) [B false]:=by
 rw[List.set_append_right _ _ (by simp)];simp only[Ko,ND,N5];rw[show n-j=(n-(j+1))+1 by omega,List.replicate_succ,List.set_cons_zero,Mb,Ka,LM];rfl
theorem Az (env:Env) (c:ChD) (hc:c.states.length<=4000) (x:InD) (hl:x.1.length<=1000000) (d:Int):Con prog env 150 [.agg (aA c), .agg (inE x),I d] (.agg (dl (woX c x.1 x.2.1 d))):=by
 have m1: ¬(16777216:Int)< (c.states.length:Int):=by omega
 have m3: ¬(c.states.length:Int)<0:=by omega
 have m4: ¬(281474976710656:Int)< (c.states.length:Int):=by omega
 have m2: ¬(281474976710656:Int)<1*(c.states.length:Int):=by omega
 unfold dl;rw[wb];show Con _ _ _ _ (.agg [ints34 x.2.1,I d, .seq 1 (flagA c.states.length x.1)]);unfold flagA;unfold inE;have hfl: ∀j,j<=c.states.length->(((List.range j).map fun k:Nat=>[B (x.1.contains (k:Int))])++List.replicate (c.states.length-j) [B false]).length=c.states.length:=fun j hj=>by simp;omega
 refine qf func150 call150 ntmps150 results150 ?_;have F:=ai5 aA.eq_1 m1 m2 m3 m4;repeat refine st ?_
 refine aI (D:=Nat) (fun j vs=>[(3, .loc 3 (vs 3) 0 0),(4, .loc 4 (vs 4) 0 0),(6, .loc 6 (vs 6) 0 0),(7, .loc 7 (vs 7) 0 0),(8,I j)])
  (fun j vs=>[(3,⟨5,[aA c],26,false⟩),(4,⟨5,[[ints34 x.1,ints34 x.2.1, .seq 2 (x.2.2.1.map mmAV), .seq 2 (x.2.2.2.1.map tmAV),B x.2.2.2.2]],31,false⟩),(6,⟨3,[[nilS,I 0,nilS]],99,false⟩),(7,⟨3,[[ints34 x.2.1,I d, .row 15 (vs 15)]],99,false⟩),(15,⟨1,((List.range j).map fun k:Nat=>[B (x.1.contains (k:Int))])++List.replicate (c.states.length-j) [B false],4,true⟩)])
  (fun j _ esc=>j<=c.states.length/\esc 15=false/\esc 6=false) (fun j=>c.states.length-j) 0 ?_ ?_ ?_ ?_
 ·exact⟨Kj _,by simp only[go_sem],by simp only[go_sem]⟩
 ·exact qe
 ·have F:=ai3 aA.eq_1 List.range_zero Mq
  (simp only[go_sem,F])
  try rfl
 rintro j ws esc ⟨hj,e0,e1⟩;have hlen:=hfl j hj;by_cases hlt:j<c.states.length
 ·have q1:=nlt hlt;have q2:=aD hlt (by omega);have f0:=cL env x.1 j hl;have hst:=FZ c.states.length x.1 j hlt
  have hgt: ∃v,(((List.range j).map fun k:Nat=>[B (x.1.contains (k:Int))])++List.replicate (c.states.length-j) [B false])[j]? =some [v]:=by
   rw[LA (by simp),NC];simp only[Ko,ND,N5];rw[K5 (by omega)];exact⟨_,rfl⟩
  obtain⟨v,hv⟩:=hgt;generalize hG:(((List.range j).map fun k:Nat=>[B (x.1.contains (k:Int))])++List.replicate (c.states.length-j) [B false])=G at*;have F:=ai8 aA.eq_1 q1 q2 hlen hst hv e0 e1;repeat refine tz1 f0 ?_
  refine⟨j+1,⟨hlt,by simp only[go_sem,e0],by simp only[go_sem,e1]⟩,?_,?_,by omega⟩
  ·exact qe
  ·have F:=aA.eq_1;exact qe
 ·obtain rfl:j=c.states.length:=by omega
  have q1:=nl c.states.length;rw[N5,List.replicate_zero,Lo];have F:=ai4 aA.eq_1 q1 e0 e1;repeat refine st ?_
  exact aR
end

end Go.Proofs.YtdpjgflalmnkdaaGreatDoor