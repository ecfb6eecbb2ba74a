/- A case of layer 32 that came in. -/
import Derived.Test.YtfhkmjbjafeckaaGreatDoorP34
set_option maxRecDepth 100000
set_option maxHeartbeats 16000000
set_option linter.unusedSimpArgs false
set_option linter.defProp false
namespace Go.Proofs.YtfhkmjbjafeckaaGreatDoor
open Go.Proofs.Tryz
section
open Go.RowKit
section
variable {c:aq} {d now:Int} {Q:Nat×List Int->Prop} (hdo: ∀(r:cD) (a:j') e,(Sl c d now r a).2=some e->Q e) (hra: ∀(r:cD) s v e,(gs r s v).2=some e->Q e)
include hdo
theorem uN: ∀(l:List j')(r:cD)(e:Nat×List Int),(l' c d now r l).2=some e->Q e
 |[],_,_,h=>by cases h
 | a::l,r,e,h=>by
   have b:=hdo r a;unfold l' at h;rcases f:Sl c d now r a with⟨g,_|x⟩<;>rw[f]at h b
   ·exact uN l g e h
   exact b e h
theorem xA: ∀(l:List Int)(r:cD)(e:Nat×List Int),(bT c d now r l).2=some e->Q e
 |[],_,_,h=>by cases h
 | i::l,r,e,h=>by
   have b:=uN hdo (wj c i) r;unfold bT at h;rcases f:l' c d now r (wj c i) with⟨g,_|x⟩<;>rw[f]at h b
   ·exact xA l _ e h
   exact b e h
theorem Ca: ∀(l:List Nat)(r:cD)(e:Nat×List Int),(dX c d now r l).2=some e->Q e
 |[],_,_,h=>by cases h
 | n::l,r,e,h=>by
   have b:=uN hdo (dm c n).Z0 r;unfold dX at h;rcases f:l' c d now r (dm c n).Z0 with⟨g,_|x⟩<;>rw[f]at h b
   ·exact Ca l _ e h
   exact b e h
theorem vI: ∀(l:List Int)(f:List Int)(r:cD)(e:Nat×List Int),(ak c d now r f l).1.2=some e->Q e
 |[],_,_,_,h=>by cases h
 | i::l,f,r,e,h=>by
   unfold ak at h;split at h
   ·exact vI l f r e h
   have b:=uN hdo (Tm c i) { r with act:=bR (r.act++[i]) };rcases g:l' c d now { r with act:=bR (r.act++[i]) } (Tm c i) with⟨j,_|x⟩<;>rw[g]at h b
   ·exact vI l _ j e h
   exact b e h
include hra
omit hdo in
theorem vB: ∀(l:List Int)(o:List Int)(r:cD)(e:Nat×List Int),(cY c r o l).1.2=some e->Q e
 |[],_,_,_,h=>by cases h
 | i::l,o,r,e,h=>by
   unfold cY at h;split at h
   ·exact vB l o _ e h
   have b:=hra r (ja c (aP c i)) 0;rcases f:gs r (ja c (aP c i)) 0 with⟨g,_|x⟩<;>rw[f]at h b
   ·exact vB l _ g e h
   exact b e h
omit hdo in
theorem vA: ∀(l:List Int)(r:cD)(e:Nat×List Int),(dV c r l).2=some e->Q e
 |[],_,_,h=>by cases h
 | g::l,r,e,h=>by
   unfold dV at h;split at h
   ·have b:=hra r (ja c g) 0;rcases f:gs r (ja c g) 0 with⟨i,_|x⟩<;>rw[f]at h b
    ·exact vA l i e h
    exact b e h
   exact vA l r e h
theorem Hs(l:List Int)(r:cD)(e:Nat×List Int)(h:(gv c d now r l).2=some e):Q e:=by
 have b:=vI hdo l [] r;unfold gv at h;rcases j:ak c d now r [] l with⟨⟨i,_|x⟩,f⟩<;>rw[j]at h b
 ·have g:=vB (c:=c) hra f [] i;simp only[p']at h;rcases k:cY c i [] f with⟨⟨m,_|x⟩,o⟩<;>rw[k]at h g
  ·exact vA hra _ _ e h
  exact g e h
 exact b e h
theorem Ig(ts:List Nat)(r:cD)(e:Nat×List Int)(h:(lP c d now r ts).2=some e):Q e:=by
 unfold lP at h;simp only at h;have b:=xA hdo (zL (bt c (dg c r.act ts))).reverse { r with mem:=na c r.act (zL (bt c (dg c r.act ts))) r.mem };split at h
 ·rename_i g i;have f:=Ca hdo ts g;split at h
  ·exact Hs hdo hra _ _ e h
  exact f e h
 exact b e h
end
def LZ(e:Nat×List Int):Prop:=e.2=[-1]\/e.2=[-1, -1]
def BW(r:cD)(s:List UInt8)(v:Int)(e:Nat×List Int)(h:(gs r s v).2=some e):LZ e:=by
 unfold gs at h;split at h<;>cases h;exact .inl rfl
def Ma(c:aq)(d now:Int)(r:cD)(a:j')(e:Nat×List Int)(h:(Sl c d now r a).2=some e):LZ e:=by
 unfold Sl at h;split at h
 ·cases h
 split at h
 ·cases h;exact .inr rfl
 split at h
 ·cases h
 split at h
 ·exact BW _ _ _ _ h
 split at h
 ·unfold BY at h;split at h
  ·cases h;exact .inl rfl
  split at h<;>cases h;exact .inl rfl
 unfold KD at h;split at h<;>cases h;exact .inl rfl
def Ew{c:aq}{d now:Int}{ts:List Nat}{r:cD}{e:Nat×List Int}(h:(lP c d now r ts).2=some e):LZ e:=Ig (Ma c d now) BW ts r e h
def TQ(ps:List Int):Int:=match ps.find? fun p=>decide (0<=p) with
 |some p=>p
 |none=> -1
def Ko{e:Nat×List Int}(h:LZ e):TQ (-1::e.2.headD (-1)::e.2.tail)= -1:=by
 rcases h with h|h<;>rw[h]<;>rfl
def Ie{c:aq}(h:ch c){d now:Int}(g:aL d=true)(a:0<=now/\now<=1099511627776){x:nw}(m:DQ c x){ts:List Nat}(s:Fit c x.1 ts):ff c (lP c d now (bn x) ts).1:=by
 have e:=bU h
 have i: ∀n∈ts,∃t,c.trans[n]? =some t:=fun n a=>by
  obtain⟨t,u,_⟩:=s.real n a;exact⟨t,u⟩
 have f:ff c (bn x):=m.beg;unfold lP;simp only;obtain⟨j,_,_,o⟩:=lR e (l:=(zL (bt c (dg c (bn x).act ts))).reverse) g a (r:={ bn x with mem:=na c (bn x).act (zL (bt c (dg c (bn x).act ts))) (bn x).mem }) { f with };split
 ·rename_i v p;rw[p]at j o;obtain⟨b,k⟩:=zV e g a (l:=ts) (r:=v) i j;split
  ·rename_i w q;rw[q]at b k;refine(vD e g a b ?_).1;rw[k.act.trans (o rfl)];exact(cx m.lg).ZZ.sublist OR
  exact b
 exact j
end
section
open Go.RowKit
def IS(k p:Int):List AV:=[cy,cy,cy,cy,B false,cy,I 0,I k,I p]
def DA(m:rx):List AV:=[cf m.x.1,cf m.x.2.1, .seq 2 (m.x.2.2.1.map fe), .seq 2 (m.x.2.2.2.1.map c0),B m.x.2.2.2.2,cf m.said,I m.steps,I 0,I (-1)]
def vb(m:rx):tD->List AV
 |none=>DA m
 |some (k,a)=>IS (k:Nat) (TQ a)
def Pl(m:rx):List AV:=[.seq 2 (m.wait.map c0),I m.data]
def jA(env:b8)(k p:Int):b7 prog env 58 [I k,I p] (.agg (IS k p)):=by
 unfold IS;refine qf func58 call58 ntmps58 results58 ?_;repeat refine m9 ?_
 exact oj
def Gm(env:b8)(m:rx)(o:List Int)(w:List (List UInt8×Int))(d now:Int)(k:Nat)(b:((k:Int)==0)=false)(h:m.said.length<=256)(l:m.wait.length<=16)(i:o.length<=256)(j:w.length<=16):
 b7 prog env 31 [.agg (DA m), .agg (Pl m), .agg [.any, .any, .any, .any, .any,cf o, .seq 2 (w.map c0),I d,I now,I (k:Nat),I (-1)]] (.tuple [.agg (IS (k:Nat) (-1)), .agg [.seq 2 ((m.wait++w).map c0),I m.data]]):=by
 have f0:=jA env k (-1);have c:cU m.said.length 8:=aC (by omega) (by omega);have e:cU (m.said.length+o.length) 8:=aC (by omega) (by omega);have f:cU m.wait.length 24:=aC (by omega) (by omega);have g:cU (m.wait.length+w.length) 24:=aC (by omega) (by omega);have a:((k:Int) != 0)=true:=by rw[bne,b];rfl
 unfold DA Pl IS at*;simp only[NA];refine qf func31 call31 ntmps31 results31 ?_;have F:=g9 a c e f g;exact hH f0
def Gl(env:b8)(m:rx)(r:cD)(d now:Int)(i:m.said.length<=256)(n:m.wait.length<=16)(j:r.outs.length<=256)(l:r.Z7.length<=16):
 b7 prog env 31 [.agg (DA m), .agg (Pl m), .agg (fi r d now none)] (.tuple [.agg (vb (DB ⟨Sm r,m.said,m.steps,m.wait,m.data⟩ r.outs r.Z7).1 (DB ⟨Sm r,m.said,m.steps,m.wait,m.data⟩ r.outs r.Z7).2), .agg (Pl (DB ⟨Sm r,m.said,m.steps,m.wait,m.data⟩ r.outs r.Z7).1)]):=by
 have f0:=jA env 8 (-1);have c:cU m.said.length 8:=aC (by omega) (by omega);have f:cU (m.said.length+r.outs.length) 8:=aC (by omega) (by omega);have g:cU m.wait.length 24:=aC (by omega) (by omega);have h:cU (m.wait.length+r.Z7.length) 24:=aC (by omega) (by omega);have o:(m.said++r.outs).length=m.said.length+r.outs.length:=My;have p:(m.wait++r.Z7).length=m.wait.length+r.Z7.length:=My;unfold DB;by_cases k:256< (m.said++r.outs).length\/16< (m.wait++r.Z7).length
 ·rw[Mw k];show b7 _ _ _ _ (.tuple [.agg (IS 8 (-1)), .agg [.seq 2 ((m.wait++r.Z7).map c0),I m.data]]);unfold DA Pl fi IS at*;simp only[NA];by_cases a:(256:Int)< ((m.said.length+r.outs.length:Nat):Int)
  ·refine qf func31 call31 ntmps31 results31 ?_;have F:=g9 a c f g h;exact hH f0
  have b:(16:Int)< ((m.wait.length+r.Z7.length:Nat):Int):=by omega
  refine qf func31 call31 ntmps31 results31 ?_;have F:=i' a b c f g h;exact hH f0
 rw[Mt k];have a: ¬(256:Int)< ((m.said.length+r.outs.length:Nat):Int):=by omega
 have b: ¬(16:Int)< ((m.wait.length+r.Z7.length:Nat):Int):=by omega
 have e:cf (m.said++r.outs)= .seq 1 (m.said.map aa++r.outs.map aa):=by unfold cf;rw[NA]
 unfold vb DA Pl fi Sm;simp only[NA,e];refine qf func31 call31 ntmps31 results31 ?_;have F:=i' a b c f g h;exact ek
def La(c:aq)(now:Int)(F:Nat)(m:rx)(ev:List UInt8):AV:=match lu c m ev with
 | .error n=> .tuple [.agg (IS 2 (1000+(n:Nat))), .agg (Pl m),B false]
 | .ok []=> .tuple [.agg (DA m), .agg (Pl m),B false]
 | .ok (k::l)=>if F<=m.steps then .tuple [.agg (IS 6 (-1)), .agg (Pl m),B false] else match lP c m.data now (bn m.x) (k::l) with
   |(r,some e)=> .tuple [.agg (IS (e.1:Nat) (-1)), .agg [.seq 2 ((m.wait++r.Z7).map c0),I m.data],B true]
   |(r,none)=> .tuple [.agg (vb (IT m r).1 (IT m r).2), .agg (Pl (IT m r).1),B true]
def E8(c:aq)(now:Int)(F:Nat)(m:rx)(ev:List UInt8): ∃W b,La c now F m ev= .tuple [.agg (vb (va c now F m ev).1.1 (va c now F m ev).1.2), .agg [.seq 2 W,I (va c now F m ev).1.1.data],B b]/\((va c now F m ev).1.2=none->W=(va c now F m ev).1.1.wait.map c0/\b=(va c now F m ev).2):=by
 unfold La va;cases lu c m ev with
 |error n=>exact⟨_,_,rfl,fun h=>by cases h⟩
 | ok f=>
   cases f with
   |nil=>exact⟨_,_,rfl,fun _=>⟨rfl,rfl⟩⟩
   | cons k l=>
     simp only;unfold rt;by_cases a:F<=m.steps
     ·rw[Mw a,Mw a];exact⟨_,_,rfl,fun h=>by cases h⟩
     rw[Mt a,Mt a];rcases g:lP c m.data now (bn m.x) (k::l) with⟨r,_|e⟩
     ·refine⟨(IT m r).1.wait.map c0,true,?_,fun _=>⟨rfl,rfl⟩⟩;simp only;unfold Pl;rfl
     have i:=Ko (Ew (c:=c) (d:=m.data) (now:=now) (ts:=k::l) (r:=bn m.x) (e:=e) (by rw[g]));refine⟨(m.wait++r.Z7).map c0,true,?_,fun h=>by cases h⟩;simp only[vb];rw[i]
def Ht(env:b8){c:aq}(h:ch c)(e:g7 c){x:nw}{d:Int}(f:bG c (DM x)=true)(g:aL d=true)(ev:List UInt8):b7 prog env 61 [.agg (aA c), .agg (hP x),Sg ev,I d] (Tt (rU c x.1 (L' c x.1 x.2.1 d) ev (y6 c (x.1.map Int.toNat)))):=by
 have a:=dq f;have k:=(ei h e.vars a).act;obtain⟨l,b,i⟩:=tE a.lg;rw[yq b];exact yP env c h e x d ⟨by omega,a.len,a.fit,g,a.lg⟩ ev l b i
def wa(env:b8){c:aq}(h:ch c)(A:g7 c)(t:c.vars.length<=8){now:Int}(z:0<=now/\now<=1099511627776){fu:Nat}{m:rx}(i:n9 c fu m)(ev:List UInt8):
 b7 prog env 34 [.agg (aA c), .agg (DA m), .agg (Pl m),Sg ev,I now,I fu] (La c now fu m ev):=by
 have p:=dq i.inst;have H:=(ei h A.vars p).act;have a:=Ht env h A i.inst i.data ev;change b7 _ _ _ _ (Tt (lu c m ev)) at a;unfold La;cases s:lu c m ev with
 | error n=>
   rw[s]at a;have f0:=jA env 2 (1000+(n:Nat));unfold Tt aA hP at a;unfold aA DA Pl IS at*;simp only at a;refine qf func34 call34 ntmps34 results34 ?_;repeat refine vP a f0 ?_
   exact oj
 | ok f=>
   rw[s]at a;cases f with
   | nil=>
     unfold Tt aA hP at a;unfold aA DA Pl;simp only[O5]at a;refine qf func34 call34 ntmps34 results34 ?_;repeat refine jJ a ?_
     exact oj
   | cons k l=>
     have x:=qI h p.lg s;have q:(((l.length+1:Nat):Int)==0)=false:=by rw[Oy];omega
     simp only;by_cases v:fu<=m.steps
     ·rw[Mw v];have o:(fu:Int)<=(m.steps:Int):=by omega
      have f0:=jA env 6 (-1);unfold Tt aA hP at a;unfold aA DA Pl IS at*;simp only[Nh]at a;refine qf func34 call34 ntmps34 results34 ?_;have F:=ai q o;exact mw a f0
     rw[Mt v];have o: ¬(fu:Int)<=(m.steps:Int):=by omega
     have D:=i.ZO;have u:IntKind.i64.wrap ((m.steps:Int)+1)=((m.steps+1:Nat):Int):=aD (show m.steps<fu by omega) (by omega);have b:=DL env c h t m.data now i.data z m.x p (by omega) (k::l) x;have d:=Ie h i.data z p x;have j:=sK c m.data now (bn m.x) (k::l);rcases w:lP c m.data now (bn m.x) (k::l) with⟨r,_|⟨e,J⟩⟩
     ·rw[w]at b d;have g:=Gl env ⟨m.x,m.said,m.steps+1,m.wait,m.data⟩ r m.data now i.said i.wait d.outs d.Z7;change b7 _ _ _ _ (.tuple [.agg (vb (IT m r).1 (IT m r).2), .agg (Pl (IT m r).1)]) at g;show b7 _ _ _ _ (.tuple [.agg (vb (IT m r).1 (IT m r).2), .agg (Pl (IT m r).1),B true]);generalize IT m r=Y at*;rcases Y with⟨y,_|⟨G,C⟩⟩
      ·unfold vb at g |-;unfold TU fi at b;unfold Tt aA hP at a;unfold aA hP at b;unfold aA;unfold DA Pl at*;unfold fi at g;simp only[Nh]at a b g |-;refine qf func34 call34 ntmps34 results34 ?_;have F:=gb q o u;exact An a b g
      unfold vb at g |-;unfold TU fi at b;unfold Tt aA hP at a;unfold aA hP at b;unfold aA;unfold DA Pl IS at*;unfold fi at g;simp only[Nh]at a b g |-;refine qf func34 call34 ntmps34 results34 ?_;have F:=gb q o u;exact An a b g
     rw[w]at b d j;have E:=wI j rfl;have g:=Gm env ⟨m.x,m.said,m.steps+1,m.wait,m.data⟩ r.outs r.Z7 m.data now e E i.said i.wait d.outs d.Z7;unfold TU at b;unfold Tt aA hP at a;unfold aA hP at b;unfold aA;unfold DA Pl IS at*;simp only[Nh]at a b g |-;refine qf func34 call34 ntmps34 results34 ?_;have F:=gb q o u;exact An a b g
def wY(env:b8){c:aq}(h:ch c)(hs:g7 c)(hvl:c.vars.length<=8){now:Int}(J:0<=now/\now<=1099511627776){fu:Nat}{m:rx}(t:n9 c fu m):
 b7 prog env 33 [.agg (aA c), .agg (DA m), .agg (Pl m),I now,I fu] (.agg (vb (AI c now fu NM m).1 (AI c now fu NM m).2)):=by
 obtain⟨X,a⟩: ∃X,AI c now fu NM m=X:=⟨_,rfl⟩;have l:=Eg t;have M:=Lc h J t;rw[a]at M |-;have C:=fun(m:rx)(t:n9 c fu m) ev=>wa env h hs hvl J t ev
 have R: ∀k Z,X.2=some (k,Z)->((k:Int)==0)=false:=fun k Z P=>by
  have:=M _ P;simp only at this;rw[Oy];omega
 unfold aA at C |-;refine qf func33 call33 ntmps33 results33 ?_;have F:=aA.eq_1;repeat refine st ?_
 refine aH (D:=rx×tD×List (List AV)×Nat) (fun y vs=>[(3,I now),(4,I fu),(5, .loc 5 (vs 5) 0 0),(6, .loc 6 (vs 6) 0 0),(7, .loc 7 (vs 7) 0 0),(10, .loc 10 (vs 10) 0 0),(11,I y.2.2.2)]) (fun y _=>[(5,⟨5,[[Sg c.name,I c.initial,pf c.vars,qa c.Z9,sT c.trans]],26,false⟩),(6,⟨9,[vb y.1 y.2.1],46,false⟩),(7,⟨2,[[.seq 2 y.2.2.1,I y.1.data]],87,false⟩),(10,⟨9,[[cy,cy,cy,cy,B false,cy,I 0,I 0,I 0]],46,false⟩)]) (fun y _ A=>((match y.2.1 with
  |none=>n9 c fu y.1/\(∃k,AI c now fu k y.1=X/\jV fu y.1<k)/\y.2.2.1=y.1.wait.map c0/\jV fu y.1+y.2.2.2<=5000
  |some e=>X.2=some e/\y.2.2.2<=5001))/\A 6=false/\A 7=false/\A 10=false) (fun y=>match y.2.1 with
  |none=>jV fu y.1+1
  |some _=>0) (m,none,m.wait.map c0,0) ?_ ?_ ?_ ?_
 ·exact⟨⟨t,⟨NM,a,l⟩,rfl,by unfold NM at l;simp only;omega⟩,by simp only[go_sem,NH]⟩
 ·exact qe
 ·(simp only[go_sem,vb,DA,Pl])
  try rfl
 try clear t a l
 rintro⟨m,e,W,n⟩ us es ⟨s,o,p,d⟩;simp only at s;rcases e with _|⟨k,Z⟩
 case some=>
  obtain⟨a,hn5⟩:=s;have P:=R k Z a;have z:(n:Int)<10000:=by omega
  rw[a];unfold vb IS;simp only;have F:=g9 z P o p d;exact ek
 obtain⟨t,⟨k,a,l⟩,rfl,hn5⟩:=s;obtain⟨k,rfl⟩: ∃j,k=j+1:=⟨k-1,by omega⟩;have z:(n:Int)<10000:=by omega
 have K:IntKind.i64.wrap ((n:Int)+1)=((n+1:Nat):Int):=aD (show n<10000 by omega) (by omega);unfold AI at a;by_cases i:m.x.2.2.2.2=true
 ·rw[Mw i]at a;subst a;unfold vb DA;simp only;have F:=g9 z i o p d;exact ek
 rw[Mt i]at a;have i:m.x.2.2.2.2=false:=by simpa using i
 have f:=C m t [];have ha:=kg h J t i (ev:=[]);have O:=rc h J t i (ev:=[]);obtain⟨W1,b1,hr,T⟩:=E8 c now fu m [];rw[hr]at f;try clear hr
 rcases hA:va c now fu m []with⟨⟨g,_|⟨V,H⟩⟩,b⟩
 case some=>
  rw[hA]at a f;simp only at a f;have r:X.2=some (V,H):=by rw[<-a]
  have P:=R _ _ r;have Q:((V:Int) != 0)=true:=by rw[bne,P];rfl
  unfold vb DA IS Pl at f;unfold vb DA;simp only at f |-;cases b1 with
  | true=>
    have F:=mc z K i Q o p d;repeat refine fc f ?_
    refine⟨(g,some (V,H),W1,n+1),⟨⟨r,by simp only;omega⟩,by simp only[go_sem,o,p,d,NH]⟩,?_,?_,by simp only;omega⟩
    ·exact qe
    ·(simp only[go_sem,vb,IS])
  | false=>
    have F:=mc z K i Q o p d;repeat refine fc f ?_
    refine⟨(g,some (V,H),W1,n+1),⟨⟨r,by simp only;omega⟩,by simp only[go_sem,o,p,d,NH]⟩,?_,?_,by simp only;omega⟩
    ·exact qe
    ·(simp only[go_sem,vb,IS])
 rw[hA]at a f ha O T;obtain⟨d1,d2,d3⟩:=ha rfl;obtain⟨f1,f2⟩:=O rfl;obtain⟨L,N⟩:=T rfl;simp only at a f d1 d2 d3 f1 f2 L N;subst L N;cases b1 with
 | true=>
   simp only at a;have f2:=f2 rfl;unfold vb DA Pl at f;unfold vb DA;simp only at f |-;have F:=i' z K i o p d;repeat refine fc f ?_
   refine⟨(g,none,g.wait.map c0,n+1),⟨⟨d1,⟨k,a,show jV fu g<k by omega⟩,rfl,by simp only;omega⟩,by simp only[go_sem,o,p,d,NH]⟩,?_,?_,by simp only;omega⟩
   ·exact qe
   ·(simp only[go_sem,vb,DA])
 |false=>
 obtain rfl:g=m:=by rcases d3 with⟨q,_⟩|⟨_,q⟩;cases q;exact q
 simp only at a;cases v:g.wait with
 | nil=>
   rw[v]at a;simp only at a;subst a;have q3:((g.wait.length:Int)==0)=true:=by rw[v];rfl
   rw[<-v];unfold vb DA Pl at f;unfold vb DA;simp only at f |-;have F:=mc z K q3 i o p d;exact hH f
 | cons e w=>
   rw[v]at a;simp only at a;have q3:((g.wait.length:Int)==0)=false:=by rw[v,Oy];simp only[NN];omega
   have q4:g.wait[0]? =some e:=by rw[v];rfl
   have q5:(0:Int)< (g.wait.length:Int):=by rw[v];simp only[NN];omega
   have q6:(1:Int)<=(g.wait.length:Int):=by omega
   have q7:(g.wait.drop 1).take (g.wait.length-1)=w:=by rw[v,List.drop_one,SH,NN,P6,NR]
   have G:=z8 t v;have x:=C _ G e.1;have hb:=kg h J G i (ev:=e.1);have E:=rc h J G i (ev:=e.1);have hfl:jV fu { g with wait:=w,data:=e.2 } <jV fu g:=by unfold jV;rw[v];simp
   obtain⟨W2,b2,S,u⟩:=E8 c now fu { g with wait:=w,data:=e.2 } e.1;rw[S]at x;try clear S
   rw[<-v];rcases hB:va c now fu { g with wait:=w,data:=e.2 } e.1 with⟨⟨Y,er⟩,b⟩;rw[hB]at a x hb E u;simp only at a x hb E u;rcases er with _|⟨k2,U⟩
   ·obtain⟨g1,_,_⟩:=hb rfl;obtain⟨h1,_⟩:=E rfl;obtain⟨hW2,_⟩:=u rfl;simp only at a h1;subst hW2;unfold vb DA Pl at f x;unfold vb DA;simp only at f x |-;have F:=ed UG z K q3 q4 q5 q6 q7 i o p d;repeat refine wc f x ?_
    refine⟨(Y,none,Y.wait.map c0,n+1),⟨⟨g1,⟨k,a,show jV fu Y<k by omega⟩,rfl,by simp only;omega⟩,by simp only[go_sem,o,p,d,NH]⟩,?_,?_,by simp only;omega⟩
    ·exact qe
    ·(simp only[go_sem,vb,DA])
   simp only at a;have r:X.2=some (k2,U):=by rw[<-a]
   unfold vb DA Pl at f;unfold vb DA IS Pl at x;unfold vb DA;simp only at f x |-;have F:=ed UG z K q3 q4 q5 q6 q7 i o p d;repeat refine wc f x ?_
   refine⟨(Y,some (k2,U),W2,n+1),⟨⟨r,by simp only;omega⟩,by simp only[go_sem,o,p,d,NH]⟩,?_,?_,by simp only;omega⟩
   ·exact qe
   ·(simp only[go_sem,vb,IS])
def v7(env:b8){c:aq}(h:ch c)(i:g7 c)(a:c.vars.length<=8){now:Int}(g:0<=now/\now<=1099511627776){fu:Nat}{x:nw}{d:Int}(e:bG c (DM x)=true)(f:aL d=true)(b:fu<=256):
 b7 prog env 25 [.agg (aA c), .agg (hP x),I d,I now,I fu] (.agg (vb (rv c now fu x d).1 (rv c now fu x d).2)):=by
 have f0:=wY env h i a g (zd e f b);change b7 _ _ _ _ (.agg (vb (rv c now fu x d).1 (rv c now fu x d).2)) at f0;have f1:=f0.args (cs':=[.agg (aA c), .agg [cf x.1,cf x.2.1, .seq 2 (x.2.2.1.map fe), .seq 2 (x.2.2.2.1.map c0),B x.2.2.2.2,cy,I 0,I 0,I (-1)], .agg [cy,I d],I now,I fu]) (.cons (.refl _) (.cons (.agg (.cons (.refl _) (.cons (.refl _) (.cons (.refl _) (.cons (.refl _) (.cons (.refl _) (.cons (.nil 1) (.cons (.refl _) (.cons (.refl _) (.cons (.refl _) .nil)))))))))) (.cons (.agg (.cons (.nil 2) (.cons (.refl _) .nil))) (.cons (.refl _) (.cons (.refl _) .nil)))));try clear f0
 generalize rv c now fu x d=X at*;rcases X with⟨m,_|⟨k,j⟩⟩
 ·unfold vb DA aA at f1;unfold vb DA aA hP;simp only at f1 |-;refine qf func25 call25 ntmps25 results25 ?_;repeat refine jJ f1 ?_
  exact oj
 unfold vb IS aA at f1;unfold vb IS aA hP;simp only at f1 |-;refine qf func25 call25 ntmps25 results25 ?_;repeat refine jJ f1 ?_
 exact oj
def DO(env:b8)(c:aq)(k p:Int)(W:List (List AV))(d now f:Int)(e:(k==0)=false):b7 prog env 33 [.agg (aA c), .agg (IS k p), .agg [.seq 2 W,I d],I now,I f] (.agg (IS k p)):=by
 unfold IS aA;refine qf func33 call33 ntmps33 results33 ?_;have F:=e;repeat refine st ?_
 refine aH (D:=Nat) (fun _ g=>[(6, .loc 6 (g 6) 0 0),(10, .loc 10 (g 10) 0 0),(11,I (0:Nat))]) (fun y _=>[(6,⟨9,[[cy,cy,cy,cy,B false,cy,I 0,I k,I p]],46,false⟩),(10,⟨9,[[cy,cy,cy,cy,B false,cy,I 0,I 0,I 0]],46,false⟩)]) (fun y _ b=>b 10=false) (fun y=>y) 0 ?_ ?_ ?_ ?_
 ·simp only[go_sem]
 ·exact qe
 ·exact qe
 rintro y j i a;have h:((0:Nat):Int)<10000:=by omega
 have F:=gb h e a;exact ek
def AU(env:b8){c:aq}(h:ch c)(q:g7 c)(e:c.vars.length<=8){now:Int}(f:0<=now/\now<=1099511627776){fu:Nat}{x:nw}{ev:List UInt8}{d:Int}(s:bG c (DM x)=true)(v:x.2.2.2.2=false)(t:aL d=true)(r:fu<=256):
 b7 prog env 16 [.agg (aA c), .agg (hP x), .agg [Sg ev,I d],I now,I fu] (.agg (vb (mq c now fu x ev d).1 (mq c now fu x ev d).2)):=by
 have o:=zd s t r;have f0:=wa env h q e f o ev;have l:=kg h f o v (ev:=ev);have n:=IY c now fu (m0 x d) ev;obtain⟨W,w,p,a⟩:=E8 c now fu (m0 x d) ev;rw[p]at f0;try clear p
 have f1:=f0.args (cs':=[.agg (aA c), .agg [cf x.1,cf x.2.1, .seq 2 (x.2.2.1.map fe), .seq 2 (x.2.2.2.1.map c0),B x.2.2.2.2,cy,I 0,I 0,I (-1)], .agg [cy,I d],Sg ev,I now,I fu]) (.cons (.refl _) (.cons (.agg (.cons (.refl _) (.cons (.refl _) (.cons (.refl _) (.cons (.refl _) (.cons (.refl _) (.cons (.nil 1) (.cons (.refl _) (.cons (.refl _) (.cons (.refl _) .nil)))))))))) (.cons (.agg (.cons (.nil 2) (.cons (.refl _) .nil))) (.cons (.refl _) (.cons (.refl _) (.cons (.refl _) .nil))))));try clear f0
 unfold mq;rcases i:va c now fu (m0 x d) ev with⟨⟨m,_|⟨k,g⟩⟩,b⟩
 ·rw[i]at f1 l a;obtain⟨j,_⟩:=a rfl;simp only at j;subst j;have f2:=wY env h q e f (l rfl).1;show b7 _ _ _ _ (.agg (vb (AI c now fu NM m).1 (AI c now fu NM m).2));generalize AI c now fu NM m=X at*;unfold aA at f1 f2 |-;unfold hP;unfold Pl at f2;simp only at f1;rcases X with⟨y,_|⟨k,g⟩⟩
  ·unfold vb DA at f1 f2 |-;simp only at f1 f2 |-;refine qf func16 call16 ntmps16 results16 ?_;repeat refine vP f1 f2 ?_
   exact oj
  unfold vb at f1 f2 |-;unfold DA IS at*;simp only at f1 f2 |-;refine qf func16 call16 ntmps16 results16 ?_;repeat refine vP f1 f2 ?_
  exact oj
 rw[i]at f1 n
 have u:((k:Int)==0)=false:=by
  have:=n _ rfl;simp only at this;rw[Oy];omega
 have f2:=DO env c k (TQ g) W m.data now fu u;show b7 _ _ _ _ (.agg (IS (k:Nat) (TQ g)));unfold aA at f1 f2 |-;unfold hP;unfold vb at f1;unfold IS at*;simp only at f1;refine qf func16 call16 ntmps16 results16 ?_;repeat refine vP f1 f2 ?_
 exact oj
def Mp(x:Nat×List Int):Prop:=(∃p,x.2=[p]/\ -1<=p)\/x.2=[-1, -1]\/x.2=[-1, -1, -1]
def Ku{e:Nat×List Int}(h:LZ e):Mp (e.1, -1::e.2.headD (-1)::e.2.tail):=by
 rcases h with h|h
 ·exact .inr (.inl (by rw[h];rfl))
 exact .inr (.inr (by rw[h];rfl))
def MX{m:rx}{o:List Int}{r:List (List UInt8×Int)}{x:Nat×List Int}(h:(DB m o r).2=some x):Mp x:=by
 unfold DB at h;split at h<;>cases h;exact .inl ⟨-1,rfl,by omega⟩
def K7{c:aq}{now:Int}{F:Nat}{m:rx}{ev:List UInt8}{x:Nat×List Int}(h:(va c now F m ev).1.2=some x):Mp x:=by
 unfold va at h;split at h
 ·cases h;exact .inl ⟨_,rfl,by omega⟩
 ·cases h
 unfold rt at h;simp only at h;split at h
 ·cases h;exact .inl ⟨-1,rfl,by omega⟩
 split at h
 ·rename_i r e a;cases h;exact Ku (Ew (by rw[a]))
 exact MX h
def K1{c:aq}{now:Int}{F:Nat}{x:Nat×List Int}(d:x.1≠0): ∀(n:Nat)(m:rx),(AI c now F n m).2=some x->Mp x
 |0,m,h=>by cases h;exact absurd rfl d
 | n+1,m,h=>by
   unfold AI at h;split at h
   ·cases h
   have a:=K7 (c:=c) (now:=now) (F:=F) (m:=m) (ev:=[]) (x:=x);rcases i:va c now F m []with⟨⟨f,_|e⟩,_|_⟩<;>rw[i]at h a
   ·simp only at h;split at h
    ·cases h
    rename_i e w o;have g:=K7 (c:=c) (now:=now) (F:=F) (m:={ f with wait:=w,data:=e.2 }) (ev:=e.1) (x:=x);rcases j:va c now F { f with wait:=w,data:=e.2 } e.1 with⟨⟨k,_|l⟩,b⟩<;>rw[j]at h g
    ·exact K1 d n k h
    exact g h
   ·exact K1 d n f h
   ·exact a h
   exact a h
section
variable {c:aq} (h:ch c) {now:Int} (hn:0<=now/\now<=1099511627776) {F:Nat}
include h hn
theorem KE{m:rx}(b:n9 c F m){x:Nat×List Int}(e:(AI c now F NM m).2=some x):Mp x/\(x.1=2\/x.1=6\/x.1=8):=by
 have a:=Lc h hn b _ e;exact⟨K1 (by omega) NM m e,a⟩
theorem Kf{x:nw}{ev:List UInt8}{d:Int}(k:n9 c F (m0 x d))(l:x.2.2.2.2=false){e:Nat×List Int}(a:(mq c now F x ev d).2=some e):Mp e/\(e.1=2\/e.1=6\/e.1=8):=by
 have i:=kg h hn k l (ev:=ev);have f:=IY c now F (m0 x d) ev;have g:=K7 (c:=c) (now:=now) (F:=F) (m:=m0 x d) (ev:=ev) (x:=e);unfold mq at a;rcases j:va c now F (m0 x d) ev with⟨⟨m,_|y⟩,b⟩<;>rw[j]at a i f g
 ·exact KE h hn (i rfl).1 a
 exact⟨g a,f e a⟩
end
end
section
open Go.RowKit
structure L4(n:Nat)(w:World)(b0 o0 b1 o1 b2 o2 b3 o3:Nat)(a:Addr):Prop where
 l0:b0<n
 l1:b1<n
 l2:b2<n
 l3:b3<n
 lg:9<n
 p0:w.cell? ⟨b0,o0+1,none⟩=some (.int .i64 (-1))
 s0:w.cell? ⟨b0,o0+2,none⟩=some (.iface 134 (.pointer (some ⟨b1,o1,none⟩)))
 p1:w.cell? ⟨b1,o1+1,none⟩=some (.int .i64 (-1))
 s1:w.cell? ⟨b1,o1+2,none⟩=some (.iface 134 (.pointer (some ⟨b2,o2,none⟩)))
 p2:w.cell? ⟨b2,o2+1,none⟩=some (.int .i64 (-1))
 s2:w.cell? ⟨b2,o2+2,none⟩=some (.iface 134 (.pointer (some ⟨b3,o3,none⟩)))
 p3:w.cell? ⟨b3,o3+1,none⟩=some (.int .i64 (-1))
 s3:w.cell? ⟨b3,o3+2,none⟩=some (.iface 369 (.pointer (some a)))
 hg:w.cell? ⟨9,0,none⟩=some z6
def L4.below{n:Nat}{w l:World}{c g d i e j f k:Nat}{a:Addr}(h:L4 n w c g d i e j f k a)(b:Below n w l):L4 n l c g d i e j f k a:=
 ⟨h.l0,h.l1,h.l2,h.l3,h.lg,(b.cell (p:=⟨c,g+1,none⟩) h.l0).trans h.p0,(b.cell (p:=⟨c,g+2,none⟩) h.l0).trans h.s0,(b.cell (p:=⟨d,i+1,none⟩) h.l1).trans h.p1,(b.cell (p:=⟨d,i+2,none⟩) h.l1).trans h.s1,(b.cell (p:=⟨e,j+1,none⟩) h.l2).trans h.p2,(b.cell (p:=⟨e,j+2,none⟩) h.l2).trans h.s2,(b.cell (p:=⟨f,k+1,none⟩) h.l3).trans h.p3,(b.cell (p:=⟨f,k+2,none⟩) h.l3).trans h.s3,(b.cell (p:=⟨9,0,none⟩) h.lg).trans h.hg⟩
def Gs(b0 o0 b1 o1 b2 o2 b3 o3:Nat)(a:Addr)(w:World)(L:L4 w.heap.size w b0 o0 b1 o1 b2 o2 b3 o3 a):
 Calls prog 40 #[.iface 134 (.pointer (some ⟨b0,o0,none⟩))] w fun e w'=>e= .returned (.int .i64 (-1))/\Below w.heap.size w w':=by
 have hb0:=(O1 w.heap.size w).alloc (NC _) (.cells #[.pointer none] 134);have L0:=N9 (L.below hb0);have B0:=N9 hb0;have hwb:fI (w.alloc (.cells #[.pointer none] 134)) w.heap.size 134 #[.pointer none]:=fI.new w 134 #[.pointer none];try clear hb0 L
 go_enter func40,ntmps40
 go_wp2_with fail
 refine Pm 5 ?_;rw[Ow]
 go_wp2_with fail
 refine(b9 ⟨b0,o0,none⟩ ⟨w.heap.size,0,none⟩ (.pointer none) _ L0.out.hg (by simp) (hwb.frozen 0) rfl).mono ?_;rintro e w2 ⟨rfl,hc0,fz0,hb⟩;have L1:=N9 (L0.out.below hb);have B1:=N9 (B0.out.trans hb);have hp0:=L1.out.p0;have hs0:=L1.out.s0;try clear hb
 go_wp2_with fail
 try clear hp0 hs0
 rw[Ow]
 go_wp2_with fail
 refine(b9 ⟨b1,o1,none⟩ ⟨w.heap.size,0,none⟩ (.pointer (some ⟨b0,o0,none⟩)) w2 L1.out.hg hc0 fz0 rfl).mono ?_;rintro e w3 ⟨rfl,hc1,fz1,hb⟩;have L2:=N9 (L1.out.below hb);have B2:=N9 (B1.out.trans hb);have hp0:=L2.out.p1;have hs0:=L2.out.s1;try clear hb
 go_wp2_with fail
 try clear hp0 hs0
 rw[Ow]
 go_wp2_with fail
 refine(b9 ⟨b2,o2,none⟩ ⟨w.heap.size,0,none⟩ (.pointer (some ⟨b1,o1,none⟩)) w3 L2.out.hg hc1 fz1 rfl).mono ?_;rintro e w4 ⟨rfl,hc2,fz2,hb⟩;have L3:=N9 (L2.out.below hb);have B3:=N9 (B2.out.trans hb);have hp0:=L3.out.p2;have hs0:=L3.out.s2;try clear hb
 go_wp2_with fail
 try clear hp0 hs0
 rw[Ow]
 go_wp2_with fail
 refine(b9 ⟨b3,o3,none⟩ ⟨w.heap.size,0,none⟩ (.pointer (some ⟨b2,o2,none⟩)) w4 L3.out.hg hc2 fz2 rfl).mono ?_;rintro e w5 ⟨rfl,hc3,fz3,hb⟩;have L4:=N9 (L3.out.below hb);have B4:=N9 (B3.out.trans hb);have hp0:=L4.out.p3;have hs0:=L4.out.s3;try clear hb
 go_wp2_with fail
 try clear hp0 hs0
 rw[Ow]
 go_wp2_with fail
 refine(zR a ⟨w.heap.size,0,none⟩ w5 L4.out.hg).mono ?_;rintro e w9 ⟨rfl,rfl⟩
 go_wp2_with fail
 go_ret
 have hsz:=B4.out.size;exact⟨rfl,((B4.out.alloc hsz _).alloc (by simp;omega) _).alloc (by simp;omega) _⟩
def Gv(env:b8)(m:env 9=some (.lit z6))(a:Addr):b7 prog env 40 [dt (-1) (dt (-1) (dt (-1) (dt (-1) (bx a))))] (I (-1)):=by
 refine pZ call40 fun w S D l n o=> ?_
 match D,n with
 | [v],_=>
   obtain⟨u,b,_,_,k⟩:=l.env _ _ m;rw[k.lit_inv]at b;obtain⟨g,p,E,rfl,c,A,t⟩:=iW (o 0 v _ rfl rfl);obtain⟨h,q,G,rfl,d,B,x⟩:=iW t;obtain⟨i,r,H,rfl,e,C,y⟩:=iW x;obtain⟨j,s,J,rfl,p3,f,z⟩:=iW y;rw[z.lit_inv]at f;exact Gs g p h q i r j s a w ⟨ag c,ag d,ag e,ag p3,ag b,c,A,d,B,e,C,p3,f,b⟩
def gf(env:b8)(a:Nat->Addr)(c: ∀w,env.inv w->sh w a)(k:Nat)(d:1<=k/\k<=9)(p:Int)(ps:List Int):b7 prog env 13 [dt p (gc ps (bx (a k))),I k] (B true):=by
 have f0:b7 prog env 30 [dt p (gc ps (bx (a k)))] (I k):=Aq env a c k d (p::ps);have b:(((k:Nat):Int)==0)=false:=by simp;omega
 generalize gc ps (bx (a k))=X at*;refine qf func13 call13 ntmps13 results13 ?_;have F:=b;exact hH f0
def DX(env:b8)(b:env 9=some (.lit z6))(a:Addr){k:Nat}{ps:List Int}(h:Mp (k,ps)):b7 prog env 40 [dt (-1) (dt (ps.headD (-1)) (gc ps.tail (bx a)))] (I (TQ ps)):=by
 rcases h with⟨p,h,d⟩|h|h<;>simp only at h<;>subst h
 ·have:=Gx env b p d a
  rw[show TQ [p]=p by
   unfold TQ;by_cases c:0<=p
   ·simp[c]
   simp[c];omega]
  exact this
 ·exact Gw env b (-1) (by omega) a
 exact Gv env b a
def I4:vo (([],[],[],[],false):nw):=by
 refine⟨⟨NG _,NG _⟩,⟨NG _,fun m a=> ?_⟩,NG _,fun t b=> ?_⟩
 ·simp at a
 simp at b
def G4(env:b8):b7 prog env 17 [.agg jH, .agg jH] (B true):=by
 have f0:=qj env [] [] ([],[],[],[],false) I4 rfl rfl;have s:F' (.agg jH) (.agg (hP ([],[],[],[],false))):= .agg (.cons (.nil 1) (.cons (.nil 1) (.cons (.nil 2) (.cons (.nil 2) (.cons (.refl _) .nil)))));exact f0.args (.cons s (.cons s .nil))
def qW(env:b8)(m:rx)(b:vo m.x)(c:m.said.length<=1000000):b7 prog env 20 [.agg (hP m.x), .agg [cf m.said,I m.steps,B m.x.2.2.2.2],h9, .agg (DA m)] (B true):=by
 have f0:=qj env m.x.1 m.x.2.1 m.x b rfl rfl;rw[show ((m.x.1==m.x.1)&&(m.x.2.1==m.x.2.1))=true by simp]at f0;have f1:=vV env m.said c;unfold hP at f0 |-;unfold DA;cases a:m.x.2.2.2.2
 ·refine qf func20 call20 ntmps20 results20 ?_;have F:=a;exact mw f0 f1
 refine qf func20 call20 ntmps20 results20 ?_;have F:=a;exact mw f0 f1
def qX(env:b8)(a:Nat->Addr)(f: ∀w,env.inv w->sh w a)(g:env 9=some (.lit z6))(k:Nat)(ps:List Int)(i:Mp (k,ps))(h:k=2\/k=6\/k=8):b7 prog env 20 [.agg jH, .agg dv,dt (-1) (dt (ps.headD (-1)) (gc ps.tail (bx (if k=2 then a 2 else if k=6 then a 6 else a 8)))), .agg (IS (k:Nat) (TQ ps))] (B true):=by
 have b:(if k=2 then a 2 else if k=6 then a 6 else a 8)=a k:=by rcases h with rfl|rfl|rfl<;>rfl
 have e:((k:Int) != 0)=true:=by rw[RG];omega
 have d:b7 prog env 13 [dt (-1) (dt (ps.headD (-1)) (gc ps.tail (bx (a k)))),I k] (B true):=gf env a f k (by omega) (-1) (ps.headD (-1)::ps.tail);have c:=DX env g (a k) i;have fz:=G4 env;rw[b];generalize gc ps.tail (bx (a k))=V at*;unfold jH dv IS at*;refine qf func20 call20 ntmps20 results20 ?_;have F:=e;exact An d c fz
def yk(l:List j'):Bool:=l.any fun a=>a.kind==2
def He(c:aq):Bool:=(c.Z9.any fun s=>s.kind==3||yk s.ZW||yk s.out)||c.trans.any fun t=>yk t.Z0
section
variable {c:aq} (h:He c=false)
include h
end
end
section
open Go.RowKit
def yR(env:b8)(c:aq)(x:nw)(d n f:Int)(p:Int)(e:AV)(a:b7 prog env 41 [Sg [109,97,99,114,111,46,83,101,116,116,108,101],aG c, .agg (hP x),I d,I n,I f] (dt p e)):b7 prog env 24 [aG c, .agg (hP x),I d,I n,I f] (cZ (dt p e)):=by
 unfold cZ jH dv;unfold aG hP at a |-;refine qf func24 call24 ntmps24 results24 ?_;repeat refine jJ a ?_
 exact oj
def Aa{env:b8}{i e f g:Addr}{c:aq}{now:Int}(E:DS env i e f g c now){fu:Nat}{x:nw}{d:Int}(h:bG c (DM x)=true)(l:aL d=true)(j:fu<=256)(b:b7 prog env 41 [Sg [109,97,99,114,111,46,83,101,116,116,108,101],aG c, .agg (hP x),I d,I now,I fu] h9):
 b7 prog env 24 [aG c, .agg (hP x),I d,I now,I fu] (pL e f g (rv c now fu x d)):=by
 have k:=ei E.h E.hs.vars (dq h);have m:=k.act;have n:=k.vars;have o:=k.mem;have f2:=nM env x (by omega) (by omega) (by omega) k.ZN (aC (NK k.Z1 (by omega)) (by omega));have a:=pr E (zd h l j) [109,97,99,114,111,46,83,101,116,116,108,101];unfold rv;generalize AI c now fu NM (m0 x d)=X at*;unfold aG hP at b |-;obtain⟨A,V,M,T,O⟩:=x;unfold RQ CA m0 at a;simp only at*;rcases X with⟨p,_|⟨k,q⟩⟩
 ·unfold EC S4 hP at a;unfold pL hP;simp only at a |-;refine qf func24 call24 ntmps24 results24 ?_;have F:=DH.eq_1;repeat refine fc b ?_
  refine iL [(8,9001),(11,9002),(14,9003)] f2 ?_
  iterate 6 (refine st ?_)
  show fp _ _ _ _ _ _;refine bk [(9001,⟨1,A.map aa,3,true⟩),(9002,⟨1,V.map aa,3,true⟩),(9003,⟨2,T.map c0,98,true⟩)] ?_ ?_
  ·exact qe
  refine nC 33 9005 0 6 50 2 ?_;refine nC 33 9004 0 7 3 1 ?_;repeat refine st ?_
  refine iL [(1000,33),(1001,9004),(1002,9005)] a ?_;exact ek
 unfold EC S4 cZ jH dv at a;unfold pL cZ jH dv;simp only at a |-;refine qf func24 call24 ntmps24 results24 ?_;have F:=DH.eq_1;repeat refine fc b ?_
 refine iL [(8,9001),(11,9002),(14,9003)] f2 ?_
 iterate 6 (refine st ?_)
 show fp _ _ _ _ _ _;refine bk [(9001,⟨1,A.map aa,3,true⟩),(9002,⟨1,V.map aa,3,true⟩),(9003,⟨2,T.map c0,98,true⟩)] ?_ ?_
 ·exact qe
 refine nC 33 9005 0 6 50 2 ?_;refine nC 33 9004 0 7 3 1 ?_;repeat refine st ?_
 refine iL [(1000,33),(1001,9004),(1002,9005)] a ?_;exact ek
def BV(a:Nat->Addr)(c:aq)(x:nw)(d n f:Int):(∃(k:Nat) (ps:List Int),Kk c x d n f=k/\(k=1\/k=7)/\I0 (a 1) (a 7) c x d n f=dt (-1) (gc ps (bx (a k))))\/(Kk c x d n f=0/\I0 (a 1) (a 7) c x d n f=h9/\bG c (DM x)=true/\x.2.2.2.2=false/\aL d=true/\uH n f=true):=by
 unfold I0 Kk;split
 ·exact .inl ⟨1,[-1],rfl, .inl rfl,rfl⟩
 rename_i b;split
 ·exact .inl ⟨7,[],rfl, .inr rfl,rfl⟩
 rename_i e;split
 ·exact .inl ⟨1,[],rfl, .inl rfl,rfl⟩
 rename_i g;cases h:uH n f
 ·exact .inl ⟨1,[],rfl, .inl rfl,rfl⟩
 exact .inr ⟨rfl,rfl,by simpa using b,by simpa using e,by simpa using g,rfl⟩
def lS(a:Nat->Addr)(c:aq)(G:jN c)(x:nw)(X:pT x)(ev:List UInt8)(d n f:Int):b7 prog (ae a) 6 [.agg (gn c x ev d n f)] (B true):=by
 have v:=wo a;have T:=sk a;have S:=nq a;have N:ae a 1=some (bx (a 2)):=rfl;have O:ae a 5=some (bx (a 6)):=rfl;have P:ae a 6=some (bx (a 7)):=rfl;have hE:ae a 9=some (.lit z6):=rfl;have q:=rH (ae a) (a 1) (a 2) (a 6) (a 7) (a 8) v N O P T;have b:=qY (ae a) c x ev d n f;cases l:k7 c with
 | false=>
   have g:=qp (ae a) c l;unfold jR at b;rw[l,OT,QF,QF,QF]at b;unfold aA at g;unfold gn at b |-;refine qf func6 call6 ntmps6 results6 ?_;repeat refine Cd g b q ?_
   exact oj
 |true=>
 have h:=xN l;have y:=o8 (tX l);obtain⟨K,_⟩:=CZ (tX l);have g:=tA (ae a) (a 1) (a 8) v T c G l;unfold aA aG at g;cases J:jR c x with
 | true=>
   rw[J]at b;unfold gn at b |-;refine qf func6 call6 ntmps6 results6 ?_;repeat refine Cd g b q ?_
   exact oj
 |false=>
 rw[J]at b;obtain⟨l1,l2,l3⟩:=BQ l J;obtain⟨Q,D⟩:=Bz X;have R:If (DM x):=⟨show x.1.length<=1000000 by omega,show x.2.1.length<=1000000 by omega,show x.2.2.1.length<=1000000 by omega,D.2⟩;have H: ∀t∈x.2.2.2.1,t.1.length<=9223372036854775807:=fun t ht=>nI (X.1.2.2.2 t ht);have u:=kq (ae a) (a 1) (a 7) (a 8) v P c h y x R H Q [109,97,99,114,111,46,83,101,116,116,108,101] d n f;have i:=qd (ae a) c h x R Q ev d n f;rcases BV a c x d n f with⟨k,p,L,hk,M⟩|⟨L,M,z,b2,A,Y⟩
 ·rw[L]at i;rw[M]at u;have f2:=yR (ae a) c x d n f _ _ u;have ft:b7 prog (ae a) 13 [dt (-1) (gc p (bx (a k))),I k] (B true):=gf (ae a) a S k (by omega) (-1) p;have q7:((k:Int) != 0)=true:=by rw[RG];omega
  generalize gc p (bx (a k))=V at*;unfold cZ jH dv aG hP at f2;unfold gn at b i |-;refine qf func6 call6 ntmps6 results6 ?_;have F:=q7;exact TC g b i f2 ft q
 rw[L]at i;rw[M]at u;obtain⟨w,C,rfl,j⟩:=KV Y;have E:DS (ae a) (a 1) (a 2) (a 6) (a 8) c n:=⟨v,N,O,h,y,w⟩;have f1:=Aa E z A j u;have f2:=v7 (ae a) h y K w (x:=x) (d:=d) z A j;have W:=zd z A j;have s:=GY h w W;have o:=fun e=>KE h w W (x:=e);change ∀e,(rv c n C x d).2=some e->_ at o;rcases U:rv c n C x d with⟨m,_|⟨k,p⟩⟩
 ·rw[U]at f1 f2 s;have r:n9 c C m:=s rfl;have kI:=(ei h y.vars (dq r.inst)).fewI;have f3:=qW (ae a) m kI.1 (NK r.said (by omega));unfold pL at f1;unfold vb at f2;unfold DA at f2 f3;unfold aG hP at f1;unfold aA hP at f2;unfold hP at f3;simp only at f1 f2;unfold gn at b i |-;refine qf func6 call6 ntmps6 results6 ?_;repeat refine Mf g b i f1 f2 f3 q ?_
  exact oj
 rw[U]at f1 f2 o;obtain⟨Z,e2⟩:=o _ rfl;have f3:=qX (ae a) a S hE k p Z e2;unfold pL cZ at f1;unfold vb at f2;simp only at f1 f2;generalize dt (p.headD (-1)) _=V at*;unfold jH dv at f1 f3;unfold IS at f2 f3;unfold aG hP at f1;unfold aA hP at f2;unfold gn at b i |-;refine qf func6 call6 ntmps6 results6 ?_;repeat refine Mf g b i f1 f2 f3 q ?_
 exact oj
def ni(a:Nat->Addr)(c:aq)(M:jN c)(x:nw)(hx:pT x)(ev:List UInt8)(d n f:Int):b7 prog (ae a) 5 [.agg (gn c x ev d n f)] (B true):=by
 have u:=wo a;have Y:=sk a;have K:=nq a;have S:ae a 1=some (bx (a 2)):=rfl;have T:ae a 5=some (bx (a 6)):=rfl;have U:ae a 6=some (bx (a 7)):=rfl;have hE:ae a 9=some (.lit z6):=rfl;have l:=rH (ae a) (a 1) (a 2) (a 6) (a 7) (a 8) u S T U Y;have b:=qY (ae a) c x ev d n f;cases p:k7 c with
 | false=>
   have j:=qp (ae a) c p;unfold jR at b;rw[p,OT,QF,QF,QF]at b;unfold aA at j;unfold gn at b |-;refine qf func5 call5 ntmps5 results5 ?_;repeat refine Cd j b l ?_
   exact oj
 |true=>
 have h:=xN p;have D:=o8 (tX p);obtain⟨P,_⟩:=CZ (tX p);have j:=tA (ae a) (a 1) (a 8) u Y c M p;unfold aA aG at j;cases O:jR c x with
 | true=>
   rw[O]at b;unfold gn at b |-;refine qf func5 call5 ntmps5 results5 ?_;repeat refine Cd j b l ?_
   exact oj
 |false=>
 rw[O]at b;obtain⟨l1,l2,l3⟩:=BQ p O;obtain⟨W,L⟩:=Bz hx;have X:If (DM x):=⟨show x.1.length<=1000000 by omega,show x.2.1.length<=1000000 by omega,show x.2.2.1.length<=1000000 by omega,L.2⟩;have N: ∀t∈x.2.2.2.1,t.1.length<=9223372036854775807:=fun t ht=>nI (hx.1.2.2.2 t ht);have s:=kq (ae a) (a 1) (a 7) (a 8) u U c h D x X N W [109,97,99,114,111,46,83,101,110,100] d n f;have i:=qd (ae a) c h x X W ev d n f;rcases BV a c x d n f with⟨k,r,Q,hk,R⟩|⟨Q,R,G,z,H,b4⟩
 ·rw[Q]at i;rw[R]at s;have f2:=D7 (ae a) c x ev d n f _ _ s;have A:b7 prog (ae a) 13 [dt (-1) (gc r (bx (a k))),I k] (B true):=gf (ae a) a K k (by omega) (-1) r;have q7:((k:Int) != 0)=true:=by rw[RG];omega
  have q8:((k:Int)==0)=false:=by rw[Oy];omega
  generalize gc r (bx (a k))=V at*;unfold cZ jH dv aG hP at f2;unfold gn at b i |-;refine qf func5 call5 ntmps5 results5 ?_;have F:=ai q7 q8;exact TC j b i f2 A l
 rw[Q]at i;rw[R]at s;obtain⟨C,J,rfl,o⟩:=KV b4;have E:DS (ae a) (a 1) (a 2) (a 6) (a 8) c n:=⟨u,S,T,h,D,C⟩;have hm:=zd G H o
 have g:(TJ ev=false)\/(TJ ev=true/\(ev == [])=false/\ ¬37< (ev.length:Int)):=by
  cases q:TJ ev
  ·exact .inl rfl
  refine .inr ⟨rfl,?_⟩;unfold TJ at q;rwa [Mu,Nx,Nx,Nm]at q
 rcases g with g|⟨g,n1,n2⟩
 ·have f2:=D6 (ae a) (a 1) (a 8) u c x ev g d n J s;have A:b7 prog (ae a) 13 [dt (-1) (bx (a 1)),I 1] (B true):=gf (ae a) a K 1 (by omega) (-1) [];generalize bx (a 1)=V at*;unfold cZ jH dv aG hP at f2;unfold gn at b i |-;unfold TJ at g;cases q:ev == []
  ·rw[q,OT,Nj,O7,NF]at g;refine qf func5 call5 ntmps5 results5 ?_;have F:=ai q g;exact TC j b i f2 A l
  refine qf func5 call5 ntmps5 results5 ?_;have F:=q;exact TC j b i f2 A l
 have f1:=wq E G z H o g s;have f2:=AU (ae a) h D P C (x:=x) (ev:=ev) (d:=d) G z H o;have y:=Ke h C hm z (ev:=ev);have v:=fun e=>Kf h C hm z (ev:=ev) (e:=e);rcases Z:mq c n J x ev d with⟨m,_|⟨k,r⟩⟩
 ·rw[Z]at f1 f2 y;have w:n9 c J m:=y rfl;have kI:=(ei h D.vars (dq w.inst)).fewI;have f3:=qW (ae a) m kI.1 (NK w.said (by omega));unfold pL at f1;unfold vb at f2;unfold DA at f2 f3;unfold aG hP at f1;unfold aA hP at f2;unfold hP at f3;simp only at f1 f2;unfold gn at b i |-;refine qf func5 call5 ntmps5 results5 ?_;have F:=ai n1 n2;exact Uk j b i f1 f2 f3 l
 rw[Z]at f1 f2 v;obtain⟨e1,e2⟩:=v _ rfl;have f3:=qX (ae a) a K hE k r e1 e2;unfold pL cZ at f1;unfold vb at f2;simp only at f1 f2;generalize dt (r.headD (-1)) _=V at*;unfold jH dv at f1 f3;unfold IS at f2 f3;unfold aG hP at f1;unfold aA hP at f2;unfold gn at b i |-;refine qf func5 call5 ntmps5 results5 ?_;have F:=ai n1 n2;exact Uk j b i f1 f2 f3 l
end
section
open Go.RowKit Go.ChangeShapes Go.WideShapes Go.ChangeAt Go.Deep
def LO:prog.cellsOf 63=14:=by kernel_rfl
def Lj:prog.cellsOf 50=2:=by kernel_rfl
def MA{l:List Value}(h:l.length=14): ∃a b c d e f g i j k m n o p,l=[a,b,c,d,e,f,g,i,j,k,m,n,o,p]:=by
 match l,h with
 |[a,b,c,d,e,f,g,i,j,k,m,n,o,p],_=>exact⟨a,b,c,d,e,f,g,i,j,k,m,n,o,p,rfl⟩
section
variable {H:Type} {enc:TypeId×Value->H} {w:World} {base:Nat} {spare:Nat->Bool} {held:Bool}
theorem Iz(m:Nat)(cs:List Value)(y:DataW H×List MemPlace)(h:DataW.trod enc prog w base spare held m 50 cs=some y): ∃a:List UInt8×Int,RE w c0 o4 cs a:=by
 obtain⟨s,n,_,_,d,b,c⟩:=PE Tryz.underlying50 h;rw[Lj]at d;obtain⟨e,f,rfl⟩:=Dh d;obtain⟨q,j⟩:=ba b c 0 _ rfl 9 0 1 rfl rfl io;obtain⟨o,g, -,l⟩:=Pp Tryz.underlying9 (show DataW.trod enc prog w base spare held n 9 [e]=some q from j);cases g;obtain⟨⟨t0⟩⟩:=o;obtain⟨r,k⟩:=ba b c 1 _ rfl 3 1 1 rfl rfl ra;obtain⟨p,i, -, -⟩:=O4 Tryz.underlying3 (show DataW.trod enc prog w base spare held n 3 [f]=some r from k);cases i;exact⟨(t0,p),⟨⟨rfl, .lit _⟩,⟨rfl, .lit _⟩,trivial⟩,(by simpa[o4,ByteArray.size]using l)⟩
theorem se{r0:Reach}{L:Nat}{v:Value}{d:DataW H}{p:List MemPlace}(hv:Value.okWide prog w r0 L 63 v)(J:WB prog 63 d)(h:DataW.Trod enc prog w base spare held 63 v d p):
 ∃(c:aq) (x:nw) (ev:List UInt8) (S n f:Int),jN c/\pT x/\RV (fun b _=>b<w.heap.size) w v (.agg (gn c x ev S n f)):=by
 obtain⟨R,rfl,hsz⟩:=okWide_struct Tryz.underlying63 hv;obtain⟨l⟩:=R;obtain⟨E,hf⟩:=h;obtain⟨k,n,_,hx,G,a,g⟩:=PE Tryz.underlying63 hf;rw[LO]at G;obtain⟨M,N,O,P,Q,s,t,u,y,A,m,o,q,r,rfl⟩:=MA (show l.length=14 from G);have hxk:k.length=5:=a;have hd:d= .agg (k.map (·.1)):=N6 (·.1) hx;rw[hd]at J;obtain⟨y0,V⟩:=ba a g 0 _ rfl 26 0 5 rfl rfl Mk;obtain⟨c,q1,q2⟩:=Kq _ _ _ V;obtain⟨K,j⟩: ∃z,k[1]? =some z:=⟨k[1]'(by omega),Mq _⟩
 have W:DataW.trod enc prog w base spare held n 37 [s,t,u,y,A]=some K:=by
  have:=g 1 _ rfl;exact Eq.trans (show DataW.trod enc prog w base spare held n 37 [s,t,u,y,A]=k[1]? from this) j
 have B:WB prog 37 K.1:=WB.part (i:=1) Tryz.underlying63 J rfl (by rw[NB,j];rfl);obtain⟨x,k1,k2⟩:=D4 _ _ _ W B;obtain⟨y2,X⟩:=ba a g 2 _ rfl 50 10 2 rfl rfl Lj;obtain⟨e,k3, -⟩:=Iz _ _ _ X;obtain⟨y3,Y⟩:=ba a g 3 _ rfl 3 12 1 rfl rfl ra;obtain⟨C,T, -, -⟩:=O4 Tryz.underlying3 (show DataW.trod enc prog w base spare held n 3 [q]=some y3 from Y);cases T;obtain⟨y4,Z⟩:=ba a g 4 _ rfl 3 13 1 rfl rfl ra;obtain⟨D,U, -, -⟩:=O4 Tryz.underlying3 (show DataW.trod enc prog w base spare held n 3 [r]=some y4 from Z);cases U;exact⟨c,x,e.1,e.2,C,D,q2,k2,SU.agg (show SU _ w ([M,N,O,P,Q]++([s,t,u,y,A]++([m,o]++[.int .i64 C, .int .i64 D]))) (aA c++(hP x++(c0 e++[I C,I D]))) from SU.app q1 (SU.app k1 (SU.app k3 ⟨⟨rfl, .lit _⟩,⟨rfl, .lit _⟩,trivial⟩)))⟩
end
end
end Go.Proofs.YtfhkmjbjafeckaaGreatDoor
