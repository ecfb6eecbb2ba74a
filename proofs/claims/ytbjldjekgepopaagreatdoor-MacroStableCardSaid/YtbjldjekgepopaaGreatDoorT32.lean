/- The law MacroStable. -/
import Derived.Test.YtbjldjekgepopaaGreatDoorT30
set_option maxRecDepth 100000
set_option maxHeartbeats 16000000
set_option linter.unusedSimpArgs false
namespace Go.Proofs.YtbjldjekgepopaaGreatDoor
open Go.Proofs.Tryz
open Go.RowKit
section
def ar (l:List ActD):Bool:=l.any fun a=>a.kind==2
def ck (c:ChD):Bool:=(c.states.any fun s=>s.kind==3||ar s.inn||ar s.out)||c.trans.any fun t=>ar t.acts
theorem KG {c:ChD} {d now:Int} {r:RunD} {a:ActD} (ha:a.kind≠2):(doP c d now r a).1.rais=r.rais:=by
 unfold doP;split
 ·rfl
 split
 ·rfl
 split
 ·rfl
 try rw[KZ ha]
 split
 ·unfold startP;split
  ·rfl
  split<;>rfl
 ·unfold IV;split<;>rfl
theorem xq {c:ChD} {d now:Int} : ∀ {l:List ActD} {r:RunD},ar l=false->(allP c d now r l).1.rais=r.rais
 |[],_,_=>rfl
 | a::l,r,h=>by
   unfold ar at h;rw[Mv,My]at h;have h1:=KG (c:=c) (d:=d) (now:=now) (r:=r) (a:=a) (by simpa using h.1);unfold allP;rcases hX:doP c d now r a with⟨r1,_|e⟩<;>rw[hX]at h1
   ·exact(xq h.2).trans h1
   ·exact h1
section
variable {c:ChD} (h:ck c=false)
include h
theorem IA {i:Int} {s:StD} (hs:at_ c i=some s):s.kind≠3/\ar s.inn=false/\ar s.out=false:=by
 have hm:s∈c.states:=by
  unfold at_ at hs;split at hs
  ·exact K1 hs
  ·cases hs
 unfold ck at h;rw[My]at h;have:=NA.1 h.1 s hm;simp only[Lb,O1,Ot,ND]at this;exact⟨this.1.1,this.1.2,this.2⟩
theorem J5 (i:Int):ar (wa c i)=false:=by
 unfold wa;split
 ·rename_i s hs;exact(IA h hs).2.2
 ·rfl
theorem KD (i:Int):ar (inA c i)=false:=by
 unfold inA;split
 ·rename_i s hs;exact(IA h hs).2.1
 ·rfl
theorem IZ (i:Int):d4 c i≠3:=by
 unfold d4;split
 ·rename_i s hs;exact(IA h hs).1
 ·decide
theorem I0 (n:Nat):ar (dR c n).acts=false:=by
 unfold dR;rw[Ko];cases ht:c.trans[n]? with
 |none=>rfl
 | some t=>
   unfold ck at h;rw[My]at h;simpa using NA.1 h.2 t (K1 ht)
theorem za {d now:Int} : ∀(l:List Int) (r:RunD),(bM c d now r l).1.rais=r.rais
 |[],_=>rfl
 | i::l,r=>by
   have h1:=xq (c:=c) (d:=d) (now:=now) (r:=r) (J5 h i);unfold bM;rcases hX:allP c d now r (wa c i) with⟨r1,_|e⟩<;>rw[hX]at h1
   ·exact(za l _).trans h1
   ·exact h1
theorem Dr {d now:Int} : ∀(l:List Nat) (r:RunD),(eo c d now r l).1.rais=r.rais
 |[],_=>rfl
 | n::l,r=>by
   have h1:=xq (c:=c) (d:=d) (now:=now) (r:=r) (I0 h n);unfold eo;rcases hX:allP c d now r (dR c n).acts with⟨r1,_|e⟩<;>rw[hX]at h1
   ·exact(Dr l _).trans h1
   ·exact h1
theorem sA {d now:Int} : ∀(l:List Int) (r:RunD),(aj c d now r [] l).1.1.rais=r.rais/\(aj c d now r [] l).2=[]
 |[],_=>⟨rfl,rfl⟩
 | i::l,r=>by
   unfold aj;split
   ·exact sA l r
   have h1:=xq (c:=c) (d:=d) (now:=now) (r:={ r with act:=bS (r.act++[i]) }) (KD h i);rcases hX:allP c d now { r with act:=bS (r.act++[i]) } (inA c i) with⟨r1,_|e⟩<;>rw[hX]at h1
   ·simp only;rw[KZ (IZ h i)];exact⟨(sA l r1).1.trans h1,(sA l r1).2⟩
   ·exact⟨h1,rfl⟩
theorem Gz {d now:Int} (l:List Int) (r:RunD):(enterP c d now r l).1.rais=r.rais:=by
 obtain⟨h1,h2⟩:=sA h (d:=d) (now:=now) l r;unfold enterP;rcases hX:aj c d now r [] l with⟨⟨r1,_|e⟩,f⟩
 ·rw[hX]at h1 h2;obtain rfl:f=[]:=h2;show (gY c r1 (zL (sortL c []))).1.rais=_;rw[show sortL c []=[] by simp[sortL]];exact h1
 ·rw[hX]at h1;exact h1
theorem IJ {d now:Int} (ts:List Nat) (r:RunD):(stepP c d now r ts).1.rais=r.rais:=by
 unfold stepP;simp only;have h1:=za h (d:=d) (now:=now) (zL (sortL c (goneR c r.act ts))).reverse { r with mem:=remL c r.act (zL (sortL c (goneR c r.act ts))) r.mem };split
 ·rename_i r1 e1;rw[e1]at h1;have h2:=Dr h (d:=d) (now:=now) ts r1;split
  ·rename_i r2 e2;rw[e2]at h2;exact((Gz h _ r2).trans h2).trans h1
  ·rename_i e2;exact h2.trans h1
 ·exact h1
theorem KM {now:Int} {F:Nat} {m:MaD} {ev:List UInt8} (hw:m.wait=[]) (he:(atM c now F m ev).1.2=none):(atM c now F m ev).1.1.wait=[]/\(atM c now F m ev).1.1.data=m.data:=by
 unfold atM at he |-;split at he
 ·cases he
 ·exact⟨hw,rfl⟩
 ·rename_i k l hv;unfold mstepM at he |-;simp only at he |-;split at he
  ·cases he
  ·rename_i hF;rw[KZ hF];have h1:=IJ h (d:=m.data) (now:=now) (k::l) (fp m.x);split at he
   ·cases he
   ·rename_i r hr;rw[hr]at h1;unfold JU addP;have h1:r.rais=[]:=h1;split<;>exact⟨by simp[hw,h1],rfl⟩
theorem JI {now:Int} {F:Nat} : ∀(n:Nat) (m:MaD),m.wait=[]->(onM c now F n m).2=none->(onM c now F n m).1.data=m.data
 |0,m,_,he=>by cases he
 | n+1,m,hw,he=>by
   unfold onM at he |-;split
   ·rfl
   rename_i ho;rw[KZ ho]at he;have ha:=KM h hw (now:=now) (F:=F) (ev:=[]);rcases hA:atM c now F m []with⟨⟨m1,_|e⟩,_|_⟩
   ·rw[hA]at he ha;obtain⟨a1,a2⟩:=ha rfl;simp only at he a1 a2 |-;rw[a1];exact a2
   ·rw[hA]at he ha;obtain⟨a1,a2⟩:=ha rfl;exact(JI n m1 a1 he).trans a2
   ·rw[hA]at he;cases he
   ·rw[hA]at he;cases he
end
end
section
theorem mR (env:Env) (c:ChD) (x:InD) (d n f:Int) (p:Int) (e:AV) (fr:Con prog env 40 [Sg [109,97,99,114,111,46,83,101,116,116,108,101],aC c, .agg (inE x),I d,I n,I f] (errV p e)):Con prog env 21 [aC c, .agg (inE x),I d,I n,I f] (b9 (errV p e)):=by
 unfold b9 ir dO;unfold aC inE at fr |-;refine qf func21 call21 ntmps21 results21 ?_;repeat refine lZ fr ?_
 exact aR0
theorem pK {env:Env} {a1 a2 a6 a8:Addr} {c:ChD} {now:Int} (E:MaEnv env a1 a2 a6 a8 c now) {fu:Nat} {x:InD} {d:Int} (hb:ap c (rcI x)=true) (hd:aJ d=true) (hF:fu<=256) (fr:Con prog env 40 [Sg [109,97,99,114,111,46,83,101,116,116,108,101],aC c, .agg (inE x),I d,I now,I fu] nilE):
 Con prog env 21 [aC c, .agg (inE x),I d,I now,I fu] (lj a2 a6 a8 (settleM c now fu x d)):=by
 have k:=gy E.h E.hs.vars (eS hb);have k1:=k.act;have k2:=k.vars;have k3:=k.mem;have f2:=lv env x (by omega) (by omega) (by omega) k.mems (aG (Kh k.tms (by omega)) (by omega));have fe:=o0 E (Fq hb hd hF) [109,97,99,114,111,46,83,101,116,116,108,101];unfold settleM;generalize onM c now fu NM (m0 x d)=X at*;unfold aC inE at fr |-;obtain⟨A,V,M,T,O⟩:=x;unfold RQ RQe m0 at fe;simp only at*;rcases X with⟨m1,_|⟨k,ps⟩⟩
 ·unfold Br ovM inE at fe;unfold lj inE;simp only at fe |-;refine qf func21 call21 ntmps21 results21 ?_;have F:=gr2.eq_1;repeat refine tz1 fr ?_
  refine iL [(8,9001),(11,9002),(14,9003)] f2 ?_
  iterate 6 (refine st ?_)
  show awp _ _ _ _ _ _;refine be [(9001,⟨1,A.map intAV,3,true⟩),(9002,⟨1,V.map intAV,3,true⟩),(9003,⟨2,T.map tmAV,108,true⟩)] ?_ ?_
  ·exact qe
  refine nC 33 9005 0 6 33 2 ?_;refine nC 33 9004 0 7 3 1 ?_;repeat refine st ?_
  refine iL [(1000,33),(1001,9004),(1002,9005)] fe ?_;repeat refine st ?_
  exact aR
 ·unfold Br ovM b9 ir dO at fe;unfold lj b9 ir dO;simp only at fe |-;refine qf func21 call21 ntmps21 results21 ?_;have F:=gr2.eq_1;repeat refine tz1 fr ?_
  refine iL [(8,9001),(11,9002),(14,9003)] f2 ?_
  iterate 6 (refine st ?_)
  show awp _ _ _ _ _ _;refine be [(9001,⟨1,A.map intAV,3,true⟩),(9002,⟨1,V.map intAV,3,true⟩),(9003,⟨2,T.map tmAV,108,true⟩)] ?_ ?_
  ·exact qe
  refine nC 33 9005 0 6 33 2 ?_;refine nC 33 9004 0 7 3 1 ?_;repeat refine st ?_
  refine iL [(1000,33),(1001,9004),(1002,9005)] fe ?_;repeat refine st ?_
  exact aR
def kV (a1 a2:Addr) (c:ChD) (x:InD) (d:Int):AV:=if ap c (rcI x)=false then .tuple [B false,errV (-1) (errV (-1) (sentV a1))] else if x.2.2.2.2=true then .tuple [B true,nilE] else if aJ d=false then .tuple [B false,errV (-1) (errV (-1) (sentV a1))] else
 match d7 c (m0 x d) []with
 | .ok l=> .tuple [B (l == []),nilE]
 | .error k=> .tuple [B false,errV (-1) (errV (1000+(k:Nat)) (sentV a2))]
theorem pJ {env:Env} {a1 a2 a8:Addr} (he:ChEnv env a1 a8) (h2:env 2=some (sentV a2)) {c:ChD} (h:Full c) (hs:Small c) (x:InD) (d:Int) (hL:LiteI (rcI x)) (hn: ∀t∈x.2.2.2.1,t.1.length<=9223372036854775807) (hF: ∀m∈x.2.2.1,Fits m.2.length 8):Con prog env 19 [aC c, .agg (inE x),I d] (kV a1 a2 c x d):=by
 have f0:=j8 env a1 a8 he c h hs (rcI x) hL hn hF;have f3:=fun p e=>fU env [109,97,99,114,111,46,83,116,97,98,108,101] p e;have f4:=ou env [109,97,99,114,111,46,83,116,97,98,108,101];rw[lH]at f0;unfold nN at f0;unfold kV;cases hr:ap c (rcI x)
 ·rw[hr,KZ LY]at f0;rw[K0 rfl];have f3:=f3 (-1) (sentV a1);unfold aC inE at f0 |-;refine qf func19 call19 ntmps19 results19 ?_;repeat refine yt f0 f3 ?_
  exact aR0
 rw[hr,K0 rfl]at f0;rw[KZ (by simp)];by_cases ho:x.2.2.2.2=true
 ·rw[K0 ho];unfold aC inE at f0 |-;refine qf func19 call19 ntmps19 results19 ?_;have F:=ho;repeat refine tz1 f0 ?_
  exact aR
 rw[KZ ho];have ho:x.2.2.2.2=false:=by simpa using ho
 cases hd:aJ d
 ·have f1:=wR env c x d [] (-1) (sentV a1) (BD env a1 a8 he c h hs x hL hn hF _ d hr ho hd);rw[K0 rfl];have f3:=f3 (-1) (sentV a1);unfold aC inE at f0 f1 |-;refine qf func19 call19 ntmps19 results19 ?_;have F:=ho;repeat refine tz3 f0 f1 f3 ?_
  exact aR
 rw[KZ (by simp)];have f1:=vZ he h2 h hs hr ho hd [];change Con _ _ _ _ (xJ a2 (d7 c (m0 x d) [])) at f1;cases hv:d7 c (m0 x d) []with
 | error k=>
   rw[hv]at f1;have f3:=f3 (1000+(k:Nat)) (sentV a2);unfold xJ aC inE at f1;unfold aC inE at f0 |-;simp only at f1 |-;refine qf func19 call19 ntmps19 results19 ?_;have F:=ho;repeat refine tz3 f0 f1 f3 ?_
   exact aR
 | ok l=>
   rw[hv]at f1;cases l with
   | nil=>
     unfold xJ aC inE at f1;unfold aC inE at f0 |-;simp only[Lt]at f1 |-;refine qf func19 call19 ntmps19 results19 ?_;have F:=ho;repeat refine tz3 f0 f1 f4 ?_
     exact aR
   | cons j l=>
     have q0:(((l.length+1:Nat):Int)==0)=false:=by rw[ND];omega
     have q1:((j::l:List Nat) == [])=false:=rfl;unfold xJ aC inE at f1;unfold aC inE at f0 |-;simp only[LI,q1]at f1 |-;refine qf func19 call19 ntmps19 results19 ?_;have F:=ai ho q0;repeat refine tz3 f0 f1 f4 ?_
     exact aR
theorem BE (env:Env) (l:List ActD) (hl:l.length<=1000000):Con prog env 55 [actsAV l] (B (ar l)):=by
 refine qf func55 call55 ntmps55 results55 ?_;repeat refine st0 ?_
 refine lq0 l.length (by omega) (fun j vs=>[(0,actsAV l),(3,I j)]) (fun _ _=>[]) (fun j _ _=>ar l=ar (l.drop j)) rfl ?_ ?_
 ·rintro j ws es hlt q1 q2 he;obtain⟨a,hx⟩:=gE hlt;rw[bE hx]at he;unfold ar at he;rw[Mv]at he;cases hb:a.kind==2 with
  | true=>
    rw[hb,MD]at he;rw[show ar l=true from he];have F:=ai5 bP.eq_1 hx hb q1 q2;repeat refine st ?_
    exact aR
  | false=>
    rw[hb,Lu]at he;have F:=ai5 bP.eq_1 hx hb q1 q2;repeat refine st ?_
    exact qn (j+1) ⟨hlt,he⟩
 ·rintro ws es q1 he;rw[MP]at he;rw[show ar l=false from he];have F:=q1;repeat refine st ?_
  exact aR
end
section
theorem G1 {c:ChD} {now:Int} {F:Nat} {m:MaD} (ho:m.x.2.2.2.2=false) (hw:m.wait=[]) (he:d7 c m []= .ok []):onM c now F NM m=(m,none):=by
 show onM c now F (4999+1) m=_;unfold onM;rw[KZ (by rw[ho];exact LY)];have:atM c now F m []=((m,none),false):=by unfold atM;rw[he]
 rw[this];simp only[hw]
theorem yK {c:ChD} {now:Int} {x:InD} {d:Int} (ho:x.2.2.2.2=false) (he:(settleM c now 0 x d).2=none):d7 c (m0 x d) []= .ok []:=by
 unfold settleM at he;rw[show NM=4999+1 from rfl]at he;unfold onM at he;rw[KZ (show ¬(m0 x d).x.2.2.2.2=true by rw[show (m0 x d).x.2.2.2.2=false from ho];exact LY)]at he;unfold atM at he;cases hv:d7 c (m0 x d) []with
 |error n=>rw[hv]at he;cases he
 | ok f=>
   cases f with
   |nil=>rfl
   | cons k l=>
     rw[hv]at he;simp only at he;unfold mstepM at he;rw[K0 (Ke _)]at he;cases he
end
section
theorem wJ (env:Env) (c:ChD) (h:Full c):Con prog env 22 [.agg (aA c)] (B (ck c)):=by
 have hfew:=h.few;have hftr:=h.ftr;have fr:=fun l hl=>BE env l hl;refine qf func22 call22 ntmps22 results22 ?_;repeat refine st0 ?_
 refine lp0 (D:=Nat) (fun i vs=>[(1, .loc 1 (vs 1) 0 0),(3,I i)]) (fun _ _=>[(1,⟨5,[aA c],26,false⟩)]) (fun i _ _=>i<=c.states.length/\(c.states.any fun s=>s.kind==3||ar s.inn||ar s.out)=(c.states.drop i).any fun s=>s.kind==3||ar s.inn||ar s.out) (fun i=>c.states.length-i) 0 ⟨Ke _,rfl⟩ ?_;rintro i ws es ⟨hi,he⟩;by_cases hlt:i<c.states.length
 ·obtain⟨s,hs⟩:=gE hlt;have q1:=nlt hlt;have q2:=aD hlt (by omega);obtain⟨⟨s1,_⟩,s3,_⟩:=xX h hs;have f1:=fr s.inn (by omega);have f2:=fr s.out (by omega);rw[bE hs,Mv]at he;unfold ck;cases hk:s.kind==3 with
  | true=>
    rw[hk,MD,MD,MD]at he;rw[he,MD];have F:=ai6 aA.eq_1 aL.eq_1 hs hk q1 q2;repeat refine st ?_
    exact aR
  | false=>
    rw[hk,Lu]at he;cases h1:ar s.inn with
    | true=>
      rw[h1]at f1;rw[h1,MD,MD]at he;rw[he,MD];have F:=ai6 aA.eq_1 aL.eq_1 hs hk q1 q2;repeat refine tz1 f1 ?_
      exact aR
    | false=>
      rw[h1]at f1;rw[h1,Lu]at he;cases h2:ar s.out with
      | true=>
        rw[h2]at f2;rw[h2,MD]at he;rw[he,MD];have F:=ai6 aA.eq_1 aL.eq_1 hs hk q1 q2;repeat refine tz2 f1 f2 ?_
        exact aR
      | false=>
        rw[h2]at f2;rw[h2,Lu]at he;have F:=ai6 aA.eq_1 aL.eq_1 hs hk q1 q2;repeat refine tz2 f1 f2 ?_
        exact qn (i+1) ⟨hlt,he⟩
 obtain rfl:i=c.states.length:=by omega
 have q1:=nl c.states.length;rw[MP,OJ]at he;have hr:ck c=c.trans.any fun t=>ar t.acts:=by unfold ck;rw[he,Lu]
 rw[hr];try clear he hr
 have F:=ai aA.eq_1 q1;repeat refine st ?_
 have F:=aA.eq_1;refine lq c.trans.length (by omega) (fun i vs=>[(1, .loc 1 (vs 1) 0 0),(4,I i)]) (fun _ _=>[(1,⟨5,[aA c],26,false⟩)]) (fun i _ _=>(c.trans.any fun t=>ar t.acts)=(c.trans.drop i).any fun t=>ar t.acts) rfl ?_ ?_
 ·try clear q1 hi
  rintro i ws es hlt q1 q2 he;obtain⟨t,ht⟩:=gE hlt;have f1:=fr t.acts (by have:=(Co h ht).1;omega);rw[bE ht,Mv]at he;cases h1:ar t.acts with
  | true=>
    rw[h1]at f1;rw[h1,MD]at he;rw[he];have F:=ai5 aA.eq_1 bi.eq_1 ht q1 q2;repeat refine tz1 f1 ?_
    exact aR
  | false=>
    rw[h1]at f1;rw[h1,Lu]at he;have F:=ai5 aA.eq_1 bi.eq_1 ht q1 q2;repeat refine tz1 f1 ?_
    exact qn (i+1) ⟨hlt,he⟩
 try clear q1 hi
 rintro ws es q1 he;rw[MP,OJ]at he;rw[he];have F:=ai aA.eq_1 q1;repeat refine st ?_
 exact aR
theorem Con.weakQ {P:Program} {env:Env} {f:FuncId} {cs:List AV} {res' res:AV} (h:Con P env f cs res') (hs:ge res' res):Con P env f cs res:=by
 refine⟨h.enter,fun w S vs hE hl hv=>(h.calls w S vs hE hl hv).mono ?_⟩;rintro ex w' ⟨v,rfl,hb,S1,h1,h2,h3,hr⟩;exact⟨v,rfl,hb,S1,h1,h2,h3,hs _ _ _ _ hr⟩
theorem GH (a1 a2:Addr) (c:ChD) (x:InD) (d:Int): ∃u v,kV a1 a2 c x d= .tuple [u,v]:=by
 unfold kV;split
 ·exact⟨_,_,rfl⟩
 split
 ·exact⟨_,_,rfl⟩
 split
 ·exact⟨_,_,rfl⟩
 split<;>exact⟨_,_,rfl⟩
theorem GG {a1 a2:Addr} {c:ChD} {x:InD} {d:Int} (hb:ap c (rcI x)=true) (ho:x.2.2.2.2=false) (hd:aJ d=true) (he:d7 c (m0 x d) []= .ok []):kV a1 a2 c x d= .tuple [B true,nilE]:=by
 unfold kV;rw[hb,ho,hd,he];rfl
theorem stab_no {a1 a2:Addr} {c:ChD} {x:InD} {d:Int} (hb:ap c (rcI x)=true) (ho:x.2.2.2.2=false) (hd:aJ d=true) (he:d7 c (m0 x d) []≠ .ok []):kV a1 a2 c x d= .tuple [B false,nilE]\/ ∃p e,kV a1 a2 c x d= .tuple [B false,errV p e]:=by
 unfold kV;rw[hb,ho,hd];cases hv:d7 c (m0 x d) []with
 |error k=>exact .inr ⟨_,_,rfl⟩
 | ok l=>
   cases l with
   |nil=>exact absurd hv he
   |cons j l=>exact .inl rfl
theorem vw {c:ChD} (h:Full c) {now:Int} (hn:0<=now/\now<=1099511627776) (hr:ck c=false) {F:Nat} {x:InD} {d:Int} (hm:MaOk c F (m0 x d)) {m:MaD} (he:settleM c now F x d=(m,none)) (ho:m.x.2.2.2.2=false):d7 c (m0 m.x d) []= .ok []:=by
 have h1:=(BN h hn NM _ hm (by show (settleM c now F x d).2=none;rw[he])).2.2;have h2:=JI hr (now:=now) (F:=F) NM (m0 x d) rfl (by show (settleM c now F x d).2=none;rw[he]);change (settleM c now F x d).1.data=d at h2;change (settleM c now F x d).1.x.2.2.2.2=true\/_/\d7 c (settleM c now F x d).1 []=_/\_ at h1;rw[he]at h1 h2;rcases h1 with h1|⟨_,h1,_⟩
 ·simp only at h1;rw[h1]at ho;cases ho
 ·unfold d7 at h1 |-;simp only at h1 h2;rw[h2]at h1;exact h1
theorem lY (ad:Nat->Addr) (c:ChD) (hcf:i6 c) (x:InD) (hx:oD x) (ev:List UInt8) (d n f:Int):Con prog (aY ad ab) 5 [.agg (eL c x ev d n f)] (B true):=by
 have he:=z7 ad;have hT:=uo ad;have h2:aY ad ab 2=some (sentV (ad 2)):=rfl;have h6:aY ad ab 6=some (sentV (ad 6)):=rfl;have h7:aY ad ab 1=some (sentV (ad 7)):=rfl;have fa:=pd (aY ad ab) (ad 1) (ad 2) (ad 6) (ad 7) (ad 8) he h2 h6 h7 hT;have fr:=pA (aY ad ab) c x ev d n f;cases hg:jl c with
 | false=>
   have fm:=pM (aY ad ab) c hg;unfold ic at fr;rw[hg,Li,MD,MD,MD]at fr;unfold aA at fm;unfold eL at fr |-;refine qf func5 call5 ntmps5 results5 ?_;repeat refine Aa fm fr fa ?_
   exact aR0
 |true=>
 have h:=vD hg;have hs:=mz (DY hg);have fm:=rQ (aY ad ab) (ad 1) (ad 8) he hT c hcf hg;unfold aA aC at fm;cases hr:ic c x with
 | true=>
   rw[hr]at fr;unfold eL at fr |-;refine qf func5 call5 ntmps5 results5 ?_;repeat refine Aa fm fr fa ?_
   exact aR0
 |false=>
 rw[hr]at fr;obtain⟨l1,l2,l3⟩:=zG hg hr;obtain⟨hF,hTm⟩:=zq hx;have hL:LiteI (rcI x):=⟨show x.1.length<=1000000 by omega,show x.2.1.length<=1000000 by omega,show x.2.2.1.length<=1000000 by omega,hTm.2⟩;have hnm: ∀t∈x.2.2.2.1,t.1.length<=9223372036854775807:=fun t ht=>lm (hx.1.2.2.2 t ht);have fs:=pJ he h2 h hs x d hL hnm hF;have fR:=mN (aY ad ab) c h (rcI x) hL hF;rw[lH]at fR;have fy:=iO (aY ad ab) (ad 1) (ad 7) (ad 8) he h7 c h hs x hL hnm hF [109,97,99,114,111,46,83,101,116,116,108,101] d n f;cases hb:ap c (rcI x) with
 | false=>
   rw[hb]at fR;unfold kV at fs;rw[hb,K0 rfl]at fs;have ft:Con prog (aY ad ab) 18 [errV (-1) (errV (-1) (sentV (ad 1))),I 1] (B true):=jx ad ab 1 (by omega) (-1) [-1];unfold aC inE at fs;unfold aA inE at fR;generalize sentV (ad 1)=V at*;unfold eL at fr |-;refine qf func5 call5 ntmps5 results5 ?_;repeat refine JE fm fr fs fR ft fa ?_
   exact aR0
 |true=>
 rw[hb]at fR;obtain⟨u0,v0,hst⟩:=GH (ad 1) (ad 2) c x d;rw[hst]at fs;have fs:=fs.weakQ (.tuple (.cons (.any _) (.cons (.any _) .nil)));unfold aC inE at fs;unfold aA inE at fR;rcases qy (ad 1) (ad 7) c x d n f with⟨p,e,hy⟩|⟨hy,_,b2,b3,b4⟩
 ·rw[hy]at fy;have f2:=mR (aY ad ab) c x d n f p e fy;unfold b9 ir dO errV aC inE at f2;unfold eL at fr |-;refine qf func5 call5 ntmps5 results5 ?_;repeat refine JE fm fr fs fR f2 fa ?_
  exact aR0
 rw[hy]at fy;obtain⟨hn,fu,rfl,hfu⟩:=Ht b4;have E:MaEnv (aY ad ab) (ad 1) (ad 2) (ad 6) (ad 8) c n:=⟨he,h2,h6,h,hs,hn⟩;have f1:=pK E hb b3 hfu fy;have hm:=Fq hb b3 hfu;have hok:=ET h hn hm;rcases hX:settleM c n fu x d with⟨m,_|⟨j,ps⟩⟩
 case some=>
  rw[hX]at f1;unfold lj b9 ir dO errV at f1;unfold aC inE at f1;simp only at f1;unfold eL at fr |-;refine qf func5 call5 ntmps5 results5 ?_;repeat refine JE fm fr fs fR f1 fa ?_
  exact aR0
 rw[hX]at f1 hok;have hmo:MaOk c fu m:=hok rfl;have hmi:=hmo.inst;have kI:=gy h hs.vars (eS hmi);obtain⟨kf,kl⟩:=kI.fewI;have knm: ∀t∈m.x.2.2.2.1,t.1.length<=9223372036854775807:=fun t ht=>Kh (kI.nms t ht) (by omega);have fR2:=mN (aY ad ab) c h (rcI m.x) kl kI.mems;rw[lH,hmi]at fR2;have fs2:=pJ he h2 h hs m.x d kl knm kI.mems;have fy2:=iO (aY ad ab) (ad 1) (ad 7) (ad 8) he h7 c h hs m.x kl knm kI.mems [109,97,99,114,111,46,83,101,116,116,108,101] d n (0:Nat);have f3:=pG (aY ad ab) m.x.1 m.x.2.1 m.x kf rfl rfl;rw[show ((m.x.1==m.x.1)&&(m.x.2.1==m.x.2.1))=true by simp]at f3;have hstill:=fun hr=>vw h hn hr hm hX;unfold lj at f1;unfold aC inE at f1;unfold aA inE at fR2;unfold inE at f3;simp only at f1;by_cases ho:m.x.2.2.2.2=true
 ·have e1:kV (ad 1) (ad 2) c m.x d= .tuple [B true,nilE]:=by unfold kV;rw[hmi,ho];rfl
  have e2:t7 (ad 1) (ad 7) c m.x d n (0:Nat)=errV (-1) (sentV (ad 7)):=by unfold t7;rw[hmi,ho];rfl
  rw[e1]at fs2;rw[e2]at fy2;have f4:=mR (aY ad ab) c m.x d n (0:Nat) (-1) (sentV (ad 7)) fy2;have ft:Con prog (aY ad ab) 18 [errV (-1) (sentV (ad 7)),I 7] (B true):=jx ad ab 7 (by omega) (-1) [];unfold aC inE at fs2 f4;unfold b9 ir dO at f4;generalize sentV (ad 7)=V at*;unfold eL at fr |-;refine qf func5 call5 ntmps5 results5 ?_;have F:=ho;repeat (first|refine st ?_|refine cC fm ?_|refine cC fr ?_|refine cC fs ?_|refine cC fR ?_|refine cC f1 ?_|refine cC fR2 ?_|refine cC fs2 ?_|refine cC f4 ?_|refine cC ft ?_|refine cC fa ?_)
  exact aR
 have ho:m.x.2.2.2.2=false:=by simpa using ho
 have e2:t7 (ad 1) (ad 7) c m.x d n (0:Nat)=nilE:=by unfold t7;rw[hmi,ho,b3,Ce hn (by omega)];rfl
 rw[e2]at fy2;have f4:=pK E hmi b3 (fu:=0) (by omega) fy2;by_cases hen:d7 c (m0 m.x d) []= .ok []
 ·rw[GG hmi ho b3 hen]at fs2;have hY:settleM c n 0 m.x d=(m0 m.x d,none):=G1 ho rfl hen;rw[hY]at f4;unfold lj m0 at f4;unfold aC inE at fs2 f4;simp only[Lt]at f4;unfold ints34 at f4;simp only[Lt]at f4;unfold eL at fr |-;refine qf func5 call5 ntmps5 results5 ?_;have F:=ho;repeat (first|refine st ?_|refine cC fm ?_|refine cC fr ?_|refine cC fs ?_|refine cC fR ?_|refine cC f1 ?_|refine cC fR2 ?_|refine cC fs2 ?_|refine cC f4 ?_|refine cC f3 ?_|refine cC fa ?_)
  exact aR
 have hrr:ck c=true:=by
  cases hh:ck c with
  |true=>rfl
  |false=>exact absurd (hstill hh ho) hen
 have fh:=wJ (aY ad ab) c h;rw[hrr]at fh;unfold aA at fh;have hY:(settleM c n 0 m.x d).2≠none:=fun q=>hen (yK ho q);rcases hZ:settleM c n 0 m.x d with⟨m3,_|⟨j,ps⟩⟩
 ·rw[hZ]at hY;exact absurd rfl hY
 rw[hZ]at f4;unfold lj b9 ir dO errV at f4;unfold aC inE at f4;simp only at f4;rcases stab_no (a1:=ad 1) (a2:=ad 2) hmi ho b3 hen with hst|⟨p,e,hst⟩
 ·rw[hst]at fs2;unfold aC inE at fs2;unfold eL at fr |-;refine qf func5 call5 ntmps5 results5 ?_;have F:=ho;repeat (first|refine st ?_|refine cC fm ?_|refine cC fr ?_|refine cC fs ?_|refine cC fR ?_|refine cC f1 ?_|refine cC fR2 ?_|refine cC fs2 ?_|refine cC f4 ?_|refine cC fh ?_|refine cC fa ?_)
  exact aR
 ·rw[hst]at fs2;unfold errV aC inE at fs2;unfold eL at fr |-;refine qf func5 call5 ntmps5 results5 ?_;have F:=ho;repeat (first|refine st ?_|refine cC fm ?_|refine cC fr ?_|refine cC fs ?_|refine cC fR ?_|refine cC f1 ?_|refine cC fR2 ?_|refine cC fs2 ?_|refine cC f4 ?_|refine cC fh ?_|refine cC fa ?_)
  exact aR
end

end Go.Proofs.YtbjldjekgepopaaGreatDoor