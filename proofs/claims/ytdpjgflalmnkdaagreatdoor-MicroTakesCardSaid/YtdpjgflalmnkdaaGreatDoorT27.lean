/- Loops of few rounds, walked round by round. No program is named here. -/
import Derived.Test.YtdpjgflalmnkdaaGreatDoorT26
set_option maxRecDepth 100000
set_option maxHeartbeats 16000000
set_option linter.unusedSimpArgs false
namespace Go.Proofs.YtdpjgflalmnkdaaGreatDoor
open Go.Proofs.Tryz
open Go.RowKit
section
theorem vl {c:ChD} {d now:Int} {r:RunD} {f l:List Int} {j:Nat} {i:Int} (hi:l[j]? =some i):ak c d now r f (l.drop j)=if r.act.contains i=true then ak c d now r f (l.drop (j+1)) else match allP c d now { r with act:=bN (r.act++[i]) } (inA c i) with
 |(r1,none)=>ak c d now r1 (if bS c i=3 then f++[i] else f) (l.drop (j+1))
 |x=>(x,[]):=by
 rw[bB hi]
 conv=>lhs;unfold ak
 rcases allP c d now { r with act:=bN (r.act++[i]) } (inA c i) with⟨r1,_|_⟩<;>rfl
def Bs (a2 a8:Addr) (e:ErD) (f:List Int):AV:=match e with
 |none=> .tuple [.seq 1 (f.map intAV),nilE]
 |some x=> .tuple [nilS,cv a2 a8 (some x)]
theorem H4 (env:Env) (a1 a2 a8:Addr) (c:ChD) (d now:Int) (E:RunEnv env a1 a2 a8 c d now) (r:RunD) (hr:RunOk c r) (hl:r.act.length<=1000) (G:List Nat) (hG: ∀i∈G,i<c.states.length) (hGl:G.length<=1000):
 ConI prog env 113 [1000,1001,1002,1003,1004,1005] gr5 (fun g=>[.loc 1000 (g 1000) 0 0, .seq 1 (G.map aB)]) (RY c d now r) (RY c d now (ak c d now r [] (zL G)).1.1) (fun _=>Bs a2 a8 (ak c d now r [] (zL G)).1.2 (ak c d now r [] (zL G)).2):=by
 have hfew:=E.h.few;have hcv:=E.hs.vars;have hdo:=fun(r:RunD) hr hl (l:List ActD) hll ha=>xV env a1 a2 a8 c d now E r hr hl l hll ha;have hok:=fun(r:RunD) (hr:RunOk c r) (l:List ActD) ha=>jX E.hd E.hn (l:=l) hr ha;refine qi func113 call113 ntmps113 results113 ?_;intro vs esc hesc;obtain⟨e0,e1,e2,e3,e4,e5⟩:=es6 hesc;have F:=ai9 RY.eq_1 RYe.eq_1 gr5.eq_1 e0 e1 e2 e3 e4 e5;repeat refine st ?_
 refine aj 6 6 3 1 ?_;refine lp (D:=Nat×RunD×List Int) (fun x vs'=>[(0, .loc 1000 (vs' 1000) 0 0),(4,nilS),(5,nilE),(6, .row 6 (vs' 6)),(10, .seq 1 (G.map aB)),(11,I G.length),(12,I x.1)]) (fun x vs'=>(6,⟨1,x.2.2.map intAV,3,true⟩)::RY c d now x.2.1 vs') (fun x vs' esc'=>(x.1<=G.length/\ak c d now r [] (zL G)=ak c d now x.2.1 x.2.2 ((zL G).drop x.1)/\RunOk c x.2.1/\x.2.1.act.length<=r.act.length+x.1/\x.2.2.length<=x.1)/\(vs' 1000=vs 1000/\vs' 1002=vs 1002)/\esc' 1000=false/\esc' 1001=false/\esc' 1002=false/\esc' 1003=false/\esc' 1004=false/\esc' 1005=false/\esc' 6=false) (fun x=>G.length-x.1) (0,r,[]) ⟨⟨Kj _,rfl,hr,Kc _,Kc _⟩,by simp only[go_sem,Kk],by simp only[go_sem,e0,e1,e2,e3,e4,e5,Kk]⟩ ?_;try clear e0 e1 e2 e3 e4 e5
 rintro⟨j,r1,f⟩ ws es ⟨⟨hj,heq,hr1,hact,hfl⟩,⟨v0,v2⟩,e0,e1,e2,e3,e4,e5,e6⟩;simp only at hj heq hr1 hact hfl;by_cases hlt:j<G.length
 ·obtain⟨i,hx⟩:=gE hlt;have hil:=hG i (K4 hx);obtain⟨s,hs⟩:=gE hil;obtain⟨_,s1,s2⟩:=sU E.h hs;have ho:inA c i=s.inn:=by unfold inA;rw[bI,hs]
  have hk:bS c i=s.kind:=by unfold bS;rw[bI,hs]
  have q1:=nlt hlt;have q2:=aD hlt (by omega);have q3:=nlt hil;have fc:=(bG env r1.act i (by omega)).lend rfl;rw[vl (pm hx),ho,hk]at heq;cases hc:r1.act.contains (i:Int) with
  | true=>
    rw[hc]at heq fc;simp only[L1]at heq;have F:=ai12 aK.eq_1 aB.eq_1 actsAV.eq_1 RY.eq_1 RYe.eq_1 gr5.eq_1 hx hs q1 q2 q3<|ai7 e0 e1 e2 e3 e4 e5 e6;repeat refine st ?_
    refine lL fc ?_;repeat refine st ?_
    refine⟨(j+1,r1,f),⟨⟨hlt,heq,hr1,by simp only;omega,by simp only;omega⟩,?_,?_⟩,?_,?_,?_⟩
    ·simp only[go_sem,v0,v2,Kk]
    ·simp only[go_sem,e0,e1,e2,e3,e4,e5,e6,Kk]
    ·exact qe
    ·exact qe
    ·simp only;omega
  | false=>
    rw[hc]at heq fc;simp only[Ku,Ld]at heq;have hact1:(bN (r1.act++[(i:Int)])).length<=r.act.length+(j+1):=by rw[ko,K8,LI];omega
    have f0:=hdo { r1 with act:=bN (r1.act++[(i:Int)]) } { hr1 with } (by simp only;omega) s.inn (by omega) s2;obtain⟨k1,k2⟩:=hok { r1 with act:=bN (r1.act++[(i:Int)]) } { hr1 with } s.inn s2;have g1:=pK (r1.act++[(i:Int)]) (by simp;omega);have g2:bJ ((r1.act++[(i:Int)]).map rY)=r1.act.map intAV++[[I i]]:=by rw[bl,Ka];rfl
    have g3:=bl (bN (r1.act++[(i:Int)]));have q4:Fits (r1.act.length+1) 8:=aC (by omega) (by omega);rcases hX:allP c d now { r1 with act:=bN (r1.act++[(i:Int)]) } s.inn with⟨r2,_|⟨k,ps⟩⟩
    ·rw[hX]at heq f0 k1 k2;simp only at heq k1 k2;have hact2:r2.act.length<=r.act.length+(j+1):=by have:=k2.act;rw[this];exact hact1
     try clear k2 hact1
     generalize hS:bN (r1.act++[(i:Int)])=S at*;unfold cv RY RYe at f0;simp only at f0;cases h3:s.kind==3 with
     | false=>
       have h4: ¬s.kind=3:=by simpa using h3
       rw[K2 h4]at heq;have F:=ai12 aK.eq_1 aB.eq_1 actsAV.eq_1 RY.eq_1 RYe.eq_1 gr5.eq_1 hx hs q1 q2 q3<|ai9 q4 h3 e0 e1 e2 e3 e4 e5 e6;repeat refine st ?_
       refine lL fc ?_;repeat refine st ?_
       refine nL 1001 rfl (row:=⟨1,r1.act.map intAV++[[I i]],3,true⟩) g1 (LL 0) rfl g2.symm (by simp only[go_sem,e1]<;>exact iR) (by simp only[go_sem,e1]<;>exact iR) (by simp only[go_sem,e1]<;>exact iR) (by simp only[go_sem,e1]<;>exact iR) ?_;rw[g3];repeat refine st ?_
       refine iL L6 f0 ?_;repeat refine st ?_
       refine⟨(j+1,r2,f),⟨⟨hlt,heq,k1,hact2,by simp only;omega⟩,?_,?_⟩,?_,?_,?_⟩
       ·simp only[go_sem,v0,v2,Kk]
       ·simp only[go_sem,e0,e1,e2,e3,e4,e5,e6,Kk]
       ·exact qe
       ·exact qe
       ·simp only;omega
     | true=>
       have h4:s.kind=3:=by simpa using h3
       rw[K5 h4]at heq;have q5:Fits (f.length+1) 8:=aC (by omega) (by omega);have q6:(f++[(i:Int)]).map intAV=f.map intAV++[[I i]]:=by rw[Ka];rfl
       have F:=ai12 aK.eq_1 aB.eq_1 actsAV.eq_1 RY.eq_1 RYe.eq_1 gr5.eq_1 hx hs q1 q2 q3<|ai10 q4 q5 h3 e0 e1 e2 e3 e4 e5 e6;repeat refine st ?_
       refine lL fc ?_;repeat refine st ?_
       refine nL 1001 rfl (row:=⟨1,r1.act.map intAV++[[I i]],3,true⟩) g1 (LL 0) rfl g2.symm (by simp only[go_sem,e1]<;>exact iR) (by simp only[go_sem,e1]<;>exact iR) (by simp only[go_sem,e1]<;>exact iR) (by simp only[go_sem,e1]<;>exact iR) ?_;rw[g3];repeat refine st ?_
       refine iL L6 f0 ?_;repeat refine st ?_
       refine⟨(j+1,r2,f++[(i:Int)]),⟨⟨hlt,heq,k1,hact2,by simp only[K8,LI];omega⟩,?_,?_⟩,?_,?_,?_⟩
       ·simp only[go_sem,v0,v2,Kk]
       ·simp only[go_sem,e0,e1,e2,e3,e4,e5,e6,Kk]
       ·exact qe
       ·simp only[q6];exact qe
       ·simp only;omega
    ·rw[hX]at heq f0;simp only at heq;rw[heq];try clear k1 k2 hact1
     generalize hS:bN (r1.act++[(i:Int)])=S at*;unfold cv RY RYe at f0;simp only at f0;show awp _ _ _ _ _ _;unfold Bs cv;simp only;have F:=ai12 aK.eq_1 aB.eq_1 actsAV.eq_1 RY.eq_1 RYe.eq_1 gr5.eq_1 hx hs q1 q2 q3<|ai10 q4 v0 v2 e0 e1 e2 e3 e4 e5 e6;repeat refine st ?_
     refine lL fc ?_;repeat refine st ?_
     refine nL 1001 rfl (row:=⟨1,r1.act.map intAV++[[I i]],3,true⟩) g1 (LL 0) rfl g2.symm (by simp only[go_sem,e1]<;>exact iR) (by simp only[go_sem,e1]<;>exact iR) (by simp only[go_sem,e1]<;>exact iR) (by simp only[go_sem,e1]<;>exact iR) ?_;rw[g3];repeat refine st ?_
     refine iL L6 f0 ?_;repeat refine st ?_
     exact rI
 ·obtain rfl:j=G.length:=by omega
  have q1:=nl G.length;rw[La (by rw[an];omega)]at heq;rw[heq];unfold ak;show awp _ _ _ _ _ _;unfold Bs;simp only;refine iO (Turned.frozen 6 6 ⟨1,f.map intAV,3,true⟩ rfl (LL 0) (by simp only[go_sem]) (by simp only[go_sem])) ?_;have F:=ai12 RY.eq_1 RYe.eq_1 gr5.eq_1 q1 v0 v2 e0 e1 e2 e3 e4<|ai e5 e6;repeat refine st ?_
  exact rI
end
section
theorem se {l:List Int} (h:l.Pairwise (· < ·)) {i:Int} (hi:l.contains i=false):(bN (l++[i])).Pairwise (· < ·)/\ ∀x,x∈bN (l++[i])↔x∈l\/x=i:=by
 have hn:(l++[i]).Nodup:=MW.2 ⟨h.imp fun h=>by omega,by simp,fun a ha b hb e=>by
  rw[Kl.1 hb]at e;have:l.contains i=true:=K6.2 (e ▸ ha);rw[hi]at this
  cases this⟩
 obtain⟨h1,h2⟩:=ly hn;exact⟨h1,fun x=>by rw[h2];simp⟩
structure Came (c:ChD) (r:RunD) (f l:List Int) (r1:RunD) (f1:List Int):Prop where
 rise:r1.act.Pairwise (· < ·)
 mem: ∀x,x∈r1.act↔x∈r.act\/x∈l
 fin: ∀x,x∈f1↔x∈f\/(x∈l/\x∉r.act/\bS c x=3)
 mm:r1.mem=r.mem
 over:r1.over=r.over
 len:f1.length<=f.length+l.length
theorem ix {c:ChD} (hA:ActsOk c) {d now:Int} (hd:aL d=true) (hn:0<=now/\now<=1099511627776): ∀ {l:List Int} {r:RunD} {f:List Int},RunOk c r->r.act.Pairwise (· < ·)->RunOk c (ak c d now r f l).1.1/\((ak c d now r f l).1.2=none->Came c r f l (ak c d now r f l).1.1 (ak c d now r f l).2)
 |[],r,f,h,hr=>⟨h,fun _=>⟨hr,fun x=>by simp[ak],fun x=>by simp[ak],rfl,rfl,by simp[ak]⟩⟩
 | i::l,r,f,h,hr=>by
   unfold ak;split
   ·rename_i hc;obtain⟨k1,k2⟩:=ix hA (l:=l) (f:=f) hd hn h hr;refine⟨k1,fun he=> ?_⟩;have hi:i∈r.act:=K6.1 hc;have k:=k2 he;refine⟨k.rise,fun x=> ?_,fun x=> ?_,k.mm,k.over,Km k.len (by simp)⟩
    ·rw[k.mem,Kr];constructor
     ·rintro(q|q)
      ·exact .inl q
      ·exact .inr (.inr q)
     ·rintro(q|rfl|q)
      ·exact .inl q
      ·exact .inl hi
      ·exact .inr q
    ·rw[k.fin,Kr];constructor
     ·rintro(q|⟨q1,q2⟩)
      ·exact .inl q
      ·exact .inr ⟨.inr q1,q2⟩
     ·rintro(q|⟨rfl|q1,q2,q3⟩)
      ·exact .inl q
      ·exact absurd hi q2
      ·exact .inr ⟨q1,q2,q3⟩
   ·rename_i hc;have hc:r.act.contains i=false:=by simpa using hc
    obtain⟨s1,s2⟩:=se hr hc;obtain⟨k1,k2⟩:=jX (r:={ r with act:=bN (r.act++[i]) }) hd hn { h with } (hA.inn i);split
    ·rename_i r1 e;rw[e]at k1 k2;have ha:r1.act=bN (r.act++[i]):=k2.act;obtain⟨k3,k4⟩:=ix hA (l:=l) (f:=if bS c i=3 then f++[i] else f) hd hn k1 (by rw[ha];exact s1);refine⟨k3,fun he=> ?_⟩;have k:=k4 he
     have hin:i∉r.act:=fun hh=>by
      have:=K6.2 hh;rw[hc]at this;cases this
     refine⟨k.rise,fun x=> ?_,fun x=> ?_,k.mm.trans k2.mem,k.over.trans k2.over,?_⟩
     ·rw[k.mem,ha,s2,Kr];constructor
      ·rintro((q|q)|q)
       ·exact .inl q
       ·exact .inr (.inl q)
       ·exact .inr (.inr q)
      ·rintro(q|q|q)
       ·exact .inl (.inl q)
       ·exact .inl (.inr q)
       ·exact .inr q
     ·rw[k.fin,ha]
      have h2:x∈(if bS c i=3 then f++[i] else f)↔x∈f\/(x=i/\bS c i=3):=by
       split
       ·rename_i h3;simp[h3]
       ·rename_i h3;simp[h3]
      rw[h2,s2,Kr];constructor
      ·rintro((q|⟨rfl,q⟩)|⟨q1,q2,q3⟩)
       ·exact .inl q
       ·exact .inr ⟨.inl rfl,hin,q⟩
       ·exact .inr ⟨.inr q1,fun hh=>q2 (.inl hh),q3⟩
      ·rintro(q|⟨rfl|q1,q2,q3⟩)
       ·exact .inl (.inl q)
       ·exact .inl (.inr ⟨rfl,q3⟩)
       ·by_cases e:x=i
        ·subst e;exact .inl (.inr ⟨rfl,q3⟩)
        ·exact .inr ⟨q1,fun hh=>hh.elim q2 e,q3⟩
     ·refine Km k.len ?_;split
      ·simp only[K8,Ks,NG];omega
      ·simp only[Ks];omega
    ·rename_i x hx;refine⟨k1,fun he=>absurd he ?_⟩;intro hh;rcases hq:allP c d now { r with act:=bN (r.act++[i]) } (inA c i) with⟨r1,e1⟩;rw[hq]at hh;simp only at hh;subst hh;exact hx r1 hq
theorem xI {c:ChD} : ∀ {l:List Int} {r:RunD} {o:List Int},RunOk c r->RunOk c (dC c r o l).1.1/\(dC c r o l).1.1.act=r.act/\(dC c r o l).1.1.mem=r.mem/\((dC c r o l).1.2=none->(dC c r o l).1.1.over=(r.over||l.any fun i=>decide (aO c i<0))/\(dC c r o l).2=o++(((l.filter fun i=> !decide (aO c i<0)).map fun i=>aO c (aO c i)).filter fun g=>decide (0<=g)&&bS c g==2))
 |[],r,o,h=>⟨h,rfl,rfl,fun _=>by simp[dC]⟩
 | i::l,r,o,h=>by
   unfold dC;split
   ·rename_i hp;obtain⟨k1,k2,k3,k4⟩:=xI (l:=l) (r:={ r with over:=true }) (o:=o) { h with };refine⟨k1,k2,k3,fun he=> ?_⟩;obtain⟨q1,q2⟩:=k4 he;rw[q1,q2];simp[hp]
   ·rename_i hp;obtain⟨k1,k2⟩:=sf h (kg c (aO c i)) (show aL 0=true by rfl);split
    ·rename_i r1 e;rw[e]at k1 k2;obtain⟨k3,k4,k5,k6⟩:=xI (l:=l) (r:=r1) (o:=if 0<=aO c (aO c i)/\bS c (aO c (aO c i))=2 then o++[aO c (aO c i)] else o) k1;refine⟨k3,k4.trans k2.act,k5.trans k2.mem,fun he=> ?_⟩;obtain⟨q1,q2⟩:=k6 he;have hov:r1.over=r.over:=k2.over;rw[q1,q2,hov];refine⟨by simp[hp],?_⟩;have e1:(i::l).filter (fun i=> !decide (aO c i<0))=i::l.filter (fun i=> !decide (aO c i<0)):=N1 (by simp[hp]);rw[e1,LR];split
     ·rename_i hg;rw[N1 (by simp[hg]),LM];rfl
     ·rename_i hg;rw[N2 (by simp;omega)]
    ·rename_i x hx;refine⟨k1,k2.act,k2.mem,fun he=>absurd he ?_⟩;intro hh;rcases hq:raiseP r (kg c (aO c i)) 0 with⟨r1,e1⟩;rw[hq]at hh;simp only at hh;subst hh;exact hx r1 hq
theorem xH {c:ChD} : ∀ {l:List Int} {r:RunD},RunOk c r->RunOk c (d9 c r l).1/\RunSame r (d9 c r l).1
 |[],r,h=>⟨h, .rfl⟩
 | g::l,r,h=>by
   unfold d9;split
   ·obtain⟨k1,k2⟩:=sf h (kg c g) (show aL 0=true by rfl);split
    ·rename_i r1 e;rw[e]at k1 k2;obtain⟨k3,k4⟩:=xH (l:=l) k1;exact⟨k3,k2.trans k4⟩
    ·exact⟨k1,k2⟩
   ·exact xH h
structure Entered (c:ChD) (r:RunD) (l:List Int) (r1:RunD):Prop where
 rise:r1.act.Pairwise (· < ·)
 mem: ∀x,x∈r1.act↔x∈r.act\/x∈l
 mm:r1.mem=r.mem
 over:r1.over=(r.over||l.any fun x=> !r.act.contains x&&bS c x==3&&decide (aO c x<0))
theorem HR {c:ChD} (hA:ActsOk c) {d now:Int} (hd:aL d=true) (hn:0<=now/\now<=1099511627776) {l:List Int} {r:RunD} (h:RunOk c r) (hr:r.act.Pairwise (· < ·)):RunOk c (enterP c d now r l).1/\((enterP c d now r l).2=none->Entered c r l (enterP c d now r l).1):=by
 obtain⟨k1,k2⟩:=ix hA (l:=l) (f:=[]) hd hn h hr;unfold enterP;split
 ·rename_i r1 f e;rw[e]at k1 k2;have kc:=k2 rfl;obtain⟨m1,m2,m3,m4⟩:=xI (l:=f) (o:=[]) k1;unfold finishP;split
  ·rename_i r2 o e2;rw[e2]at m1 m2 m3 m4;obtain⟨n1,n2⟩:=xH (l:=zL (sortL c o)) m1;refine⟨n1,fun he=> ?_⟩;obtain⟨m5,_⟩:=m4 rfl;have ea:(d9 c r2 (zL (sortL c o))).1.act=r1.act:=n2.act.trans m2;refine⟨by rw[ea];exact kc.rise,fun x=>by rw[ea];exact kc.mem x,n2.mem.trans (m3.trans kc.mm),?_⟩;rw[n2.over];have m5:r2.over=(r1.over||f.any fun i=>decide (aO c i<0)):=m5;have kov:r1.over=r.over:=kc.over;rw[m5,kov]
   congr 1
   rw[LC,Lj,Lj];constructor
   ·rintro⟨x,hx,hp⟩;rcases (kc.fin x).1 hx with q|⟨q1,q2,q3⟩
    ·simp at q
    ·refine⟨x,q1,?_⟩;rw[hp,q3];simp[q2]
   ·rintro⟨x,hx,hp⟩;simp only[K3,Lm,L5]at hp;refine⟨x,(kc.fin x).2 (.inr ⟨hx,fun hh=> ?_,hp.1.2⟩),hp.2⟩;have:=K6.2 hh;rw[hp.1.1]at this;cases this
  ·rename_i x y hh e2;rw[e2]at m1;refine⟨m1,fun he=> ?_⟩;rcases x with⟨r2,_|e3⟩
   ·exact(hh _ rfl).elim
   ·cases he
 ·rename_i x y hh e;rw[e]at k1;refine⟨k1,fun he=> ?_⟩;rcases x with⟨r2,_|e3⟩
  ·exact(hh _ rfl).elim
  ·cases he
end
section
theorem nK {c:ChD} {k:Nat} {s:StD} (hs:c.states[k]? =some s):aO c k=s.parent:=by unfold aO;rw[bI,hs]
theorem Il {c:ChD} {k:Nat} {s:StD} (hs:c.states[k]? =some s):IR c k=s.name:=by unfold IR;rw[bI,hs]
theorem vU {c:ChD} {r:RunD} {o l:List Int} {j:Nat} {i:Int} (hi:l[j]? =some i):dC c r o (l.drop j)=if aO c i<0 then dC c { r with over:=true } o (l.drop (j+1))
 else match raiseP r (kg c (aO c i)) 0 with
  |(r1,none)=>dC c r1 (if 0<=aO c (aO c i)/\bS c (aO c (aO c i))=2 then o++[aO c (aO c i)] else o) (l.drop (j+1))
  |x=>(x,[]):=by
 rw[bB hi]
 conv=>lhs;unfold dC
 rcases raiseP r (kg c (aO c i)) 0 with⟨r1,_|_⟩<;>rfl
theorem F2 {c:ChD} {r:RunD} {l:List Int} {j:Nat} {g:Int} (hi:l[j]? =some g):d9 c r (l.drop j)=if sA c r.act g=true then(match raiseP r (kg c g) 0 with
 |(r1,none)=>d9 c r1 (l.drop (j+1))
 |x=>x)
 else d9 c r (l.drop (j+1)):=by
 rw[bB hi]
 conv=>lhs;unfold d9
 rcases raiseP r (kg c g) 0 with⟨r1,_|_⟩<;>rfl
theorem kq (r:RunD) (s:List UInt8) (v:Int):(raiseP r s v).1.act=r.act:=by unfold raiseP;split<;>rfl
theorem kS {c:ChD} (_h:Right c) {l:List Int} {k:Nat} (hk:k∈sortL c l):k<c.states.length:=by
 unfold sortL at hk;split at hk
 ·rename_i hl;have:=(Ke.1 hk).2;have:=K7.1 hl _ (K6.1 this);exact aV.1 this
 ·simp at hk
theorem xk {c:ChD} {k:Nat} {s:StD} (hs:c.states[k]? =some s):kg c k=[100,111,110,101,46]++s.name:=by unfold kg;rw[Il hs]
theorem nV {c:ChD} (h:Full c) {k:Nat} {s:StD} (hs:c.states[k]? =some s):s.name.length<=32:=by
 have:=h.st k s hs;unfold bz bd at this;simp only[K3,Kh]at this;exact this.1.1.1.1.1.1.1
theorem Bg (env:Env) (a1 a2 a8:Addr) (c:ChD) (d now:Int) (E:RunEnv env a1 a2 a8 c d now) (r:RunD) (hl:r.act.length<=100000) (hb:lgB c r.act=true) (Z:List Int) (hF: ∀i∈Z,inZ c i=true) (hFl:Z.length<=1000):
 ConI prog env 114 [1000,1001,1002,1003,1004,1005] gr5 (fun g=>[.loc 1000 (g 1000) 0 0, .seq 1 (Z.map intAV)]) (RY c d now r) (RY c d now (finishP c r Z).1) (fun _=>cv a2 a8 (finishP c r Z).2):=by
 have hfew:=E.h.few;have hpar:=E.h.toRight.par;have hra:=fun(r:RunD) (s:List UInt8)=>ui env a2 a8 E.he.e8 c d now r s 0;have fT:=bL env c;have fS:=fun(o:List Int) (ho:o.length<=1000000)=>((fP env c E.h.toRight o ho).lend (ag (fun _=>rfl) _)).seen;have fD:=fun(r:RunD) (hl:r.act.length<=100000) (hb:lgB c r.act=true) (g:Nat) (hg:g<c.states.length)=>(Fa env a1 a8 E.he c E.h E.hs r.act (by omega) hb g hg).lend rfl;have hsl:=fun(o:List Int) (k:Nat) (hk:k∈sortL c o)=>kS E.h.toRight hk;have hsf:=fun(o:List Int)=>cH E.h.toRight o;unfold aP at fT fS;unfold aJ at fT fD;refine qi func114 call114 ntmps114 results114 ?_;intro vs esc hesc;obtain⟨e0,e1,e2,e3,e4,e5⟩:=es6 hesc;have F:=ai9 RY.eq_1 RYe.eq_1 gr5.eq_1 e0 e1 e2 e3 e4 e5;repeat refine st ?_
 refine aj 5 5 3 1 ?_;refine lp (D:=Nat×RunD×List Int) (fun x vs'=>[(0, .loc 1000 (vs' 1000) 0 0),(4,nilE),(5, .row 5 (vs' 5)),(15, .seq 1 (Z.map intAV)),(16,I Z.length),(17,I x.1)]) (fun x vs'=>(5,⟨1,x.2.2.map intAV,3,true⟩)::RY c d now x.2.1 vs') (fun x vs' esc'=>(x.1<=Z.length/\dC c r [] Z=dC c x.2.1 x.2.2 (Z.drop x.1)/\x.2.1.act=r.act/\x.2.2.length<=x.1)/\(vs' 1000=vs 1000/\vs' 1002=vs 1002)/\esc' 1000=false/\esc' 1001=false/\esc' 1002=false/\esc' 1003=false/\esc' 1004=false/\esc' 1005=false/\esc' 5=false) (fun x=>Z.length-x.1) (0,r,[]) ⟨⟨Kj _,rfl,rfl,Kc _⟩,by simp only[go_sem,Kk],by simp only[go_sem,e0,e1,e2,e3,e4,e5,Kk]⟩ ?_;try clear e0 e1 e2 e3 e4 e5
 rintro⟨j,r1,o⟩ ws es ⟨⟨hj,heq,hact,hol⟩,⟨v0,v2⟩,e0,e1,e2,e3,e4,e5,e6⟩;simp only at hj heq hact hol;by_cases hlt:j<Z.length
 ·obtain⟨i,hx⟩:=gE hlt;have hi:=hF i (K4 hx);obtain⟨k,s,rfl,hs,_⟩:=cF hi;have hkl:=(K0.1 hs).1;have q1:=nlt hlt;have q2:=aD hlt (by omega);have q3:=nlt hkl;have hps:=hpar k s hs;rw[vU hx,nK hs]at heq;by_cases hp0:s.parent<0
  ·rw[K5 hp0]at heq;have F:=ai12 aK.eq_1 intAV.eq_1 RY.eq_1 RYe.eq_1 gr5.eq_1 hx hs q1 q2 q3 hp0<|ai7 e0 e1 e2 e3 e4 e5 e6;repeat refine st ?_
   refine⟨(j+1,{ r1 with over:=true },o),⟨⟨hlt,heq,hact,by simp only;omega⟩,?_,?_⟩,?_,?_,?_⟩
   ·simp only[go_sem,v0,v2,Kk]
   ·simp only[go_sem,e0,e1,e2,e3,e4,e5,e6,Kk]
   ·exact qe
   ·exact qe
   ·simp only;omega
  rw[K2 hp0]at heq;obtain⟨p,hp⟩: ∃p:Nat,s.parent=p:=⟨s.parent.toNat,by omega⟩;rw[hp]at heq hp0 hps;obtain⟨t,ht⟩: ∃t,c.states[p]? =some t:=⟨c.states[p]'(by omega),KZ (by omega)⟩;have q5:(p:Int)< (c.states.length:Int):=by omega
  have htp:=hpar p t ht;have q9:5+t.name.length<=9223372036854775807:=by have:=nV E.h ht;omega
  have f0:=hra r1 (kg c p);have hra1:=kq r1 (kg c p) 0;rw[xk ht]at f0 heq hra1;rw[nK ht]at heq;rcases hX:raiseP r1 ([100,111,110,101,46]++t.name) 0 with⟨r2,_|⟨k,ps⟩⟩
  ·rw[hX]at heq f0 hra1;simp only at heq hra1;unfold cv RY RYe at f0;simp only at f0;by_cases hg0:0<=t.parent
   ·obtain⟨g,hg⟩: ∃g:Nat,t.parent=g:=⟨t.parent.toNat,by omega⟩;rw[hg]at heq htp;obtain⟨u,hu⟩: ∃t,c.states[g]? =some t:=⟨c.states[g]'(by omega),KZ (by omega)⟩;have q6:(g:Int)< (c.states.length:Int):=by omega
    rw[gy hu]at heq;cases h2:u.kind==2 with
    | true=>
      rw[K5 ⟨by omega,by simpa using h2⟩]at heq;have q7:Fits (o.length+1) 8:=aC (by omega) (by omega);have q8:(o++[(g:Int)]).map intAV=o.map intAV++[[I g]]:=by rw[Ka];rfl
      have F:=ai12 aK.eq_1 intAV.eq_1 RY.eq_1 RYe.eq_1 gr5.eq_1 hx hs ht hu hp hg<|ai12 h2 q1 q2 q3 q5 q6 q7 q9 hp0 e0 e1<|ai5 e2 e3 e4 e5 e6;repeat refine st ?_
      refine iL L6 f0 ?_;repeat refine st ?_
      refine⟨(j+1,r2,o++[(g:Int)]),⟨⟨hlt,heq,hra1.trans hact,by simp only[K8,LI];omega⟩,?_,?_⟩,?_,?_,?_⟩
      ·simp only[go_sem,v0,v2,Kk]
      ·simp only[go_sem,e0,e1,e2,e3,e4,e5,e6,Kk]
      ·exact qe
      ·simp only[q8];exact qe
      ·simp only;omega
    | false=>
      rw[K2 (fun hh=>by rw[hh.2]at h2;cases h2)]at heq;have F:=ai12 aK.eq_1 intAV.eq_1 RY.eq_1 RYe.eq_1 gr5.eq_1 hx hs ht hu hp hg<|ai12 h2 q1 q2 q3 q5 q6 q9 hp0 e0 e1 e2<|ai4 e3 e4 e5 e6;repeat refine st ?_
      refine iL L6 f0 ?_;repeat refine st ?_
      refine⟨(j+1,r2,o),⟨⟨hlt,heq,hra1.trans hact,by simp only;omega⟩,?_,?_⟩,?_,?_,?_⟩
      ·simp only[go_sem,v0,v2,Kk]
      ·simp only[go_sem,e0,e1,e2,e3,e4,e5,e6,Kk]
      ·exact qe
      ·exact qe
      ·simp only;omega
   ·rw[K2 (fun hh=>hg0 hh.1)]at heq;have F:=ai12 aK.eq_1 intAV.eq_1 RY.eq_1 RYe.eq_1 gr5.eq_1 hx hs ht hp hg0 q1<|ai12 q2 q3 q5 q9 hp0 e0 e1 e2 e3 e4 e5 e6;repeat refine st ?_
    refine iL L6 f0 ?_;repeat refine st ?_
    refine⟨(j+1,r2,o),⟨⟨hlt,heq,hra1.trans hact,by simp only;omega⟩,?_,?_⟩,?_,?_,?_⟩
    ·simp only[go_sem,v0,v2,Kk]
    ·simp only[go_sem,e0,e1,e2,e3,e4,e5,e6,Kk]
    ·exact qe
    ·exact qe
    ·simp only;omega
  ·rw[hX]at heq f0;simp only at heq;unfold cv RY RYe at f0;simp only at f0;unfold finishP;rw[heq];show awp _ _ _ _ _ _;unfold cv;simp only;have F:=ai12 aK.eq_1 intAV.eq_1 RY.eq_1 RYe.eq_1 gr5.eq_1 hx hs ht hp q1 q2<|ai12 q3 q5 q9 v0 v2 hp0 e0 e1 e2 e3 e4<|ai e5 e6;repeat refine st ?_
   refine iL L6 f0 ?_;repeat refine st ?_
   exact rI
 ·obtain rfl:j=Z.length:=by omega
  have q1:=nl Z.length;rw[Ls]at heq;rw[show dC c r1 o []=((r1,none),o) from rfl]at heq;unfold finishP;rw[heq];simp only;have f1:=fS o (by omega);have hlt2:=hsl o;have hlf:=hsf o;generalize sortL c o=L at*;have F:=ai11 RY.eq_1 RYe.eq_1 gr5.eq_1 q1 e0 e1 e2 e3 e4 e5 e6;repeat refine tz1 fT ?_
  refine lL f1 ?_;repeat refine st ?_
  refine lp (D:=Nat×RunD) (fun x vs'=>[(0, .loc 1000 (vs' 1000) 0 0),(4,nilE),(85, .seq 1 (L.map aB)),(86,I L.length),(87,I x.1)]) (fun x vs'=>RY c d now x.2 vs') (fun x vs' esc'=>(x.1<=L.length/\d9 c r1 (zL L)=d9 c x.2 ((zL L).drop x.1)/\x.2.act=r.act)/\(vs' 1000=vs 1000/\vs' 1002=vs 1002)/\esc' 1000=false/\esc' 1001=false/\esc' 1002=false/\esc' 1003=false/\esc' 1004=false/\esc' 1005=false) (fun x=>L.length-x.1) (0,r1) ⟨⟨Kj _,rfl,hact⟩,by simp only[go_sem,v0,v2,Kk],by simp only[go_sem,e0,e1,e2,e3,e4,e5,Kk]⟩ ?_;try clear e0 e1 e2 e3 e4 e5 e6 heq hact v0 v2
  rintro⟨j,r2⟩ ws es ⟨⟨hj,heq,hact⟩,⟨v0,v2⟩,e0,e1,e2,e3,e4,e5⟩;simp only at hj heq hact;by_cases hlt:j<L.length
  ·obtain⟨g,hx⟩:=gE hlt;have hgl:=hlt2 g (K4 hx);obtain⟨t,ht⟩: ∃t,c.states[g]? =some t:=⟨c.states[g]'(by omega),KZ (by omega)⟩;have q1:=nlt hlt;have q2:=aD hlt (by omega);have q3:=nlt hgl;have q9:5+t.name.length<=9223372036854775807:=by have:=nV E.h ht;omega
   have f2:=fD r2 (by rw[hact];exact hl) (by rw[hact];exact hb) g hgl;rw[F2 (pm hx)]at heq;cases hd:sA c r2.act g with
   | false=>
     rw[hd]at f2 heq;simp only[Ku,Ld]at heq;have F:=ai12 aK.eq_1 aB.eq_1 RY.eq_1 RYe.eq_1 gr5.eq_1 hx ht q1 q2 q3 e0<|ai5 e1 e2 e3 e4 e5;repeat refine st ?_
     refine lL f2 ?_;repeat refine st ?_
     refine⟨(j+1,r2),⟨⟨hlt,heq,hact⟩,?_,?_⟩,?_,?_,?_⟩
     ·simp only[go_sem,v0,v2,Kk]
     ·simp only[go_sem,e0,e1,e2,e3,e4,e5,Kk]
     ·exact qe
     ·exact qe
     ·simp only;omega
   | true=>
     rw[hd]at f2 heq;simp only[L1]at heq;have f0:=hra r2 (kg c g);have hra1:=kq r2 (kg c g) 0;rw[xk ht]at f0 heq hra1;rcases hX:raiseP r2 ([100,111,110,101,46]++t.name) 0 with⟨r3,_|⟨k,ps⟩⟩
     ·rw[hX]at heq f0 hra1;simp only at heq hra1;unfold cv RY RYe at f0;simp only at f0;have F:=ai12 aK.eq_1 aB.eq_1 RY.eq_1 RYe.eq_1 gr5.eq_1 hx ht q1 q2 q3 q9<|ai6 e0 e1 e2 e3 e4 e5;repeat refine st ?_
      refine lL f2 ?_;repeat refine st ?_
      refine iL L6 f0 ?_;repeat refine st ?_
      refine⟨(j+1,r3),⟨⟨hlt,heq,hra1.trans hact⟩,?_,?_⟩,?_,?_,?_⟩
      ·simp only[go_sem,v0,v2,Kk]
      ·simp only[go_sem,e0,e1,e2,e3,e4,e5,Kk]
      ·exact qe
      ·exact qe
      ·simp only;omega
     ·rw[hX]at heq f0;simp only at heq;unfold cv RY RYe at f0;simp only at f0;rw[heq];show awp _ _ _ _ _ _;unfold cv;simp only;have F:=ai12 aK.eq_1 aB.eq_1 RY.eq_1 RYe.eq_1 gr5.eq_1 hx ht q1 q2 q3 q9<|ai8 v0 v2 e0 e1 e2 e3 e4 e5;repeat refine st ?_
      refine lL f2 ?_;repeat refine st ?_
      refine iL L6 f0 ?_;repeat refine st ?_
      exact rI
  ·obtain rfl:j=L.length:=by omega
   have q1:=nl L.length;rw[La (by rw[an];omega)]at heq;rw[show d9 c r2 []=(r2,none) from rfl]at heq;rw[heq];show awp _ _ _ _ _ _;unfold cv;simp only;have F:=ai12 RY.eq_1 RYe.eq_1 gr5.eq_1 q1 v0 v2 e0 e1 e2 e3 e4 e5;repeat refine st ?_
   exact rI
theorem tO {c:ChD} (hA:ActsOk c) {d now:Int} (hd:aL d=true) (hn:0<=now/\now<=1099511627776): ∀ {l:List Int} {r:RunD} {f:List Int},RunOk c r->(ak c d now r f l).1.1.act.length<=r.act.length+l.length
 |[],r,f,h=>Kc _
 | i::l,r,f,h=>by
   unfold ak;split
   ·have:=tO hA (l:=l) (f:=f) hd hn h;simp only[Ks];omega
   ·obtain⟨k1,k2⟩:=jX (r:={ r with act:=bN (r.act++[i]) }) hd hn { h with } (hA.inn i);have ha:=k2.act;split
    ·rename_i r1 e;rw[e]at k1 ha;have:=tO hA (l:=l) (f:=if bS c i=3 then f++[i] else f) hd hn k1;have ha:r1.act=bN (r.act++[i]):=ha;rw[ha,ko,K8]at this;simp only[Ks,NG]at this |-;omega
    ·rename_i x hx;simp only;rw[ha];simp only[ko,K8,Ks,NG];omega
theorem vi (env:Env) (a1 a2 a8:Addr) (c:ChD) (d now:Int) (E:RunEnv env a1 a2 a8 c d now) (r:RunD) (hr:RunOk c r) (hrise:r.act.Pairwise (· < ·)) (hl:r.act.length<=1000) (G:List Nat) (hG: ∀i∈G,i<c.states.length) (hGl:G.length<=1000) (hleg:(ak c d now r [] (zL G)).1.2=none->lgB c (ak c d now r [] (zL G)).1.1.act=true):
 ConI prog env 56 [1000,1001,1002,1003,1004,1005] gr5 (fun g=>[.loc 1000 (g 1000) 0 0, .seq 1 (G.map aB)]) (RY c d now r) (RY c d now (enterP c d now r (zL G)).1) (fun _=>cv a2 a8 (enterP c d now r (zL G)).2):=by
 have hA:=cS E.h;have f0:=H4 env a1 a2 a8 c d now E r hr hl G hG hGl;have k0:=tO hA (l:=zL G) (f:=[]) E.hd E.hn hr;obtain⟨_,k2⟩:=ix hA (l:=zL G) (f:=[]) E.hd E.hn hr hrise;have hfin:=fun(r:RunD) hl hb (F:List Int) hF hFl=>Bg env a1 a2 a8 c d now E r hl hb F hF hFl;rw[an]at k0;unfold enterP;rcases hX:ak c d now r [] (zL G) with⟨⟨r1,_|⟨k,ps⟩⟩,f⟩
 ·rw[hX]at f0 hleg k0 k2;simp only at hleg k0 k2;have kc:=k2 trivial;have hkl:=kc.len;rw[an]at hkl
  have f1:=hfin r1 (by omega) (hleg trivial) f (fun i hi=>by
   rcases (kc.fin i).1 hi with q|⟨q,_⟩
   ·simp at q
   ·obtain⟨k,hk,rfl⟩:=Kb.1 q
    exact aV.2 (hG k hk)) (by simp only[NG]at hkl;omega)
  simp only;generalize finishP c r1 f=Y at*;unfold Bs RY RYe at f0;unfold RY RYe at f1;simp only at f0;refine qi func56 call56 ntmps56 results56 ?_;intro vs esc hesc;obtain⟨e0,e1,e2,e3,e4,e5⟩:=es6 hesc;have F:=ai10 RY.eq_1 RYe.eq_1 gr5.eq_1 eW e0 e1 e2 e3 e4 e5;repeat refine st ?_
  refine iL L6 f0 ?_;repeat refine st ?_
  refine iL L6 f1 ?_;repeat refine st ?_
  exact rI
 ·rw[hX]at f0;simp only;unfold Bs cv RY RYe at f0;simp only at f0;show ConI _ _ _ _ _ _ _ _ fun _=>errV _ _;refine qi func56 call56 ntmps56 results56 ?_;intro vs esc hesc;obtain⟨e0,e1,e2,e3,e4,e5⟩:=es6 hesc;have F:=ai9 RY.eq_1 RYe.eq_1 gr5.eq_1 e0 e1 e2 e3 e4 e5;repeat refine st ?_
  refine iL L6 f0 ?_;repeat refine st ?_
  exact rI
end
section
def rounds (P:Program) (env:Env) (nt:Nat) (c:Code) (Q:Exit->St->Prop):Nat->St->Prop
 |0,_=>False
 |n+1,s=>awp P env nt c (bT (rounds P env nt c Q n) Q) s
section
variable {P:Program} {env:Env} {nt:Nat} {c:Code} {Q:Exit->St->Prop} {s:St}
structure Rnd (P:Program) (env:Env) (nt:Nat) (c:Code) (Q:Exit->St->Prop) (n:Nat) (s:St):Prop where
 out:rounds P env nt c Q n s
theorem Fo {Q':Exit->St->Prop} (hQ: ∀e s,Q e s->Q' e s) (h:awp P env nt c Q s):awp P env nt c Q' s:=fun ro x he hn a w m hS=>Mg (h ro x he hn a w m hS) (by
 rintro e a' w' ⟨s',m',h1,h2⟩
 exact⟨s',m',hQ _ _ h1,h2⟩)
theorem aS {n:Nat} (h:awp P env nt c (bT (Rnd P env nt c Q n) Q) s):Rnd P env nt c Q (n+1) s:=⟨Fo (fun e s h=>by
 cases e
 case normal=>exact Rnd.out h
 all_goals exact h) h⟩
theorem yq (n:Nat) (h:rounds P env nt c Q n s):awp P env nt (.loop c) Q s:=fun ro x he hn a w m hS=>by
 refine wpIn_loop_rounds n ?_
 induction n generalizing s a w m with
 |zero=>exact h.elim
 | succ n ih=>
   rw[roundsIn_succ];refine Mg (h ro x he hn a w m hS) ?_;rintro e a' w' ⟨s',m',h1,h2⟩;cases e with
   |normal=>exact ih h1 a' w' m' h2
   |_=>exact⟨s',m',h1,h2⟩
theorem aN (n:Nat) (h:Rnd P env nt c Q n s):awp P env nt (.loop c) Q s:=yq n h.out
end
end

end Go.Proofs.YtdpjgflalmnkdaaGreatDoor