/- Calls of the library's that put an element of a row of the call's own into another one. No program is named here. -/
import Derived.Test.YtdpjgflalmnkdaaGreatDoorT27
set_option maxRecDepth 100000
set_option maxHeartbeats 16000000
set_option linter.unusedSimpArgs false
namespace Go.Proofs.YtdpjgflalmnkdaaGreatDoor
open Go.Proofs.Tryz
open Go.RowKit
section
theorem EW {c:ChD} {A:List Nat} {i:Nat} (hA:(zL A).Pairwise (· < ·)) (hlt: ∀k∈A,k<c.states.length) (hi:i<c.states.length) (hn:(zL A).contains (i:Int)=false):zL (qt c (A++[i]))=bN (zL A++[(i:Int)]):=by
 obtain⟨s1,s2⟩:=se hA hn;refine oM (by unfold qt;exact wa) s1 fun x=> ?_;rw[s2];constructor
 ·intro hx;obtain⟨k,hk,rfl⟩:=Kb.1 hx;have:=lZ.1 (Ke.1 hk).2;rcases Kx.1 this with q|q
  ·exact .inl (Kb.2 ⟨k,q,rfl⟩)
  ·exact .inr (by rw[Kl.1 q])
 ·rintro(hx|rfl)
  ·obtain⟨k,hk,rfl⟩:=Kb.1 hx;exact Kb.2 ⟨k,Ke.2 ⟨Kw.2 (hlt k hk),lZ.2 (by simp[hk])⟩,rfl⟩
  ·exact Kb.2 ⟨i,Ke.2 ⟨Kw.2 hi,lZ.2 (by simp)⟩,rfl⟩
def arQ (c:ChD) (g:Int):Bool:=decide (0<=g)&&(bS c g==2)
theorem Jw (c:ChD) (A:List Int) (g:Int):(if 0<=g/\bS c g=2 then A.filter (arQ c)++[g] else A.filter (arQ c))=(A++[g]).filter (arQ c):=by
 rw[LE];split
 ·rename_i h;have:arQ c g=true:=by unfold arQ;simp[h]
  rw[N1 this];rfl
 ·rename_i h;have: ¬arQ c g=true:=by unfold arQ;simpa using h
  rw[N2 this];simp
theorem JM (c:ChD) (A:List Int):sortL c (A.filter (arQ c))=(walkL c (-1)).filter fun k:Nat=>A.contains (k:Int)&&bS c k==2:=by
 have hz:(A.filter (arQ c)).all (inZ c)=true:=by
  rw[K7];intro x hx;have h2:=(Ke.1 hx).2;unfold arQ bS at h2;rw[K3]at h2;cases ha:at_ c x with
  |none=>rw[ha]at h2;simp at h2
  | some s=>
    unfold at_ at ha;split at ha
    ·rename_i h0;have:=(K0.1 ha).1;exact aH.2 ⟨h0,by omega⟩
    ·cases ha
 unfold sortL;rw[K5 hz];apply MG;intro k _;rw[LC,K3,K6,K6,Ke];unfold arQ;simp
theorem rh (c:ChD): ∀(l:List Int) (r:RunD) (o:List Int),wC (dC c r o l).1.2
 |[],r,o=>fun x h=>by cases h
 | i::l,r,o=>by
   unfold dC;split
   ·exact rh c l _ _
   ·split
    ·exact rh c l _ _
    ·exact si _ _ _
theorem rf (c:ChD): ∀(l:List Int) (r:RunD),wC (d9 c r l).2
 |[],r=>fun x h=>by cases h
 | i::l,r=>by
   unfold d9;split
   ·split
    ·exact rf c l _
    ·exact si _ _ _
   ·exact rf c l _
theorem sD (c:ChD) (d now:Int): ∀(l:List Int) (r:RunD) (f:List Int),wC (ak c d now r f l).1.2
 |[],r,f=>fun x h=>by cases h
 | i::l,r,f=>by
   unfold ak;split
   ·exact sD c d now l _ _
   ·split
    ·exact sD c d now l _ _
    ·exact uQ _ _ _ _ _
theorem uZ {e:ErD} (h:wC e) {k:Nat} {ps:List Int} (he:e=some (k,ps)):((k:Int)==0)=false:=by
 have:=h (k,ps) he;simp only at this;simp;omega
theorem HS (c:ChD) (d now:Int) (r:RunD) (l:List Int):wC (enterP c d now r l).2:=by
 have h1:=sD c d now l r [];unfold enterP;split
 ·rename_i r1 f e;unfold finishP;have h2:=rh c f r1 [];split
  ·exact rf _ _ _
  ·rename_i x y hh e2;rw[e2]at h2;exact h2
 ·rename_i x y hh e;rw[e]at h1;exact h1
theorem JQ {c:ChD} {act:List Int} (hb:lgB c act=true) {i:Int} (hi:i∈act):aO c i<0\/(aO c i∈act/\(0<=aO c (aO c i)->aO c (aO c i)∈act)):=by
 have hL:=cx hb;obtain⟨_,_,_,_,hp,_⟩:=hL.of hi;rcases hp with q|q
 ·exact .inl q
 ·obtain⟨_,_,_,_,hp2,_⟩:=hL.of q;exact .inr ⟨q,fun h0=>hp2.resolve_left (by omega)⟩
theorem F3 {c:ChD} {r:RunD} {l:List Int} {g:Int} :d9 c r (g::l)=if sA c r.act g=true then(match raiseP r (kg c g) 0 with
 |(r1,none)=>d9 c r1 l
 |x=>x)
 else d9 c r l:=by
 conv=>lhs;unfold d9
 rcases raiseP r (kg c g) 0 with⟨r1,_|_⟩<;>rfl
theorem vh {c:ChD} {d now:Int} {r:RunD} {l:List Int} {e:Nat×List Int} (h:(ak c d now r [] l).1.2=some e):enterP c d now r l=(ak c d now r [] l).1:=by
 unfold enterP;rcases hX:ak c d now r [] l with⟨⟨r1,_|x⟩,f⟩
 ·rw[hX]at h;cases h
 ·rfl
theorem JC {c:ChD} {r:RunD} {l:List Int} {e:Nat×List Int} (h:(dC c r [] l).1.2=some e):finishP c r l=(dC c r [] l).1:=by
 unfold finishP;rcases hX:dC c r [] l with⟨⟨r1,_|x⟩,f⟩
 ·rw[hX]at h;cases h
 ·rfl
theorem qz (env:Env) (c:ChD) (h:Full c):Con prog env 91 [.agg (aA c)] (.own 3 1 ((walkL c (-1)).map aB)):=by
 have f0:=oa env c h.toRight (c.states.length+1) (-1) (by omega) (by omega);unfold aA at f0;refine qf func91 call91 ntmps91 results91 ?_;have F:=aA.eq_1;repeat refine tz1 f0 ?_
 exact aR
theorem BD (env:Env) (c:ChD) (h:Full c) (hcv:c.vars.length<=1000) (d now:Int) (hd:aL d=true) (hn:0<=now/\now<=1099511627776) (r:RunD) (hr:RunOk c r) (hrise:r.act.Pairwise (· < ·)) (hin: ∀x∈r.act,inZ c x=true) (hl:r.act.length<=1000) (G:List Nat) (hG: ∀i∈G,i<c.states.length) (hGl:G.length<=1000) (hleg:(ak c d now r [] (zL G)).1.2=none->lgB c (ak c d now r [] (zL G)).1.1.act=true):
 Con prog env 41 [.agg (aA c), .agg (rrA r d now none), .seq 1 (G.map aB)] (.agg (rrA (enterP c d now r (zL G)).1 d now (enterP c d now r (zL G)).2)):=by
 have hfew:=h.few;have hpar:=h.toRight.par;have hAc:=cS h;have hall:=fun(r:RunD) hr hl (l:List ActD) hll ha=>zO env c (by omega) hcv d now hd hn r hr hl l hll ha;have hok:=fun(r:RunD) (hr:RunOk c r) (l:List ActD) ha=>jX hd hn (l:=l) hr ha;have hri:=fun(l:List Nat) hl=>((Am env c (by omega) l hl).lend (ag (fun _=>rfl) _)).seen;have fIn:=fun(l:List Int) (hl:l.length<=1000000) (i:Nat)=>cL env l i hl;have fW:=((qz env c h).lend (ag (fun _=>rfl) _)).seen;have hD:=fun(act:List Int) hl (i:Nat) hi=>ul env c h act hl 40 i hi (by omega);have hra:=fun(r:RunD) (s:List UInt8)=>qy env r d now s 0;have hcE:=sD c d now (zL G) r [];obtain⟨_,hck⟩:=ix hAc (l:=zL G) (f:=[]) hd hn hr hrise;have hWl:(walkL c (-1)).length<=1000000:=by have:=sW h.toRight;omega
 have hWk: ∀k∈walkL c (-1),k<c.states.length:=fun k hk=>(iD h.toRight k).1 hk;have hchf:aA c=[Sg c.name,I c.initial,varsAV c.vars,stsAV c.states,trsAV c.trans]:=rfl;rw[hchf]at hri fW hD;refine qf func41 call41 ntmps41 results41 ?_;have F:=ai3 rrA.eq_1 rrA.eq_2 aA.eq_1;repeat refine st ?_
 refine aI (D:=Nat×RunD×List Int×ErD) (fun x vs=>[(2, .seq 1 (G.map aB)),(3, .loc 3 (vs 3) 0 0),(4, .loc 4 (vs 4) 0 0),(6, .loc 6 (vs 6) 0 0),(7, .row 15 (vs 15)),(8,I x.1)]) (fun x vs=>[(3,⟨5,[aA c],26,false⟩),(4,⟨11,[rrA x.2.1 d now x.2.2.2],50,false⟩),(6,⟨11,[[nilS,nilS,nilS,nilS,B false,nilS,nilS,I 0,I 0,I 0,I 0]],50,false⟩),(15,⟨1,x.2.2.1.map intAV,3,true⟩)]) (fun x _ esc=>(x.1<=G.length/\x.2.2.1.length<=x.1/\(match x.2.2.2 with
  |none=>ak c d now r [] (zL G)=ak c d now x.2.1 x.2.2.1 ((zL G).drop x.1)/\RunOk c x.2.1/\x.2.1.act.Pairwise (· < ·)/\(∀y∈x.2.1.act,inZ c y=true)/\x.2.1.act.length<=r.act.length+x.1
  |some e=>(ak c d now r [] (zL G)).1=(x.2.1,some e)))/\esc 4=false/\esc 6=false/\esc 15=false) (fun x=>(G.length-x.1)+(if x.2.2.2.isSome=true then 0 else 1)) (0,r,[],none) ?_ ?_ ?_ ?_
 ·exact⟨⟨Kj _,Kj _,rfl,hr,hrise,hin,Kc _⟩,by simp only[go_sem,Kk]⟩
 ·exact qe
 ·(simp only[go_sem,F])
  try rfl
 rintro⟨j,r1,f,e⟩ ws es ⟨⟨hj,hfl,heq⟩,e0,e1,e2⟩;simp only at hj hfl heq;rcases e with _|⟨k,ps⟩
 ·obtain⟨heq,hr1,hrise1,hin1,hact⟩:=heq;by_cases hlt:j<G.length
  ·obtain⟨i,hx⟩:=gE hlt;have hil:=hG i (K4 hx);obtain⟨s,hs⟩:=gE hil;obtain⟨_,s1,s2⟩:=sU h hs;have ho:inA c i=s.inn:=by unfold inA;rw[bI,hs]
   have q1:=nlt hlt;have q2:=aD hlt (by omega);have q3:=nlt hil;have fi:=fIn r1.act (by omega) i;rw[vl (pm hx),ho,gy hs]at heq;cases hc:r1.act.contains (i:Int) with
   | true=>
     rw[hc]at heq fi;simp only[L1]at heq;have F:=ai12 rrA.eq_1 rrA.eq_2 aA.eq_1 aK.eq_1 aB.eq_1 hx hs q1 q2 q3 e0<|ai e1 e2;repeat refine tz1 fi ?_
     refine⟨(j+1,r1,f,none),⟨⟨hlt,by simp only;omega,heq,hr1,hrise1,hin1,by simp only;omega⟩,?_⟩,?_,?_,?_⟩
     ·simp only[go_sem,e0,e1,e2,Kk]
     ·exact qe
     ·exact qe
     ·simp;omega
   | false=>
     rw[hc]at heq fi;simp only[Ku,Ld]at heq;obtain⟨A,hA⟩: ∃A:List Nat,r1.act=zL A:=⟨_,IP fun x hx=>(aH.1 (hin1 x hx)).1⟩;have hAlt: ∀k∈A,k<c.states.length:=fun k hk=>aV.1 (hin1 k (by rw[hA];exact Kb.2 ⟨k,hk,rfl⟩));have hrs:=EW (c:=c) (by rw[<-hA];exact hrise1) hAlt hil (by rw[<-hA];exact hc);rw[<-hA]at hrs;have hAl:A.length=r1.act.length:=by rw[hA,an]
     have hact1:(bN (r1.act++[(i:Int)])).length<=r.act.length+(j+1):=by rw[ko,K8,LI];omega
     obtain⟨s3,s4⟩:=se hrise1 hc;have fr:=hri (A++[i]) (by rw[K8,LI];omega);have fr1:(A++[i]).map aB=r1.act.map intAV++[[I i]]:=by rw[hA,bc,Ka];rfl
     rw[fr1, <-bc,hrs]at fr;have f0:=hall { r1 with act:=bN (r1.act++[(i:Int)]) } { hr1 with } (by simp only;omega) s.inn (by omega) s2;obtain⟨k1,k2⟩:=hok { r1 with act:=bN (r1.act++[(i:Int)]) } { hr1 with } s.inn s2;have q4:Fits (r1.act.length+1) 8:=aC (by omega) (by omega);have q5:Fits r1.act.length 8:=aC (by omega) (by omega);have q6:Fits (f.length+1) 8:=aC (by omega) (by omega);have q7:(f++[(i:Int)]).map intAV=f.map intAV++[[I i]]:=by rw[Ka];rfl
     rcases hX:allP c d now { r1 with act:=bN (r1.act++[(i:Int)]) } s.inn with⟨r2,_|⟨k,ps⟩⟩
     ·rw[hX]at heq f0 k1 k2;simp only at heq k1;have hae:r2.act=bN (r1.act++[(i:Int)]):=k2.act;have hact2:r2.act.length<=r.act.length+(j+1):=by rw[hae];exact hact1
      have hrise2:r2.act.Pairwise (· < ·):=by rw[hae];exact s3
      have hin2: ∀y∈r2.act,inZ c y=true:=fun y hy=>by
       rw[hae,s4]at hy;rcases hy with q|rfl
       ·exact hin1 y q
       ·exact aV.2 hil
      try clear k2 hae hact1 s3 s4 hrs
      generalize hS:bN (r1.act++[(i:Int)])=S at*;unfold rrA at f0;simp only at f0;rw[hchf]at f0;cases h3:s.kind==3 with
      | false=>
        have h4: ¬s.kind=3:=by simpa using h3
        rw[K2 h4]at heq;have F:=ai12 rrA.eq_1 rrA.eq_2 aA.eq_1 aK.eq_1 aB.eq_1 actsAV.eq_1 hx hs h3 q1 q2<|ai6 q3 q4 q5 e0 e1 e2;repeat refine tz1 fi ?_
        refine lL fr ?_;repeat refine tz1 f0 ?_
        refine⟨(j+1,r2,f,none),⟨⟨hlt,by simp only;omega,heq,k1,hrise2,hin2,hact2⟩,?_⟩,?_,?_,?_⟩
        ·simp only[go_sem,e0,e1,e2,Kk]
        ·exact qe
        ·exact qe
        ·simp;omega
      | true=>
        have h4:s.kind=3:=by simpa using h3
        rw[K5 h4]at heq;have F:=ai12 rrA.eq_1 rrA.eq_2 aA.eq_1 aK.eq_1 aB.eq_1 actsAV.eq_1 hx hs h3 q1 q2<|ai7 q3 q4 q5 q6 e0 e1 e2;repeat refine tz1 fi ?_
        refine lL fr ?_;repeat refine tz1 f0 ?_
        refine⟨(j+1,r2,f++[(i:Int)],none),⟨⟨hlt,by simp only[K8,LI];omega,heq,k1,hrise2,hin2,hact2⟩,?_⟩,?_,?_,?_⟩
        ·simp only[go_sem,e0,e1,e2,Kk]
        ·exact qe
        ·simp only[q7];exact qe
        ·simp;omega
     ·rw[hX]at heq f0;simp only at heq;try clear k1 k2 hact1 s3 s4 hrs
      generalize hS:bN (r1.act++[(i:Int)])=S at*;unfold rrA at f0;simp only at f0;rw[hchf]at f0;cases h3:s.kind==3 with
      | false=>
        have F:=ai12 rrA.eq_1 rrA.eq_2 aA.eq_1 aK.eq_1 aB.eq_1 actsAV.eq_1 hx hs h3 q1 q2<|ai6 q3 q4 q5 e0 e1 e2;repeat refine tz1 fi ?_
        refine lL fr ?_;repeat refine tz1 f0 ?_
        refine⟨(j+1,r2,f,some (k,ps)),⟨⟨hlt,by simp only;omega,by rw[heq]⟩,?_⟩,?_,?_,?_⟩
        ·simp only[go_sem,e0,e1,e2,Kk]
        ·exact qe
        ·exact qe
        ·simp;omega
      | true=>
        have F:=ai12 rrA.eq_1 rrA.eq_2 aA.eq_1 aK.eq_1 aB.eq_1 actsAV.eq_1 hx hs h3 q1 q2<|ai7 q3 q4 q5 q6 e0 e1 e2;repeat refine tz1 fi ?_
        refine lL fr ?_;repeat refine tz1 f0 ?_
        refine⟨(j+1,r2,f++[(i:Int)],some (k,ps)),⟨⟨hlt,by simp only[K8,LI];omega,by rw[heq]⟩,?_⟩,?_,?_,?_⟩
        ·simp only[go_sem,e0,e1,e2,Kk]
        ·exact qe
        ·simp only[q7];exact qe
        ·simp;omega
  ·obtain rfl:j=G.length:=by omega
   have q1:=nl G.length;rw[La (by rw[an];omega)]at heq;rw[show ak c d now r1 f []=((r1,none),f) from rfl]at heq;rw[heq]at hck hleg;have hb:=hleg rfl;have kc:=hck rfl;simp only at hb kc
   have hfin: ∀x∈f,x∈r1.act:=fun x hx=>by
    rcases (kc.fin x).1 hx with q|⟨q,_⟩
    ·simp at q
    ·exact(kc.mem x).2 (.inr q)
   have hfe:=rh c f r1 [];unfold enterP;rw[heq];simp only;have hl1:r1.act.length<=1000000:=by omega
   try clear hck hleg heq hcE kc hall hri hr hrise hin hl
   have F:=ai7 rrA.eq_1 rrA.eq_2 aA.eq_1 q1 e0 e1 e2;repeat refine st ?_
   refine aI (D:=Nat×RunD×List Int×ErD) (fun x vs=>[(3, .loc 3 (vs 3) 0 0),(4, .loc 4 (vs 4) 0 0),(6, .loc 6 (vs 6) 0 0),(7, .row 15 (vs 15)),(9, .row 79 (vs 79)),(10,I x.1)]) (fun x vs=>[(3,⟨5,[aA c],26,false⟩),(4,⟨11,[rrA x.2.1 d now x.2.2.2],50,false⟩),(6,⟨11,[[nilS,nilS,nilS,nilS,B false,nilS,nilS,I 0,I 0,I 0,I 0]],50,false⟩),(15,⟨1,f.map intAV,3,true⟩),(79,⟨1,x.2.2.1.map intAV,3,true⟩)]) (fun x _ esc=>(x.1<=f.length/\x.2.2.1.length<=x.1/\(match x.2.2.2 with
    |none=>dC c r1 [] f=dC c x.2.1 (x.2.2.1.filter (arQ c)) (f.drop x.1)/\x.2.1.act=r1.act/\ ∀g∈x.2.2.1,0<=g->g∈r1.act
    |some e=>(dC c r1 [] f).1=(x.2.1,some e)))/\esc 4=false/\esc 6=false/\esc 15=false/\esc 79=false) (fun x=>(f.length-x.1)+(if x.2.2.2.isSome=true then 0 else 1)) (0,r1,[],none) ?_ ?_ ?_ ?_
   ·exact⟨⟨Kj _,Kj _,rfl,rfl,fun g hg=>by simp at hg⟩,by simp only[go_sem,e0,e1,e2,Kk]⟩
   ·exact qe
   ·(simp only[go_sem,F])
    try rfl
   try clear e0 e1 e2
   rintro⟨j,r2,A,e⟩ ws es ⟨⟨hj,hal,heq⟩,e0,e1,e2,e3⟩;simp only at hj hal heq;rcases e with _|⟨k,ps⟩
   ·obtain⟨heq,hact2,hAin⟩:=heq;by_cases hlt:j<f.length
    ·obtain⟨i,hx⟩:=gE hlt;have hia:=hfin i (K4 hx);obtain⟨_,_,hiz,_⟩:=(cx hb).of hia;have hkin:=JQ hb hia;obtain⟨k,s,rfl,hs,_⟩:=cF hiz;have hkl:=(K0.1 hs).1;have q1:=nlt hlt;have q2:=aD hlt (by omega);have q3:=nlt hkl;have hps:=hpar k s hs;rw[nK hs]at hkin;rw[vU hx,nK hs]at heq;by_cases hp0:s.parent<0
     ·rw[K5 hp0]at heq;have F:=ai12 rrA.eq_1 rrA.eq_2 aA.eq_1 aK.eq_1 intAV.eq_1 hx hs hp0 q1 q2 q3<|ai4 e0 e1 e2 e3;repeat refine st ?_
      refine⟨(j+1,{ r2 with over:=true },A,none),⟨⟨hlt,by simp only;omega,heq,hact2,hAin⟩,?_⟩,?_,?_,?_⟩
      ·simp only[go_sem,e0,e1,e2,e3,Kk]
      ·exact qe
      ·exact qe
      ·simp;omega
     rw[K2 hp0]at heq;have hkin:=(hkin.resolve_left hp0).2;obtain⟨p,hp⟩: ∃p:Nat,s.parent=p:=⟨s.parent.toNat,by omega⟩;rw[hp]at heq hp0 hps hkin;obtain⟨t,ht⟩: ∃t,c.states[p]? =some t:=⟨c.states[p]'(by omega),KZ (by omega)⟩;have q5:(p:Int)< (c.states.length:Int):=by omega
     have q9:5+t.name.length<=9223372036854775807:=by have:=nV h ht;omega
     have q6:Fits (A.length+1) 8:=aC (by omega) (by omega);have q7:(A++[t.parent]).map intAV=A.map intAV++[[I t.parent]]:=by rw[Ka];rfl
     have f0:=hra r2 (kg c p);have hra1:=kq r2 (kg c p) 0;rw[xk ht]at f0 heq hra1;rw[nK ht,Jw]at heq;rw[nK ht]at hkin;rcases hX:raiseP r2 ([100,111,110,101,46]++t.name) 0 with⟨r3,_|⟨k,ps⟩⟩
     ·rw[hX]at heq f0 hra1;simp only at heq hra1;unfold rrA at f0;simp only at f0;have F:=ai12 rrA.eq_1 rrA.eq_2 aA.eq_1 aK.eq_1 intAV.eq_1 hx hs hp ht hp0 q1<|ai9 q2 q3 q5 q6 q9 e0 e1 e2 e3;repeat refine tz1 f0 ?_
      refine⟨(j+1,r3,A++[t.parent],none),⟨⟨hlt,by simp only[K8,LI];omega,heq,hra1.trans hact2,fun g hg h0=> ?_⟩,?_⟩,?_,?_,?_⟩
      ·rcases Kx.1 hg with q|q
       ·exact hAin g q h0
       ·rw[Kl.1 q]at h0 |-;exact hkin h0
      ·simp only[go_sem,e0,e1,e2,e3,Kk]
      ·exact qe
      ·simp only[q7];exact qe
      ·simp;omega
     ·rw[hX]at heq f0;simp only at heq;unfold rrA at f0;simp only at f0;have F:=ai12 rrA.eq_1 rrA.eq_2 aA.eq_1 aK.eq_1 intAV.eq_1 hx hs hp ht hp0 q1<|ai9 q2 q3 q5 q6 q9 e0 e1 e2 e3;repeat refine tz1 f0 ?_
      refine⟨(j+1,r3,A++[t.parent],some (k,ps)),⟨⟨hlt,by simp only[K8,LI];omega,by rw[heq]⟩,?_⟩,?_,?_,?_⟩
      ·simp only[go_sem,e0,e1,e2,e3,Kk]
      ·exact qe
      ·simp only[q7];exact qe
      ·simp;omega
    ·obtain rfl:j=f.length:=by omega
     have q1:=nl f.length;rw[Ls]at heq;rw[show dC c r2 (A.filter (arQ c)) []=((r2,none),A.filter (arQ c)) from rfl]at heq;unfold finishP;rw[heq];simp only;rw[JM];have hb2:lgB c r2.act=true:=by rw[hact2];exact hb
     try clear hfe heq hfin
     have F:=ai8 rrA.eq_1 rrA.eq_2 aA.eq_1 q1 e0 e1 e2 e3;repeat refine st ?_
     refine lL fW ?_;repeat refine st ?_
     generalize walkL c (-1)=W at*
     refine aI (D:=Nat×RunD×ErD) (fun x vs=>[(3, .loc 3 (vs 3) 0 0),(4, .loc 4 (vs 4) 0 0),(6, .loc 6 (vs 6) 0 0),(9, .row 79 (vs 79)),(12, .seq 1 (W.map aB)),(13,I x.1)]) (fun x vs=>[(3,⟨5,[aA c],26,false⟩),(4,⟨11,[rrA x.2.1 d now x.2.2],50,false⟩),(6,⟨11,[[nilS,nilS,nilS,nilS,B false,nilS,nilS,I 0,I 0,I 0,I 0]],50,false⟩),(79,⟨1,A.map intAV,3,true⟩)]) (fun x _ esc=>(x.1<=W.length/\(match x.2.2 with
      |none=>d9 c r2 (zL (W.filter fun k:Nat=>A.contains (k:Int)&&bS c k==2))=d9 c x.2.1 (zL ((W.drop x.1).filter fun k:Nat=>A.contains (k:Int)&&bS c k==2))/\x.2.1.act=r2.act
      |some e=>d9 c r2 (zL (W.filter fun k:Nat=>A.contains (k:Int)&&bS c k==2))=(x.2.1,some e)))/\esc 4=false/\esc 6=false/\esc 79=false) (fun x=>(W.length-x.1)+(if x.2.2.isSome=true then 0 else 1)) (0,r2,none) ?_ ?_ ?_ ?_
     ·exact⟨⟨Kj _,rfl,rfl⟩,by simp only[go_sem,e0,e1,e3,Kk]⟩
     ·exact qe
     ·(simp only[go_sem,F])
      try rfl
     try clear e0 e1 e2 e3
     rintro⟨j,r3,e⟩ ws es ⟨⟨hj,heq⟩,e0,e1,e3⟩;simp only at hj heq;rcases e with _|⟨k,ps⟩
     ·obtain⟨heq,hact3⟩:=heq;have hb3:lgB c r3.act=true:=by rw[hact3];exact hb2
      have hal3:r3.act.length<=1000000:=by rw[hact3,hact2];exact hl1
      by_cases hlt:j<W.length
      ·obtain⟨g,hx⟩:=gE hlt;have hgl:=hWk g (K4 hx);obtain⟨t,ht⟩: ∃t,c.states[g]? =some t:=⟨c.states[g]'(by omega),KZ (by omega)⟩;have q1:=nlt hlt;have q2:=aD hlt (by omega);have q3:=nlt hgl;have q9:5+t.name.length<=9223372036854775807:=by have:=nV h ht;omega
       have fi:=(fIn A (by omega) g).lend rfl;rw[bB hx]at heq;cases hc:A.contains (g:Int) with
       | false=>
         rw[hc]at fi;rw[N2 (by rw[hc];simp)]at heq;have F:=ai12 rrA.eq_1 rrA.eq_2 aA.eq_1 aK.eq_1 aB.eq_1 hx ht q1 q2 q3 e0<|ai e1 e3;repeat refine st ?_
         refine lL fi ?_;repeat refine st ?_
         refine⟨(j+1,r3,none),⟨⟨hlt,heq,hact3⟩,?_⟩,?_,?_,?_⟩
         ·simp only[go_sem,e0,e1,e3,Kk]
         ·exact qe
         ·exact qe
         ·simp;omega
       | true=>
         rw[hc]at fi;cases h2:t.kind==2 with
         | false=>
           rw[N2 (by rw[gy ht,h2];simp)]at heq;have F:=ai12 rrA.eq_1 rrA.eq_2 aA.eq_1 aK.eq_1 aB.eq_1 hx ht h2 q1 q2 q3<|ai3 e0 e1 e3;repeat refine st ?_
           refine lL fi ?_;repeat refine st ?_
           refine⟨(j+1,r3,none),⟨⟨hlt,heq,hact3⟩,?_⟩,?_,?_,?_⟩
           ·simp only[go_sem,e0,e1,e3,Kk]
           ·exact qe
           ·exact qe
           ·simp;omega
         | true=>
           rw[N1 (by rw[gy ht,h2,hc];rfl),show ∀L:List Nat,zL (g::L)=(g:Int)::zL L from fun _=>rfl,F3]at heq;have hga:(g:Int)∈r3.act:=by rw[hact3,hact2];exact hAin g (K6.1 hc) (by omega)
           have hdb:sA c r3.act g=doneD c r3.act 40 g:=by unfold sA;rw[K6.2 hga,LN,vj h hb3 40 g hga]
           rw[hdb]at heq;have fd:=hD r3.act hal3 g hgl;cases hd2:doneD c r3.act 40 g with
           | false=>
             rw[hd2]at fd heq;simp only[Ku,Ld]at heq;have F:=ai12 rrA.eq_1 rrA.eq_2 aA.eq_1 aK.eq_1 aB.eq_1 hx ht h2 q1 q2 q3<|ai3 e0 e1 e3;repeat refine st ?_
             refine lL fi ?_;repeat refine tz1 fd ?_
             refine⟨(j+1,r3,none),⟨⟨hlt,heq,hact3⟩,?_⟩,?_,?_,?_⟩
             ·simp only[go_sem,e0,e1,e3,Kk]
             ·exact qe
             ·exact qe
             ·simp;omega
           | true=>
             rw[hd2]at fd heq;simp only[L1]at heq;have f0:=hra r3 (kg c g);have hra1:=kq r3 (kg c g) 0;rw[xk ht]at f0 heq hra1;rcases hX:raiseP r3 ([100,111,110,101,46]++t.name) 0 with⟨r4,_|⟨k,ps⟩⟩
             ·rw[hX]at heq f0 hra1;simp only at heq hra1;unfold rrA at f0;simp only at f0;have F:=ai12 rrA.eq_1 rrA.eq_2 aA.eq_1 aK.eq_1 aB.eq_1 hx ht h2 q1 q2 q3<|ai4 q9 e0 e1 e3;repeat refine st ?_
              refine lL fi ?_;repeat refine tz2 fd f0 ?_
              refine⟨(j+1,r4,none),⟨⟨hlt,heq,hra1.trans hact3⟩,?_⟩,?_,?_,?_⟩
              ·simp only[go_sem,e0,e1,e3,Kk]
              ·exact qe
              ·exact qe
              ·simp;omega
             ·rw[hX]at heq f0;simp only at heq;unfold rrA at f0;simp only at f0;have F:=ai12 rrA.eq_1 rrA.eq_2 aA.eq_1 aK.eq_1 aB.eq_1 hx ht h2 q1 q2 q3<|ai4 q9 e0 e1 e3;repeat refine st ?_
              refine lL fi ?_;repeat refine tz2 fd f0 ?_
              refine⟨(j+1,r4,some (k,ps)),⟨⟨hlt,by rw[heq]⟩,?_⟩,?_,?_,?_⟩
              ·simp only[go_sem,e0,e1,e3,Kk]
              ·exact qe
              ·exact qe
              ·simp;omega
      ·obtain rfl:j=W.length:=by omega
       have q1:=nl W.length;rw[Ls]at heq;rw[show d9 c r3 (zL (([]:List Nat).filter fun k:Nat=>A.contains (k:Int)&&bS c k==2))=(r3,none) from rfl]at heq;rw[heq];show awp _ _ _ _ _ _;have F:=ai7 rrA.eq_1 rrA.eq_2 aA.eq_1 q1 e0 e1 e3;repeat refine st ?_
       exact aR
     ·have hk:=uZ (rf c _ r2) (by rw[heq]);rw[heq];show awp _ _ _ _ _ _;by_cases q1:(j:Int)< (W.length:Int)
      ·have F:=ai8 rrA.eq_1 rrA.eq_2 aA.eq_1 hk q1 e0 e1 e3;repeat refine st ?_
       exact aR
      ·have F:=ai8 rrA.eq_1 rrA.eq_2 aA.eq_1 hk q1 e0 e1 e3;repeat refine st ?_
       exact aR
   ·have hk:=uZ hfe (by rw[heq]);rw[JC (by rw[heq]),heq];show awp _ _ _ _ _ _;generalize walkL c (-1)=W at*;by_cases q1:(j:Int)< (f.length:Int)
    ·by_cases q2:(0:Int)< (W.length:Int)
     ·have F:=ai10 rrA.eq_1 rrA.eq_2 aA.eq_1 hk q1 q2 e0 e1 e2 e3;repeat (first|refine aS ?_|refine st ?_|refine aN 40 ?_)
      refine lL fW ?_;repeat (first|refine aS ?_|refine st ?_|refine aN 40 ?_)
      exact aR
     ·have F:=ai10 rrA.eq_1 rrA.eq_2 aA.eq_1 hk q1 q2 e0 e1 e2 e3;repeat (first|refine aS ?_|refine st ?_|refine aN 40 ?_)
      refine lL fW ?_;repeat (first|refine aS ?_|refine st ?_|refine aN 40 ?_)
      exact aR
    ·by_cases q2:(0:Int)< (W.length:Int)
     ·have F:=ai10 rrA.eq_1 rrA.eq_2 aA.eq_1 hk q1 q2 e0 e1 e2 e3;repeat (first|refine aS ?_|refine st ?_|refine aN 40 ?_)
      refine lL fW ?_;repeat (first|refine aS ?_|refine st ?_|refine aN 40 ?_)
      exact aR
     ·have F:=ai10 rrA.eq_1 rrA.eq_2 aA.eq_1 hk q1 q2 e0 e1 e2 e3;repeat (first|refine aS ?_|refine st ?_|refine aN 40 ?_)
      refine lL fW ?_;repeat (first|refine aS ?_|refine st ?_|refine aN 40 ?_)
      exact aR
 ·have hk:=uZ hcE (by rw[heq]);rw[vh (by rw[heq]),heq];show awp _ _ _ _ _ _;generalize walkL c (-1)=W at*;by_cases q0:(j:Int)< (G.length:Int)
  ·by_cases q1:(0:Int)< (f.length:Int)
   ·by_cases q2:(0:Int)< (W.length:Int)
    ·have F:=ai10 rrA.eq_1 rrA.eq_2 aA.eq_1 hk q0 q1 q2 e0 e1 e2;repeat (first|refine aS ?_|refine st ?_|refine aN 40 ?_)
     refine lL fW ?_;repeat (first|refine aS ?_|refine st ?_|refine aN 40 ?_)
     exact aR
    ·have F:=ai10 rrA.eq_1 rrA.eq_2 aA.eq_1 hk q0 q1 q2 e0 e1 e2;repeat (first|refine aS ?_|refine st ?_|refine aN 40 ?_)
     refine lL fW ?_;repeat (first|refine aS ?_|refine st ?_|refine aN 40 ?_)
     exact aR
   ·by_cases q2:(0:Int)< (W.length:Int)
    ·have F:=ai10 rrA.eq_1 rrA.eq_2 aA.eq_1 hk q0 q1 q2 e0 e1 e2;repeat (first|refine aS ?_|refine st ?_|refine aN 40 ?_)
     refine lL fW ?_;repeat (first|refine aS ?_|refine st ?_|refine aN 40 ?_)
     exact aR
    ·have F:=ai10 rrA.eq_1 rrA.eq_2 aA.eq_1 hk q0 q1 q2 e0 e1 e2;repeat (first|refine aS ?_|refine st ?_|refine aN 40 ?_)
     refine lL fW ?_;repeat (first|refine aS ?_|refine st ?_|refine aN 40 ?_)
     exact aR
  ·by_cases q1:(0:Int)< (f.length:Int)
   ·by_cases q2:(0:Int)< (W.length:Int)
    ·have F:=ai10 rrA.eq_1 rrA.eq_2 aA.eq_1 hk q0 q1 q2 e0 e1 e2;repeat (first|refine aS ?_|refine st ?_|refine aN 40 ?_)
     refine lL fW ?_;repeat (first|refine aS ?_|refine st ?_|refine aN 40 ?_)
     exact aR
    ·have F:=ai10 rrA.eq_1 rrA.eq_2 aA.eq_1 hk q0 q1 q2 e0 e1 e2;repeat (first|refine aS ?_|refine st ?_|refine aN 40 ?_)
     refine lL fW ?_;repeat (first|refine aS ?_|refine st ?_|refine aN 40 ?_)
     exact aR
   ·by_cases q2:(0:Int)< (W.length:Int)
    ·have F:=ai10 rrA.eq_1 rrA.eq_2 aA.eq_1 hk q0 q1 q2 e0 e1 e2;repeat (first|refine aS ?_|refine st ?_|refine aN 40 ?_)
     refine lL fW ?_;repeat (first|refine aS ?_|refine st ?_|refine aN 40 ?_)
     exact aR
    ·have F:=ai10 rrA.eq_1 rrA.eq_2 aA.eq_1 hk q0 q1 q2 e0 e1 e2;repeat (first|refine aS ?_|refine st ?_|refine aN 40 ?_)
     refine lL fW ?_;repeat (first|refine aS ?_|refine st ?_|refine aN 40 ?_)
     exact aR
end
section
theorem iT {P:Program} (w:World) (dT sT ty elem:TypeId) (ie:TypeInfo) (hi:P.info? elem=some ie) (g o dLen dCap:Nat) (a:Addr) (sLen sCap:Nat) (cur:Array Value) (t:TypeId) (cs:List Value) (k:Nat) (hu:P.underlying dT=some (.slice elem))
 (hg:w.heap[g]? =some (.cells cur t (0,0))) (hk:Nat.min sLen dLen=k) (hn:cs.length=k*ie.size) (hsrc: ∀j v,cs[j]? =some v->w.cell? (a.add j)=some v) (hfit:o+cs.length<=cur.size) (h1: ∀v∈cs,v.oneCell'=true):
 (Builtin.copy_ #[dT,sT] ty #[.slice (some ⟨g,o,none⟩) dLen dCap, .slice (some a) sLen sCap]).run P w= .ok (goInt k) (w.setRow g (cur.toList.take o++cs++cur.toList.drop (o+cs.length)).toArray):=by
 have hl:=run_loadCells_list (P:=P) w a cs hsrc;have hst:=On P g o t cs 0 cur w hg (by simpa using hfit) h1;simp only[Mk]at hst;simp[Builtin.copy_,Ki hu,Builtin.lenOf,Builtin.firstCells,sizeOf,typeInfo,hi,hk, <-hn,hl,hst]
structure Insr (P:Program) (f:FuncId) (e:TypeId) (sz:Nat):Prop where
 enter: ∀(args:Array Value) (w:World),(callFunc f args).run P w= .ok (.enter f args) w
 calls: ∀(w:World) (base i n:Nat) (v u:Value) (xs ys:List Value),base<=w.heap.size->w.ownsRow base e sz v n xs->w.ownsRow base e sz u 1 ys->(∀g,v.ownBlock=some g->u.ownBlock≠some g)->(∀x∈xs,x.oneCell'=true)->(∀y∈ys,y.oneCell'=true)->i<=n->n<=4096->
  Calls P f #[v, .int .i64 (i:Int),u] w fun ex w'=> ∃v',ex= .returned v'/\w.grownBy w' v.ownBlock/\(∀g,v'.ownBlock=some g->v.ownBlock=some g\/w.heap.size<=g)/\w'.ownsRow base e sz v' (n+1) (xs.take (i*sz)++ys++xs.drop (i*sz))
def mM (i:Nat) (y:List AV) (es:List (List AV)):List (List AV):=es.take i++y::es.drop i
theorem FI (i:Nat) (y:List AV) (es:List (List AV)):(mM i y es).length=es.length+1:=by
 unfold mM;rw[K8,Ks,Kg,ME];omega
theorem tF {i:Nat} {y:List AV} {es:List (List AV)} (hi:i<=es.length) (p:Nat):(mM i y es)[p]? =if p<i then es[p]? else if p=i then some y else es[p-1]? :=by
 have hl:(es.take i).length=i:=by rw[Kg];omega
 unfold mM;by_cases h1:p<i
 ·rw[K5 h1,LH (by omega),LG,K5 h1]
 ·rw[K2 h1,LA (by omega),hl];by_cases h2:p=i
  ·subst h2;rw[K5 rfl,N5];rfl
  ·rw[K2 h2,show p-i=(p-1-i)+1 by omega,ML,Lh,show i+(p-1-i)=p-1 by omega]
theorem Iv {i sz n:Nat} {xs ys:List Value} (hx:xs.length=n*sz) (hy:ys.length=sz) (hi:i<=n) (p j:Nat) (hj:j<sz):
 (xs.take (i*sz)++ys++xs.drop (i*sz))[p*sz+j]? =if p<i then xs[p*sz+j]? else if p=i then ys[j]? else xs[(p-1)*sz+j]? :=by
 have hi2:i*sz<=n*sz:=LP _ hi;have hl:(xs.take (i*sz)).length=i*sz:=by rw[Kg];omega
 by_cases h1:p<i
 ·have:(p+1)*sz<=i*sz:=LP _ h1;rw[PV]at this;rw[K5 h1,LM,LH (by omega),LG,K5 (by omega)]
 ·rw[K2 h1];by_cases h2:p=i
  ·subst h2;rw[K5 rfl,LM,LA (by omega),hl,Nat.add_sub_cancel_left,LH (by omega)]
  ·have h3:(i+1)*sz<=p*sz:=LP _ (by omega);rw[PV]at h3;have h4:p*sz=(p-1)*sz+sz:=by rw[<-PV];congr 1;omega
   rw[K2 h2,LA (by rw[K8];omega),K8,hl,Lh]
   congr 1
   omega
theorem Fy {P:Program} {env:Env} {f:FuncId} {r r2 ver ver2:Nat} {row row2:Row} {rows:Nat->Option Row} {vsv:Nat->Nat} {i:Nat} {y:List AV} (hC:Insr P f row.e row.sz) (hr:rows r=some row) (hr2:rows r2=some row2) (hne:r2≠r) (hv:vsv r=ver) (hv2:vsv r2=ver2) (hrz:row.sz≠0) (hp:row.pure=true) (hp2:row2.pure=true)
 (e2:row2.e=row.e) (z2:row2.sz=row.sz) (y2:row2.es=[y]) (hi:i<=row.es.length) (hn:row.es.length<=4096):
 Acts P env f [.row r ver, .lit (.int .i64 (i:Int)), .row r2 ver2] [r,r2] rows vsv ⟨.row r (ver+1),[.renew r { row with es:=mM i y row.es }]⟩:=by
 refine⟨hC.enter,fun x s a w m vs hx hS hro hl hvs=> ?_⟩;obtain⟨q1,q2,q3⟩:=hro r (by simp);obtain⟨p1,p2,p3⟩:=hro r2 (by simp);rw[hr]at q1;rw[hv]at q2;rw[hr2]at p1;rw[hv2]at p2
 match vs,hl with
 |[u,iv,u2],_=>
 have hu:u=m.ρ r:=(hvs 0 u _ rfl rfl).row_.2 q2 row q1;have hu2:u2=m.ρ r2:=(hvs 2 u2 _ rfl rfl).row_.2 p2 row2 p1;have hiv:iv= .int .i64 (i:Int):=(hvs 1 iv _ rfl rfl).lit_;subst hu hu2 hiv;have k:=(hS.rows r row q1).cells hrz;have k2:=(hS.rows r2 row2 p1).cells (by rw[z2];exact hrz);obtain⟨xs,c1,c2,c3⟩:=k.own;obtain⟨ys,d1,d2,d3⟩:=k2.own;rw[y2,e2,z2]at d1;have hyl:ys.length=row.sz:=by have:=d1.1;simpa using this
 refine(hC.calls w x.w.heap.size i row.es.length (m.ρ r) (m.ρ r2) xs ys hS.bel.size c1 d1 (fun g hg=>hS.inj r r2 row row2 q1 p1 (MU hne) g hg) c2 d2 hi hn).mono ?_;rintro ex w' ⟨v',rfl,hg,hsub,ho⟩
 have hb:Below x.w.heap.size w w':=⟨hg.os,hg.tape,hg.output,hg.size,fun q hq=>hg.block q (MH hq hS.bel.size) fun e=>by
  have:=(bX c1 e.symm).1
  omega⟩
 have hnS: ∀g,(m.ρ r).ownBlock=some g-> ∀o,¬m.S g o:=k.fresh q3
 have hnS2: ∀g,v'.ownBlock=some g-> ∀o,¬m.S g o:=fun g hgv o hh=>by
  rcases hsub g hgv with e|e
  ·exact hnS g e o hh
  ·have:=hS.low g o hh;omega
 have hcell: ∀b o,m.S b o->m.S b o/\Stay w w' b o:=fun b o hh=>⟨hh, .block (hg.block b (hS.low b o hh) fun e=>hnS b e.symm o hh)⟩;have hρ:(⟨m.S,upd m.ρ r v'⟩:Mem).ρ r=v':=upd_same ..
 have hS2:Sim x (s.renew r { row with es:=mM i y row.es } false) a w' ⟨m.S,upd m.ρ r v'⟩:=by
  refine hS.renew r _ false v' m.S hb hcell (fun b o hh=> .inl hh) (fun q row1 hnq hq gq hgq=>⟨?_,fun e=> ?_,fun _ hh=>hh⟩) ?_ fun b hf=>⟨hg.block b (hS.fxlt hf) fun e=>hS.nofx r row q1 b e.symm hf,fun _ hh=>hh,fun e=> ?_⟩
  ·exact hg.block gq ((hS.rows q row1 hq).blk hgq).2 fun e=>hS.inj r q row row1 q1 hq (MU hnq) gq e.symm hgq
  ·rcases hsub gq e with e|e
   ·exact hS.inj r q row row1 q1 hq (MU hnq) gq e hgq
   ·have:=((hS.rows q row1 hq).blk hgq).2;omega
  ·have hlen:=FI i y row.es;refine .inl ⟨k.pos,fun p e he=> ?_,⟨xs.take (i*row.sz)++ys++xs.drop (i*row.sz),by rw[hρ];show w'.ownsRow _ _ _ _ (mM i y row.es).length _;rw[hlen];exact ho,?_,?_⟩,fun he=> ?_,fun g hg' o _=> ?_,fun _ g hg' o=> ?_⟩
   ·rw[tF hi]at he;split at he
    ·exact k.len _ _ he
    ·split at he
     ·cases he;have:=k2.len 0 y (by rw[y2];rfl);rw[z2]at this;exact this
     ·exact k.len _ _ he
   ·intro u hu;rcases Kx.1 hu with hu|hu
    ·rcases Kx.1 hu with hu|hu
     ·exact c2 u (MV hu)
     ·exact d2 u hu
    ·exact c2 u (Mp hu)
   ·intro p j c hc
    have hj:j<row.sz:=by
     unfold cellAt at hc;cases hpe:(mM i y row.es)[p]? with
     |none=>rw[hpe]at hc;cases hc
     | some e=>
       rw[hpe]at hc;have hc:e[j]? =some c:=hc;have hjl:=(K0.1 hc).1;rw[tF hi]at hpe;split at hpe
       ·rw[k.len _ _ hpe]at hjl;exact hjl
       ·split at hpe
        ·cases hpe;have:=k2.len 0 y (by rw[y2];rfl);rw[z2]at this;omega
        ·rw[k.len _ _ hpe]at hjl;exact hjl
    rw[Iv c1.1 hyl hi p j hj];unfold cellAt at hc;rw[tF hi]at hc
    suffices h: ∃u,(if p<i then xs[p*row.sz+j]? else if p=i then ys[j]? else xs[(p-1)*row.sz+j]?)=some u/\RV m.S w' u c by
     obtain⟨u,g1,g2⟩:=h;exact⟨u,g1,by show (if row.pure=true then _ else _);rw[K5 hp];exact g2⟩
    by_cases h1:p<i
    ·rw[K5 h1]at hc |-;obtain⟨u,g1,g2⟩:=c3 p j c hc;rw[K5 hp]at g2;exact⟨u,g1,g2.mono hcell⟩
    ·rw[K2 h1]at hc |-;by_cases h2:p=i
     ·rw[K5 h2]at hc |-;obtain⟨u,g1,g2⟩:=d3 0 j c (by unfold cellAt;rw[y2];exact hc);rw[K5 hp2]at g2;refine⟨u,by rw[Mz,Li]at g1;exact g1,g2.mono hcell⟩
     ·rw[K2 h2]at hc |-;obtain⟨u,g1,g2⟩:=c3 (p-1) j c hc;rw[K5 hp]at g2;exact⟨u,g1,g2.mono hcell⟩
   ·have he:upd s.esc r false r=true:=he;rw[upd_same]at he;cases he
   ·rw[hρ]at hg';exact hnS2 g hg' o
   ·rw[hρ]at hg';exact hnS2 g hg' o
  ·rcases hsub b e with e|e
   ·exact hS.nofx r row q1 b e hf
   ·have:=hS.fxlt hf;omega
 have h1:v'.oneCell'=true:=by
  rcases ho.2 with⟨ee,_⟩|⟨g,cp,cur,ee,_⟩<;>rw[ee]<;>rfl
 refine⟨v',_,rfl,hS2, .row r (ver+1) h1 ?_ fun _ row' _=> ?_⟩
 ·show ver+1<=upd s.vs r (s.vs r+1) r;rw[upd_same,q2];exact Kc _
 ·show v'=upd m.ρ r v' r;rw[upd_same]
section
variable {P:Program} {env:Env} {s:St}
theorem Fw {o:Oper} {f:FuncId} {args:List AV} {rest:List Stp} {s1:St} {row row2:Row} {i:Nat} {y:List AV} {ft:Foot} {K:St->List Foot->Prop} (r r2:Nat) (hc:bH env s.f o=some (f,args)) (hC:Insr P f row.e row.sz) (hrz:row.sz≠0) (hp:row.pure=true) (hp2:row2.pure=true) (e2:row2.e=row.e) (z2:row2.sz=row.sz) (y2:row2.es=[y]) (hne:r2≠r) (hi:i<=row.es.length) (hn:row.es.length<=4096)
 (ha:Is args [.row r (s.vs r), .lit (.int .i64 (i:Int)), .row r2 (s.vs r2)]) (hr:Is (s.rows r) (some row)) (hr2:Is (s.rows r2) (some row2)) (he:Is (s.esc r) false) (he2:Is (s.esc r2) false) (h1:Is ((⟨.row r (s.vs r+1),[.renew r { row with es:=mM i y row.es }]⟩:Out).app o.dst s) s1) (h2:Is (⟨[r,r2],[r,r2],[r],[]⟩:Foot) ft) (k:aops P env rest s1 fun s2 fts=>K s2 (ft::fts)):aops P env (⟨o, .always⟩::rest) s K:=by
 unfold Is at h2;subst h2
 exact pB hc ha (Fy hC hr hr2 hne rfl rfl hrz hp hp2 e2 z2 y2 hi hn) (fun q hq=>by
  rcases Kr.1 hq with rfl|hq
  ·exact he
  ·rw[Kl.1 hq];exact he2) h1 k
end
end

end Go.Proofs.YtdpjgflalmnkdaaGreatDoor