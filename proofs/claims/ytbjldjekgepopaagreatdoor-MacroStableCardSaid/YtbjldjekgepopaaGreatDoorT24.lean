/- States that come and what comes of it, plain: what is active, whether it is over. No program is named here. -/
import Derived.Test.YtbjldjekgepopaaGreatDoorT23
set_option maxRecDepth 100000
set_option maxHeartbeats 16000000
set_option linter.unusedSimpArgs false
namespace Go.Proofs.YtbjldjekgepopaaGreatDoor
open Go.Proofs.Tryz
open Go.RowKit
section
theorem rW {c:ChD} {k:Nat} {s:StD} (hs:c.states[k]? =some s):d4 c k=s.kind:=by unfold d4;rw[bH,hs]
theorem v8 (env:Env) (c:ChD) (h:Full c) (act:List Int): ∀(f i:Nat),i<c.states.length->c.states.length-i<=f->Con prog env 293 [.agg (aA c),aC c, .seq 1 (flagA c.states.length act),I i] (B (uL c act f i))
 |0,i,hi,hf=>by omega
 | f+1,i,hi,hf=>by
   have hlen:=h.few;obtain⟨s,hs⟩:=gE hi;have ih:=fun(k:Nat) hk hf=>v8 env c h act f k hk hf;have q0:=nlt hi;have f0:=bN env c h i;rw[K0 (.inr (aW.2 hi))]at f0;have f0:=(f0.lend (bn (fun _=>rfl) _)).seen;have hK:=bV h.toRight i true;have hKm: ∀j∈kidsL c i true,i<j/\j<c.states.length:=fun j hj=>by have:=bF h.toRight (aV hj).1;omega
   have hfl:=eH c.states.length act;unfold uL;rw[rW hs,show kidZ c (i:Int)=zL (kidsL c i true) from rfl];generalize kidsL c i true=K at*;unfold aC at f0 ih |-;by_cases k3:s.kind=3
   ·rw[K0 k3];have b3:(s.kind==3)=true:=by simp[k3]
    refine qf func293 call293 ntmps293 results293 ?_;have F:=ai5 aA.eq_1 aL.eq_1 hs q0 b3;repeat refine st ?_
    exact aR
   rw[KZ k3];have b3:(s.kind==3)=false:=by simp[k3]
   by_cases k1:s.kind=1
   ·rw[K0 k1];have b1:(s.kind==1)=true:=by simp[k1]
    refine qf func293 call293 ntmps293 results293 ?_;have F:=ai6 aA.eq_1 aL.eq_1 hs q0 b3 b1;repeat refine st ?_
    refine lL f0 ?_;repeat refine st ?_
    refine lq K.length (by omega) (fun j vs=>[(2, .seq 1 (flagA c.states.length act)),(4, .loc 4 (vs 4) 0 0),(25, .seq 1 (K.map aB)),(26,I K.length),(27,I j)]) (fun j vs=>[(4,⟨5,[aA c],26,false⟩)]) (fun j _ esc=>(zL K).find? (fun k=>act.contains k)=((zL K).drop j).find? fun k=>act.contains k) rfl ?_ ?_
    ·rintro j ws es hlt q1 q2 heq;obtain⟨k,hx⟩:=gE hlt;obtain⟨_,hk⟩:=hKm k (K1 hx);obtain⟨t,ht⟩:=gE hk;have q3:=nlt hk;have hat:=jf (act:=act) hk;rw[bE (A7 hx),List.find?_cons]at heq;cases hb:act.contains (k:Int) with
     | true=>
       rw[hb]at hat heq;simp only at heq;rw[heq];simp only[rW ht];show awp _ _ _ _ _ _;have F:=ai11 aA.eq_1 aL.eq_1 aB.eq_1 hs ht hx q1 q2 q3 hat hfl;repeat refine st ?_
       exact aR
     | false=>
       rw[hb]at hat heq;simp only at heq;have F:=ai11 aA.eq_1 aL.eq_1 aB.eq_1 hs ht hx q1 q2 q3 hat hfl;repeat refine st ?_
       exact qn (j+1) ⟨hlt,heq⟩
    ·rintro ws es q1 heq;rw[Ly (by rw[bg];omega)]at heq;rw[heq];show awp _ _ _ _ _ _;simp only[PL];have F:=q1;repeat refine st ?_
     exact aR
   ·rw[KZ k1];have b1:(s.kind==1)=false:=by simp[k1]
    refine qf func293 call293 ntmps293 results293 ?_;have F:=ai6 aA.eq_1 aL.eq_1 hs q0 b3 b1;repeat refine st ?_
    refine lL f0 ?_;repeat refine st ?_
    refine lq K.length (by omega) (fun j vs=>[(1, .ref 9 [tabCells c] 0 0),(2, .seq 1 (flagA c.states.length act)),(4, .loc 4 (vs 4) 0 0),(45, .seq 1 (K.map aB)),(46,I K.length),(47,I j)]) (fun j vs=>[(4,⟨5,[aA c],26,false⟩)]) (fun j _ esc=>((zL K).all fun k=>uL c act f k)=((zL K).drop j).all fun k=>uL c act f k) rfl ?_ ?_
    ·rintro j ws es hlt q1 q2 heq;obtain⟨k,hx⟩:=gE hlt;obtain⟨hk0,hk⟩:=hKm k (K1 hx);have f1:=ih k hk (by omega);rw[bE (A7 hx),OS]at heq;cases hb:uL c act f (k:Int) with
     | true=>
       rw[hb]at f1 heq;rw[LK]at heq;unfold aA at f1;have F:=ai5 aA.eq_1 aB.eq_1 hx q1 q2;repeat refine tz1 f1 ?_
       exact qn (j+1) ⟨hlt,heq⟩
     | false=>
       rw[hb]at f1 heq;rw[LF]at heq;rw[heq];unfold aA at f1;show awp _ _ _ _ _ _;have F:=ai5 aA.eq_1 aB.eq_1 hx q1 q2;repeat refine tz1 f1 ?_
       exact aR
    ·rintro ws es q1 heq;rw[Ly (by rw[bg];omega)]at heq;rw[heq];show awp _ _ _ _ _ _;have F:=q1;repeat refine st ?_
     exact aR
theorem F0 (env:Env) (a1 a8:Addr) (he:ChEnv env a1 a8) (c:ChD) (h:Full c) (hs:Small c) (act:List Int) (hl:act.length<=1000000) (hb:lgB c act=true) (i:Nat) (hi:i<c.states.length):Con prog env 249 [aC c, .seq 1 (act.map intAV),I i] (.tuple [B (Bt c act i),nilE]):=by
 have hlen:=h.few;have f0:=cJ env a1 a8 he c h hs act hl;unfold uD at f0;rw[hb]at f0;simp only[L4]at f0;have f1:=((jC env c (by omega) act hl).lend (bn (fun _=>rfl) _)).seen;have f2:=ak env c hs;have f3:=v8 env c h act 40 i hi (by omega);have hfl:=eH c.states.length act;have hat:=jf (act:=act) hi;have q0:=nlt hi;unfold Bt;cases hc:act.contains (i:Int) with
 | true=>
   rw[hc]at hat;rw[LK];unfold aC at*;unfold aA at f2 f3;refine qf func249 call249 ntmps249 results249 ?_;have F:=ai3 hfl hat q0;repeat refine tz1 f0 ?_
   refine lL f1 ?_;repeat refine tz2 f2 f3 ?_
   exact aR
 | false=>
   rw[hc]at hat;rw[LF];unfold aC at*;refine qf func249 call249 ntmps249 results249 ?_;have F:=ai3 hfl hat q0;repeat refine tz1 f0 ?_
   refine lL f1 ?_;repeat refine st ?_
   exact aR
end
section
end
section
theorem wM (env:Env) (l:List Int) (p:Int->Bool) (g:FuncId) (G:Int) (te:TypeId) (hp: ∀d,Con prog env g [I d, .ref 1 [[I G]] 0 0] (B (p d))) (hl:l.length<=4096):
 ConI prog env 305 [1000,1001] (fun k=>k==1000) (fun vs=>[.row 1000 (vs 1000), .clo g [.loc 1001 (vs 1001) 0 0]]) (fun _=>[(1000,⟨1,l.map intAV,3,true⟩),(1001,⟨1,[[I G]],te,false⟩)]) (fun _=>[(1000,⟨1,(l.filter fun d=> !p d).map intAV,3,true⟩),(1001,⟨1,[[I G]],te,false⟩)]) (fun vs=> .row 1000 (vs 1000)):=by
 have f0:=(pQ env l p g [[I G]] hp hl).lend rfl;cases hi:lI p l with
 | none=>
   rw[hi]at f0;obtain⟨h1,_⟩:=oc hi;rw[h1];refine qi func305 call305 ntmps305 results305 ?_;intro vs esc hesc;obtain⟨e0,e1⟩:=es2 hesc;have F:=ai4 e0 e1 lJ.eq_1 lJ.eq_2;repeat refine st ?_
   refine lL f0 ?_;repeat refine st ?_
   exact rI
 | some i0=>
   rw[hi]at f0;obtain⟨h1,h2,d0,h3,h4⟩:=ob hi;have g0:((i0:Int) == -1)=false:=by simp
   have g1:=aD h1 (by omega);refine qi func305 call305 ntmps305 results305 ?_;intro vs esc hesc;obtain⟨e0,e1⟩:=es2 hesc;have F:=ai6 e0 e1 lJ.eq_1 lJ.eq_2 g0 g1;repeat refine st ?_
   refine lL f0 ?_;repeat refine st ?_
   refine aK (D:=Nat×List Int) (fun x vs'=>[(0, .row 1000 (vs' 1000)),(1, .clo g [.loc 1001 (vs' 1001) 0 0]),(5,I (((l.take x.1).filter fun d=> !p d).length:Int)),(6,I (x.1:Int))]) (fun x vs'=>[(1000,⟨1,x.2.map intAV,3,true⟩),(1001,⟨1,[[I G]],te,false⟩)]) (fun x vs' esc'=>(x.1<=l.length/\x.2.length=l.length/\((l.take x.1).filter fun d=> !p d).length<x.1/\x.2.take ((l.take x.1).filter fun d=> !p d).length=(l.take x.1).filter (fun d=> !p d)/\x.2.drop x.1=l.drop x.1)/\vs' 1001=vs 1001/\esc' 1000=false/\esc' 1001=false) (fun x=>l.length-x.1) (i0+1,l) ?_ ?_ ?_ ?_
   ·have hq:(l.take (i0+1)).filter (fun d=> !p d)=l.take i0:=by
     rw[cg h3,LL, <-h2];simp[h4]
    refine⟨⟨h1,rfl,?_,?_,rfl⟩,by simp only[go_sem],by simp only[go_sem,e0],by simp only[go_sem,e1]⟩
    ·rw[hq,Kf];omega
    ·simp only;rw[hq,Kf,Mg (by omega)]
   ·have hq:((l.take (i0+1)).filter fun d=> !p d).length=i0:=by
     rw[cg h3,LL, <-h2];simp[h4];omega
    simp only[hq];exact qe
   ·exact qe
   try clear e0 e1 g0 g1 h1 h2 h3 h4 hi
   rintro⟨j,L⟩ ws es ⟨⟨hj,hL,hc,ht,hd⟩,v1,e0,e1⟩;simp only at hj hL hc ht hd;generalize hcn:((l.take j).filter fun d=> !p d).length=c at*;by_cases hlt:j<l.length
   ·obtain⟨d,hx⟩:=gE hlt
    have hxL:L[j]? =some d:=by
     have:=Kx (fun q:List Int=>q[0]?) hd;simpa[hx]using this
    have f1:=hp d;have g1:(j:Int)< (L.length:Int):=by omega
    have g2:=aD hlt (by omega);have g3:=cg hx;cases h1:p d
    ·rw[h1]at f1;obtain⟨y,hy⟩: ∃x,L[c]? =some x:=⟨L[c]'(by omega),KV (by omega)⟩;have g4:(c:Int)< (L.length:Int):=by omega
     have g5:IntKind.i64.wrap ((c:Int)+1)=((c+1:Nat):Int):=aD (show c<l.length by omega) (by omega);have hq:((l.take (j+1)).filter fun d=> !p d)=(l.take j).filter (fun d=> !p d)++[d]:=by rw[g3,LL];simp[h1]
     have hs:(L.map intAV).set c [I d]=(L.set c d).map intAV:=by rw[NX]
     have F:=ai9 hxL hy e0 e1 g1 g2 g4 g5 hs;repeat refine st ?_
     refine oL (bo rfl (by simp only[go_sem,F];exact iR)) (f1.lend rfl) (by simp only[go_sem,F];exact iR) (by simp only[go_sem,F];exact⟨rfl,rfl⟩) ?_;repeat refine st ?_
     refine⟨(j+1,L.set c d),⟨⟨hlt,by simpa using hL,?_,?_,?_⟩,?_,?_,?_⟩,?_,?_,?_⟩
     ·simp only[hq,K4,Le,hcn];omega
     ·simp only[hq,K4,Le,hcn];rw[<-ht];apply LQ;intro k;rw[Kz,Ln];by_cases hk:k<c
      ·rw[K0 (by omega),KZ (by omega),LB (by simp;omega),Kz,K0 hk]
      ·by_cases hk2:k=c
       ·subst hk2;rw[K0 (by omega),K0 rfl,K0 (by omega),Ku (by rw[Kf];omega),Kf,Mg (by omega)];simp
       ·rw[KZ (by omega),K7 (by rw[K4,Kf,Le];omega)]
     ·simp only;rw[List.drop_set_of_lt (by omega)];have:=Kx (List.drop 1) hd;simpa[OL]using this
     ·simp only[go_sem,v1]
     ·simp only[go_sem,e0]
     ·simp only[go_sem,e1]
     ·have hq2:((l.take (j+1)).filter fun d=> !p d).length=c+1:=by rw[hq,K4,hcn];rfl
      simp only[hq2];exact qe
     ·exact qe
     ·simp only;omega
    ·rw[h1]at f1;have hq:((l.take (j+1)).filter fun d=> !p d)=(l.take j).filter (fun d=> !p d):=by rw[g3,LL];simp[h1]
     have F:=ai5 hxL e0 e1 g1 g2;repeat refine st ?_
     refine oL (bo rfl (by simp only[go_sem,F];exact iR)) (f1.lend rfl) (by simp only[go_sem,F];exact iR) (by simp only[go_sem,F];exact⟨rfl,rfl⟩) ?_;repeat refine st ?_
     refine⟨(j+1,L),⟨⟨hlt,hL,?_,?_,?_⟩,?_,?_,?_⟩,?_,?_,?_⟩
     ·simp only[hq,hcn];omega
     ·simp only[hq,hcn];exact ht
     ·simp only;have:=Kx (List.drop 1) hd;simpa[OL]using this
     ·simp only[go_sem,v1]
     ·simp only[go_sem,e0]
     ·simp only[go_sem,e1]
     ·simp only[hq,hcn];exact qe
     ·exact qe
     ·simp only;omega
   ·have g1: ¬(j:Int)< (L.length:Int):=by omega
    have hjl:l.take j=l:=LP (by omega);rw[hjl]at ht hcn;have g4:(c:Int)<=(L.length:Int):=by omega
    have g5:c<=L.length:=by omega
    have g6: ∀X:List (List AV),((L.take c).map intAV++X).take c=(l.filter fun d=> !p d).map intAV:=fun X=>by
     rw[NC (by rw[Kl,Kf];omega),ht]
    have g7:c+(L.length-c)=L.length:=by omega
    have g8:min c L.length=c:=by omega
    have F:=ai11 v1 e0 e1 @Kf.{0} @List.length_replicate.{0} g1 g4 g5 g6 g7 g8;repeat refine st ?_
    exact rI
end
section
theorem B7 {c:ChD} {d now:Int} {r:RunD} {l:List Int} {j:Nat} {i:Int} (hi:l[j]? =some i):bM c d now r (l.drop j)=match allP c d now r (wa c i) with
 |(r1,none)=>bM c d now { r1 with act:=r1.act.filter fun k=> !(k==i) } (l.drop (j+1))
 |x=>x:=by
 rw[bE hi]
 conv=>lhs;unfold bM
 rcases allP c d now r (wa c i) with⟨r1,_|_⟩<;>rfl
theorem xX {c:ChD} (h:Full c) {k:Nat} {s:StD} (hs:c.states[k]? =some s):(s.out.length<=32/\ ∀a∈s.out,gd c.vars.length c.states.length a=true)/\s.inn.length<=32/\ ∀a∈s.inn,gd c.vars.length c.states.length a=true:=by
 have hk:=h.st k s hs;unfold bq dy at hk;simp only[KY,K6,K2]at hk;exact⟨⟨hk.2.1,hk.2.2⟩,hk.1.2.1,hk.1.2.2⟩
theorem B8 (env:Env) (G d:Int):Con prog env 306 [I d, .ref 1 [[I G]] 0 0] (B (d==G)):=by
 refine qf func306 call306 ntmps306 results306 ?_;repeat refine st0 ?_
 exact aR0
def RYs (c:ChD) (d now:Int) (G:List Nat) (r:RunD) (g:Nat->Nat):List (Nat×Row):=(1006,⟨1,G.map aB,3,true⟩)::RY c d now r g
theorem Ew (env:Env) (a1 a2 a8:Addr) (c:ChD) (d now:Int) (E:RunEnv env a1 a2 a8 c d now) (r:RunD) (hr:RunOk c r) (hl:r.act.length<=4096) (G:List Nat) (hG: ∀i∈G,i<c.states.length) (hGl:G.length<=4096):
 ConI prog env 270 [1000,1001,1002,1003,1004,1005,1006] gr5 (fun g=>[.loc 1000 (g 1000) 0 0, .row 1006 (g 1006)]) (RYs c d now G r) (RYs c d now G.reverse (bM c d now r (zL G.reverse)).1) (fun _=>cN a2 a8 (bM c d now r (zL G.reverse)).2):=by
 have hfew:=E.h.few;have hcv:=E.hs.vars;have hdo:=fun(r:RunD) hr hl (l:List ActD) hll ha=>xW env a1 a2 a8 c d now E r hr hl l hll ha;have hok:=fun(r:RunD) (hr:RunOk c r) (l:List ActD) ha=>lW E.hd E.hn (l:=l) hr ha;have hdel:=fun(l:List Int) (i:Int) (hl:l.length<=4096)=>wM env l (fun k=>k==i) 306 i 3 (fun k=>B8 env i k) hl;have g1:=qu (zL G) (by rw[bg];omega);have g2:bC ((zL G).map r6)=G.map aB:=by rw[bd,eB]
 have g3:bC ((zL G).reverse.map r6)=G.reverse.map aB:=by rw[bd, <-eB];simp
 have hR: ∀i∈G.reverse,i<c.states.length:=fun i hi=>hG i (Ou.1 hi);have hRl:G.reverse.length<=4096:=by rw[M8];exact hGl
 generalize G.reverse=R at*;refine qi func270 call270 ntmps270 results270 ?_;intro vs esc hesc;obtain⟨e0,e1,e2,e3,e4,e5,e6⟩:=es7 hesc;have F:=ai11 RYs.eq_1 RY.eq_1 RYe.eq_1 gr5.eq_1 e0 e1 e2 e3 e4 e5 e6;repeat refine st ?_
 refine mj 1006 rfl (row:=⟨1,G.map aB,3,true⟩) g1 (LG 0) rfl g2.symm (by simp only[go_sem,e6]<;>exact iR) (by simp only[go_sem,e6]<;>exact iR) (by simp only[go_sem,e6]<;>exact iR) (by simp only[go_sem,e6]<;>exact iR) ?_;rw[g3];repeat refine st ?_
 refine lp (D:=Nat×RunD) (fun x vs'=>[(0, .loc 1000 (vs' 1000) 0 0),(10, .row 1006 (vs' 1006)),(11,I R.length),(12,I x.1)]) (fun x vs'=>RYs c d now R x.2 vs') (fun x vs' esc'=>(x.1<=R.length/\bM c d now r (zL R)=bM c d now x.2 ((zL R).drop x.1)/\RunOk c x.2/\x.2.act.length<=4096)/\(vs' 1000=vs 1000/\vs' 1002=vs 1002/\vs' 1006=vs 1006)/\esc' 1000=false/\esc' 1001=false/\esc' 1002=false/\esc' 1003=false/\esc' 1004=false/\esc' 1005=false/\esc' 1006=false) (fun x=>R.length-x.1) (0,r) ⟨⟨Ke _,rfl,hr,hl⟩,by simp only[go_sem,Kn],by simp only[go_sem,e0,e1,e2,e3,e4,e5,e6,Kn]⟩ ?_;try clear e0 e1 e2 e3 e4 e5 e6 g1 g2 g3
 rintro⟨j,r1⟩ ws es ⟨⟨hj,heq,hr1,hact⟩,⟨v0,v2,v6⟩,e0,e1,e2,e3,e4,e5,e6⟩;simp only at hj heq hr1 hact;by_cases hlt:j<R.length
 ·obtain⟨i,hx⟩:=gE hlt;have hil:=hR i (K1 hx);obtain⟨s,hs⟩:=gE hil;obtain⟨⟨s1,s2⟩,_⟩:=xX E.h hs;have ho:wa c i=s.out:=by unfold wa;rw[bH,hs]
  have f0:=hdo r1 hr1 (by omega) s.out (by omega) s2;obtain⟨k1,k2⟩:=hok r1 hr1 s.out s2;have q1:=nlt hlt;have q2:=aD hlt (by omega);have q3:=nlt hil;rw[B7 (A7 hx),ho]at heq;rcases hX:allP c d now r1 s.out with⟨r2,_|⟨k,ps⟩⟩
  ·rw[hX]at heq f0 k1 k2;simp only at heq k1 k2;have hact2:r2.act.length<=4096:=by have:=k2.act;rw[this];exact hact
   have f3:=hdel r2.act i hact2;have hact3:(r2.act.filter fun k=> !(k==(i:Int))).length<=4096:=Kh (Kw ..) hact2;generalize hF:(r2.act.filter fun k=> !(k==(i:Int)))=L2 at*;unfold cN RY RYe at f0;simp only at f0;have F:=ai12 aL.eq_1 aB.eq_1 actsAV.eq_1 RYs.eq_1 RY.eq_1 RYe.eq_1 gr5.eq_1 hx hs q1 q2<|ai8 q3 e0 e1 e2 e3 e4 e5 e6;repeat refine st ?_
   refine iL L6 f0 ?_;repeat refine st ?_
   refine iL [(1000,1001),(1001,6)] f3 ?_;repeat refine st ?_
   refine⟨(j+1,{ r2 with act:=L2 }),⟨⟨hlt,heq,{ k1 with },hact3⟩,?_,?_⟩,?_,?_,?_⟩
   ·simp only[go_sem,v0,v2,v6,Kn]
   ·simp only[go_sem,e0,e1,e2,e3,e4,e5,e6,Kn]
   ·exact qe
   ·exact qe
   ·simp only;omega
  ·rw[hX]at heq f0;simp only at heq;rw[heq];unfold cN RY RYe at f0;simp only at f0;show awp _ _ _ _ _ _;unfold cN;simp only;have F:=ai12 aL.eq_1 aB.eq_1 actsAV.eq_1 RYs.eq_1 RY.eq_1 RYe.eq_1 gr5.eq_1 hx hs q1 q2<|ai11 q3 v0 v2 v6 e0 e1 e2 e3 e4 e5 e6;repeat refine st ?_
   refine iL L6 f0 ?_;repeat refine st ?_
   exact rI
 ·obtain rfl:j=R.length:=by omega
  have q1:=nl R.length;rw[Ly (by rw[bg];omega)]at heq;rw[heq];unfold bM;show awp _ _ _ _ _ _;unfold cN;simp only;have F:=ai12 RYs.eq_1 RY.eq_1 RYe.eq_1 gr5.eq_1 q1 v0 v2 v6 e0 e1 e2<|ai4 e3 e4 e5 e6;repeat refine st ?_
  exact rI
end
section
theorem F6 {c:ChD} {d now:Int} {r:RunD} {f l:List Int} {j:Nat} {i:Int} (hi:l[j]? =some i):aj c d now r f (l.drop j)=if r.act.contains i=true then aj c d now r f (l.drop (j+1)) else match allP c d now { r with act:=bS (r.act++[i]) } (inA c i) with
 |(r1,none)=>aj c d now r1 (if d4 c i=3 then f++[i] else f) (l.drop (j+1))
 |x=>(x,[]):=by
 rw[bE hi]
 conv=>lhs;unfold aj
 rcases allP c d now { r with act:=bS (r.act++[i]) } (inA c i) with⟨r1,_|_⟩<;>rfl
def CC (a2 a8:Addr) (e:ErD) (f:List Int):AV:=match e with
 |none=> .tuple [.seq 1 (f.map intAV),nilE]
 |some x=> .tuple [nilS,cN a2 a8 (some x)]
theorem HL (env:Env) (a1 a2 a8:Addr) (c:ChD) (d now:Int) (E:RunEnv env a1 a2 a8 c d now) (r:RunD) (hr:RunOk c r) (hl:r.act.length<=1000) (G:List Nat) (hG: ∀i∈G,i<c.states.length) (hGl:G.length<=1000):
 ConI prog env 186 [1000,1001,1002,1003,1004,1005] gr5 (fun g=>[.loc 1000 (g 1000) 0 0, .seq 1 (G.map aB)]) (RY c d now r) (RY c d now (aj c d now r [] (zL G)).1.1) (fun _=>CC a2 a8 (aj c d now r [] (zL G)).1.2 (aj c d now r [] (zL G)).2):=by
 have hfew:=E.h.few;have hcv:=E.hs.vars;have hdo:=fun(r:RunD) hr hl (l:List ActD) hll ha=>xW env a1 a2 a8 c d now E r hr hl l hll ha;have hok:=fun(r:RunD) (hr:RunOk c r) (l:List ActD) ha=>lW E.hd E.hn (l:=l) hr ha;refine qi func186 call186 ntmps186 results186 ?_;intro vs esc hesc;obtain⟨e0,e1,e2,e3,e4,e5⟩:=es6 hesc;have F:=ai9 RY.eq_1 RYe.eq_1 gr5.eq_1 e0 e1 e2 e3 e4 e5;repeat refine st ?_
 refine aZ 6 6 3 1 ?_;refine lp (D:=Nat×RunD×List Int) (fun x vs'=>[(0, .loc 1000 (vs' 1000) 0 0),(4,nilS),(5,nilE),(6, .row 6 (vs' 6)),(10, .seq 1 (G.map aB)),(11,I G.length),(12,I x.1)]) (fun x vs'=>(6,⟨1,x.2.2.map intAV,3,true⟩)::RY c d now x.2.1 vs') (fun x vs' esc'=>(x.1<=G.length/\aj c d now r [] (zL G)=aj c d now x.2.1 x.2.2 ((zL G).drop x.1)/\RunOk c x.2.1/\x.2.1.act.length<=r.act.length+x.1/\x.2.2.length<=x.1)/\(vs' 1000=vs 1000/\vs' 1002=vs 1002)/\esc' 1000=false/\esc' 1001=false/\esc' 1002=false/\esc' 1003=false/\esc' 1004=false/\esc' 1005=false/\esc' 6=false) (fun x=>G.length-x.1) (0,r,[]) ⟨⟨Ke _,rfl,hr,K8 _,K8 _⟩,by simp only[go_sem,Kn],by simp only[go_sem,e0,e1,e2,e3,e4,e5,Kn]⟩ ?_;try clear e0 e1 e2 e3 e4 e5
 rintro⟨j,r1,f⟩ ws es ⟨⟨hj,heq,hr1,hact,hfl⟩,⟨v0,v2⟩,e0,e1,e2,e3,e4,e5,e6⟩;simp only at hj heq hr1 hact hfl;by_cases hlt:j<G.length
 ·obtain⟨i,hx⟩:=gE hlt;have hil:=hG i (K1 hx);obtain⟨s,hs⟩:=gE hil;obtain⟨_,s1,s2⟩:=xX E.h hs;have ho:inA c i=s.inn:=by unfold inA;rw[bH,hs]
  have hk:d4 c i=s.kind:=by unfold d4;rw[bH,hs]
  have q1:=nlt hlt;have q2:=aD hlt (by omega);have q3:=nlt hil;have fc:=(bA env r1.act i (by omega)).lend rfl;rw[F6 (A7 hx),ho,hk]at heq;cases hc:r1.act.contains (i:Int) with
  | true=>
    rw[hc]at heq fc;simp only[L4]at heq;have F:=ai12 aL.eq_1 aB.eq_1 actsAV.eq_1 RY.eq_1 RYe.eq_1 gr5.eq_1 hx hs q1 q2 q3<|ai7 e0 e1 e2 e3 e4 e5 e6;repeat refine st ?_
    refine lL fc ?_;repeat refine st ?_
    refine⟨(j+1,r1,f),⟨⟨hlt,heq,hr1,by simp only;omega,by simp only;omega⟩,?_,?_⟩,?_,?_,?_⟩
    ·simp only[go_sem,v0,v2,Kn]
    ·simp only[go_sem,e0,e1,e2,e3,e4,e5,e6,Kn]
    ·exact qe
    ·exact qe
    ·simp only;omega
  | false=>
    rw[hc]at heq fc;simp only[LA,Lf]at heq;have hact1:(bS (r1.act++[(i:Int)])).length<=r.act.length+(j+1):=by rw[oJ,K4,Le];omega
    have f0:=hdo { r1 with act:=bS (r1.act++[(i:Int)]) } { hr1 with } (by simp only;omega) s.inn (by omega) s2;obtain⟨k1,k2⟩:=hok { r1 with act:=bS (r1.act++[(i:Int)]) } { hr1 with } s.inn s2;have g1:=oz (r1.act++[(i:Int)]) (by simp;omega);have g2:bC ((r1.act++[(i:Int)]).map r6)=r1.act.map intAV++[[I i]]:=by rw[bd,Ki];rfl
    have g3:=bd (bS (r1.act++[(i:Int)]));have q4:Fits (r1.act.length+1) 8:=aG (by omega) (by omega);rcases hX:allP c d now { r1 with act:=bS (r1.act++[(i:Int)]) } s.inn with⟨r2,_|⟨k,ps⟩⟩
    ·rw[hX]at heq f0 k1 k2;simp only at heq k1 k2;have hact2:r2.act.length<=r.act.length+(j+1):=by have:=k2.act;rw[this];exact hact1
     try clear k2 hact1
     generalize hS:bS (r1.act++[(i:Int)])=S at*;unfold cN RY RYe at f0;simp only at f0;cases h3:s.kind==3 with
     | false=>
       have h4: ¬s.kind=3:=by simpa using h3
       rw[KZ h4]at heq;have F:=ai12 aL.eq_1 aB.eq_1 actsAV.eq_1 RY.eq_1 RYe.eq_1 gr5.eq_1 hx hs q1 q2 q3<|ai9 q4 h3 e0 e1 e2 e3 e4 e5 e6;repeat refine st ?_
       refine lL fc ?_;repeat refine st ?_
       refine mj 1001 rfl (row:=⟨1,r1.act.map intAV++[[I i]],3,true⟩) g1 (LG 0) rfl g2.symm (by simp only[go_sem,e1]<;>exact iR) (by simp only[go_sem,e1]<;>exact iR) (by simp only[go_sem,e1]<;>exact iR) (by simp only[go_sem,e1]<;>exact iR) ?_;rw[g3];repeat refine st ?_
       refine iL L6 f0 ?_;repeat refine st ?_
       refine⟨(j+1,r2,f),⟨⟨hlt,heq,k1,hact2,by simp only;omega⟩,?_,?_⟩,?_,?_,?_⟩
       ·simp only[go_sem,v0,v2,Kn]
       ·simp only[go_sem,e0,e1,e2,e3,e4,e5,e6,Kn]
       ·exact qe
       ·exact qe
       ·simp only;omega
     | true=>
       have h4:s.kind=3:=by simpa using h3
       rw[K0 h4]at heq;have q5:Fits (f.length+1) 8:=aG (by omega) (by omega);have q6:(f++[(i:Int)]).map intAV=f.map intAV++[[I i]]:=by rw[Ki];rfl
       have F:=ai12 aL.eq_1 aB.eq_1 actsAV.eq_1 RY.eq_1 RYe.eq_1 gr5.eq_1 hx hs q1 q2 q3<|ai10 q4 q5 h3 e0 e1 e2 e3 e4 e5 e6;repeat refine st ?_
       refine lL fc ?_;repeat refine st ?_
       refine mj 1001 rfl (row:=⟨1,r1.act.map intAV++[[I i]],3,true⟩) g1 (LG 0) rfl g2.symm (by simp only[go_sem,e1]<;>exact iR) (by simp only[go_sem,e1]<;>exact iR) (by simp only[go_sem,e1]<;>exact iR) (by simp only[go_sem,e1]<;>exact iR) ?_;rw[g3];repeat refine st ?_
       refine iL L6 f0 ?_;repeat refine st ?_
       refine⟨(j+1,r2,f++[(i:Int)]),⟨⟨hlt,heq,k1,hact2,by simp only[K4,Le];omega⟩,?_,?_⟩,?_,?_,?_⟩
       ·simp only[go_sem,v0,v2,Kn]
       ·simp only[go_sem,e0,e1,e2,e3,e4,e5,e6,Kn]
       ·exact qe
       ·simp only[q6];exact qe
       ·simp only;omega
    ·rw[hX]at heq f0;simp only at heq;rw[heq];try clear k1 k2 hact1
     generalize hS:bS (r1.act++[(i:Int)])=S at*;unfold cN RY RYe at f0;simp only at f0;show awp _ _ _ _ _ _;unfold CC cN;simp only;have F:=ai12 aL.eq_1 aB.eq_1 actsAV.eq_1 RY.eq_1 RYe.eq_1 gr5.eq_1 hx hs q1 q2 q3<|ai10 q4 v0 v2 e0 e1 e2 e3 e4 e5 e6;repeat refine st ?_
     refine lL fc ?_;repeat refine st ?_
     refine mj 1001 rfl (row:=⟨1,r1.act.map intAV++[[I i]],3,true⟩) g1 (LG 0) rfl g2.symm (by simp only[go_sem,e1]<;>exact iR) (by simp only[go_sem,e1]<;>exact iR) (by simp only[go_sem,e1]<;>exact iR) (by simp only[go_sem,e1]<;>exact iR) ?_;rw[g3];repeat refine st ?_
     refine iL L6 f0 ?_;repeat refine st ?_
     exact rI
 ·obtain rfl:j=G.length:=by omega
  have q1:=nl G.length;rw[Ly (by rw[bg];omega)]at heq;rw[heq];unfold aj;show awp _ _ _ _ _ _;unfold CC;simp only;refine iB (Turned.frozen 6 6 ⟨1,f.map intAV,3,true⟩ rfl (LG 0) (by simp only[go_sem]) (by simp only[go_sem])) ?_;have F:=ai12 RY.eq_1 RYe.eq_1 gr5.eq_1 q1 v0 v2 e0 e1 e2 e3 e4<|ai e5 e6;repeat refine st ?_
  exact rI
end
section
theorem GM {l:List Int} (h:l.Pairwise (· < ·)) {i:Int} (hi:l.contains i=false):(bS (l++[i])).Pairwise (· < ·)/\ ∀x,x∈bS (l++[i])↔x∈l\/x=i:=by
 have hn:(l++[i]).Nodup:=ML.2 ⟨h.imp fun h=>by omega,by simp,fun a ha b hb e=>by
  rw[Km.1 hb]at e;have:l.contains i=true:=K3.2 (e ▸ ha);rw[hi]at this
  cases this⟩
 obtain⟨h1,h2⟩:=l8 hn;exact⟨h1,fun x=>by rw[h2];simp⟩
structure Came (c:ChD) (r:RunD) (f l:List Int) (r1:RunD) (f1:List Int):Prop where
 rise:r1.act.Pairwise (· < ·)
 mem: ∀x,x∈r1.act↔x∈r.act\/x∈l
 fin: ∀x,x∈f1↔x∈f\/(x∈l/\x∉r.act/\d4 c x=3)
 mm:r1.mem=r.mem
 over:r1.over=r.over
 len:f1.length<=f.length+l.length
theorem il {c:ChD} (hA:ActsOk c) {d now:Int} (hd:aJ d=true) (hn:0<=now/\now<=1099511627776): ∀ {l:List Int} {r:RunD} {f:List Int},RunOk c r->r.act.Pairwise (· < ·)->RunOk c (aj c d now r f l).1.1/\((aj c d now r f l).1.2=none->Came c r f l (aj c d now r f l).1.1 (aj c d now r f l).2)
 |[],r,f,h,hr=>⟨h,fun _=>⟨hr,fun x=>by simp[aj],fun x=>by simp[aj],rfl,rfl,by simp[aj]⟩⟩
 | i::l,r,f,h,hr=>by
   unfold aj;split
   ·rename_i hc;obtain⟨k1,k2⟩:=il hA (l:=l) (f:=f) hd hn h hr;refine⟨k1,fun he=> ?_⟩;have hi:i∈r.act:=K3.1 hc;have k:=k2 he;refine⟨k.rise,fun x=> ?_,fun x=> ?_,k.mm,k.over,Kh k.len (by simp)⟩
    ·rw[k.mem,Kk];constructor
     ·rintro(q|q)
      ·exact .inl q
      ·exact .inr (.inr q)
     ·rintro(q|rfl|q)
      ·exact .inl q
      ·exact .inl hi
      ·exact .inr q
    ·rw[k.fin,Kk];constructor
     ·rintro(q|⟨q1,q2⟩)
      ·exact .inl q
      ·exact .inr ⟨.inr q1,q2⟩
     ·rintro(q|⟨rfl|q1,q2,q3⟩)
      ·exact .inl q
      ·exact absurd hi q2
      ·exact .inr ⟨q1,q2,q3⟩
   ·rename_i hc;have hc:r.act.contains i=false:=by simpa using hc
    obtain⟨s1,s2⟩:=GM hr hc;obtain⟨k1,k2⟩:=lW (r:={ r with act:=bS (r.act++[i]) }) hd hn { h with } (hA.inn i);split
    ·rename_i r1 e;rw[e]at k1 k2;have ha:r1.act=bS (r.act++[i]):=k2.act;obtain⟨k3,k4⟩:=il hA (l:=l) (f:=if d4 c i=3 then f++[i] else f) hd hn k1 (by rw[ha];exact s1);refine⟨k3,fun he=> ?_⟩;have k:=k4 he
     have hin:i∉r.act:=fun hh=>by
      have:=K3.2 hh;rw[hc]at this;cases this
     refine⟨k.rise,fun x=> ?_,fun x=> ?_,k.mm.trans k2.mem,k.over.trans k2.over,?_⟩
     ·rw[k.mem,ha,s2,Kk];constructor
      ·rintro((q|q)|q)
       ·exact .inl q
       ·exact .inr (.inl q)
       ·exact .inr (.inr q)
      ·rintro(q|q|q)
       ·exact .inl (.inl q)
       ·exact .inl (.inr q)
       ·exact .inr q
     ·rw[k.fin,ha]
      have h2:x∈(if d4 c i=3 then f++[i] else f)↔x∈f\/(x=i/\d4 c i=3):=by
       split
       ·rename_i h3;simp[h3]
       ·rename_i h3;simp[h3]
      rw[h2,s2,Kk];constructor
      ·rintro((q|⟨rfl,q⟩)|⟨q1,q2,q3⟩)
       ·exact .inl q
       ·exact .inr ⟨.inl rfl,hin,q⟩
       ·exact .inr ⟨.inr q1,fun hh=>q2 (.inl hh),q3⟩
      ·rintro(q|⟨rfl|q1,q2,q3⟩)
       ·exact .inl (.inl q)
       ·exact .inl (.inr ⟨rfl,q3⟩)
       ·by_cases e:x=i
        ·subst e;exact .inl (.inr ⟨rfl,q3⟩)
        ·exact .inr ⟨q1,fun hh=>hh.elim q2 e,q3⟩
     ·refine Kh k.len ?_;split
      ·simp only[K4,Kj,NH];omega
      ·simp only[Kj];omega
    ·rename_i x hx;refine⟨k1,fun he=>absurd he ?_⟩;intro hh;rcases hq:allP c d now { r with act:=bS (r.act++[i]) } (inA c i) with⟨r1,e1⟩;rw[hq]at hh;simp only at hh;subst hh;exact hx r1 hq
theorem xD {c:ChD} : ∀ {l:List Int} {r:RunD} {o:List Int},RunOk c r->RunOk c (ei c r o l).1.1/\(ei c r o l).1.1.act=r.act/\(ei c r o l).1.1.mem=r.mem/\((ei c r o l).1.2=none->(ei c r o l).1.1.over=(r.over||l.any fun i=>decide (aO c i<0))/\(ei c r o l).2=o++(((l.filter fun i=> !decide (aO c i<0)).map fun i=>aO c (aO c i)).filter fun g=>decide (0<=g)&&d4 c g==2))
 |[],r,o,h=>⟨h,rfl,rfl,fun _=>by simp[ei]⟩
 | i::l,r,o,h=>by
   unfold ei;split
   ·rename_i hp;obtain⟨k1,k2,k3,k4⟩:=xD (l:=l) (r:={ r with over:=true }) (o:=o) { h with };refine⟨k1,k2,k3,fun he=> ?_⟩;obtain⟨q1,q2⟩:=k4 he;rw[q1,q2];simp[hp]
   ·rename_i hp;obtain⟨k1,k2⟩:=sW h (qO c (aO c i)) (show aJ 0=true by rfl);split
    ·rename_i r1 e;rw[e]at k1 k2;obtain⟨k3,k4,k5,k6⟩:=xD (l:=l) (r:=r1) (o:=if 0<=aO c (aO c i)/\d4 c (aO c (aO c i))=2 then o++[aO c (aO c i)] else o) k1;refine⟨k3,k4.trans k2.act,k5.trans k2.mem,fun he=> ?_⟩;obtain⟨q1,q2⟩:=k6 he;have hov:r1.over=r.over:=k2.over;rw[q1,q2,hov];refine⟨by simp[hp],?_⟩;have e1:(i::l).filter (fun i=> !decide (aO c i<0))=i::l.filter (fun i=> !decide (aO c i<0)):=List.filter_cons_of_pos (by simp[hp]);rw[e1,LI];split
     ·rename_i hg;rw[List.filter_cons_of_pos (by simp[hg]),LV];rfl
     ·rename_i hg;rw[List.filter_cons_of_neg (by simp;omega)]
    ·rename_i x hx;refine⟨k1,k2.act,k2.mem,fun he=>absurd he ?_⟩;intro hh;rcases hq:raiseP r (qO c (aO c i)) 0 with⟨r1,e1⟩;rw[hq]at hh;simp only at hh;subst hh;exact hx r1 hq
theorem xB {c:ChD} : ∀ {l:List Int} {r:RunD},RunOk c r->RunOk c (gY c r l).1/\RunSame r (gY c r l).1
 |[],r,h=>⟨h, .rfl⟩
 | g::l,r,h=>by
   unfold gY;split
   ·obtain⟨k1,k2⟩:=sW h (qO c g) (show aJ 0=true by rfl);split
    ·rename_i r1 e;rw[e]at k1 k2;obtain⟨k3,k4⟩:=xB (l:=l) k1;exact⟨k3,k2.trans k4⟩
    ·exact⟨k1,k2⟩
   ·exact xB h
structure Entered (c:ChD) (r:RunD) (l:List Int) (r1:RunD):Prop where
 rise:r1.act.Pairwise (· < ·)
 mem: ∀x,x∈r1.act↔x∈r.act\/x∈l
 mm:r1.mem=r.mem
 over:r1.over=(r.over||l.any fun x=> !r.act.contains x&&d4 c x==3&&decide (aO c x<0))
theorem AK {c:ChD} (hA:ActsOk c) {d now:Int} (hd:aJ d=true) (hn:0<=now/\now<=1099511627776) {l:List Int} {r:RunD} (h:RunOk c r) (hr:r.act.Pairwise (· < ·)):RunOk c (enterP c d now r l).1/\((enterP c d now r l).2=none->Entered c r l (enterP c d now r l).1):=by
 obtain⟨k1,k2⟩:=il hA (l:=l) (f:=[]) hd hn h hr;unfold enterP;split
 ·rename_i r1 f e;rw[e]at k1 k2;have kc:=k2 rfl;obtain⟨m1,m2,m3,m4⟩:=xD (l:=f) (o:=[]) k1;unfold finishP;split
  ·rename_i r2 o e2;rw[e2]at m1 m2 m3 m4;obtain⟨n1,n2⟩:=xB (l:=zL (sortL c o)) m1;refine⟨n1,fun he=> ?_⟩;obtain⟨m5,_⟩:=m4 rfl;have ea:(gY c r2 (zL (sortL c o))).1.act=r1.act:=n2.act.trans m2;refine⟨by rw[ea];exact kc.rise,fun x=>by rw[ea];exact kc.mem x,n2.mem.trans (m3.trans kc.mm),?_⟩;rw[n2.over];have m5:r2.over=(r1.over||f.any fun i=>decide (aO c i<0)):=m5;have kov:r1.over=r.over:=kc.over;rw[m5,kov]
   congr 1
   rw[LD,L8,L8];constructor
   ·rintro⟨x,hx,hp⟩;rcases (kc.fin x).1 hx with q|⟨q1,q2,q3⟩
    ·simp at q
    ·refine⟨x,q1,?_⟩;rw[hp,q3];simp[q2]
   ·rintro⟨x,hx,hp⟩;simp only[KY,L3,LW]at hp;refine⟨x,(kc.fin x).2 (.inr ⟨hx,fun hh=> ?_,hp.1.2⟩),hp.2⟩;have:=K3.2 hh;rw[hp.1.1]at this;cases this
  ·rename_i x y hh e2;rw[e2]at m1;refine⟨m1,fun he=> ?_⟩;rcases x with⟨r2,_|e3⟩
   ·exact(hh _ rfl).elim
   ·cases he
 ·rename_i x y hh e;rw[e]at k1;refine⟨k1,fun he=> ?_⟩;rcases x with⟨r2,_|e3⟩
  ·exact(hh _ rfl).elim
  ·cases he
end

end Go.Proofs.YtbjldjekgepopaaGreatDoor