/- An event that no transition has does nothing. No program is named here. -/
import Derived.Test.YtknkhdgfhbogdaaGreatDoorP33
set_option maxRecDepth 100000
set_option maxHeartbeats 16000000
set_option linter.unusedSimpArgs false
set_option linter.defProp false
namespace Go.Proofs.YtknkhdgfhbogdaaGreatDoor
open Go.Proofs.Tryz
open Go.RowKit
section
def uZ:List AV:=[ct,ct,ct,ct,B false]
def kI:List AV:=[ct,I 0,B false]
def gY(e:AV):AV:= .tuple [.agg uZ, .agg kI,e]
def HK(b c d:Addr)(g:Nat->Nat):qa×r5->AV
 |(m,none)=> .tuple [.agg (k0 m.x), .agg [.row 1001 (g 1001),I m.steps,B m.x.2.2.2.2],h8]
 |(_,some (k,a))=>gY (fc (-1) (fc (a.headD (-1)) (l5 a.tail (cf (if k=2 then b else if k=6 then c else d)))))
def vg(b c d:Addr):qa×r5->AV
 |(m,none)=> .tuple [.agg (k0 m.x), .agg [b0 m.said,I m.steps,B m.x.2.2.2.2],h8]
 |(_,some (k,a))=>gY (fc (-1) (fc (a.headD (-1)) (l5 a.tail (cf (if k=2 then b else if k=6 then c else d)))))
def vl{env:b6}{o b d e:Addr}{c:aq}{now:Int}(E:If env o b d e c now){fu:Nat}{m:qa}(p:tg c fu m)(l:List UInt8):
 hU prog env 25 [1000,1001,1002] DA (fun g=>[.loc 1000 (g 1000) 0 0,Sg l,h8]) (RQ c now fu false m) (RQ c now fu (Rp (DM c now fu NM m)) (DM c now fu NM m).1) (fun g=>HK b d e g (DM c now fu NM m)):=by
 have f0:=Jk E p;generalize DM c now fu NM m=X at*;rcases X with⟨r,_|⟨k,n⟩⟩
 ·unfold HK;unfold Rp mG RQ AS at f0;unfold Rp RQ AS k0;simp only at f0 |-;refine qi func25 call25 ntmps25 results25 ?_;intro q j a;obtain⟨f,h,i⟩:=Rl a;have F:=hH S7 f h i;repeat refine st ?_
  refine iL [(1000,1000),(1001,1001),(1002,1002)] f0 ?_;repeat refine st ?_
  exact rI
 unfold HK gY uZ kI;unfold Rp mG RQ AS at f0;unfold Rp RQ AS;simp only at f0 |-;have f1:=iO env l (n.headD (-1)) (l5 n.tail (cf (if k=2 then b else if k=6 then d else e)));refine qi func25 call25 ntmps25 results25 ?_;intro q j a;obtain⟨f,h,i⟩:=Rl a;have F:=hH S7 f h i;repeat refine st ?_
 refine iL [(1000,1000),(1001,1001),(1002,1002)] f0 ?_;repeat refine ef f1 ?_
 exact rI
def pG(env:b6)(es:Nat->Nat->List AV)(S W:List (List AV))(b:List UInt8)(p:Int)(e:AV):
 hU prog env 25 [1000,1001,1002] DA (fun g=>[.loc 1000 (g 1000) 0 0,Sg b,fc p e]) (fun g=>[(1000,⟨13,[es (g 1001) (g 1002)],79,false⟩),(1001,⟨1,S,3,true⟩),(1002,⟨2,W,33,true⟩)]) (fun g=>[(1000,⟨13,[es (g 1001) (g 1002)],79,false⟩),(1001,⟨1,S,3,true⟩),(1002,⟨2,W,33,true⟩)]) (fun _=>gY (fc (-1) (fc p e))):=by
 have f1:=iO env b p e;unfold gY uZ kI;refine qi func25 call25 ntmps25 results25 ?_;intro i h a;obtain⟨c,d,f⟩:=Rl a;have F:=hH S7 c d f;repeat refine ef f1 ?_
 exact rI
def Bw(a b:Addr)(c:aq)(x:pb)(d n f:Int):AV:=if bM c (D' x)=false then fc (-1) (fc (-1) (cf a)) else if x.2.2.2.2=true then fc (-1) (cf b) else if aL d=false then fc (-1) (cf a) else if tE n f=true then h8 else fc (-1) (cf a)
def qA(env:b6)(b j i:Addr)(k:fq env b i)(q:env 0=some (cf j))(c:aq)(h:b8 c)(v:g6 c)(x:pb)(s:MT (D' x))(u: ∀t∈x.2.2.2.1,t.1.length<=9223372036854775807)(r: ∀m∈x.2.2.1,cI m.2.length 8)(g:List UInt8)(d n f:Int):
 b7 prog env 21 [Sg g,aH c, .agg (k0 x),I d,I n,I f] (Bw b j c x d n f):=by
 have p:=iH q;have f0:=sG env b i k c h v (D' x) s u r;have f1:=dD env d;have f2:=qC env b i k g c n f;have f3:=iO env g (-1) (cf b);have f4:=bh env g j;have f5:=sE env b i k g;rw[xx]at f0;unfold sQ at f0;unfold Bw;unfold aH at f0 f2 |-;unfold k0 at f0 |-;cases o:bM c (D' x)
 ·rw[o,Lf MW]at f0;rw[Lj rfl];refine qf func21 call21 ntmps21 results21 ?_;repeat refine zy f0 f3 ?_
  exact p'
 rw[o,Lj rfl]at f0;rw[Lf (by simp)];by_cases a:x.2.2.2.2=true
 ·rw[Lj a];refine qf func21 call21 ntmps21 results21 ?_;have F:=ai a p;exact m5 f0 f4
 rw[Lf a];have a:x.2.2.2.2=false:=by simpa using a
 cases l:aL d
 ·rw[l]at f1;rw[Lj rfl];refine qf func21 call21 ntmps21 results21 ?_;have F:=a;exact x5 f0 f1 f5
 rw[l]at f1;rw[Lf (by simp)];cases e:tE n f
 ·rw[e,Lf MW]at f2;rw[Lf MW];refine qf func21 call21 ntmps21 results21 ?_;have F:=a;exact x5 f0 f1 f2
 rw[e,Lj rfl]at f2;rw[Lj rfl];refine qf func21 call21 ntmps21 results21 ?_;have F:=a;exact x5 f0 f1 f2
def SI(ev:List UInt8):Bool:= !(ev == [])&& !decide (37< (ev.length:Int))
def vj{env:b6}{v g h i:Addr}{c:aq}{now:Int}(E:If env v g h i c now){fu:Nat}{x:pb}{ev:List UInt8}{d:Int}(s:bM c (D' x)=true)(u:x.2.2.2.2=false)(z:aL d=true)(y:fu<=256)(n:SI ev=true)(j:b7 prog env 21 [Sg [109,97,99,114,111,46,83,101,110,100],aH c, .agg (k0 x),I d,I now,I fu] h8):
 b7 prog env 9 [aH c, .agg (k0 x), .agg [Sg ev,I d],I now,I fu] (vg g h i (Qk c now fu x ev d)):=by
 have t:=JV s z y;have k:=j5 E.h E.hs.vars (gM s);have B:=k.act;have C:=k.vars;have D:=k.mem;have f2:=sF env x (by omega) (by omega) (by omega) k.mems (aC (Ly k.Z0 (by omega)) (by omega));have f:=xq E t u ev;have r:=tK E.h E.hn t u (ev:=ev);unfold SI at n;rw[Li,Mo,Mo,Me]at n;obtain⟨o,p⟩:=n;unfold Qk;rcases q:tn c now fu (m0 x d) ev with⟨⟨m,_|⟨k,l⟩⟩,b⟩
 ·rw[q]at f r;obtain⟨w,_,_⟩:=r rfl;have e:=vl E w [109,97,99,114,111,46,83,101,110,100];show b7 _ _ _ _ (vg g h i (DM c now fu NM m));simp only at e f;generalize DM c now fu NM m=X at*;unfold aH k0 at j |-;obtain⟨A,V,M,T,O⟩:=x;unfold m0 RQ AS mG at f;unfold RQ AS at e;simp only at*;rcases X with⟨G,_|⟨k,l⟩⟩
  ·unfold HK Rp k0 at e;unfold vg k0;simp only at e |-;refine qf func9 call9 ntmps9 results9 ?_;have F:=fI S7 o p;repeat refine ef j ?_
   refine iL [(8,9001),(11,9002),(14,9003)] f2 ?_
   iterate 8 (refine st ?_)
   show fk _ _ _ _ _ _;refine cT [(9001,⟨1,A.map aa,3,true⟩),(9002,⟨1,V.map aa,3,true⟩),(9003,⟨2,T.map cR,85,true⟩)] ?_ ?_
   ·exact qe
   refine nC 49 9005 0 6 33 2 ?_;refine nC 49 9004 0 7 3 1 ?_;repeat refine st ?_
   refine iL [(1000,49),(1001,9004),(1002,9005)] f ?_;repeat refine st ?_
   refine iL [(1000,49),(1001,9004),(1002,9005)] e ?_;exact dT
  unfold HK Rp gY uZ kI at e;unfold vg gY uZ kI;simp only at e |-;refine qf func9 call9 ntmps9 results9 ?_;have F:=fI S7 o p;repeat refine ef j ?_
  refine iL [(8,9001),(11,9002),(14,9003)] f2 ?_
  iterate 8 (refine st ?_)
  show fk _ _ _ _ _ _;refine cT [(9001,⟨1,A.map aa,3,true⟩),(9002,⟨1,V.map aa,3,true⟩),(9003,⟨2,T.map cR,85,true⟩)] ?_ ?_
  ·exact qe
  refine nC 49 9005 0 6 33 2 ?_;refine nC 49 9004 0 7 3 1 ?_;repeat refine st ?_
  refine iL [(1000,49),(1001,9004),(1002,9005)] f ?_;repeat refine st ?_
  refine iL [(1000,49),(1001,9004),(1002,9005)] e ?_;exact dT
 rw[q]at f;have e:=pG env (fun a b=>AS c now fu false m fun k=>if k=1001 then a else b) (m.said.map aa) (m.wait.map cR) [109,97,99,114,111,46,83,101,110,100] (l.headD (-1)) (l5 l.tail (cf (if k=2 then g else if k=6 then h else i)));show b7 _ _ _ _ (gY (fc (-1) (fc (l.headD (-1)) (l5 l.tail (cf (if k=2 then g else if k=6 then h else i))))));unfold aH k0 at j |-;obtain⟨A,V,M,T,O⟩:=x;unfold m0 RQ AS mG at f;unfold AS gY uZ kI at e;unfold gY uZ kI;simp only[Mb,Nat.reduceEqDiff,Mi]at*;refine qf func9 call9 ntmps9 results9 ?_;have F:=fI S7 o p;repeat refine ef j ?_
 refine iL [(8,9001),(11,9002),(14,9003)] f2 ?_
 iterate 8 (refine st ?_)
 show fk _ _ _ _ _ _;refine cT [(9001,⟨1,A.map aa,3,true⟩),(9002,⟨1,V.map aa,3,true⟩),(9003,⟨2,T.map cR,85,true⟩)] ?_ ?_
 ·exact qe
 refine nC 49 9005 0 6 33 2 ?_;refine nC 49 9004 0 7 3 1 ?_;repeat refine st ?_
 refine iL [(1000,49),(1001,9004),(1002,9005)] f ?_;repeat refine st ?_
 refine iL [(1000,49),(1001,9004),(1002,9005)] e ?_;exact dT
end
section
def Ky{n f:Int}(h:tE n f=true):(0<=n/\n<=1099511627776)/\ ∃fu:Nat,f=fu/\fu<=256:=by
 unfold tE at h;simp only[Li,Lt]at h;exact⟨⟨h.1.1.1,h.1.1.2⟩,f.toNat,by omega,by omega⟩
def JM{n:Int}{fu:Nat}(b:0<=n/\n<=1099511627776)(a:fu<=256):tE n fu=true:=by
 unfold tE;simp only[Li,Lt];omega
def CW{env:b6}{o g h f:Addr}{c:aq}{now:Int}(E:If env o g h f c now)(p: ∀v∈c.vars,aL v.start=true){fu:Nat}(q:fu<=256):
 b7 prog env 18 [aH c,I now,I fu] (vg g h f (Dd c now fu)):=by
 have f0:=qC env o f E.he [109,97,99,114,111,46,66,101,103,105,110] c now fu;rw[JM E.hn q,Lj rfl]at f0;have f1:=DT env o g f c now ⟨E.he,E.h2,E.h,E.hs,rfl,E.hn⟩ p;have l:=Ia E.h E.hn q p;have n:=qJ E.h E.hn p;have j:=BK c 0 now ⟨[],c.vars.map (·.start),[],[],false,[],[]⟩ (zL (kv c (-1)));change vE (dJ c now).2 at j;unfold Dd;unfold aH at f0 f1 |-;rcases s:dJ c now with⟨r,_|⟨k,e⟩⟩
 ·rw[s]at f1 l n;obtain⟨_,u,_⟩:=n rfl;have l:=l rfl;have i:=A9 env g h f E.he.e8 c now fu (m0 (Qi r) 0) r.outs r.Z7 (Lx _) (Lx _) u.outs u.Z7;unfold ul at f1;simp only at f1 l |-;rcases t:AT (m0 (Qi r) 0) r.outs r.Z7 with⟨m,_|⟨k,e⟩⟩
  ·rw[t]at i l;have d:=vl E (l rfl) [109,97,99,114,111,46,66,101,103,105,110];show b7 _ _ _ _ (vg g h f (DM c now fu NM m));generalize DM c now fu NM m=X at*;unfold m0 Qi RQ AS mG at i;unfold RQ AS at d;simp only at i d;rcases X with⟨y,_|⟨k,e⟩⟩
   ·unfold HK Rp k0 at d;unfold vg k0;simp only at d |-;refine qf func18 call18 ntmps18 results18 ?_;have F:=DA.eq_1
    iterate 47 (first|refine st ?_|refine cC f0 ?_|refine cC f1 ?_)
    show fk _ _ _ _ _ _;refine nC 35 9005 0 6 33 2 ?_;refine nC 35 9004 0 7 3 1 ?_;repeat refine st ?_
    refine iL [(1000,35),(1001,9004),(1002,9005)] i ?_;repeat refine st ?_
    refine iL [(1000,35),(1001,9004),(1002,9005)] d ?_;exact dT
   unfold HK Rp gY uZ kI at d;unfold vg gY uZ kI;simp only at d |-;refine qf func18 call18 ntmps18 results18 ?_;have F:=DA.eq_1
   iterate 47 (first|refine st ?_|refine cC f0 ?_|refine cC f1 ?_)
   show fk _ _ _ _ _ _;refine nC 35 9005 0 6 33 2 ?_;refine nC 35 9004 0 7 3 1 ?_;repeat refine st ?_
   refine iL [(1000,35),(1001,9004),(1002,9005)] i ?_;repeat refine st ?_
   refine iL [(1000,35),(1001,9004),(1002,9005)] d ?_;exact dT
  rw[t]at i;have d:=pG env (fun a b=>AS c now fu false m fun k=>if k=1001 then a else b) (m.said.map aa) (m.wait.map cR) [109,97,99,114,111,46,66,101,103,105,110] (e.headD (-1)) (l5 e.tail (cf (if k=2 then g else if k=6 then h else f)));show b7 _ _ _ _ (gY (fc (-1) (fc (e.headD (-1)) (l5 e.tail (cf (if k=2 then g else if k=6 then h else f))))));unfold m0 Qi RQ AS mG at i;unfold AS gY uZ kI at d;unfold gY uZ kI;simp only[Mb,Nat.reduceEqDiff,Mi]at i d;refine qf func18 call18 ntmps18 results18 ?_;have F:=DA.eq_1
  iterate 47 (first|refine st ?_|refine cC f0 ?_|refine cC f1 ?_)
  show fk _ _ _ _ _ _;refine nC 35 9005 0 6 33 2 ?_;refine nC 35 9004 0 7 3 1 ?_;repeat refine st ?_
  refine iL [(1000,35),(1001,9004),(1002,9005)] i ?_;repeat refine st ?_
  refine iL [(1000,35),(1001,9004),(1002,9005)] d ?_;exact dT
 rw[s]at f1 j;have x:=j (k,e) rfl
 have w:ck g f (some (k,e))=fc (e.headD (-1)) (l5 e.tail (cf (if k=2 then g else if k=6 then h else f))):=by
  unfold ck;simp only;rcases x with rfl|rfl<;>rfl
 unfold ul at f1;simp only[w]at f1;have d:=pG env (fun a b=>[.ref 9 [ca c] 0 0,ct,ct,ct,ct,B false, .row 1002 b, .row 1001 a,I 0,B false,I 0,I now,I fu]) [] [] [109,97,99,114,111,46,66,101,103,105,110] (-1) (fc (e.headD (-1)) (l5 e.tail (cf (if k=2 then g else if k=6 then h else f))));show b7 _ _ _ _ (gY (fc (-1) (fc (-1) (fc (e.headD (-1)) (l5 e.tail (cf (if k=2 then g else if k=6 then h else f)))))));unfold gY uZ kI at d |-;generalize l5 e.tail _=V at*;refine qf func18 call18 ntmps18 results18 ?_;have F:=DA.eq_1
 iterate 47 (first|refine st ?_|refine cC f0 ?_|refine cC f1 ?_)
 show fk _ _ _ _ _ _;refine nC 35 9005 0 6 33 2 ?_;refine nC 35 9004 0 7 3 1 ?_;repeat refine st ?_
 refine iL [(1000,35),(1001,9004),(1002,9005)] d ?_;exact dT
end
section
def tS:aq:=⟨[99],0,[],[⟨[97],1, -1, -1,[],[]⟩,⟨[98],1, -1, -1,[],[]⟩],[⟨0,[120],[],[⟨2,0,[121],[⟨1,1⟩]⟩], -1⟩,⟨0,[121],[],[],1⟩]⟩
def Df:List AV:=[Sg [99],I 0,ct, .seq 6 [[Sg [97],I 1,I (-1),I (-1),ct,ct],[Sg [98],I 1,I (-1),I (-1),ct,ct]], .seq 5 [[I 0,Sg [120],ct, .seq 4 [[I 2,I 0,Sg [121], .seq 2 [[I 1,I 1]]]],I (-1)],[I 0,Sg [121],ct,ct,I 1]]]
def Do(n:List UInt8)(k p i:Int):u3 [Sg n,I k,I p,I i,ct,ct] (aK ⟨n,k,p,i,[],[]⟩):= .cons (.refl _) (.cons (.refl _) (.cons (.refl _) (.cons (.refl _) (.cons (.nil 4) (.cons (.nil 4) .nil)))))
def Eo:u3 [.agg Df] [.agg (aA tS)]:=by
 refine .one (.agg (.cons (.refl _) (.cons (.refl _) (.cons (.nil 2) (.cons (.seqs ?_) (.cons (.seqs ?_) .nil))))))
 ·exact .cons (Do ..) (.cons (Do ..) .nil)
 exact .cons (.cons (.refl _) (.cons (.refl _) (.cons (.nil 2) (.cons (.refl _) (.cons (.refl _) .nil))))) (.cons (.cons (.refl _) (.cons (.refl _) (.cons (.nil 2) (.cons (.nil 4) (.cons (.refl _) .nil))))) .nil)
def Ep:j6 tS:=by simp[j6,uq,uo,iI,qo,tS,maxLen]
def vL:nv tS=(0, -1):=by decide+kernel
def Ru:pb:=([0],[],[],[],false)
def zu:bM tS (D' Ru)=true:=by decide+kernel
def Em:Dd tS 0 9=(m0 Ru 0,none):=by kernel_rfl
def HO:Qk tS 0 9 Ru [120] 0=(⟨([1],[],[],[],false),[],2,[],1⟩,none):=by kernel_rfl
def rj(env:b6)(n:List UInt8):b7 prog env 17 [Sg n] (.agg [Sg n,I 1,I (-1),I (-1),ct,ct]):=by
 refine qf func17 call17 ntmps17 results17 ?_;repeat refine m8 ?_
 exact p'
def zp(env:b6)(a f g c b:Addr)(e:fq env a b)(l:env 5=some (cf f))(m:env 3=some (cf g))(n:env 0=some (cf c))(o: ∀W,env.inv W->wg W):b7 prog env 7 [] (B true):=by
 have j:(nv tS).1=0:=by rw[vL]
 have h:=Qq j;have k:=t8 j;have E:If env a f g b tS 0:=⟨e,l,m,h,k,by omega⟩;have f0:=(vQ env a b e o tS vL Ep).args Eo;have f1:=CW E (by simp[tS]) (fu:=9) (by omega);have i:=qA env a c b e n tS h k Ru ⟨by simp[D',Ru],by simp[D',Ru],by simp[D',Ru],by simp[D',Ru]⟩ (by simp[Ru]) (by simp[Ru]) [109,97,99,114,111,46,83,101,110,100] 0 0 (9:Nat);rw[show Bw a c tS Ru 0 0 (9:Nat)=h8 by unfold Bw;rw[zu];rfl]at i;have f2:=vj E (x:=Ru) (ev:=[120]) (d:=0) zu rfl rfl (fu:=9) (by omega) rfl i;rw[Em]at f1;rw[HO]at f2
 have f4:b7 prog env 19 [.seq 1 [[I 1]], .seq 1 [[I 1]]] (B true):=by
  have:=xF env [1] [1] (by decide);rw[M2 rfl]at this;exact this
 have p:=rj env [97];have q:=rj env [98];unfold Df at f0;unfold vg m0 at f1;unfold vg at f2;unfold k0 at f1 f2;unfold Ru at f1 f2;simp only[NH,M1]at f1 f2;unfold b0 at f1 f2;unfold aH at f0 f1 f2;generalize ca tS=T at*;refine qf func7 call7 ntmps7 results7 ?_;repeat refine LH p q f0 f1 f2 f4 ?_
 exact p'
end
section
def H2{c:aq}{x:pb}(b:lU c=true)(a:li c x=false):x.1.length<=60/\x.2.2.1.length<=60/\x.2.1.length<=60:=by
 unfold li at a;rw[b,N7,NY,PH,PH,Me,Me,Me]at a;omega
end
section
section
variable {c:aq} {d now:Int} {Q:Nat×List Int->Prop} (hdo: ∀(r:ch) (a:jn) e,(Qh c d now r a).2=some e->Q e) (hra: ∀(r:ch) s v e,(gb r s v).2=some e->Q e)
include hdo
theorem tM: ∀(l:List jn)(r:ch)(e:Nat×List Int),(lE c d now r l).2=some e->Q e
 |[],_,_,h=>by cases h
 | a::l,r,e,h=>by
   have b:=hdo r a;unfold lE at h;rcases f:Qh c d now r a with⟨g,_|x⟩<;>rw[f]at h b
   ·exact tM l g e h
   exact b e h
theorem vt: ∀(l:List Int)(r:ch)(e:Nat×List Int),(bS c d now r l).2=some e->Q e
 |[],_,_,h=>by cases h
 | i::l,r,e,h=>by
   have b:=tM hdo (vh c i) r;unfold bS at h;rcases f:lE c d now r (vh c i) with⟨g,_|x⟩<;>rw[f]at h b
   ·exact vt l _ e h
   exact b e h
theorem BX: ∀(l:List Nat)(r:ch)(e:Nat×List Int),(dR c d now r l).2=some e->Q e
 |[],_,_,h=>by cases h
 | n::l,r,e,h=>by
   have b:=tM hdo (da c n).Z1 r;unfold dR at h;rcases f:lE c d now r (da c n).Z1 with⟨g,_|x⟩<;>rw[f]at h b
   ·exact BX l _ e h
   exact b e h
theorem uS: ∀(l:List Int)(f:List Int)(r:ch)(e:Nat×List Int),(ah c d now r f l).1.2=some e->Q e
 |[],_,_,_,h=>by cases h
 | i::l,f,r,e,h=>by
   unfold ah at h;split at h
   ·exact uS l f r e h
   have b:=tM hdo (Rv c i) { r with act:=bQ (r.act++[i]) };rcases g:lE c d now { r with act:=bQ (r.act++[i]) } (Rv c i) with⟨j,_|x⟩<;>rw[g]at h b
   ·exact uS l _ j e h
   exact b e h
include hra
omit hdo in
theorem uO: ∀(l:List Int)(o:List Int)(r:ch)(e:Nat×List Int),(cV c r o l).1.2=some e->Q e
 |[],_,_,_,h=>by cases h
 | i::l,o,r,e,h=>by
   unfold cV at h;split at h
   ·exact uO l o _ e h
   have b:=hra r (jV c (aP c i)) 0;rcases f:gb r (jV c (aP c i)) 0 with⟨g,_|x⟩<;>rw[f]at h b
   ·exact uO l _ g e h
   exact b e h
omit hdo in
theorem uN: ∀(l:List Int)(r:ch)(e:Nat×List Int),(dP c r l).2=some e->Q e
 |[],_,_,h=>by cases h
 | g::l,r,e,h=>by
   unfold dP at h;split at h
   ·have b:=hra r (jV c g) 0;rcases f:gb r (jV c g) 0 with⟨i,_|x⟩<;>rw[f]at h b
    ·exact uN l i e h
    exact b e h
   exact uN l r e h
theorem G8(l:List Int)(r:ch)(e:Nat×List Int)(h:(go c d now r l).2=some e):Q e:=by
 have b:=uS hdo l [] r;unfold go at h;rcases j:ah c d now r [] l with⟨⟨i,_|x⟩,f⟩<;>rw[j]at h b
 ·have g:=uO (c:=c) hra f [] i;simp only[o2]at h;rcases k:cV c i [] f with⟨⟨m,_|x⟩,o⟩<;>rw[k]at h g
  ·exact uN hra _ _ e h
  exact g e h
 exact b e h
theorem HW(ts:List Nat)(r:ch)(e:Nat×List Int)(h:(ld c d now r ts).2=some e):Q e:=by
 unfold ld at h;simp only at h;have b:=vt hdo (zL (bt c (c0 c r.act ts))).reverse { r with mem:=m7 c r.act (zL (bt c (c0 c r.act ts))) r.mem };split at h
 ·rename_i g i;have f:=BX hdo ts g;split at h
  ·exact G8 hdo hra _ _ e h
  exact f e h
 exact b e h
end
def KP(e:Nat×List Int):Prop:=e.2=[-1]\/e.2=[-1, -1]
def AP(r:ch)(s:List UInt8)(v:Int)(e:Nat×List Int)(h:(gb r s v).2=some e):KP e:=by
 unfold gb at h;split at h<;>cases h;exact .inl rfl
def LU(c:aq)(d now:Int)(r:ch)(a:jn)(e:Nat×List Int)(h:(Qh c d now r a).2=some e):KP e:=by
 unfold Qh at h;split at h
 ·cases h
 split at h
 ·cases h;exact .inr rfl
 split at h
 ·cases h
 split at h
 ·exact AP _ _ _ _ h
 split at h
 ·unfold zE at h;split at h
  ·cases h;exact .inl rfl
  split at h<;>cases h;exact .inl rfl
 unfold Iw at h;split at h<;>cases h;exact .inl rfl
def Dn{c:aq}{d now:Int}{ts:List Nat}{r:ch}{e:Nat×List Int}(h:(ld c d now r ts).2=some e):KP e:=HW (LU c d now) AP ts r e h
def SJ(ps:List Int):Int:=match ps.find? fun p=>decide (0<=p) with
 |some p=>p
 |none=> -1
def Jd{e:Nat×List Int}(h:KP e):SJ (-1::e.2.headD (-1)::e.2.tail)= -1:=by
 rcases h with h|h<;>rw[h]<;>rfl
def HV{c:aq}(h:b8 c){d now:Int}(g:aL d=true)(a:0<=now/\now<=1099511627776){x:pb}(m:Bx c x){ts:List Nat}(s:Fit c x.1 ts):ek c (ld c d now (bj x) ts).1:=by
 have e:=bT h
 have i: ∀n∈ts,∃t,c.trans[n]? =some t:=fun n a=>by
  obtain⟨t,u,_⟩:=s.real n a;exact⟨t,u⟩
 have f:ek c (bj x):=m.beg;unfold ld;simp only;obtain⟨j,_,_,o⟩:=ky e (l:=(zL (bt c (c0 c (bj x).act ts))).reverse) g a (r:={ bj x with mem:=m7 c (bj x).act (zL (bt c (c0 c (bj x).act ts))) (bj x).mem }) { f with };split
 ·rename_i v p;rw[p]at j o;obtain⟨b,k⟩:=yQ e g a (l:=ts) (r:=v) i j;split
  ·rename_i w q;rw[q]at b k;refine(uQ e g a b ?_).1;rw[k.act.trans (o rfl)];exact(cr m.lg).ZZ.sublist My
  exact b
 exact j
end
section
def PJ(k p:Int):List AV:=[ct,ct,ct,ct,B false,ct,I 0,I k,I p]
def DP(m:qa):List AV:=[b0 m.x.1,b0 m.x.2.1, .seq 2 (m.x.2.2.1.map eg), .seq 2 (m.x.2.2.2.1.map cR),B m.x.2.2.2.2,b0 m.said,I m.steps,I 0,I (-1)]
def AI(m:qa):r5->List AV
 |none=>DP m
 |some (k,a)=>PJ (k:Nat) (SJ a)
def K'(m:qa):List AV:=[.seq 2 (m.wait.map cR),I m.data]
def ij(env:b6)(k p:Int):b7 prog env 78 [I k,I p] (.agg (PJ k p)):=by
 unfold PJ;refine qf func78 call78 ntmps78 results78 ?_;repeat refine m8 ?_
 exact p'
def F6(env:b6)(m:qa)(o:List Int)(w:List (List UInt8×Int))(d now:Int)(k:Nat)(b:((k:Int)==0)=false)(h:m.said.length<=256)(l:m.wait.length<=16)(i:o.length<=256)(j:w.length<=16):
 b7 prog env 79 [.agg (DP m), .agg (K' m), .agg [.any, .any, .any, .any, .any,b0 o, .seq 2 (w.map cR),I d,I now,I (k:Nat),I (-1)]] (.tuple [.agg (PJ (k:Nat) (-1)), .agg [.seq 2 ((m.wait++w).map cR),I m.data]]):=by
 have f0:=ij env k (-1);have c:cI m.said.length 8:=aC (by omega) (by omega);have e:cI (m.said.length+o.length) 8:=aC (by omega) (by omega);have f:cI m.wait.length 24:=aC (by omega) (by omega);have g:cI (m.wait.length+w.length) 24:=aC (by omega) (by omega);have a:((k:Int) != 0)=true:=by rw[bne,b];rfl
 unfold DP K' PJ at*;simp only[Ln];refine qf func79 call79 ntmps79 results79 ?_;have F:=g7 a c e f g;exact g9 f0
def F5(env:b6)(m:qa)(r:ch)(d now:Int)(i:m.said.length<=256)(n:m.wait.length<=16)(j:r.outs.length<=256)(l:r.Z7.length<=16):
 b7 prog env 79 [.agg (DP m), .agg (K' m), .agg (fb r d now none)] (.tuple [.agg (AI (AT ⟨Qi r,m.said,m.steps,m.wait,m.data⟩ r.outs r.Z7).1 (AT ⟨Qi r,m.said,m.steps,m.wait,m.data⟩ r.outs r.Z7).2), .agg (K' (AT ⟨Qi r,m.said,m.steps,m.wait,m.data⟩ r.outs r.Z7).1)]):=by
 have f0:=ij env 8 (-1);have c:cI m.said.length 8:=aC (by omega) (by omega);have f:cI (m.said.length+r.outs.length) 8:=aC (by omega) (by omega);have g:cI m.wait.length 24:=aC (by omega) (by omega);have h:cI (m.wait.length+r.Z7.length) 24:=aC (by omega) (by omega);have o:(m.said++r.outs).length=m.said.length+r.outs.length:=Ll;have p:(m.wait++r.Z7).length=m.wait.length+r.Z7.length:=Ll;unfold AT;by_cases k:256< (m.said++r.outs).length\/16< (m.wait++r.Z7).length
 ·rw[Lj k];show b7 _ _ _ _ (.tuple [.agg (PJ 8 (-1)), .agg [.seq 2 ((m.wait++r.Z7).map cR),I m.data]]);unfold DP K' fb PJ at*;simp only[Ln];by_cases a:(256:Int)< ((m.said.length+r.outs.length:Nat):Int)
  ·refine qf func79 call79 ntmps79 results79 ?_;have F:=g7 a c f g h;exact g9 f0
  have b:(16:Int)< ((m.wait.length+r.Z7.length:Nat):Int):=by omega
  refine qf func79 call79 ntmps79 results79 ?_;have F:=ip a b c f g h;exact g9 f0
 rw[Lf k];have a: ¬(256:Int)< ((m.said.length+r.outs.length:Nat):Int):=by omega
 have b: ¬(16:Int)< ((m.wait.length+r.Z7.length:Nat):Int):=by omega
 have e:b0 (m.said++r.outs)= .seq 1 (m.said.map aa++r.outs.map aa):=by unfold b0;rw[Ln]
 unfold AI DP K' fb Qi;simp only[Ln,e];refine qf func79 call79 ntmps79 results79 ?_;have F:=ip a b c f g h;exact dT
def KT(c:aq)(now:Int)(F:Nat)(m:qa)(ev:List UInt8):AV:=match ir c m ev with
 | .error n=> .tuple [.agg (PJ 2 (1000+(n:Nat))), .agg (K' m),B false]
 | .ok []=> .tuple [.agg (DP m), .agg (K' m),B false]
 | .ok (k::l)=>if F<=m.steps then .tuple [.agg (PJ 6 (-1)), .agg (K' m),B false] else match ld c m.data now (bj m.x) (k::l) with
   |(r,some e)=> .tuple [.agg (PJ (e.1:Nat) (-1)), .agg [.seq 2 ((m.wait++r.Z7).map cR),I m.data],B true]
   |(r,none)=> .tuple [.agg (AI (Es m r).1 (Es m r).2), .agg (K' (Es m r).1),B true]
def Iu(c:aq)(now:Int)(F:Nat)(m:qa)(ev:List UInt8): ∃W b,KT c now F m ev= .tuple [.agg (AI (tn c now F m ev).1.1 (tn c now F m ev).1.2), .agg [.seq 2 W,I (tn c now F m ev).1.1.data],B b]/\((tn c now F m ev).1.2=none->W=(tn c now F m ev).1.1.wait.map cR/\b=(tn c now F m ev).2):=by
 unfold KT tn;cases ir c m ev with
 |error n=>exact⟨_,_,rfl,fun h=>by cases h⟩
 | ok f=>
   cases f with
   |nil=>exact⟨_,_,rfl,fun _=>⟨rfl,rfl⟩⟩
   | cons k l=>
     simp only;unfold o3;by_cases a:F<=m.steps
     ·rw[Lj a,Lj a];exact⟨_,_,rfl,fun h=>by cases h⟩
     rw[Lf a,Lf a];rcases g:ld c m.data now (bj m.x) (k::l) with⟨r,_|e⟩
     ·refine⟨(Es m r).1.wait.map cR,true,?_,fun _=>⟨rfl,rfl⟩⟩;simp only;unfold K';rfl
     have i:=Jd (Dn (c:=c) (d:=m.data) (now:=now) (ts:=k::l) (r:=bj m.x) (e:=e) (by rw[g]));refine⟨(m.wait++r.Z7).map cR,true,?_,fun h=>by cases h⟩;simp only[AI];rw[i]
def G9(env:b6){c:aq}(h:b8 c)(e:g6 c){x:pb}{d:Int}(f:bM c (D' x)=true)(g:aL d=true)(ev:List UInt8):b7 prog env 77 [.agg (aA c), .agg (k0 x),Sg ev,I d] (RD (mo c x.1 (GS c x.1 x.2.1 d) ev (u' c (x.1.map Int.toNat)))):=by
 have a:=gM f;have k:=(j5 h e.vars a).act;obtain⟨l,b,i⟩:=sI a.lg;rw[xo b];exact xO env c h e x d ⟨by omega,a.len,a.fit,g,a.lg⟩ ev l b i
def F4(env:b6){c:aq}(h:b8 c)(A:g6 c)(t:c.vars.length<=8){now:Int}(z:0<=now/\now<=1099511627776){fu:Nat}{m:qa}(i:tg c fu m)(ev:List UInt8):
 b7 prog env 43 [.agg (aA c), .agg (DP m), .agg (K' m),Sg ev,I now,I fu] (KT c now fu m ev):=by
 have p:=gM i.inst;have H:=(j5 h A.vars p).act;have a:=G9 env h A i.inst i.data ev;change b7 _ _ _ _ (RD (ir c m ev)) at a;unfold KT;cases s:ir c m ev with
 | error n=>
   rw[s]at a;have f0:=ij env 2 (1000+(n:Nat));unfold RD aA k0 at a;unfold aA DP K' PJ at*;simp only at a;refine qf func43 call43 ntmps43 results43 ?_;repeat refine zy a f0 ?_
   exact p'
 | ok f=>
   rw[s]at a;cases f with
   | nil=>
     unfold RD aA k0 at a;unfold aA DP K';simp only[NH]at a;refine qf func43 call43 ntmps43 results43 ?_;repeat refine jL a ?_
     exact p'
   | cons k l=>
     have x:=pS h p.lg s;have q:(((l.length+1:Nat):Int)==0)=false:=by rw[Nt];omega
     simp only;by_cases v:fu<=m.steps
     ·rw[Lj v];have o:(fu:Int)<=(m.steps:Int):=by omega
      have f0:=ij env 6 (-1);unfold RD aA k0 at a;unfold aA DP K' PJ at*;simp only[M1]at a;refine qf func43 call43 ntmps43 results43 ?_;have F:=ai q o;exact m5 a f0
     rw[Lf v];have o: ¬(fu:Int)<=(m.steps:Int):=by omega
     have D:=i.ZO;have u:IntKind.i64.wrap ((m.steps:Int)+1)=((m.steps+1:Nat):Int):=aD (show m.steps<fu by omega) (by omega);have b:=Bz env c h t m.data now i.data z m.x p (by omega) (k::l) x;have d:=HV h i.data z p x;have j:=rR c m.data now (bj m.x) (k::l);rcases w:ld c m.data now (bj m.x) (k::l) with⟨r,_|⟨e,J⟩⟩
     ·rw[w]at b d;have g:=F5 env ⟨m.x,m.said,m.steps+1,m.wait,m.data⟩ r m.data now i.said i.wait d.outs d.Z7;change b7 _ _ _ _ (.tuple [.agg (AI (Es m r).1 (Es m r).2), .agg (K' (Es m r).1)]) at g;show b7 _ _ _ _ (.tuple [.agg (AI (Es m r).1 (Es m r).2), .agg (K' (Es m r).1),B true]);generalize Es m r=Y at*;rcases Y with⟨y,_|⟨G,C⟩⟩
      ·unfold AI at g |-;unfold Sb fb at b;unfold RD aA k0 at a;unfold aA k0 at b;unfold aA;unfold DP K' at*;unfold fb at g;simp only[M1]at a b g |-;refine qf func43 call43 ntmps43 results43 ?_;have F:=fI q o u;exact x5 a b g
      unfold AI at g |-;unfold Sb fb at b;unfold RD aA k0 at a;unfold aA k0 at b;unfold aA;unfold DP K' PJ at*;unfold fb at g;simp only[M1]at a b g |-;refine qf func43 call43 ntmps43 results43 ?_;have F:=fI q o u;exact x5 a b g
     rw[w]at b d j;have E:=vJ j rfl;have g:=F6 env ⟨m.x,m.said,m.steps+1,m.wait,m.data⟩ r.outs r.Z7 m.data now e E i.said i.wait d.outs d.Z7;unfold Sb at b;unfold RD aA k0 at a;unfold aA k0 at b;unfold aA;unfold DP K' PJ at*;simp only[M1]at a b g |-;refine qf func43 call43 ntmps43 results43 ?_;have F:=fI q o u;exact x5 a b g
def FY(env:b6){c:aq}(h:b8 c)(hs:g6 c)(hvl:c.vars.length<=8){now:Int}(J:0<=now/\now<=1099511627776){fu:Nat}{m:qa}(t:tg c fu m):
 b7 prog env 20 [.agg (aA c), .agg (DP m), .agg (K' m),I now,I fu] (.agg (AI (DM c now fu NM m).1 (DM c now fu NM m).2)):=by
 obtain⟨X,a⟩: ∃X,DM c now fu NM m=X:=⟨_,rfl⟩;have l:=D9 t;have M:=KV h J t;rw[a]at M |-;have C:=fun(m:qa)(t:tg c fu m) ev=>F4 env h hs hvl J t ev
 have R: ∀k Z,X.2=some (k,Z)->((k:Int)==0)=false:=fun k Z P=>by
  have:=M _ P;simp only at this;rw[Nt];omega
 unfold aA at C |-;refine qf func20 call20 ntmps20 results20 ?_;have F:=aA.eq_1;repeat refine st ?_
 refine aG (D:=qa×r5×List (List AV)×Nat) (fun y vs=>[(3,I now),(4,I fu),(5, .loc 5 (vs 5) 0 0),(6, .loc 6 (vs 6) 0 0),(7, .loc 7 (vs 7) 0 0),(10, .loc 10 (vs 10) 0 0),(11,I y.2.2.2)]) (fun y _=>[(5,⟨5,[[Sg c.name,I c.initial,n7 c.vars,o' c.Z9,rk c.trans]],26,false⟩),(6,⟨9,[AI y.1 y.2.1],42,false⟩),(7,⟨2,[[.seq 2 y.2.2.1,I y.1.data]],73,false⟩),(10,⟨9,[[ct,ct,ct,ct,B false,ct,I 0,I 0,I 0]],42,false⟩)]) (fun y _ A=>((match y.2.1 with
  |none=>tg c fu y.1/\(∃k,DM c now fu k y.1=X/\jI fu y.1<k)/\y.2.2.1=y.1.wait.map cR/\jI fu y.1+y.2.2.2<=5000
  |some e=>X.2=some e/\y.2.2.2<=5001))/\A 6=false/\A 7=false/\A 10=false) (fun y=>match y.2.1 with
  |none=>jI fu y.1+1
  |some _=>0) (m,none,m.wait.map cR,0) ?_ ?_ ?_ ?_
 ·exact⟨⟨t,⟨NM,a,l⟩,rfl,by unfold NM at l;simp only;omega⟩,by simp only[go_sem,Ls]⟩
 ·exact qe
 ·(simp only[go_sem,AI,DP,K'])
  try rfl
 try clear t a l
 rintro⟨m,e,W,n⟩ us es ⟨s,o,p,d⟩;simp only at s;rcases e with _|⟨k,Z⟩
 case some=>
  obtain⟨a,hn5⟩:=s;have P:=R k Z a;have z:(n:Int)<10000:=by omega
  rw[a];unfold AI PJ;simp only;have F:=g7 z P o p d;exact dT
 obtain⟨t,⟨k,a,l⟩,rfl,hn5⟩:=s;obtain⟨k,rfl⟩: ∃j,k=j+1:=⟨k-1,by omega⟩;have z:(n:Int)<10000:=by omega
 have K:IntKind.i64.wrap ((n:Int)+1)=((n+1:Nat):Int):=aD (show n<10000 by omega) (by omega);unfold DM at a;by_cases i:m.x.2.2.2.2=true
 ·rw[Lj i]at a;subst a;unfold AI DP;simp only;have F:=g7 z i o p d;exact dT
 rw[Lf i]at a;have i:m.x.2.2.2.2=false:=by simpa using i
 have f:=C m t [];have ha:=tK h J t i (ev:=[]);have O:=qq h J t i (ev:=[]);obtain⟨W1,b1,hr,T⟩:=Iu c now fu m [];rw[hr]at f;try clear hr
 rcases hA:tn c now fu m []with⟨⟨g,_|⟨V,H⟩⟩,b⟩
 case some=>
  rw[hA]at a f;simp only at a f;have r:X.2=some (V,H):=by rw[<-a]
  have P:=R _ _ r;have Q:((V:Int) != 0)=true:=by rw[bne,P];rfl
  unfold AI DP PJ K' at f;unfold AI DP;simp only at f |-;cases b1 with
  | true=>
    have F:=lP z K i Q o p d;repeat refine ef f ?_
    refine⟨(g,some (V,H),W1,n+1),⟨⟨r,by simp only;omega⟩,by simp only[go_sem,o,p,d,Ls]⟩,?_,?_,by simp only;omega⟩
    ·exact qe
    ·(simp only[go_sem,AI,PJ])
  | false=>
    have F:=lP z K i Q o p d;repeat refine ef f ?_
    refine⟨(g,some (V,H),W1,n+1),⟨⟨r,by simp only;omega⟩,by simp only[go_sem,o,p,d,Ls]⟩,?_,?_,by simp only;omega⟩
    ·exact qe
    ·(simp only[go_sem,AI,PJ])
 rw[hA]at a f ha O T;obtain⟨d1,d2,d3⟩:=ha rfl;obtain⟨f1,f2⟩:=O rfl;obtain⟨L,N⟩:=T rfl;simp only at a f d1 d2 d3 f1 f2 L N;subst L N;cases b1 with
 | true=>
   simp only at a;have f2:=f2 rfl;unfold AI DP K' at f;unfold AI DP;simp only at f |-;have F:=ip z K i o p d;repeat refine ef f ?_
   refine⟨(g,none,g.wait.map cR,n+1),⟨⟨d1,⟨k,a,show jI fu g<k by omega⟩,rfl,by simp only;omega⟩,by simp only[go_sem,o,p,d,Ls]⟩,?_,?_,by simp only;omega⟩
   ·exact qe
   ·(simp only[go_sem,AI,DP])
 |false=>
 obtain rfl:g=m:=by rcases d3 with⟨q,_⟩|⟨_,q⟩;cases q;exact q
 simp only at a;cases v:g.wait with
 | nil=>
   rw[v]at a;simp only at a;subst a;have q3:((g.wait.length:Int)==0)=true:=by rw[v];rfl
   rw[<-v];unfold AI DP K' at f;unfold AI DP;simp only at f |-;have F:=lP z K q3 i o p d;exact g9 f
 | cons e w=>
   rw[v]at a;simp only at a;have q3:((g.wait.length:Int)==0)=false:=by rw[v,Nt];simp only[MB];omega
   have q4:g.wait[0]? =some e:=by rw[v];rfl
   have q5:(0:Int)< (g.wait.length:Int):=by rw[v];simp only[MB];omega
   have q6:(1:Int)<=(g.wait.length:Int):=by omega
   have q7:(g.wait.drop 1).take (g.wait.length-1)=w:=by rw[v,List.drop_one,Q3,MB,OG,MC]
   have G:=D1 t v;have x:=C _ G e.1;have hb:=tK h J G i (ev:=e.1);have E:=qq h J G i (ev:=e.1);have hfl:jI fu { g with wait:=w,data:=e.2 } <jI fu g:=by unfold jI;rw[v];simp
   obtain⟨W2,b2,S,u⟩:=Iu c now fu { g with wait:=w,data:=e.2 } e.1;rw[S]at x;try clear S
   rw[<-v];rcases hB:tn c now fu { g with wait:=w,data:=e.2 } e.1 with⟨⟨Y,er⟩,b⟩;rw[hB]at a x hb E u;simp only at a x hb E u;rcases er with _|⟨k2,U⟩
   ·obtain⟨g1,_,_⟩:=hb rfl;obtain⟨h1,_⟩:=E rfl;obtain⟨hW2,_⟩:=u rfl;simp only at a h1;subst hW2;unfold AI DP K' at f x;unfold AI DP;simp only at f x |-;have F:=dk S5 z K q3 q4 q5 q6 q7 i o p d;repeat refine vb f x ?_
    refine⟨(Y,none,Y.wait.map cR,n+1),⟨⟨g1,⟨k,a,show jI fu Y<k by omega⟩,rfl,by simp only;omega⟩,by simp only[go_sem,o,p,d,Ls]⟩,?_,?_,by simp only;omega⟩
    ·exact qe
    ·(simp only[go_sem,AI,DP])
   simp only at a;have r:X.2=some (k2,U):=by rw[<-a]
   unfold AI DP K' at f;unfold AI DP PJ K' at x;unfold AI DP;simp only at f x |-;have F:=dk S5 z K q3 q4 q5 q6 q7 i o p d;repeat refine vb f x ?_
   refine⟨(Y,some (k2,U),W2,n+1),⟨⟨r,by simp only;omega⟩,by simp only[go_sem,o,p,d,Ls]⟩,?_,?_,by simp only;omega⟩
   ·exact qe
   ·(simp only[go_sem,AI,PJ])
end
section
def ub(env:b6){c:aq}(h:b8 c)(i:g6 c)(a:c.vars.length<=8){now:Int}(g:0<=now/\now<=1099511627776){fu:Nat}{x:pb}{d:Int}(e:bM c (D' x)=true)(f:aL d=true)(b:fu<=256):
 b7 prog env 8 [.agg (aA c), .agg (k0 x),I d,I now,I fu] (.agg (AI (sm c now fu x d).1 (sm c now fu x d).2)):=by
 have f0:=FY env h i a g (JV e f b);change b7 _ _ _ _ (.agg (AI (sm c now fu x d).1 (sm c now fu x d).2)) at f0;have f1:=f0.args (cs':=[.agg (aA c), .agg [b0 x.1,b0 x.2.1, .seq 2 (x.2.2.1.map eg), .seq 2 (x.2.2.2.1.map cR),B x.2.2.2.2,ct,I 0,I 0,I (-1)], .agg [ct,I d],I now,I fu]) (.cons (.refl _) (.cons (.agg (.cons (.refl _) (.cons (.refl _) (.cons (.refl _) (.cons (.refl _) (.cons (.refl _) (.cons (.nil 1) (.cons (.refl _) (.cons (.refl _) (.cons (.refl _) .nil)))))))))) (.cons (.agg (.cons (.nil 2) (.cons (.refl _) .nil))) (.cons (.refl _) (.cons (.refl _) .nil)))));try clear f0
 generalize sm c now fu x d=X at*;rcases X with⟨m,_|⟨k,j⟩⟩
 ·unfold AI DP aA at f1;unfold AI DP aA k0;simp only at f1 |-;refine qf func8 call8 ntmps8 results8 ?_;repeat refine jL f1 ?_
  exact p'
 unfold AI PJ aA at f1;unfold AI PJ aA k0;simp only at f1 |-;refine qf func8 call8 ntmps8 results8 ?_;repeat refine jL f1 ?_
 exact p'
end
section
def Mp(x:Nat×List Int):Prop:=(∃p,x.2=[p]/\ -1<=p)\/x.2=[-1, -1]\/x.2=[-1, -1, -1]
def Jj{e:Nat×List Int}(h:KP e):Mp (e.1, -1::e.2.headD (-1)::e.2.tail):=by
 rcases h with h|h
 ·exact .inr (.inl (by rw[h];rfl))
 exact .inr (.inr (by rw[h];rfl))
def LE{m:qa}{o:List Int}{r:List (List UInt8×Int)}{x:Nat×List Int}(h:(AT m o r).2=some x):Mp x:=by
 unfold AT at h;split at h<;>cases h;exact .inl ⟨-1,rfl,by omega⟩
def K3{c:aq}{now:Int}{F:Nat}{m:qa}{ev:List UInt8}{x:Nat×List Int}(h:(tn c now F m ev).1.2=some x):Mp x:=by
 unfold tn at h;split at h
 ·cases h;exact .inl ⟨_,rfl,by omega⟩
 ·cases h
 unfold o3 at h;simp only at h;split at h
 ·cases h;exact .inl ⟨-1,rfl,by omega⟩
 split at h
 ·rename_i r e a;cases h;exact Jj (Dn (by rw[a]))
 exact LE h
def JS{c:aq}{now:Int}{F:Nat}{x:Nat×List Int}(d:x.1≠0): ∀(n:Nat)(m:qa),(DM c now F n m).2=some x->Mp x
 |0,m,h=>by cases h;exact absurd rfl d
 | n+1,m,h=>by
   unfold DM at h;split at h
   ·cases h
   have a:=K3 (c:=c) (now:=now) (F:=F) (m:=m) (ev:=[]) (x:=x);rcases i:tn c now F m []with⟨⟨f,_|e⟩,_|_⟩<;>rw[i]at h a
   ·simp only at h;split at h
    ·cases h
    rename_i e w o;have g:=K3 (c:=c) (now:=now) (F:=F) (m:={ f with wait:=w,data:=e.2 }) (ev:=e.1) (x:=x);rcases j:tn c now F { f with wait:=w,data:=e.2 } e.1 with⟨⟨k,_|l⟩,b⟩<;>rw[j]at h g
    ·exact JS d n k h
    exact g h
   ·exact JS d n f h
   ·exact a h
   exact a h
section
variable {c:aq} (h:b8 c) {now:Int} (hn:0<=now/\now<=1099511627776) {F:Nat}
include h hn
theorem Ke{m:qa}(b:tg c F m){x:Nat×List Int}(e:(DM c now F NM m).2=some x):Mp x/\(x.1=2\/x.1=6\/x.1=8):=by
 have a:=KV h hn b _ e;exact⟨JS (by omega) NM m e,a⟩
end
end
section
end
section
end
section
def xi(l:List jn):Bool:=l.any fun a=>a.kind==2
def GR(c:aq):Bool:=(c.Z9.any fun s=>s.kind==3||xi s.ZW||xi s.out)||c.trans.any fun t=>xi t.Z1
section
variable {c:aq} (h:GR c=false)
include h
end
end
section
end
section
def RK(a:Nat->Addr)(c:aq)(x:pb)(d n f:Int):(∃(k:Nat) (ps:List Int),J9 c x d n f=k/\(k=1\/k=7)/\Bw (a 1) (a 7) c x d n f=fc (-1) (l5 ps (cf (a k))))\/(J9 c x d n f=0/\Bw (a 1) (a 7) c x d n f=h8/\bM c (D' x)=true/\x.2.2.2.2=false/\aL d=true/\tE n f=true):=by
 unfold Bw J9;split
 ·exact .inl ⟨1,[-1],rfl, .inl rfl,rfl⟩
 rename_i b;split
 ·exact .inl ⟨7,[],rfl, .inr rfl,rfl⟩
 rename_i e;split
 ·exact .inl ⟨1,[],rfl, .inl rfl,rfl⟩
 rename_i g;cases h:tE n f
 ·exact .inl ⟨1,[],rfl, .inl rfl,rfl⟩
 exact .inr ⟨rfl,rfl,by simpa using b,by simpa using e,by simpa using g,rfl⟩
end
section
def H6{c:aq}{ev:List UInt8}(h: ∀t∈c.trans,t.Z8≠ev)(i:Int)(j:Nat):g5 c i ev j=[]:=by
 unfold g5;rw[Nr];intro k _;unfold jA;split
 ·rename_i t a;rw[decide_eq_true_iff];exact fun q=>h t (Lh a) q.2
 simp
def rh{c:aq}{w:ph}{ev:List UInt8}(h: ∀t∈c.trans,t.Z8≠ev): ∀l,cv c w ev l= .no
 |[]=>rfl
 | k::l=>by
   unfold cv;rw[H6 h];exact rh h l
def pu{c:aq}{w:ph}{ev:List UInt8}(h: ∀t∈c.trans,t.Z8≠ev)(o:List Nat): ∀l,cM c w ev l o= .ok o
 |[]=>rfl
 | i::l=>by
   unfold cM;rw[rh h];exact pu h o l
def CJ{c:aq}{act:List Int}{w:ph}{ev:List UInt8}(h: ∀t∈c.trans,t.Z8≠ev)(a:List Nat):mo c act w ev a= .ok []:=by
 unfold mo;rw[pu h];rfl
def Hf{c:aq}{now:Int}{F:Nat}{m:qa}(b:m.x.2.2.2.2=false)(d:m.wait=[])(a:ir c m []= .ok []):DM c now F NM m=(m,none):=by
 show DM c now F (4999+1) m=_;unfold DM;rw[Lf (by rw[b];exact MW)];have:tn c now F m []=((m,none),false):=by unfold tn;rw[a]
 rw[this];simp only[d]
def zB{c:aq}{now:Int}{x:pb}{d:Int}(e:x.2.2.2.2=false)(a:(sm c now 0 x d).2=none):ir c (m0 x d) []= .ok []:=by
 unfold sm at a;rw[show NM=4999+1 from rfl]at a;unfold DM at a;rw[Lf (show ¬(m0 x d).x.2.2.2.2=true by rw[show (m0 x d).x.2.2.2.2=false from e];exact MW)]at a;unfold tn at a;cases b:ir c (m0 x d) []with
 |error n=>rw[b]at a;cases a
 | ok f=>
   cases f with
   |nil=>rfl
   | cons k l=>
     rw[b]at a;simp only at a;unfold o3 at a;rw[Lj (Lx _)]at a;cases a
def CI{c:aq}{now:Int}{F:Nat}{x:pb}{ev:List UInt8}{d:Int}(b:x.2.2.2.2=false)(h: ∀t∈c.trans,t.Z8≠ev)(a:ir c (m0 x d) []= .ok []):Qk c now F x ev d=(m0 x d,none):=by
 unfold Qk;have:tn c now F (m0 x d) ev=((m0 x d,none),false):=by unfold tn ir;rw[CJ h]
 rw[this];exact Hf b rfl a
end
end Go.Proofs.YtknkhdgfhbogdaaGreatDoor
