/- A case of layer 32 that came in. -/
import Derived.Test.YtbjldjekgepopaaGreatDoorT29
set_option maxRecDepth 100000
set_option maxHeartbeats 16000000
set_option linter.unusedSimpArgs false
namespace Go.Proofs.YtbjldjekgepopaaGreatDoor
open Go.Proofs.Tryz
section
open Go.RowKit
theorem Ht {n f:Int} (h:AW n f=true):(0<=n/\n<=1099511627776)/\ ∃fu:Nat,f=fu/\fu<=256:=by
 unfold AW at h;simp only[KY,K6]at h;exact⟨⟨h.1.1.1,h.1.1.2⟩,f.toNat,by omega,by omega⟩
theorem Ce {n:Int} {fu:Nat} (hn:0<=n/\n<=1099511627776) (hF:fu<=256):AW n fu=true:=by
 unfold AW;simp only[KY,K6];omega
theorem BX {env:Env} {a1 a2 a6 a8:Addr} {c:ChD} {now:Int} (E:MaEnv env a1 a2 a6 a8 c now) (hv: ∀v∈c.vars,aJ v.start=true) {fu:Nat} (hF:fu<=256):
 Con prog env 31 [aC c,I now,I fu] (lj a2 a6 a8 (Cf c now fu)):=by
 have f0:=pN env a1 a8 E.he [109,97,99,114,111,46,66,101,103,105,110] c now fu;rw[Ce E.hn hF,K0 rfl]at f0;have f1:=CY env a1 a2 a8 c now ⟨E.he,E.h2,E.h,E.hs,rfl,E.hn⟩ hv;have ha:=HT E.h E.hn hF hv;have hfr:=pU E.h E.hn hv;have her:=AL c 0 now ⟨[],c.vars.map (·.start),[],[],false,[],[]⟩ (zL (tbegL c (-1)));change xZ (cq c now).2 at her;unfold Cf;unfold aC at f0 f1 |-;rcases hX:cq c now with⟨r,_|⟨k,ps⟩⟩
 ·rw[hX]at f1 ha hfr;obtain⟨_,k2,_⟩:=hfr rfl;have ha:=ha rfl;have fa:=zW env a2 a6 a8 E.he.e8 c now fu (m0 (inR r) 0) r.outs r.rais (Ke _) (Ke _) k2.outs k2.rais;unfold tq at f1;simp only at f1 ha |-;rcases hY:addP (m0 (inR r) 0) r.outs r.rais with⟨m,_|⟨k,ps⟩⟩
  ·rw[hY]at fa ha;have fe:=o0 E (ha rfl) [109,97,99,114,111,46,66,101,103,105,110];show Con _ _ _ _ (lj a2 a6 a8 (onM c now fu NM m));generalize onM c now fu NM m=X at*;unfold m0 inR RQ RQe lS at fa;unfold RQ RQe at fe;simp only at fa fe;rcases X with⟨m1,_|⟨k,ps⟩⟩
   ·unfold Br ovM inE at fe;unfold lj inE;simp only at fe |-;refine qf func31 call31 ntmps31 results31 ?_;have F:=gr2.eq_1
    iterate 47 (first|refine st ?_|refine cC f0 ?_|refine cC f1 ?_)
    show awp _ _ _ _ _ _;refine nC 35 9005 0 6 33 2 ?_;refine nC 35 9004 0 7 3 1 ?_;repeat refine st ?_
    refine iL [(1000,35),(1001,9004),(1002,9005)] fa ?_;repeat refine st ?_
    refine iL [(1000,35),(1001,9004),(1002,9005)] fe ?_;repeat refine st ?_
    exact aR
   ·unfold Br ovM b9 ir dO at fe;unfold lj b9 ir dO;simp only at fe |-;refine qf func31 call31 ntmps31 results31 ?_;have F:=gr2.eq_1
    iterate 47 (first|refine st ?_|refine cC f0 ?_|refine cC f1 ?_)
    show awp _ _ _ _ _ _;refine nC 35 9005 0 6 33 2 ?_;refine nC 35 9004 0 7 3 1 ?_;repeat refine st ?_
    refine iL [(1000,35),(1001,9004),(1002,9005)] fa ?_;repeat refine st ?_
    refine iL [(1000,35),(1001,9004),(1002,9005)] fe ?_;repeat refine st ?_
    exact aR
  ·rw[hY]at fa;have fe:=o4 env (fun a b=>RQe c now fu false m fun k=>if k=1001 then a else b) (m.said.map intAV) (m.wait.map tmAV) [109,97,99,114,111,46,66,101,103,105,110] (ps.headD (-1)) (chainV ps.tail (sentV (if k=2 then a2 else if k=6 then a6 else a8)));show Con _ _ _ _ (b9 (errV (-1) (errV (ps.headD (-1)) (chainV ps.tail (sentV (if k=2 then a2 else if k=6 then a6 else a8))))));unfold m0 inR RQ RQe lS at fa;unfold RQe b9 ir dO at fe;unfold b9 ir dO;simp only[L4,Nat.reduceEqDiff,Lf]at fa fe;refine qf func31 call31 ntmps31 results31 ?_;have F:=gr2.eq_1
   iterate 47 (first|refine st ?_|refine cC f0 ?_|refine cC f1 ?_)
   show awp _ _ _ _ _ _;refine nC 35 9005 0 6 33 2 ?_;refine nC 35 9004 0 7 3 1 ?_;repeat refine st ?_
   refine iL [(1000,35),(1001,9004),(1002,9005)] fa ?_;repeat refine st ?_
   refine iL [(1000,35),(1001,9004),(1002,9005)] fe ?_;repeat refine st ?_
   exact aR
 ·rw[hX]at f1 her;have hk:=her (k,ps) rfl
  have ea:cN a2 a8 (some (k,ps))=errV (ps.headD (-1)) (chainV ps.tail (sentV (if k=2 then a2 else if k=6 then a6 else a8))):=by
   unfold cN;simp only;rcases hk with rfl|rfl<;>rfl
  unfold tq at f1;simp only[ea]at f1;have fe:=o4 env (fun a b=>[.ref 9 [tabCells c] 0 0,nilS,nilS,nilS,nilS,B false, .row 1002 b, .row 1001 a,I 0,B false,I 0,I now,I fu]) [] [] [109,97,99,114,111,46,66,101,103,105,110] (-1) (errV (ps.headD (-1)) (chainV ps.tail (sentV (if k=2 then a2 else if k=6 then a6 else a8))));show Con _ _ _ _ (b9 (errV (-1) (errV (-1) (errV (ps.headD (-1)) (chainV ps.tail (sentV (if k=2 then a2 else if k=6 then a6 else a8)))))));unfold b9 ir dO at fe |-;generalize chainV ps.tail _=V at*;refine qf func31 call31 ntmps31 results31 ?_;have F:=gr2.eq_1
  iterate 47 (first|refine st ?_|refine cC f0 ?_|refine cC f1 ?_)
  show awp _ _ _ _ _ _;refine nC 35 9005 0 6 33 2 ?_;refine nC 35 9004 0 7 3 1 ?_;repeat refine st ?_
  refine iL [(1000,35),(1001,9004),(1002,9005)] fe ?_;repeat refine st ?_
  exact aR
end
section
open Go.RowKit
def wakeQ:ChD:=⟨[99],0,[],[⟨[97],1, -1, -1,[],[]⟩,⟨[98],1, -1, -1,[],[]⟩],[⟨0,[120],[],[⟨2,0,[121],[⟨1,1⟩]⟩], -1⟩,⟨0,[121],[],[],1⟩]⟩
def Cj:List AV:=[Sg [99],I 0,nilS, .seq 6 [[Sg [97],I 1,I (-1),I (-1),nilS,nilS],[Sg [98],I 1,I (-1),I (-1),nilS,nilS]], .seq 5 [[I 0,Sg [120],nilS, .seq 4 [[I 2,I 0,Sg [121], .seq 2 [[I 1,I 1]]]],I (-1)],[I 0,Sg [121],nilS,nilS,I 1]]]
theorem Cs (n:List UInt8) (k p i:Int):Strs [Sg n,I k,I p,I i,nilS,nilS] (aL ⟨n,k,p,i,[],[]⟩):= .cons (.refl _) (.cons (.refl _) (.cons (.refl _) (.cons (.refl _) (.cons (.nil 4) (.cons (.nil 4) .nil)))))
theorem Dz:Strs [.agg Cj] [.agg (aA wakeQ)]:=by
 refine .one (.agg (.cons (.refl _) (.cons (.refl _) (.cons (.nil 2) (.cons (.seqs ?_) (.cons (.seqs ?_) .nil))))))
 ·exact .cons (Cs ..) (.cons (Cs ..) .nil)
 ·exact .cons (.cons (.refl _) (.cons (.refl _) (.cons (.nil 2) (.cons (.refl _) (.cons (.refl _) .nil))))) (.cons (.cons (.refl _) (.cons (.refl _) (.cons (.nil 2) (.cons (.nil 4) (.cons (.refl _) .nil))))) .nil)
theorem EA:i6 wakeQ:=by simp[i6,tu,tt,gZ,qG,wakeQ,maxLen]
theorem uO:chk wakeQ=(0, -1):=by decide+kernel
def x0Q:InD:=([0],[],[],[],false)
theorem yo:ap wakeQ (rcI x0Q)=true:=by decide+kernel
theorem Dx:Cf wakeQ 0 9=(m0 x0Q 0,none):=by kernel_rfl
theorem Fw:io wakeQ 0 9 x0Q [120] 0=(⟨([1],[],[],[],false),[],2,[],1⟩,none):=by kernel_rfl
theorem rB (env:Env) (n:List UInt8):Con prog env 38 [Sg n] (.agg [Sg n,I 1,I (-1),I (-1),nilS,nilS]):=by
 refine qf func38 call38 ntmps38 results38 ?_;repeat refine st0 ?_
 exact aR0
theorem pd (env:Env) (a1 a2 a6 a7 a8:Addr) (he:ChEnv env a1 a8) (h2:env 2=some (sentV a2)) (h6:env 6=some (sentV a6)) (h7:env 1=some (sentV a7)) (hT: ∀W,env.inv W->TabAt W):Con prog env 14 [] (B true):=by
 have h0:(chk wakeQ).1=0:=by rw[uO]
 have h:=full_of h0;have hs:=mz h0;have E:MaEnv env a1 a2 a6 a8 wakeQ 0:=⟨he,h2,h6,h,hs,by omega⟩;have f0:=(uU env a1 a8 he hT wakeQ uO EA).args Dz;have f1:=BX E (by simp[wakeQ]) (fu:=9) (by omega);have fr:=iO env a1 a7 a8 he h7 wakeQ h hs x0Q ⟨by simp[rcI,x0Q],by simp[rcI,x0Q],by simp[rcI,x0Q],by simp[rcI,x0Q]⟩ (by simp[x0Q]) (by simp[x0Q]) [109,97,99,114,111,46,83,101,110,100] 0 0 (9:Nat);rw[show t7 a1 a7 wakeQ x0Q 0 0 (9:Nat)=nilE by unfold t7;rw[yo];rfl]at fr;have f2:=ue E (x:=x0Q) (ev:=[120]) (d:=0) yo rfl rfl (fu:=9) (by omega) rfl fr;rw[Dx]at f1;rw[Fw]at f2
 have f4:Con prog env 30 [.seq 1 [[I 1]], .seq 1 [[I 1]]] (B true):=by
  have:=vx env [1] [1] (by decide);rw[LC rfl]at this;exact this
 have p1:=rB env [97];have p2:=rB env [98];unfold Cj at f0;unfold lj m0 at f1;unfold lj at f2;unfold inE at f1 f2;unfold x0Q at f1 f2;simp only[Lt,LI]at f1 f2;unfold ints34 at f1 f2;unfold aC at f0 f1 f2;generalize tabCells wakeQ=T at*;refine qf func14 call14 ntmps14 results14 ?_;repeat refine JE p1 p2 f0 f1 f2 f4 ?_
 exact aR0
end
section
open Go.RowKit
theorem InstFew.fewI {c:ChD} {x:InD} (k:InstFew c x):Ca x/\LiteI (rcI x):=by
 have hml:maxLen=9223372036854775807:=rfl;have h1:=k.act;have h2:=k.vars;have h3:=k.mem;have h4:=k.tms;refine⟨⟨⟨by omega,by omega⟩,⟨by omega,fun m hm=> ?_⟩,by omega,fun t ht=> ?_⟩,⟨show x.1.length<=1000000 by omega,show x.2.1.length<=1000000 by omega,show x.2.2.1.length<=1000000 by omega,show x.2.2.2.1.length<=9223372036854775807 by omega⟩⟩
 ·have:=(k.mems m hm).2;unfold Hk;omega
 ·have:=k.nms t ht;unfold ml;omega
theorem qy (a1 a7:Addr) (c:ChD) (x:InD) (d n f:Int):(∃p e,t7 a1 a7 c x d n f=errV p e)\/(t7 a1 a7 c x d n f=nilE/\ap c (rcI x)=true/\x.2.2.2.2=false/\aJ d=true/\AW n f=true):=by
 unfold t7;split
 ·exact .inl ⟨_,_,rfl⟩
 rename_i h1;split
 ·exact .inl ⟨_,_,rfl⟩
 rename_i h2;split
 ·exact .inl ⟨_,_,rfl⟩
 rename_i h3;split
 ·rename_i h4;exact .inr ⟨rfl,by simpa using h1,by simpa using h2,by simpa using h3,h4⟩
 ·exact .inl ⟨_,_,rfl⟩
theorem zG {c:ChD} {x:InD} (hg:jl c=true) (hr:ic c x=false):x.1.length<=60/\x.2.2.1.length<=60/\x.2.1.length<=60:=by
 unfold ic at hr;rw[hg,MR,Lu,My,My,LN,LN,LN]at hr;omega
theorem nu (ad:Nat->Addr) (c:ChD) (hcf:i6 c) (x:InD) (hx:oD x) (ev:List UInt8) (d n f:Int) (k:Int) (hk:0<=k/\k<=255):Con prog (aY ad ab) 4 [.agg (eL c x ev d n f), .lit (.int .u8 k)] (B true):=by
 have he:=z7 ad;have hT:=uo ad;have h2:aY ad ab 2=some (sentV (ad 2)):=rfl;have h6:aY ad ab 6=some (sentV (ad 6)):=rfl;have h7:aY ad ab 1=some (sentV (ad 7)):=rfl;have fa:=pd (aY ad ab) (ad 1) (ad 2) (ad 6) (ad 7) (ad 8) he h2 h6 h7 hT;have fr:=pA (aY ad ab) c x ev d n f;cases hg:jl c with
 | false=>
   have fm:=pM (aY ad ab) c hg;unfold ic at fr;rw[hg,Li,MD,MD,MD]at fr;unfold aA at fm;unfold eL at fr |-;refine qf func4 call4 ntmps4 results4 ?_;repeat refine Aa fm fr fa ?_
   exact aR0
 |true=>
 have h:=vD hg;have hs:=mz (DY hg);have fm:=rQ (aY ad ab) (ad 1) (ad 8) he hT c hcf hg;unfold aA aC at fm;cases hr:ic c x with
 | true=>
   rw[hr]at fr;unfold eL at fr |-;refine qf func4 call4 ntmps4 results4 ?_;repeat refine Aa fm fr fa ?_
   exact aR0
 |false=>
 rw[hr]at fr;obtain⟨l1,l2,l3⟩:=zG hg hr;obtain⟨hF,hTm⟩:=zq hx;have hL:LiteI (rcI x):=⟨show x.1.length<=1000000 by omega,show x.2.1.length<=1000000 by omega,show x.2.2.1.length<=1000000 by omega,hTm.2⟩;have hnm: ∀t∈x.2.2.2.1,t.1.length<=9223372036854775807:=fun t ht=>lm (hx.1.2.2.2 t ht);have fy:=fun f=>iO (aY ad ab) (ad 1) (ad 7) (ad 8) he h7 c h hs x hL hnm hF [109,97,99,114,111,46,83,101,110,100] d n f;rcases qy (ad 1) (ad 7) c x d n f with⟨p,e,hy⟩|⟨hy,b1,b2,b3,b4⟩
 ·have f1:=fy f;rw[hy]at f1;have f2:=BS (aY ad ab) c x ev d n f p e f1;unfold b9 ir dO errV aC inE at f2;unfold eL at fr |-;refine qf func4 call4 ntmps4 results4 ?_;repeat refine Ju fm fr f2 fa ?_
  exact aR0
 obtain⟨hn,fu,rfl,hfu⟩:=Ht b4
 have rdy: ∀F:Nat,F<=256->Con prog (aY ad ab) 40 [Sg [109,97,99,114,111,46,83,101,110,100],aC c, .agg (inE x),I d,I n,I F] nilE:=fun F hF=>by
  have:=fy F;rw[show t7 (ad 1) (ad 7) c x d n F=nilE by unfold t7;rw[b1,b2,b3,Ce hn hF];rfl]at this;exact this
 cases hnb:nmB ev with
 | false=>
   have f2:=BR (aY ad ab) (ad 1) (ad 8) he c x ev hnb d n fu (rdy fu hfu);unfold b9 ir dO errV aC inE at f2;unfold eL at fr |-;refine qf func4 call4 ntmps4 results4 ?_;repeat refine Ju fm fr f2 fa ?_
   exact aR0
 |true=>
 have E:MaEnv (aY ad ab) (ad 1) (ad 2) (ad 6) (ad 8) c n:=⟨he,h2,h6,h,hs,hn⟩;have fs:=fun(F:Nat) (hF:F<=256)=>ue E (ev:=ev) b1 b2 b3 hF hnb (rdy F hF);have f1:=fs fu hfu;have hm:=Fq b1 b3 hfu;have hok:=IM h hn hm b2 (ev:=ev);have hsf:=fun F' (hF:fu<=F')=>EW hF (c:=c) (now:=n) (x:=x) (ev:=ev) (d:=d);have hle:=fun F1 (hF:F1<=fu)=>EV h hn hF hm b2 (ev:=ev);rcases hX:io c n fu x ev d with⟨m,_|⟨j,ps⟩⟩
 case some=>
  rw[hX]at f1;unfold lj b9 ir dO errV at f1;unfold aC inE at f1;simp only at f1;unfold eL at fr |-;refine qf func4 call4 ntmps4 results4 ?_;repeat refine Ju fm fr f1 fa ?_
  exact aR0
 rw[hX]at f1 hok hsf hle;have hmo:MaOk c fu m:=hok rfl;obtain⟨fu2,hfu2⟩: ∃z:Nat,z=min (fu+k.toNat) 256:=⟨_,rfl⟩;have hle2:fu<=fu2:=by omega
 have f2:=fs fu2 (by omega);rw[hsf fu2 hle2 rfl]at f2;have q1:IntKind.i64.wrap ((fu:Int)+k)=(fu:Int)+k:=ae (by omega) (by omega);have q2:(if (256:Int)< (fu:Int)+k then(256:Int) else(fu:Int)+k)=(fu2:Int):=by split<;>omega
 have q3:IntKind.i64.wrap k=k:=ae (by omega) (by omega);have kf:=(gy h hs.vars (eS hmo.inst)).fewI;have f3:=pG (aY ad ab) m.x.1 m.x.2.1 m.x kf.1 rfl rfl;rw[show ((m.x.1==m.x.1)&&(m.x.2.1==m.x.2.1))=true by simp]at f3;have hst:=hmo.steps;have q4: ¬(fu:Int)< (m.steps:Int):=by omega
 unfold lj at f1 f2;unfold aC inE at f1 f2;unfold inE at f3;simp only at f1 f2;by_cases h0:m.steps=0
 ·have q5:((m.steps:Int)==0)=true:=by simp[h0]
  unfold eL at fr |-;refine qf func4 call4 ntmps4 results4 ?_;have F:=ai5 q1 q2 q3 q4 q5;repeat refine tz6 fm fr f1 f2 f3 fa ?_
  exact aR
 have q5:((m.steps:Int)==0)=false:=by rw[ND];omega
 have q6:IntKind.i64.wrap ((m.steps:Int)-1)=((m.steps-1:Nat):Int):=by rw[ae (by omega) (by omega)];omega
 have f4:=fs (m.steps-1) (by omega);have hless:=hle (m.steps-1) (by omega) rfl (show m.steps-1<m.steps by omega);rcases hZ:io c n (m.steps-1) x ev d with⟨m3,e3⟩;rw[hZ]at hless f4;simp only at hless;subst hless;have f5:Con prog (aY ad ab) 18 [errV (-1) (errV (-1) (sentV (ad 6))),I 6] (B true):=jx ad ab 6 (by omega) (-1) [-1];change Con _ _ _ _ (b9 (errV (-1) (errV (-1) (sentV (ad 6))))) at f4;unfold b9 ir dO at f4;unfold aC inE at f4;generalize sentV (ad 6)=V at*;unfold eL at fr |-;refine qf func4 call4 ntmps4 results4 ?_;have F:=ai6 q1 q2 q3 q4 q5 q6;repeat refine tz8 fm fr f1 f2 f3 f4 f5 fa ?_
 exact aR
end
section
open Go.RowKit Go.ChangeShapes Go.WideShapes Go.ChangeAt Go.Deep
theorem Iu:prog.cellsOf 35=14:=by kernel_rfl
theorem JQ:prog.cellsOf 33=2:=by kernel_rfl
theorem Ja {l:List Value} (h:l.length=14): ∃a b c d e f g i j k m n o p,l=[a,b,c,d,e,f,g,i,j,k,m,n,o,p]:=by
 match l,h with
 |[a,b,c,d,e,f,g,i,j,k,m,n,o,p],_=>exact⟨a,b,c,d,e,f,g,i,j,k,m,n,o,p,rfl⟩
section
variable {H:Type} {enc:TypeId×Value->H} {w:World} {base:Nat} {spare:Nat->Bool} {held:Bool}
theorem GZ (m:Nat) (cs:List Value) (y:DataW H×List MemPlace) (h:DataW.trod enc prog w base spare held m 33 cs=some y): ∃a:List UInt8×Int,RE w tmAV ml cs a:=by
 obtain⟨xs,n,_,_,hl,hxl,hg⟩:=MS Tryz.underlying33 h;rw[JQ]at hl;obtain⟨c0,c1,rfl⟩:=B6 hl;obtain⟨y0,h0⟩:=bL hxl hg 0 _ rfl 9 0 1 rfl rfl iA;obtain⟨x0,e0, -,s0⟩:=Mz Tryz.underlying9 (show DataW.trod enc prog w base spare held n 9 [c0]=some y0 from h0);cases e0;obtain⟨⟨t0⟩⟩:=x0;obtain⟨y1,h1⟩:=bL hxl hg 1 _ rfl 3 1 1 rfl rfl c_int;obtain⟨x1,e1, -, -⟩:=Lr Tryz.underlying3 (show DataW.trod enc prog w base spare held n 3 [c1]=some y1 from h1);cases e1;exact⟨(t0,x1),⟨⟨rfl, .lit _⟩,⟨rfl, .lit _⟩,trivial⟩,(by simpa[ml,ByteArray.size]using s0)⟩
theorem rD {r0:Reach} {b0:Nat} {v:Value} {d:DataW H} {p:List MemPlace} (hv:Value.okWide prog w r0 b0 35 v) (hw:WB prog 35 d) (h:DataW.Trod enc prog w base spare held 35 v d p):
 ∃(c:ChD) (x:InD) (ev:List UInt8) (dt n f:Int),i6 c/\oD x/\RV (fun b _=>b<w.heap.size) w v (.agg (eL c x ev dt n f)):=by
 obtain⟨cs,rfl,hsz⟩:=okWide_struct Tryz.underlying35 hv;obtain⟨l⟩:=cs;obtain⟨fuel,hf⟩:=h;obtain⟨xs,n,_,hx,hl,hxl,hg⟩:=MS Tryz.underlying35 hf;rw[Iu]at hl;obtain⟨c0,c1,c2,c3,c4,c5,c6,c7,c8,c9,c10,c11,c12,c13,rfl⟩:=Ja (show l.length=14 from hl);have hxk:xs.length=5:=hxl;have hd:d= .agg (xs.map (·.1)):=Kx (·.1) hx;rw[hd]at hw;obtain⟨y0,h0⟩:=bL hxl hg 0 _ rfl 26 0 5 rfl rfl KR;obtain⟨c,q1,q2⟩:=IX _ _ _ h0;obtain⟨y1,hy1⟩: ∃z,xs[1]? =some z:=⟨xs[1]'(by omega),KV _⟩
 have h1:DataW.trod enc prog w base spare held n 31 [c5,c6,c7,c8,c9]=some y1:=by
  have:=hg 1 _ rfl;exact Eq.trans (show DataW.trod enc prog w base spare held n 31 [c5,c6,c7,c8,c9]=xs[1]? from this) hy1
 have hw1:WB prog 31 y1.1:=WB.part (i:=1) Tryz.underlying35 hw rfl (by rw[K5,hy1];rfl);obtain⟨x,k1,k2⟩:=BM _ _ _ h1 hw1;obtain⟨y2,h2⟩:=bL hxl hg 2 _ rfl 33 10 2 rfl rfl JQ;obtain⟨e,k3, -⟩:=GZ _ _ _ h2;obtain⟨y3,h3⟩:=bL hxl hg 3 _ rfl 3 12 1 rfl rfl c_int;obtain⟨x3,e3, -, -⟩:=Lr Tryz.underlying3 (show DataW.trod enc prog w base spare held n 3 [c12]=some y3 from h3);cases e3;obtain⟨y4,h4⟩:=bL hxl hg 4 _ rfl 3 13 1 rfl rfl c_int;obtain⟨x4,e4, -, -⟩:=Lr Tryz.underlying3 (show DataW.trod enc prog w base spare held n 3 [c13]=some y4 from h4);cases e4;exact⟨c,x,e.1,e.2,x3,x4,q2,k2,RVs.agg (show RVs _ w ([c0,c1,c2,c3,c4]++([c5,c6,c7,c8,c9]++([c10,c11]++[.int .i64 x3, .int .i64 x4]))) (aA c++(inE x++(tmAV e++[I x3,I x4]))) from RVs.app q1 (RVs.app k1 (RVs.app k3 ⟨⟨rfl, .lit _⟩,⟨rfl, .lit _⟩,trivial⟩)))⟩
end
end

end Go.Proofs.YtbjldjekgepopaaGreatDoor