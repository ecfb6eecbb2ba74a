/- The sort of timers by their names. -/
import Derived.Test.YtdpjgflalmnkdaaGreatDoorT23
import Derived.Shelf.SlSortCmp.NoneTotal
set_option linter.unusedSimpArgs false
namespace Go.Proofs.YtdpjgflalmnkdaaGreatDoor
open Go.Proofs.Tryz
open Go.RowKit
set_option maxRecDepth 100000
set_option maxHeartbeats 8000000
theorem fG (env:Env) (b:Bool):Con prog env 233 [B b] (I (trI b)):=by
 cases b
 ·show Con _ _ _ _ (I 0);refine qf func233 call233 ntmps233 results233 ?_;repeat refine st0 ?_
  exact aR0
 ·show Con _ _ _ _ (I 1);refine qf func233 call233 ntmps233 results233 ?_;repeat refine st0 ?_
  exact aR0
theorem I2 (a b:Int):a-a.tdiv b*b=a.tmod b:=by
 rw[Int.tmod_def,Int.mul_comm]
theorem wE {a b:Int} (ha:aL a=true) (hb:aL b=true):Big (a.tdiv b*b):=Cu (kl ha) hb
theorem BF (env:Env) (k a b:Int) (hk:7<=k/\k<=19) (ha:aL a=true) (hb:aL b=true):Con prog env 235 [I k,I a,I b] (.tuple [I (binI k a b).1,B (binI k a b).2]):=by
 have hbig:=(sM k ha hb).1;by_cases h7:k=7
 ·subst h7;have f0:=dV env (a*b);have q1:IntKind.i64.wrap (a*b)=a*b:=gA hbig;show Con _ _ _ _ (.tuple [I (a*b),B (aL (a*b))]);refine qf func235 call235 ntmps235 results235 ?_;have F:=q1;repeat refine tz1 f0 ?_
  exact aR
 by_cases h89:k=8\/k=9
 ·by_cases h0:b=0
  ·subst h0;have q1:binI k a 0=(0,false):=by rcases h89 with rfl|rfl<;>rfl
   rw[q1];rcases h89 with rfl|rfl
   ·refine qf func235 call235 ntmps235 results235 ?_;repeat refine st0 ?_
    exact aR0
   ·refine qf func235 call235 ntmps235 results235 ?_;repeat refine st0 ?_
    exact aR0
  have q0:(b==0)=false:=by simpa using h0
  have q2:=kj (kl (b:=b) ha);rcases h89 with rfl|rfl
  ·have q1:binI 8 a b=(a.tdiv b,true):=by simp[binI,h0]
   rw[q1];refine qf func235 call235 ntmps235 results235 ?_;have F:=ai3 q0 q2 h0;repeat refine st ?_
   exact aR
  ·have q1:binI 9 a b=(a.tmod b,true):=by simp[binI,h0]
   have q3:=gA (wE (b:=b) ha hb);have q4:IntKind.i64.wrap (a-a.tdiv b*b)=a.tmod b:=by rw[I2];exact kj (ua ha)
   rw[q1];refine qf func235 call235 ntmps235 results235 ?_;have F:=ai5 q0 q2 q3 q4 h0;repeat refine st ?_
   exact aR
 by_cases h10:k=10
 ·subst h10;have f0:=dV env (a+b);have q1:IntKind.i64.wrap (a+b)=a+b:=gA hbig;show Con _ _ _ _ (.tuple [I (a+b),B (aL (a+b))]);refine qf func235 call235 ntmps235 results235 ?_;have F:=q1;repeat refine tz1 f0 ?_
  exact aR
 by_cases h11:k=11
 ·subst h11;have f0:=dV env (a-b);have q1:IntKind.i64.wrap (a-b)=a-b:=gA hbig;show Con _ _ _ _ (.tuple [I (a-b),B (aL (a-b))]);refine qf func235 call235 ntmps235 results235 ?_;have F:=q1;repeat refine tz1 f0 ?_
  exact aR
 by_cases h18:k=18
 ·subst h18;show Con _ _ _ _ (.tuple [I (trI (a != 0&&b != 0)),B true]);have f0:=fG env (a != 0);have f1:=fG env (b != 0);have q1:IntKind.i64.wrap (trI (a != 0)*trI (b != 0))=trI (a != 0&&b != 0):=by cases (a != 0)<;>cases (b != 0)<;>rfl
  generalize (a != 0&&b != 0)=t at*;refine qf func235 call235 ntmps235 results235 ?_;have F:=q1;repeat refine tz2 f0 f1 ?_
  exact aR
 by_cases h19:k=19
 ·subst h19;show Con _ _ _ _ (.tuple [I (trI (a != 0||b != 0)),B true]);have f0:=fG env (a != 0||b != 0);cases h0:(a != 0)
  ·rw[h0]at f0;refine qf func235 call235 ntmps235 results235 ?_;have F:=h0;repeat refine tz1 f0 ?_
   exact aR
  ·rw[h0]at f0;refine qf func235 call235 ntmps235 results235 ?_;have F:=h0;repeat refine tz1 f0 ?_
   exact aR
 have q1:binI k a b=(trI (cmpB k a b),true):=by
  unfold binI;rw[K2 h7,K2 (by omega),K2 (by omega),K2 h10,K2 h11,K2 h18,K2 h19]
 rw[q1];have f1:=fG env (cmpB k a b);obtain rfl|rfl|rfl|rfl|rfl|rfl:k=12\/k=13\/k=14\/k=15\/k=16\/k=17:=by omega
 ·have q2:cmpB 12 a b=decide (a<b):=rfl;rw[q2]at f1 |-;refine qf func235 call235 ntmps235 results235 ?_;repeat refine kB f1 ?_
  exact aR0
 ·have q2:cmpB 13 a b=decide (b<a):=rfl;rw[q2]at f1 |-;refine qf func235 call235 ntmps235 results235 ?_;repeat refine kB f1 ?_
  exact aR0
 ·have q2:cmpB 14 a b= !decide (b<a):=by show decide (a<=b)=_;rw[LC];simp[PS]
  rw[q2]at f1 |-;refine qf func235 call235 ntmps235 results235 ?_;repeat refine kB f1 ?_
  exact aR0
 ·have q2:cmpB 15 a b= !decide (a<b):=by show decide (b<=a)=_;rw[LC];simp[PS]
  rw[q2]at f1 |-;refine qf func235 call235 ntmps235 results235 ?_;repeat refine kB f1 ?_
  exact aR0
 ·have q2:cmpB 16 a b=(a==b):=rfl;rw[q2]at f1 |-;refine qf func235 call235 ntmps235 results235 ?_;repeat refine kB f1 ?_
  exact aR0
 ·have q2:cmpB 17 a b=(a != b):=rfl;rw[q2]at f1 |-;refine qf func235 call235 ntmps235 results235 ?_;repeat refine kB f1 ?_
  exact aR0
theorem E1 (env:Env) (code:List OpD) (n:Nat) (hn:n<=code.length) (h32:code.length<=32):Con prog env 234 [opsAV code,I ((n:Int)-1)] (I (lastTo code n 1:Nat)):=by
 refine qf func234 call234 ntmps234 results234 ?_;repeat refine st0 ?_
 refine lp0 (D:=Nat×Int) (fun d _=>[(0,opsAV code),(5,I d.2),(6,I ((d.1:Int)-1))]) (fun _ _=>[]) (fun d _ _=>d.1<=n/\lastTo code d.1 d.2=lastTo code n 1/\d.2+(d.1:Int)<=1+(n:Int)/\1-2*(n:Int)<=d.2-2*(d.1:Int)) (fun d=>d.1) (n,1) ⟨Kc _,rfl,by simp only;omega,by simp only;omega⟩ ?_;rintro⟨j,need⟩ vs esc ⟨hj,he,b1,b2⟩;simp only at hj he b1 b2
 match j,hj,he,b1,b2 with
 | 0,hj,he,b1,b2=>
   have g1: ¬(0:Int)<=((0:Nat):Int)-1:=by omega
   rw[<-he];show awp _ _ _ _ _ _;have e0:(lastTo code 0 need:Nat)=0:=rfl;rw[e0];have F:=g1;repeat refine st ?_
   exact aR
 | j+1,hj,he,b1,b2=>
   obtain⟨o,ho,_⟩:=aQ (show j<code.length by omega);have hop:=j5 o.kind;have f0:=d5 env o.kind;have g0:((j+1:Nat):Int)-1=(j:Int):=by omega
   have g1:(0:Int)<=(j:Int):=by omega
   have g2:(j:Int)< (code.length:Int):=by omega
   have w1:IntKind.i64.wrap (need-1)=need-1:=aU (by omega) (by omega);have w2:IntKind.i64.wrap (need-1+aF o.kind)=need-1+aF o.kind:=aU (by omega) (by omega);have w3:IntKind.i64.wrap ((j:Int)-1)=(j:Int)-1:=aU (by omega) (by omega)
   have hst:lastTo code (j+1) need=if need-1+aF o.kind=0 then j else lastTo code j (need-1+aF o.kind):=by
    conv=>lhs;unfold lastTo
    rw[ho]
   rw[hst]at he;by_cases h0:need-1+aF o.kind=0
   ·rw[K5 h0]at he;rw[<-he];have b0:(need-1+aF o.kind==0)=true:=by simpa using h0
    have F:=ai9 bR.eq_1 ho g0 g1 g2 w1 w2 w3 b0;repeat refine tz1 f0 ?_
    exact aR
   ·rw[K2 h0]at he;have b0:(need-1+aF o.kind==0)=false:=by simpa using h0
    have F:=ai9 bR.eq_1 ho g0 g1 g2 w1 w2 w3 b0;repeat refine tz1 f0 ?_
    exact qn (j,need-1+aF o.kind) ⟨by simp only;omega,he,by simp only;omega,by simp only;omega⟩
theorem yT (env:Env) (w:WoD) (hw:w.Ok) (hl:w.vars.length<=1000000):Con prog env 47 [.agg (dl w)] (B true):=by
 have f0:=dV env w.data;rw[hw.data]at f0
 have f1: ∀x∈w.vars,Con prog env 18 [I x] (B true):=fun x hx=>by
  have:=dV env x;rwa [hw.vars x hx]at this
 unfold dl;generalize List.map bCell w.act=X at*;refine qf func47 call47 ntmps47 results47 ?_;repeat refine st0 ?_
 refine lq0 w.vars.length (by omega) (fun j vs=>[(1, .loc 1 (vs 1) 0 0),(3,I j)]) (fun _ _=>[(1,⟨3,[[ints34 w.vars,I w.data, .seq 1 X]],99,false⟩)]) (fun _ _ _=>True) trivial ?_ ?_
 ·rintro j vs esc hlt g1 g2 _;obtain⟨x,hx⟩:=gE hlt;have f2:=f1 x (K4 hx);have F:=ai4 intAV.eq_1 g1 g2 hx;repeat refine tz1 f2 ?_
  exact qn (j+1) ⟨hlt,trivial⟩
 rintro vs esc g1 _;have F:=g1;repeat refine tz1 f0 ?_
 exact aR
theorem ku (env:Env) (w:WoD) (hw:w.Ok): ∀(f:Nat) (code:List OpD),code.length<=f->code.length<=32->hgt w.vars.length w.act.length code 0=some 1->Con prog env 194 [opsAV code, .agg (dl w)] (.tuple [I (treeF w f code).1,B (treeF w f code).2])
 | 0,code,hf,_,h=>by
   obtain rfl:code=[]:=Lz.1 (by omega);simp[hgt]at h
 | f+1,code,hf,h32,h=>by
   obtain⟨l,o,hco,hs,hl⟩:=tH h;have hlen:code.length=l.length+1:=by rw[hco];simp
   have hat:code[l.length]? =some o:=by rw[hco];simp
   have htk:code.take l.length=l:=by rw[hco];simp
   have hres:treeF w (f+1) code=treeF w (f+1) (l++[o]):=by rw[hco]
   have hnum:=CY hs;have k1:IntKind.i64.wrap ((code.length:Int)-1)=(l.length:Int):=(aU (by omega) (by omega)).trans (by omega);have k2:(l.length:Int)< (code.length:Int):=by omega
   have k3:(l.length:Int)<=(code.length:Int):=by omega
   rw[cV]at hres;obtain⟨k,n⟩:=o;simp only at hs hl hres;rcases lx hs with⟨b1,b2,b3⟩|⟨b1,b3,_⟩|⟨b1,b2,b3,_⟩
   ·simp only at b1 b2 b3;rw[K5 b2]at hres;rw[hres];unfold mF at hnum;simp only at hnum;obtain rfl|rfl|rfl|rfl:k=1\/k=2\/k=3\/k=4:=by omega
    ·show Con _ _ _ _ (.tuple [I n,B true]);refine qf func194 call194 ntmps194 results194 ?_;have F:=ai5 bR.eq_1 dl.eq_1 hat k1 k2;repeat refine st ?_
     exact aR
    ·have hnum:0<=n/\n<w.vars.length:=by simpa using hnum
     obtain⟨m,rfl⟩:=fJ hnum.1;have q1:(m:Int)< (w.vars.length:Int):=hnum.2;have q2:w.vars[m]? =some (w.vars.getD m 0):=by rw[Kv,KZ (by omega)];rfl
     show Con _ _ _ _ (.tuple [I (w.vars.getD ((m:Int).toNat) 0),B true]);rw[Ln];refine qf func194 call194 ntmps194 results194 ?_;have F:=ai8 bR.eq_1 dl.eq_1 intAV.eq_1 hat k1 k2 q1 q2;repeat refine st ?_
     exact aR
    ·show Con _ _ _ _ (.tuple [I w.data,B true]);refine qf func194 call194 ntmps194 results194 ?_;have F:=ai5 bR.eq_1 dl.eq_1 hat k1 k2;repeat refine st ?_
     exact aR
    ·have hnum:0<=n/\n<w.act.length:=by simpa using hnum
     obtain⟨m,rfl⟩:=fJ hnum.1;have q1:(m:Int)< (w.act.length:Int):=hnum.2;have q2:w.act[m]? =some (w.act.getD m false):=by rw[Kv,KZ (by omega)];rfl
     show Con _ _ _ _ (.tuple [I (trI (w.act.getD ((m:Int).toNat) false)),B true]);rw[Ln];have f0:=fG env (w.act.getD m false);generalize w.act.getD m false=t at*;refine qf func194 call194 ntmps194 results194 ?_;have F:=ai8 bR.eq_1 dl.eq_1 bCell.eq_1 hat k1 k2 q1 q2;repeat refine tz1 f0 ?_
     exact aR
   ·simp only at b1 b3;rw[b3]at hl;have hlf:l.length<=f:=by omega
    have f0:=ku env w hw f l hlf (by omega) hl;have hbig:=(iF hw f l hlf hl).1;generalize treeF w f l=T at*;unfold dl at f0 |-;rcases b1 with rfl|rfl
    ·rw[K2 (by omega),K5 rfl]at hres;rw[hres];have q1:IntKind.i64.wrap (0-T.1)=0-T.1:=gA (by unfold Big at hbig |-;omega);refine qf func194 call194 ntmps194 results194 ?_;have F:=ai8 Mq bR.eq_1 hat htk k1 k2 k3 q1;repeat refine tz1 f0 ?_
     exact aR
    ·rw[K2 (by omega),K2 (by omega),K5 rfl]at hres;rw[hres];have f1:=fG env (T.1==0);refine qf func194 call194 ntmps194 results194 ?_;have F:=ai7 Mq bR.eq_1 hat htk k1 k2 k3;repeat refine tz2 f0 f1 ?_
     exact aR
   ·simp only at b1 b2 b3;rw[b3]at hl;obtain⟨h1,h2,h3⟩:=su hl;rw[K2 (by omega),K2 (by omega),K2 (by omega)]at hres;have fl:=E1 env code l.length (by omega) h32;have ea:lastTo code l.length 1=lastTo l l.length 1:=by rw[hco];exact mK l _ _ _ (Kc _)
    rw[ea]at fl;generalize lastTo l l.length 1=p at*;have f0:=ku env w hw f (l.take p) (by rw[Kg];omega) (by rw[Kg];omega) h1;have f1:=ku env w hw f (l.drop p) (by rw[ME];omega) (by rw[ME];omega) h2;have fa:=iF hw f (l.take p) (by rw[Kg];omega) h1;have fb:=iF hw f (l.drop p) (by rw[ME];omega) h2;have q1:IntKind.i64.wrap ((l.length:Int)-1)=(l.length:Int)-1:=aU (by omega) (by omega);have q2:code.take p=l.take p:=by rw[hco,MM (PE h3)]
    have q3:(code.drop p).take (l.length-p)=l.drop p:=by rw[<-List.drop_take,htk]
    have q4:(p:Int)<=(code.length:Int):=by omega
    have q5:(p:Int)<=(l.length:Int):=by omega
    generalize treeF w f (l.take p)=Ta at*;generalize treeF w f (l.drop p)=Tb at*;unfold dl at f0 f1 |-;have c1:(k==1)=false:=by simp;omega
    have c2:(k==2)=false:=by simp;omega
    have c3:(k==3)=false:=by simp;omega
    have c4:(k==4)=false:=by simp;omega
    have c5:(k==5)=false:=by simp;omega
    have c6:(k==6)=false:=by simp;omega
    rcases Ta with⟨av,ab⟩;rcases Tb with⟨bv,bb⟩;simp only at fa fb f0 f1 hres;cases ab with
    | false=>
      rw[hres];show Con _ _ _ _ (.tuple [I 0,B false]);refine qf func194 call194 ntmps194 results194 ?_;have F:=ai12 Mq bR.eq_1 hat q1 q2 q3 q4 q5 k1 k2 k3<|ai6 c1 c2 c3 c4 c5 c6;repeat refine tz3 fl f0 f1 ?_
      exact aR
    | true=>
      cases bb with
      | false=>
        rw[hres];show Con _ _ _ _ (.tuple [I 0,B false]);refine qf func194 call194 ntmps194 results194 ?_;have F:=ai12 Mq bR.eq_1 hat q1 q2 q3 q4 q5 k1 k2 k3<|ai6 c1 c2 c3 c4 c5 c6;repeat refine tz3 fl f0 f1 ?_
        exact aR
      | true=>
        have f2:=BF env k av bv ⟨b1,b2⟩ (fa.2 rfl) (fb.2 rfl);rw[hres];simp only[Bool.and_self,L1];generalize binI k av bv=R at*;refine qf func194 call194 ntmps194 results194 ?_;have F:=ai12 Mq bR.eq_1 hat q1 q2 q3 q4 q5 k1 k2 k3<|ai6 c1 c2 c3 c4 c5 c6;repeat refine tz4 fl f0 f1 f2 ?_
        exact aR
def IV:Option Int->AV
 |some v=> .tuple [I v,I 0]
 |none=> .tuple [I 0,I 2]
theorem E6 (env:Env) (w:WoD) (hw:w.Ok) (hl:w.vars.length<=1000000) (code:List OpD) (hc:bg code w.vars.length w.act.length=true):Con prog env 149 [opsAV code, .agg (dl w)] (IV (lD w code)):=by
 obtain⟨hh,hlen⟩:=nq hc;have h0:iA code w.vars.length w.act.length=0:=by unfold bg at hc;simpa using hc
 have f0:=yT env w hw hl;have f1:=kD env code w.vars.length w.act.length;rw[h0]at f1;have f2:=ku env w hw code.length code (Kc _) hlen hh;have q0:(w.act.map bCell).length=w.act.length:=Ko ..;unfold lD;generalize treeF w code.length code=T at*;obtain⟨v,b⟩:=T;unfold dl at f0 f2 |-;cases b with
 | true=>
   show Con _ _ _ _ (.tuple [I v,I 0]);refine qf func149 call149 ntmps149 results149 ?_;have F:=q0;repeat refine tz3 f0 f1 f2 ?_
   exact aR
 | false=>
   show Con _ _ _ _ (.tuple [I 0,I 2]);refine qf func149 call149 ntmps149 results149 ?_;have F:=q0;repeat refine tz3 f0 f1 f2 ?_
   exact aR
end Go.Proofs.YtdpjgflalmnkdaaGreatDoor
set_option linter.unusedSimpArgs false
namespace Go.Proofs.YtdpjgflalmnkdaaGreatDoor
open Go.Proofs.Tryz
open Go.RowKit
set_option maxRecDepth 100000
set_option maxHeartbeats 16000000
def woI (w:WoD) (g:Nat->Nat):AV:= .agg [.row 1002 (g 1002),I w.data, .seq 1 (w.act.map bCell)]
def tj (w:WoD):Nat×Row:=(1002,⟨1,w.vars.map intAV,3,true⟩)
theorem A8 (env:Env) (w:WoD) (o:OpD) (R:List Int) (hs:R.length<=1000) (hk:1<=o.kind/\o.kind<=4) (h:mF o w.vars.length w.act.length=true):ConI prog env 220 [1002,27] (fun k=>k==27) (fun g=>[ints34 R, .agg (bR o),woI w g]) (fun _=>[tj w]) (fun _=>[tj w,(27,⟨1,(R++[leafI w o]).map intAV,3,true⟩)]) (fun g=> .tuple [.row 27 (g 27),B true]):=by
 have f0:=(zf env w o hk h).lend rfl;have q0:o.kind<=4:=hk.2;have q1:Fits (R.length+1) 8:=aC (by omega) (by omega);have q2:(R++[leafI w o]).map intAV=R.map intAV++[[I (leafI w o)]]:=by simp
 rw[q2];try clear q2
 generalize leafI w o=v at*;unfold bR dl at f0;unfold woI tj;refine qi func220 call220 ntmps220 results220 ?_;intro vs esc hesc;obtain⟨e0,e1⟩:=es2 hesc;have F:=ai5 bR.eq_1 q0 q1 e0 e1;repeat refine st ?_
 refine lL f0 ?_;repeat refine st ?_
 exact rI
theorem A7 (env:Env) (w:WoD) (o:OpD) (a:Int) (R:List Int) (hs:R.length<=1000) (hk:o.kind=5\/o.kind=6) (ha:aL a=true):ConI prog env 220 [1002,51] (fun k=>k==51) (fun g=>[ints34 (R++[a]), .agg (bR o),woI w g]) (fun _=>[tj w]) (fun _=>[tj w,(51,⟨1,(R++[unI o.kind a]).map intAV,3,true⟩)]) (fun g=> .tuple [.row 51 (g 51),B true]):=by
 have f0:=u9 env o.kind a hk ha;have q0: ¬o.kind<=4:=by omega
 have q1:o.kind<=6:=by omega
 have q2:Fits (R.length+1) 8:=aC (by omega) (by omega);have e1: ∀x:Int,(R++[x]).map intAV=R.map intAV++[[I x]]:=fun x=>by simp
 have e2:ints34 (R++[a])= .seq 1 (R.map intAV++[[I a]]):=by rw[show R.map intAV++[[I a]]=(R++[a]).map intAV by simp]
 rw[e1,e2];have q4:(R.map intAV++[[I a]]).length=R.length+1:=by simp
 have q5:(R.map intAV++[[I a]])[R.length]? =some [I a]:=by rw[LA (by simp)];simp
 have q6:(R.map intAV++[[I a]]).take R.length=R.map intAV:=by rw[MM (by simp),LU (by simp)]
 have q3:IntKind.i64.wrap (((R.length+1:Nat):Int)-1)=(R.length:Int):=(aU (by omega) (by omega)).trans (by omega);have q7:(R.length:Int)< ((R.length+1:Nat):Int):=by omega
 have q8: ¬((R.length:Int)=((R.length+1:Nat):Int)):=by omega
 have q9:(R.length:Int)<=((R.length+1:Nat):Int):=by omega
 generalize hX:R.map intAV++[[I a]]=X at*;generalize unI o.kind a=v at*;unfold woI tj;refine qi func220 call220 ntmps220 results220 ?_;intro vs esc hesc;obtain⟨e0,e3⟩:=es2 hesc;have F:=ai12 bR.eq_1 q0 q1 q2 q3 q4 q5 q6 q7 q8 q9<|ai e0 e3;repeat refine tz1 f0 ?_
 exact rI
theorem A9 (env:Env) (w:WoD) (o:OpD) (a b:Int) (R:List Int) (hs:R.length<=1000) (hk:7<=o.kind/\o.kind<=19) (ha:aL a=true) (hb:aL b=true):ConI prog env 220 [1002,77] (fun k=>k==77) (fun g=>[ints34 (R++[a,b]), .agg (bR o),woI w g]) (fun _=>[tj w]) (fun _=>[tj w,(77,⟨1,(R++[(binI o.kind a b).1]).map intAV,3,true⟩)]) (fun g=> .tuple [.row 77 (g 77),B (binI o.kind a b).2]):=by
 have f0:=sL env o.kind a b hk ha hb;have q0: ¬o.kind<=4:=by omega
 have q1: ¬o.kind<=6:=by omega
 have q2:Fits (R.length+1) 8:=aC (by omega) (by omega);have e1: ∀x:Int,(R++[x]).map intAV=R.map intAV++[[I x]]:=fun x=>by simp
 have e2:ints34 (R++[a,b])= .seq 1 (R.map intAV++[[I a],[I b]]):=by rw[show R.map intAV++[[I a],[I b]]=(R++[a,b]).map intAV by simp]
 rw[e1,e2];have q4:(R.map intAV++[[I a],[I b]]).length=R.length+2:=by simp
 have q5:(R.map intAV++[[I a],[I b]])[R.length]? =some [I a]:=by rw[LA (by simp)];simp
 have p5:(R.map intAV++[[I a],[I b]])[R.length+1]? =some [I b]:=by rw[LA (by simp)];simp
 have q6:(R.map intAV++[[I a],[I b]]).take R.length=R.map intAV:=by rw[MM (by simp),LU (by simp)]
 have q3:IntKind.i64.wrap (((R.length+2:Nat):Int)-2)=(R.length:Int):=(aU (by omega) (by omega)).trans (by omega);have p3:IntKind.i64.wrap (((R.length+2:Nat):Int)-1)=((R.length+1:Nat):Int):=(aU (by omega) (by omega)).trans (by omega);have q7:(R.length:Int)< ((R.length+2:Nat):Int):=by omega
 have p7:((R.length+1:Nat):Int)< ((R.length+2:Nat):Int):=by omega
 have q8: ¬((R.length:Int)=((R.length+2:Nat):Int)):=by omega
 have q9:(R.length:Int)<=((R.length+2:Nat):Int):=by omega
 generalize hX:R.map intAV++[[I a],[I b]]=X at*;generalize binI o.kind a b=v at*;unfold woI tj;refine qi func220 call220 ntmps220 results220 ?_;intro vs esc hesc;obtain⟨e0,e3⟩:=es2 hesc;have F:=ai12 bR.eq_1 q0 q1 q2 q3 p3 q4 q5 p5 q6 q7<|ai5 p7 q8 q9 e0 e3;repeat refine tz1 f0 ?_
 exact rI
theorem F8 (env:Env) (a1 a2 a8:Addr) (he:ChEnv env a1 a8) (h2:env 2=some (sentV a2)) (w:WoD) (hw:w.Ok) (hl:w.vars.length<=1000000) (code:List OpD) (hc:bg code w.vars.length w.act.length=true):ConI prog env 180 [1002] (fun _=>false) (fun g=>[opsAV code,woI w g]) (fun _=>[tj w]) (fun _=>[tj w]) (fun _=>jT a2 (lD w code)):=by
 have f0:=(ja env w hw hl).lend rfl;have f1:=gS env a1 a8 he code w.vars.length w.act.length;have g2:=jz h2;have f9:=cn env [118,97,108,117,101,46,69,118,97,108] a2;obtain⟨hh,hlen⟩:=nq hc;have h0:iA code w.vars.length w.act.length=0:=by unfold bg at hc;simpa using hc
 unfold gg at f1;rw[K5 h0]at f1;have hrun:=zt w hh;have q0:(w.act.map bCell).length=w.act.length:=Ko ..;have s1: ∀(o:OpD) (R:List Int),R.length<=1000->1<=o.kind/\o.kind<=4->mF o w.vars.length w.act.length=true->_:=fun o R=>A8 env w o R;have s2: ∀(o:OpD) (a:Int) (R:List Int),_:=fun o a R=>A7 env w o a R;have s3: ∀(o:OpD) (a b:Int) (R:List Int),_:=fun o a b R=>A9 env w o a b R;unfold dl at f0;unfold woI tj at*;refine qi func180 call180 ntmps180 results180 ?_;intro vs esc hesc;have e0:=hesc 1002 (by simp);have F:=e0;repeat refine st ?_
 refine lL f0 ?_;repeat refine tz1 f1 ?_
 refine iO (Turned.nil 8 1 (by simp only[go_sem])) ?_;refine lp (D:=Nat×List Int) (fun d vs=>[(3, .loc 3 (vs 3) 0 0),(8,ints34 d.2.reverse),(31,opsAV code),(32,I code.length),(33,I d.1)]) (fun _ vs=>[(3,⟨3,[[.row 1002 (vs 1002),I w.data, .seq 1 (w.act.map bCell)]],183,false⟩),(1002,⟨1,w.vars.map intAV,3,true⟩)]) (fun d vs' esc=>(d.1<=code.length/\mA w (code.take d.1) []=some d.2/\hgt w.vars.length w.act.length code 0=hgt w.vars.length w.act.length (code.drop d.1) d.2.length/\(∀x∈d.2,aL x=true)/\d.2.length<=d.1)/\vs' 1002=vs 1002/\esc 1002=false) (fun d=>code.length-d.1) (0,[]) ⟨⟨Kj _,rfl,rfl,by simp,Kc _⟩,by simp only[go_sem],by simp only[go_sem,e0]⟩ ?_;try clear e0
 rintro⟨i,s⟩ ws esc ⟨⟨hi,hr,hg,hf,hsl⟩,v0,e0⟩;simp only at hi hr hg hf hsl;by_cases hlt:i<code.length
 ·obtain⟨o,ho,_⟩:=aQ hlt;obtain⟨up,no⟩:=nh ho hg;have k1:=nlt hlt;have k2:=aD hlt (by omega);have hnext:=zJ (w:=w) ho hr
  have hok:bo w.vars.length w.act.length s.length o=true:=by
   cases hok:bo w.vars.length w.act.length s.length o with
   |true=>rfl
   |false=>rw[no hok]at hh;cases hh
  have hg2:=up hok;have hnum:=CY hok;refine vt 9001 rfl ?_;rcases lx hok with⟨b1,b2,b3⟩|⟨b1,b3,b4⟩|⟨b1,b2,b3,b4⟩
  ·have f2:=s1 o s.reverse (by rw[MO];omega) ⟨b1,b2⟩ hnum;have hst:dn w o s=some (leafI w o::s):=by unfold dn;rw[K5 b2]
   rw[hst]at hnext;have e1:s.reverse++[leafI w o]=(leafI w o::s).reverse:=by simp
   rw[e1]at f2;refine dh ?_;have F:=ai5 bR.eq_1 ho k1 k2 e0;repeat refine st ?_
   refine iL [(1002,1002),(27,9001)] f2 ?_;repeat refine st ?_
   refine⟨_,Turned.frozen 9001 8 ⟨1,(leafI w o::s).reverse.map intAV,3,true⟩ rfl (LL 0) (by simp only[go_sem]) (by simp only[go_sem]),(i+1,leafI w o::s),⟨⟨hlt,hnext,?_,gW hw hnum hf hst,?_⟩,?_,?_⟩,?_,?_,?_⟩
   ·rw[hg2,b3]
    congr 1<;>simp
   ·simp only[Ks];omega
   ·simp only[go_sem,v0]
   ·simp only[go_sem,e0]
   ·exact qe
   ·exact qe
   ·simp only;omega
  ·match s,hr,hg,hf,hsl,hok,hg2,hnext,b4 with
   | a::s,hr,hg,hf,hsl,hok,hg2,hnext,b4=>
     have ha:=hf a (by simp);have f2:=s2 o a s.reverse (by rw[MO];simp only[Ks]at hsl;omega) b1 ha;have hst:dn w o (a::s)=some (unI o.kind a::s):=by unfold dn;rw[K2 (by omega),K5 (by omega)]
     rw[hst]at hnext;have e1:s.reverse++[unI o.kind a]=(unI o.kind a::s).reverse:=by simp
     have e2:s.reverse++[a]=(a::s).reverse:=by simp
     rw[e1,e2]at f2;refine dh ?_;have F:=ai5 bR.eq_1 ho k1 k2 e0;repeat refine st ?_
     refine iL [(1002,1002),(51,9001)] f2 ?_;repeat refine st ?_
     refine⟨_,Turned.frozen 9001 8 ⟨1,(unI o.kind a::s).reverse.map intAV,3,true⟩ rfl (LL 0) (by simp only[go_sem]) (by simp only[go_sem]),(i+1,unI o.kind a::s),⟨⟨hlt,hnext,?_,gW hw hnum hf hst,?_⟩,?_,?_⟩,?_,?_,?_⟩
     ·rw[hg2,b3]
      congr 1<;>simp
     ·simp only[Ks]at hsl |-;omega
     ·simp only[go_sem,v0]
     ·simp only[go_sem,e0]
     ·exact qe
     ·exact qe
     ·simp only;omega
  ·match s,hr,hg,hf,hsl,hok,hg2,hnext,b4 with
   | b::a::s,hr,hg,hf,hsl,hok,hg2,hnext,b4=>
     have hb:=hf b (by simp);have ha:=hf a (by simp);have f2:=s3 o a b s.reverse (by rw[MO];simp only[Ks]at hsl;omega) ⟨b1,b2⟩ ha hb;have hst:dn w o (b::a::s)=if (binI o.kind a b).2 then some ((binI o.kind a b).1::s) else none:=by unfold dn;rw[K2 (by omega),K2 (by omega)]
     rw[hst]at hnext;have e1:s.reverse++[(binI o.kind a b).1]=((binI o.kind a b).1::s).reverse:=by simp
     have e2:s.reverse++[a,b]=(b::a::s).reverse:=by simp
     rw[e1,e2]at f2;cases hv:(binI o.kind a b).2 with
     | true=>
       rw[hv]at f2 hst hnext;simp only[L1]at hst hnext;refine dh ?_;have F:=ai5 bR.eq_1 ho k1 k2 e0;repeat refine st ?_
       refine iL [(1002,1002),(77,9001)] f2 ?_;repeat refine st ?_
       refine⟨_,Turned.frozen 9001 8 ⟨1,((binI o.kind a b).1::s).reverse.map intAV,3,true⟩ rfl (LL 0) (by simp only[go_sem]) (by simp only[go_sem]),(i+1,(binI o.kind a b).1::s),⟨⟨hlt,hnext,?_,gW hw hnum hf hst,?_⟩,?_,?_⟩,?_,?_,?_⟩
       ·rw[hg2,b3]
        congr 1
        simp only[Ks];omega
       ·simp only[Ks]at hsl |-;omega
       ·simp only[go_sem,v0]
       ·simp only[go_sem,e0]
       ·exact qe
       ·exact qe
       ·simp only;omega
     | false=>
       rw[hv]at f2 hnext;simp only[Ku,Ld]at hnext;have hn:=run_stuck hnext;rw[hrun,OU]at hn;rw[hn];show awp _ _ _ _ _ _;unfold jT;have F:=ai7 bR.eq_1 ho k1 k2 g2 e0 v0;repeat refine st ?_
       refine iL [(1002,1002),(77,9001)] f2 ?_;repeat refine tz1 f9 ?_
       exact rI
 ·obtain rfl:i=code.length:=by omega
  have k1:=nl code.length;have hend:=r6 (Kc _) hg;rw[hh]at hend;rw[Kt,hrun]at hr;obtain⟨v,hv,rfl⟩:=Lc.1 hr;rw[hv];unfold jT;have F:=ai6 intAV.eq_1 k1 @Ot.{0} @List.reverse_nil.{0} e0 v0;repeat refine st ?_
  exact rI
end Go.Proofs.YtdpjgflalmnkdaaGreatDoor
set_option linter.unusedSimpArgs false
namespace Go.Proofs.YtdpjgflalmnkdaaGreatDoor
open Go.Proofs.Tryz
open Go.RowKit
set_option maxRecDepth 100000
set_option maxHeartbeats 16000000
def oT (p:(List UInt8×Int)->Bool):List (List UInt8×Int)->Option Nat
 |[]=>none
 |d::l=>if p d=true then some 0 else(oT p l).map (· +1)
theorem vH {p:(List UInt8×Int)->Bool} : ∀ {l:List (List UInt8×Int)} {i:Nat},oT p l=some i->i<l.length/\l.take i=(l.take i).filter (fun d=> !p d)/\ ∃d,l[i]? =some d/\p d=true
 |[],i,h=>by simp[oT]at h
 | d::l,i,h=>by
   unfold oT at h;split at h
   ·rename_i hp;cases h;exact⟨by simp,by simp,d,rfl,hp⟩
   ·rename_i hp;cases hi:oT p l with
    |none=>rw[hi]at h;cases h
    | some j=>
      rw[hi]at h;cases h;obtain⟨h1,h2,x,h3,h4⟩:=vH hi;refine⟨by simp;omega,?_,x,by simpa using h3,h4⟩;have hp:p d=false:=by simpa using hp
      simp only[List.take_succ_cons,MZ,hp,Lx,L1];rw[<-h2]
theorem vI {p:(List UInt8×Int)->Bool} : ∀ {l:List (List UInt8×Int)},oT p l=none->l.filter (fun d=> !p d)=l/\ ∀d∈l,p d=false
 |[],h=>by simp
 | d::l,h=>by
   unfold oT at h;split at h
   ·cases h
   ·rename_i hp;have hp:p d=false:=by simpa using hp
    cases hi:oT p l with
    |some j=>rw[hi]at h;cases h
    | none=>
      obtain⟨h1,h2⟩:=vI hi;refine⟨by simp only[MZ,hp,Lx,L1,h1],fun x hx=> ?_⟩;rcases Kr.1 hx with rfl|hx
      ·exact hp
      ·exact h2 x hx
theorem FP {p:(List UInt8×Int)->Bool} {l:List (List UInt8×Int)} {n:Nat} {d:(List UInt8×Int)} (hd:l[n]? =some d):oT p (l.drop n)=if p d=true then some 0 else(oT p (l.drop (n+1))).map (· +1):=by
 rw[bB hd];rfl
theorem ye (env:Env) (l:List (List UInt8×Int)) (p:(List UInt8×Int)->Bool) (g:FuncId) (caps:List (List AV)) (hp: ∀d,Con prog env g [.agg (tmAV d), .ref 1 caps 0 0] (B (p d))) (hl:l.length<=4096):Con prog env 263 [.seq 2 (l.map tmAV), .clo g [.ref 1 caps 0 0]] (I (l7 (oT p l))):=by
 refine qf func263 call263 ntmps263 results263 ?_;repeat refine st0 ?_
 refine lq0 l.length (by omega) (fun n vs=>[(0, .seq 2 (l.map tmAV)),(1, .clo g [.ref 1 caps 0 0]),(7,I l.length),(8,I n)]) (fun n vs=>[]) (fun n _ esc=>oT p l=(oT p (l.drop n)).map (· +n)) (by simp) ?_ ?_
 ·rintro n vs esc hlt g1 g2 hi;obtain⟨d,hd⟩:=gE hlt;have f1:=hp d;unfold tmAV at f1;rw[FP hd]at hi;cases h1:p d
  ·rw[h1]at hi f1;simp only[Ku,Ld]at hi;have F:=ai4 tmAV.eq_1 hd g1 g2;repeat refine st ?_
   refine oC (bw rfl (by simp only[go_sem,F];exact iR)) (f1) (by simp only[go_sem,F];exact iR) (by simp only[go_sem,F];exact⟨rfl,rfl⟩) ?_;repeat refine st ?_
   refine⟨n+1,⟨hlt,?_⟩,?_,?_,?_⟩
   ·rw[hi];cases oT p (l.drop (n+1))
    ·rfl
    ·simp;omega
   ·exact qe
   ·exact qe
   ·omega
  ·rw[h1]at hi f1;simp only[L1,Kp,Li]at hi;rw[hi];have F:=ai6 tmAV.eq_1 hd g1 g2 l7.eq_1 l7.eq_2;repeat refine st ?_
   refine oC (bw rfl (by simp only[go_sem,F];exact iR)) (f1) (by simp only[go_sem,F];exact iR) (by simp only[go_sem,F];exact⟨rfl,rfl⟩) ?_;repeat refine st ?_
   exact aR
 ·rintro vs esc g1 hi;rw[La (by omega)]at hi;rw[hi];have F:=ai5 g1 l7.eq_1 l7.eq_2 oT.eq_1 oT.eq_2;repeat refine st ?_
  exact aR
theorem wY (env:Env) (l:List (List UInt8×Int)) (p:(List UInt8×Int)->Bool) (g:FuncId) (G:List UInt8) (te:TypeId) (hp: ∀d,Con prog env g [.agg (tmAV d), .ref 1 [[Sg G]] 0 0] (B (p d))) (hl:l.length<=4096):
 ConI prog env 227 [1000,1001] (fun k=>k==1000) (fun vs=>[.row 1000 (vs 1000), .clo g [.loc 1001 (vs 1001) 0 0]]) (fun _=>[(1000,⟨2,l.map tmAV,92,true⟩),(1001,⟨1,[[Sg G]],te,false⟩)]) (fun _=>[(1000,⟨2,(l.filter fun d=> !p d).map tmAV,92,true⟩),(1001,⟨1,[[Sg G]],te,false⟩)]) (fun vs=> .row 1000 (vs 1000)):=by
 have f0:=(ye env l p g [[Sg G]] hp hl).lend rfl;cases hi:oT p l with
 | none=>
   rw[hi]at f0;obtain⟨h1,_⟩:=vI hi;rw[h1];refine qi func227 call227 ntmps227 results227 ?_;intro vs esc hesc;obtain⟨e0,e1⟩:=es2 hesc;have F:=ai4 e0 e1 l7.eq_1 l7.eq_2;repeat refine st ?_
   refine lL f0 ?_;repeat refine st ?_
   exact rI
 | some i0=>
   rw[hi]at f0;obtain⟨h1,h2,d0,h3,h4⟩:=vH hi;have g0:((i0:Int) == -1)=false:=by simp
   have g1:=aD h1 (by omega);refine qi func227 call227 ntmps227 results227 ?_;intro vs esc hesc;obtain⟨e0,e1⟩:=es2 hesc;have F:=ai6 e0 e1 l7.eq_1 l7.eq_2 g0 g1;repeat refine st ?_
   refine lL f0 ?_;repeat refine st ?_
   refine aI (D:=Nat×List (List UInt8×Int)) (fun x vs'=>[(0, .row 1000 (vs' 1000)),(1, .clo g [.loc 1001 (vs' 1001) 0 0]),(5,I (((l.take x.1).filter fun d=> !p d).length:Int)),(6,I (x.1:Int))]) (fun x vs'=>[(1000,⟨2,x.2.map tmAV,92,true⟩),(1001,⟨1,[[Sg G]],te,false⟩)]) (fun x vs' esc'=>(x.1<=l.length/\x.2.length=l.length/\((l.take x.1).filter fun d=> !p d).length<x.1/\x.2.take ((l.take x.1).filter fun d=> !p d).length=(l.take x.1).filter (fun d=> !p d)/\x.2.drop x.1=l.drop x.1)/\vs' 1001=vs 1001/\esc' 1000=false/\esc' 1001=false) (fun x=>l.length-x.1) (i0+1,l) ?_ ?_ ?_ ?_
   ·have hq:(l.take (i0+1)).filter (fun d=> !p d)=l.take i0:=by
     rw[bQ h3,LE, <-h2];simp[h4]
    refine⟨⟨h1,rfl,?_,?_,rfl⟩,by simp only[go_sem],by simp only[go_sem,e0],by simp only[go_sem,e1]⟩
    ·rw[hq,Kg];omega
    ·simp only;rw[hq,Kg,Mn (by omega)]
   ·have hq:((l.take (i0+1)).filter fun d=> !p d).length=i0:=by
     rw[bQ h3,LE, <-h2];simp[h4];omega
    simp only[hq];exact qe
   ·exact qe
   try clear e0 e1 g0 g1 h1 h2 h3 h4 hi
   rintro⟨j,L⟩ ws es ⟨⟨hj,hL,hc,ht,hd⟩,v1,e0,e1⟩;simp only at hj hL hc ht hd;generalize hcn:((l.take j).filter fun d=> !p d).length=c at*;by_cases hlt:j<l.length
   ·obtain⟨d,hx⟩:=gE hlt
    have hxL:L[j]? =some d:=by
     have:=LF (fun q:List (List UInt8×Int)=>q[0]?) hd;simpa[hx]using this
    have f1:=hp d;unfold tmAV at f1;have g1:(j:Int)< (L.length:Int):=by omega
    have g2:=aD hlt (by omega);have g3:=bQ hx;cases h1:p d
    ·rw[h1]at f1;obtain⟨y,hy⟩: ∃x,L[c]? =some x:=⟨L[c]'(by omega),KZ (by omega)⟩;have g4:(c:Int)< (L.length:Int):=by omega
     have g5:IntKind.i64.wrap ((c:Int)+1)=((c+1:Nat):Int):=aD (show c<l.length by omega) (by omega);have hq:((l.take (j+1)).filter fun d=> !p d)=(l.take j).filter (fun d=> !p d)++[d]:=by rw[g3,LE];simp[h1]
     have hs:(L.map tmAV).set c [Sg d.1,I d.2]=(L.set c d).map tmAV:=by rw[NT];rfl
     have F:=ai10 tmAV.eq_1 hxL hy e0 e1 g1 g2 g4 g5 hs;repeat refine st ?_
     refine oL (bw rfl (by simp only[go_sem,F];exact iR)) (f1.lend rfl) (by simp only[go_sem,F];exact iR) (by simp only[go_sem,F];exact⟨rfl,rfl⟩) ?_;repeat refine st ?_
     refine⟨(j+1,L.set c d),⟨⟨hlt,by simpa using hL,?_,?_,?_⟩,?_,?_,?_⟩,?_,?_,?_⟩
     ·simp only[hq,K8,LI,hcn];omega
     ·simp only[hq,K8,LI,hcn];rw[<-ht];apply LY;intro k;rw[LG,Lu];by_cases hk:k<c
      ·rw[K5 (by omega),K2 (by omega),LH (by simp;omega),LG,K5 hk]
      ·by_cases hk2:k=c
       ·subst hk2;rw[K5 (by omega),K5 rfl,K5 (by omega),LA (by rw[Kg];omega),Kg,Mn (by omega)];simp
       ·rw[K2 (by omega),Kf (by rw[K8,Kg,LI];omega)]
     ·simp only;rw[List.drop_set_of_lt (by omega)];have:=LF (List.drop 1) hd;simpa[OV]using this
     ·simp only[go_sem,v1]
     ·simp only[go_sem,e0]
     ·simp only[go_sem,e1]
     ·have hq2:((l.take (j+1)).filter fun d=> !p d).length=c+1:=by rw[hq,K8,hcn];rfl
      simp only[hq2];exact qe
     ·exact qe
     ·simp only;omega
    ·rw[h1]at f1;have hq:((l.take (j+1)).filter fun d=> !p d)=(l.take j).filter (fun d=> !p d):=by rw[g3,LE];simp[h1]
     have F:=ai6 tmAV.eq_1 hxL e0 e1 g1 g2;repeat refine st ?_
     refine oL (bw rfl (by simp only[go_sem,F];exact iR)) (f1.lend rfl) (by simp only[go_sem,F];exact iR) (by simp only[go_sem,F];exact⟨rfl,rfl⟩) ?_;repeat refine st ?_
     refine⟨(j+1,L),⟨⟨hlt,hL,?_,?_,?_⟩,?_,?_,?_⟩,?_,?_,?_⟩
     ·simp only[hq,hcn];omega
     ·simp only[hq,hcn];exact ht
     ·simp only;have:=LF (List.drop 1) hd;simpa[OV]using this
     ·simp only[go_sem,v1]
     ·simp only[go_sem,e0]
     ·simp only[go_sem,e1]
     ·simp only[hq,hcn];exact qe
     ·exact qe
     ·simp only;omega
   ·have g1: ¬(j:Int)< (L.length:Int):=by omega
    have hjl:l.take j=l:=LU (by omega);rw[hjl]at ht hcn;have g4:(c:Int)<=(L.length:Int):=by omega
    have g5:c<=L.length:=by omega
    have g6: ∀X:List (List AV),((L.take c).map tmAV++X).take c=(l.filter fun d=> !p d).map tmAV:=fun X=>by
     rw[NH (by rw[Ko,Kg];omega),ht]
    have g7:c+(L.length-c)=L.length:=by omega
    have g8:min c L.length=c:=by omega
    have F:=ai11 v1 e0 e1 @Kg.{0} @List.length_replicate.{0} g1 g4 g5 g6 g7 g8;repeat refine st ?_
    exact rI
end Go.Proofs.YtdpjgflalmnkdaaGreatDoor
namespace Go.Proofs.YtdpjgflalmnkdaaGreatDoor
open Go.Proofs.Tryz
open Go.RowKit Go.Sort Go.Shelf Go.Lib
section
variable {α:Type} [Inhabited α]
theorem rc (enc:α->List Value) (k:Nat) (hk: ∀x,(enc x).length=k) (d:List α):flatK enc k d.toArray=(d.map enc).flatten.toArray:=by
 have hz: ∀l∈d.map enc,l.length=k:=fun l hl=>by
  obtain⟨x,_,rfl⟩:=Kb.1 hl;exact hk x
 have hl:=dr (d.map enc) hz;apply Array.ext';apply LY;intro p;by_cases hp:p<d.length*k
 ·have hk0:0<k:=by
   rcases Nat.eq_zero_or_pos k with h|h
   ·subst h;simp at hp
   ·exact h
  have hi:p/k<d.length:=NQ (by rw[Mm];exact hp);have hj:p%k<k:=Nk _ hk0;have h1:=fN (d.map enc) hz (p/k) (p%k) (enc d[p/k]) ((enc d[p/k])[p%k]'(by rw[hk];exact hj)) (by simp[hi]) (KZ _);rw[Nq]at h1;rw[Nw,h1,Mx];simp[flatK,hp,hi,hk,hj]
 ·rw[Kf (by simp;omega),Kf (by simp[hl];omega)]
theorem qT {P:Program} {ρ:Ren} (L:SlLaysF0.n6 P ρ) {e:TypeId} (k:Nat) (aE: ∀w,(isAgg (ρ.t 24)).run P w= .ok true w) (zE: ∀w,(Go.sizeOf (ρ.t 24)).run P w= .ok k w) (enc:α->List Value) (hk: ∀x,(enc x).length=k) (h1: ∀x,∀v∈enc x,v.oneCell'=true)
 (cf:α->α->Int) (hO:SWO (ltOf cf)) (g:Nat) (cb:Array Value) (d:List α) (hd:0<d.length) (hsz:d.length<4611686018427387904) (ef: ∀(args:Array Value) (w:World),(callFunc (ρ.f 6) args).run P w= .ok (.enter (ρ.f 6) args) w) (eg: ∀args w,(callFunc g args).run P w= .ok (.enter g args) w)
 (hcmp: ∀blk w,CmpLays P g cb enc k cf blk 0 d.length w) (hT: ∀x y,(ltOf cf) x y=false->(ltOf cf) y x=false->x=y):
 Turns P (ρ.f 6) [.func (.func g) #[] cb] e k (d.map enc) ((d.mergeSort fun x y=> !(ltOf cf) y x).map enc):=by
 refine jc (by simpa using hd) ef (by simp) (fun l hl=> ?_) (fun l hl=> ?_) fun w b cap hH hb=> ?_
 ·obtain⟨x,_,rfl⟩:=Kb.1 hl;exact hk x
 ·obtain⟨x,_,rfl⟩:=Kb.1 hl;exact⟨hk x,h1 x⟩
 ·have:=AnyQ.slices_SortFunc_total L k aE zE enc hk h1 cf hO g cb b 0 cap d.toArray w eg (by simpa using hcmp b w) (by unfold HoldsK;rw[rc enc k hk];exact hH) hb (by simpa using hsz) hT;rw[Ko];refine(by simpa using this:Calls P (ρ.f 6) #[.slice (some ⟨b,0,none⟩) d.length cap, .func (.func g) #[] cb] w _).mono ?_;rintro ex w' ⟨rfl,n,os,rfl⟩;refine⟨rfl,n,os,?_⟩;unfold sortWorldK putRowK;rw[rc enc k hk]
end
end Go.Proofs.YtdpjgflalmnkdaaGreatDoor
namespace Go.Proofs
open Go.Shelf
def Tryz.sortTm_ren:Go.Shelf.Ren:=⟨fun|6=>229|15=>171|14=>264|28=>213|29=>214|20=>274|21=>275|22=>276|23=>277|24=>278|25=>279|26=>280|27=>281|46=>284|47=>240|48=>241|49=>285|50=>286|57=>287|n=>n,fun|22=>29|24=>92|25=>270|3=>3|39=>219|0=>0|53=>158|55=>256|4=>4|46=>250|45=>249|50=>171|5=>5|9=>9|66=>276|70=>280|76=>292|77=>100|n=>n,fun|n=>n⟩
theorem Tryz.sortTm:Go.Proofs.SlLaysF0.n6 prog Tryz.sortTm_ren:={
 mixed:=by kernel_rfl
 f6:=⟨Tryz.f229.name,by decide,func229.trans (congrArg some (by kernel_rfl))⟩
 f14:=⟨Tryz.f264.name,by decide,func264.trans (congrArg some (by kernel_rfl))⟩
 f15:=func171.trans (congrArg some (by kernel_rfl))
 f20:=⟨Tryz.f274.name,by decide,func274.trans (congrArg some (by kernel_rfl))⟩
 f21:=⟨Tryz.f275.name,by decide,func275.trans (congrArg some (by kernel_rfl))⟩
 f22:=⟨Tryz.f276.name,by decide,func276.trans (congrArg some (by kernel_rfl))⟩
 f23:=⟨Tryz.f277.name,by decide,func277.trans (congrArg some (by kernel_rfl))⟩
 f24:=⟨Tryz.f278.name,by decide,func278.trans (congrArg some (by kernel_rfl))⟩
 f25:=⟨Tryz.f279.name,by decide,func279.trans (congrArg some (by kernel_rfl))⟩
 f26:=⟨Tryz.f280.name,by decide,func280.trans (congrArg some (by kernel_rfl))⟩
 f27:=⟨Tryz.f281.name,by decide,func281.trans (congrArg some (by kernel_rfl))⟩
 f28:=func213.trans (congrArg some (by kernel_rfl))
 f29:=func214.trans (congrArg some (by kernel_rfl))
 f46:=⟨Tryz.f284.name,by decide,func284.trans (congrArg some (by kernel_rfl))⟩
 f47:=func240.trans (congrArg some (by kernel_rfl))
 f48:=func241.trans (congrArg some (by kernel_rfl))
 f49:=⟨Tryz.f285.name,by decide,func285.trans (congrArg some (by kernel_rfl))⟩
 f50:=⟨Tryz.f286.name,by decide,func286.trans (congrArg some (by kernel_rfl))⟩
 f57:=⟨Tryz.f287.name,by decide,func287.trans (congrArg some (by kernel_rfl))⟩
 t0:=Tryz.underlying0
 a0:=Tryz.isAgg0
 z0:=Tryz.sizeOf0
 v0:=Tryz.zeroValue0
 t3:=Tryz.underlying3
 a3:=Tryz.isAgg3
 z3:=Tryz.sizeOf3
 v3:=Tryz.zeroValue3
 t4:=Tryz.underlying4
 a4:=Tryz.isAgg4
 z4:=Tryz.sizeOf4
 v4:=Tryz.zeroValue4
 t5:=Tryz.underlying5
 a5:=Tryz.isAgg5
 z5:=Tryz.sizeOf5
 v5:=Tryz.zeroValue5
 t9:=Tryz.underlying9
 a9:=Tryz.isAgg9
 z9:=Tryz.sizeOf9
 v9:=Tryz.zeroValue9
 t22:=Tryz.underlying29
 a22:=Tryz.isAgg29
 z22:=Tryz.sizeOf29
 v22:=Tryz.zeroValue29
 t25:=Tryz.underlying270
 a25:=Tryz.isAgg270
 z25:=Tryz.sizeOf270
 v25:=Tryz.zeroValue270
 t39:=Tryz.underlying219
 a39:=Tryz.isAgg219
 z39:=Tryz.sizeOf219
 v39:=Tryz.zeroValue219
 t45:=Tryz.underlying249
 a45:=Tryz.isAgg249
 z45:=Tryz.sizeOf249
 v45:=Tryz.zeroValue249
 t46:=Tryz.underlying250
 a46:=Tryz.isAgg250
 z46:=Tryz.sizeOf250
 v46:=Tryz.zeroValue250
 t50:=Tryz.underlying171
 a50:=Tryz.isAgg171
 z50:=Tryz.sizeOf171
 v50:=Tryz.zeroValue171
 t53:=Tryz.underlying158
 a53:=Tryz.isAgg158
 z53:=Tryz.sizeOf158
 v53:=Tryz.zeroValue158
 t55:=Tryz.underlying256
 a55:=Tryz.isAgg256
 z55:=Tryz.sizeOf256
 v55:=Tryz.zeroValue256
 t66:=Tryz.underlying276
 a66:=Tryz.isAgg276
 z66:=Tryz.sizeOf276
 v66:=Tryz.zeroValue276
 t70:=Tryz.underlying280
 a70:=Tryz.isAgg280
 z70:=Tryz.sizeOf280
 v70:=Tryz.zeroValue280
 t76:=Tryz.underlying292
 a76:=Tryz.isAgg292
 z76:=Tryz.sizeOf292
 v76:=Tryz.zeroValue292
 t77:=Tryz.underlying100
 a77:=Tryz.isAgg100
 z77:=Tryz.sizeOf100
 v77:=Tryz.zeroValue100 }
end Go.Proofs
set_option linter.unusedSimpArgs false
namespace Go.Proofs.YtdpjgflalmnkdaaGreatDoor
open Go.Proofs.Tryz
open Go.RowKit
set_option maxRecDepth 100000
set_option maxHeartbeats 1000000
def o6 (p:List UInt8×Int):List Value:=[.string ⟨p.1.toArray⟩, .int .i64 p.2]
theorem za (l:List (List UInt8×Int)):bJ (l.map o6)=l.map tmAV:=by simp[bJ,o6,tmAV,Sg,I]
theorem tE (x:List UInt8×Int): ∀l,(insT x l).Perm (l++[x])
 |[]=> .refl _
 | y::l=>by
   unfold insT;split
   ·exact(List.perm_append_comm (l₁:=[x]) (l₂:=y::l))
   ·exact(tE x l).cons y
theorem Gu {x:List UInt8×Int} {l:List (List UInt8×Int)} (h:l.Pairwise fun a b=>Op.bytesLess a.1 b.1=true) (hn: ∀y∈l,y.1≠x.1):(l++[x]).mergeSort (fun x y=> !Op.bytesLess y.1 x.1)=insT x l:=by
 have h1:=tC h hn
 have h3:((l++[x]).mergeSort fun x y=> !Op.bytesLess y.1 x.1).Pairwise fun x y=>(!Op.bytesLess y.1 x.1)=true:=OO (fun a b c hab hbc=>by
  simp only[Lm]at*;cases k:Op.bytesLess c.1 a.1
  ·rfl
  ·cases k2:Op.bytesLess b.1 a.1
   ·cases k3:Op.bytesLess a.1 b.1
    ·rw[<-de k3 k2,k]at hbc;cases hbc
    ·rw[eX k k3]at hbc;cases hbc
   ·rw[k2]at hab;cases hab) (fun a b=>by
  cases k:Op.bytesLess b.1 a.1
  ·simp
  ·rw[oE k];simp) (l++[x])
 refine(OD (le:=fun x y=>(!Op.bytesLess y.1 x.1)=true) ?_ (h1.imp fun {a b} h=>by simp[oE h]) h3 ((tE x l).trans (Nz _ _).symm)).symm;intro a b ha hb h4 h5;have e:a.1=b.1:=de (by simpa using h5) (by simpa using h4);by_cases hab:a=b
 ·exact hab
 exfalso
 obtain⟨i,hi,ea⟩:=Lr ha;obtain⟨j,hj,eb⟩:=Lr (((tE x l).trans (Nz _ _).symm).mem_iff.2 hb);have hp:=LQ.1 h1;rcases NO i j with hij|hij|hij
 ·have:=hp i j hi hj hij;rw[ea,eb,e,eF]at this;cases this
 ·subst hij;exact hab (ea.symm.trans eb)
 ·have:=hp j i hj hi hij;rw[ea,eb,e,eF]at this;cases this
theorem Jk {x:List UInt8×Int} {l:List (List UInt8×Int)} (h:l.Pairwise fun a b=>Op.bytesLess a.1 b.1=true) (hn: ∀y∈l,y.1≠x.1):(l++[x]).Pairwise fun x y=>x.1≠y.1:=by
 rw[NB];refine⟨h.imp (fun {a b} h e=>by rw[e,eF]at h;cases h),NF _ _,fun a ha b hb=> ?_⟩;obtain rfl:=Kl.1 hb;exact hn a ha
section
open Go.Shelf Go.Lib Go.Sort
theorem Ir: ∀w,(isAgg 92).run prog w= .ok true w:=fun w=>by kernel_rfl
theorem GR: ∀w,(Go.sizeOf 92).run prog w= .ok 2 w:=fun w=>by kernel_rfl
def cfT (x y:List UInt8):Int:=if Op.bytesLess x y then -1 else 1
theorem H6 (a:List UInt8) (b:Int) (c:List UInt8) (d:Int) (W:World):Calls prog 230 #[.agg #[.string ⟨a.toArray⟩, .int .i64 b], .agg #[.string ⟨c.toArray⟩, .int .i64 d]] W fun e w'=>e= .returned (.int .i64 (cfT a c))/\ ∃q os',w'=grow (W.drewN q) os':=by
 unfold cfT;by_cases h:Op.bytesLess a c=true
 ·rw[K5 h]
  go_enter func230,ntmps230
  go_wp2_with fail
  go_ret
  exact⟨rfl,0,_,by rw[alloc_eq_grow,alloc_eq_grow,grow_grow];rfl⟩
 ·have h:Op.bytesLess a c=false:=by simpa using h
  rw[K2 (by rw[h];simp)]
  go_enter func230,ntmps230
  go_wp2_with fail
  go_ret
  exact⟨rfl,0,_,by rw[alloc_eq_grow,alloc_eq_grow,grow_grow];rfl⟩
theorem wD (ps:List (List UInt8×Int)) (hd:ps.Pairwise (fun x y=>x.1≠y.1)) (hl:ps.length<=1000) (h0:ps≠[]):
 Turns prog 229 [.func (.func 230) #[] #[]] 92 2 (ps.map o6) ((ps.mergeSort fun x y=> !Op.bytesLess y.1 x.1).map o6):=by
 have ef:=call229;have hpos:0<ps.length:=Lw.2 h0
 haveI:Inhabited {p // p∈ps} :=⟨⟨ps[0],MS hpos⟩⟩
 have hlt: ∀x y: {p // p∈ps},ltOf (fun x y: {p // p∈ps} =>cfT x.1.1 y.1.1) x y=Op.bytesLess x.1.1 y.1.1:=fun x y=>by
  unfold ltOf cfT;cases k:Op.bytesLess x.1.1 y.1.1<;>simp[k]
 have hswo:SWO (ltOf fun x y: {p // p∈ps} =>cfT x.1.1 y.1.1):=by
  refine⟨fun x=> ?_,fun x y z h1 h2=> ?_,fun x y z h1 h2=> ?_⟩
  ·rw[hlt];exact eF _
  ·rw[hlt]at*;exact eX h1 h2
  ·rw[hlt]at*;cases k:Op.bytesLess x.1.1 z.1.1
   ·rfl
   ·cases k2:Op.bytesLess y.1.1 x.1.1
    ·rw[de h1 k2]at k;rw[k]at h2;cases h2
    ·rw[eX k2 k]at h2;cases h2
 have hT: ∀x y: {p // p∈ps},ltOf (fun x y: {p // p∈ps} =>cfT x.1.1 y.1.1) x y=false->ltOf (fun x y: {p // p∈ps} =>cfT x.1.1 y.1.1) y x=false->x=y:=fun x y h1 h2=>by
  rw[hlt]at h1 h2;have e:=de h1 h2;obtain⟨i,hi,hxi⟩:=Lr x.2;obtain⟨j,hj,hyj⟩:=Lr y.2;have hp:=LQ.1 hd;apply Subtype.ext;rw[<-hxi, <-hyj]at e |-;rcases NO i j with hij|hij|hij
  ·exact absurd e (hp i j hi hj hij)
  ·subst hij;rfl
  ·exact absurd e.symm (hp j i hj hi hij)
 have hs:=qT (e:=92) Tryz.sortTm 2 Ir GR (fun x: {p // p∈ps} =>o6 x.1) (fun _=>rfl) (fun x v hv=>by simp[o6]at hv;rcases hv with rfl|rfl<;>rfl) (fun x y=>cfT x.1.1 y.1.1) hswo 230 #[] ps.attach (by simpa using hpos) (by simp;omega) ef call230
  (fun blk w m os dk _ x y=>H6 _ _ _ _ _) hT
 have e1:ps.attach.map (fun x: {p // p∈ps} =>o6 x.1)=ps.map o6:=by
  rw[show (fun x: {p // p∈ps} =>o6 x.1)=o6 ∘ Subtype.val from rfl, <-Ms,List.attach_map_subtype_val]
 have e2:(ps.attach.mergeSort fun x y=> !ltOf (fun x y: {p // p∈ps} =>cfT x.1.1 y.1.1) y x).map (fun x: {p // p∈ps} =>o6 x.1)=(ps.mergeSort fun x y=> !Op.bytesLess y.1 x.1).map o6:=by
  rw[show (fun x: {p // p∈ps} =>o6 x.1)=o6 ∘ Subtype.val from rfl, <-Ms]
  congr 1
  rw[List.map_mergeSort (s:=fun x y:List UInt8×Int=> !Op.bytesLess y.1 x.1) (fun a _ b _=>by simp only[hlt]),List.attach_map_subtype_val]
 rw[e1,e2]at hs;exact hs
theorem EB (x:List UInt8×Int) (l:List (List UInt8×Int)) (h:l.Pairwise fun a b=>Op.bytesLess a.1 b.1=true) (hn: ∀y∈l,y.1≠x.1) (hl:l.length<=100):
 Turns prog 229 [.func (.func 230) #[] #[]] 92 2 ((l++[x]).map o6) ((insT x l).map o6):=by
 rw[<-Gu h hn];exact wD _ (Jk h hn) (by simp;omega) (by simp)
end
end Go.Proofs.YtdpjgflalmnkdaaGreatDoor
