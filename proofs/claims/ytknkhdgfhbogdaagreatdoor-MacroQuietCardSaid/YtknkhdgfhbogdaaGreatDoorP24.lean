/- The sort of timers by their names. -/
import Derived.Test.YtknkhdgfhbogdaaGreatDoorP23
import Derived.Shelf.SlSortCmp.NoneTotal
set_option linter.unusedSimpArgs false
set_option linter.defProp false
namespace Go.Proofs.YtknkhdgfhbogdaaGreatDoor
open Go.Proofs.Tryz
open Go.RowKit
set_option maxRecDepth 100000
set_option maxHeartbeats 8000000
def fJ(env:b6)(b:Bool):b7 prog env 274 [B b] (I (No b)):=by
 cases b
 ·show b7 _ _ _ _ (I 0);refine qf func274 call274 ntmps274 results274 ?_;repeat refine m8 ?_
  exact p'
 show b7 _ _ _ _ (I 1);refine qf func274 call274 ntmps274 results274 ?_;repeat refine m8 ?_
 exact p'
def J2(a b:Int):a-a.tdiv b*b=a.tmod b:=by
 rw[Int.tmod_def,Int.mul_comm]
def xA{a b:Int}(c:aL a=true)(d:aL b=true):Rb (a.tdiv b*b):=Dz (lF c) d
def CH(env:b6)(k a b:Int)(s:7<=k/\k<=19)(m:aL a=true)(o:aL b=true):b7 prog env 276 [I k,I a,I b] (.tuple [I (jt k a b).1,B (jt k a b).2]):=by
 have f:=(tH k m o).1;by_cases n:k=7
 ·subst n;have f0:=d6 env (a*b);have c:IntKind.i64.wrap (a*b)=a*b:=gI f;show b7 _ _ _ _ (.tuple [I (a*b),B (aL (a*b))]);refine qf func276 call276 ntmps276 results276 ?_;have F:=c;exact g9 f0
 by_cases g:k=8\/k=9
 ·by_cases e:b=0
  ·subst e;have c:jt k a 0=(0,false):=by rcases g with rfl|rfl<;>rfl
   rw[c];rcases g with rfl|rfl
   ·refine qf func276 call276 ntmps276 results276 ?_;repeat refine m8 ?_
    exact p'
   refine qf func276 call276 ntmps276 results276 ?_;repeat refine m8 ?_
   exact p'
  have p:(b==0)=false:=by simpa using e
  have d:=lD (lF (b:=b) m);rcases g with rfl|rfl
  ·have c:jt 8 a b=(a.tdiv b,true):=by simp[jt,e]
   rw[c];refine qf func276 call276 ntmps276 results276 ?_;have F:=fI p d e;exact dT
  have c:jt 9 a b=(a.tmod b,true):=by simp[jt,e]
  have q:=gI (xA (b:=b) m o);have r:IntKind.i64.wrap (a-a.tdiv b*b)=a.tmod b:=by rw[J2];exact lD (vP m)
  rw[c];refine qf func276 call276 ntmps276 results276 ?_;have F:=g7 p d q r e;exact dT
 by_cases h:k=10
 ·subst h;have f0:=d6 env (a+b);have c:IntKind.i64.wrap (a+b)=a+b:=gI f;show b7 _ _ _ _ (.tuple [I (a+b),B (aL (a+b))]);refine qf func276 call276 ntmps276 results276 ?_;have F:=c;exact g9 f0
 by_cases i:k=11
 ·subst i;have f0:=d6 env (a-b);have c:IntKind.i64.wrap (a-b)=a-b:=gI f;show b7 _ _ _ _ (.tuple [I (a-b),B (aL (a-b))]);refine qf func276 call276 ntmps276 results276 ?_;have F:=c;exact g9 f0
 by_cases j:k=18
 ·subst j;show b7 _ _ _ _ (.tuple [I (No (a != 0&&b != 0)),B true]);have f0:=fJ env (a != 0);have f1:=fJ env (b != 0);have c:IntKind.i64.wrap (No (a != 0)*No (b != 0))=No (a != 0&&b != 0):=by cases (a != 0)<;>cases (b != 0)<;>rfl
  generalize (a != 0&&b != 0)=t at*;refine qf func276 call276 ntmps276 results276 ?_;have F:=c;exact m5 f0 f1
 by_cases l:k=19
 ·subst l;show b7 _ _ _ _ (.tuple [I (No (a != 0||b != 0)),B true]);have f0:=fJ env (a != 0||b != 0);cases e:(a != 0)
  ·rw[e]at f0;refine qf func276 call276 ntmps276 results276 ?_;have F:=e;exact g9 f0
  rw[e]at f0;refine qf func276 call276 ntmps276 results276 ?_;have F:=e;exact g9 f0
 have c:jt k a b=(No (E' k a b),true):=by
  unfold jt;rw[Lf n,Lf (by omega),Lf (by omega),Lf h,Lf i,Lf j,Lf l]
 rw[c];have f1:=fJ env (E' k a b);obtain rfl|rfl|rfl|rfl|rfl|rfl:k=12\/k=13\/k=14\/k=15\/k=16\/k=17:=by omega
 ·have d:E' 12 a b=decide (a<b):=rfl;rw[d]at f1 |-;refine qf func276 call276 ntmps276 results276 ?_;repeat refine jL f1 ?_
  exact p'
 ·have d:E' 13 a b=decide (b<a):=rfl;rw[d]at f1 |-;refine qf func276 call276 ntmps276 results276 ?_;repeat refine jL f1 ?_
  exact p'
 ·have d:E' 14 a b= !decide (b<a):=by show decide (a<=b)=_;rw[MP];simp[Q9]
  rw[d]at f1 |-;refine qf func276 call276 ntmps276 results276 ?_;repeat refine jL f1 ?_
  exact p'
 ·have d:E' 15 a b= !decide (a<b):=by show decide (b<=a)=_;rw[MP];simp[Q9]
  rw[d]at f1 |-;refine qf func276 call276 ntmps276 results276 ?_;repeat refine jL f1 ?_
  exact p'
 ·have d:E' 16 a b=(a==b):=rfl;rw[d]at f1 |-;refine qf func276 call276 ntmps276 results276 ?_;repeat refine jL f1 ?_
  exact p'
 have d:E' 17 a b=(a != b):=rfl;rw[d]at f1 |-;refine qf func276 call276 ntmps276 results276 ?_;repeat refine jL f1 ?_
 exact p'
def FZ(env:b6)(a:List lf)(n:Nat)(y:n<=a.length)(w:a.length<=32):b7 prog env 275 [qs a,I ((n:Int)-1)] (I (fU a n 1:Nat)):=by
 refine qf func275 call275 ntmps275 results275 ?_;repeat refine m8 ?_
 refine Si (D:=Nat×Int) (fun d _=>[(0,qs a),(5,I d.2),(6,I ((d.1:Int)-1))]) (fun _ _=>[]) (fun d _ _=>d.1<=n/\fU a d.1 d.2=fU a n 1/\d.2+(d.1:Int)<=1+(n:Int)/\1-2*(n:Int)<=d.2-2*(d.1:Int)) (fun d=>d.1) (n,1) ⟨Lr _,rfl,by simp only;omega,by simp only;omega⟩ ?_;rintro⟨j,b⟩ z v ⟨i,c,e,f⟩;simp only at i c e f
 match j,i,c,e,f with
 | 0,i,c,e,f=>
   have g: ¬(0:Int)<=((0:Nat):Int)-1:=by omega
   rw[<-c];show fk _ _ _ _ _ _;have u:(fU a 0 b:Nat)=0:=rfl;rw[u];have F:=g;exact dT
 | j+1,i,c,e,f=>
   obtain⟨o,l,_⟩:=aS (show j<a.length by omega);have x:=ji o.kind;have f0:=de env o.kind;have p:((j+1:Nat):Int)-1=(j:Int):=by omega
   have g:(0:Int)<=(j:Int):=by omega
   have q:(j:Int)< (a.length:Int):=by omega
   have r:IntKind.i64.wrap (b-1)=b-1:=aW (by omega) (by omega);have s:IntKind.i64.wrap (b-1+aF o.kind)=b-1+aF o.kind:=aW (by omega) (by omega);have t:IntKind.i64.wrap ((j:Int)-1)=(j:Int)-1:=aW (by omega) (by omega)
   have m:fU a (j+1) b=if b-1+aF o.kind=0 then j else fU a j (b-1+aF o.kind):=by
    conv=>lhs;unfold fU
    rw[l]
   rw[m]at c;by_cases h:b-1+aF o.kind=0
   ·rw[Lj h]at c;rw[<-c];have k:(b-1+aF o.kind==0)=true:=by simpa using h
    have F:=pf S1 l p g q r s t k;exact g9 f0
   rw[Lf h]at c;have k:(b-1+aF o.kind==0)=false:=by simpa using h
   have F:=pf S1 l p g q r s t k;repeat refine ef f0 ?_
   exact qn (j,b-1+aF o.kind) ⟨by simp only;omega,c,by simp only;omega,by simp only;omega⟩
def zN(env:b6)(w:ph)(f:w.Ok)(h:w.vars.length<=1000000):b7 prog env 39 [.agg (dm w)] (B true):=by
 have f0:=d6 env w.data;rw[f.data]at f0
 have f1: ∀x∈w.vars,b7 prog env 15 [I x] (B true):=fun x b=>by
  have:=d6 env x;rwa [f.vars x b]at this
 unfold dm;generalize List.map As w.act=X at*;refine qf func39 call39 ntmps39 results39 ?_;repeat refine m8 ?_
 refine PA w.vars.length (by omega) (fun j e=>[(1, .loc 1 (e 1) 0 0),(3,I j)]) (fun _ _=>[(1,⟨3,[[b0 w.vars,I w.data, .seq 1 X]],110,false⟩)]) (fun _ _ _=>True) trivial ?_ ?_
 ·rintro j e c a d g _;obtain⟨x,b⟩:=gE a;have f2:=f1 x (Lh b);have F:=hH S3 d g b;repeat refine ef f2 ?_
  exact qn (j+1) ⟨a,trivial⟩
 rintro e c d _;have F:=d;exact g9 f0
def lK(env:b6)(w:ph)(x:w.Ok): ∀(f:Nat)(a:List lf),a.length<=f->a.length<=32->ql w.vars.length w.act.length a 0=some 1->b7 prog env 257 [qs a, .agg (dm w)] (.tuple [I (gu w f a).1,B (gu w f a).2])
 | 0,a,hf,_,h=>by
   obtain rfl:a=[]:=NE.1 (by omega);simp[ql]at h
 | f+1,a,hf,M,h=>by
   obtain⟨l,o,e,N,v⟩:=uH h;have Y:a.length=l.length+1:=by rw[e];simp
   have d:a[l.length]? =some o:=by rw[e];simp
   have s:a.take l.length=l:=by rw[e];simp
   have b:gu w (f+1) a=gu w (f+1) (l++[o]):=by rw[e]
   have c:=D4 N;have g:IntKind.i64.wrap ((a.length:Int)-1)=(l.length:Int):=(aW (by omega) (by omega)).trans (by omega);have i:(l.length:Int)< (a.length:Int):=by omega
   have C:(l.length:Int)<=(a.length:Int):=by omega
   rw[ce]at b;obtain⟨k,n⟩:=o;simp only at N v b;rcases mP N with⟨q,y,r⟩|⟨q,r,_⟩|⟨q,y,r,_⟩
   ·simp only at q y r;rw[Lj y]at b;rw[b];unfold mZ at c;simp only at c;obtain rfl|rfl|rfl|rfl:k=1\/k=2\/k=3\/k=4:=by omega
    ·show b7 _ _ _ _ (.tuple [I n,B true]);refine qf func257 call257 ntmps257 results257 ?_;have F:=g7 S1 Th d g i;exact dT
    ·have c:0<=n/\n<w.vars.length:=by simpa using c
     obtain⟨m,rfl⟩:=fO c.1;have j:(m:Int)< (w.vars.length:Int):=c.2;have u:w.vars[m]? =some (w.vars.getD m 0):=by rw[MJ,Lc (by omega)];rfl
     show b7 _ _ _ _ (.tuple [I (w.vars.getD ((m:Int).toNat) 0),B true]);rw[Mz];refine qf func257 call257 ntmps257 results257 ?_;have F:=ns S1 Th S3 d g i j u;exact dT
    ·show b7 _ _ _ _ (.tuple [I w.data,B true]);refine qf func257 call257 ntmps257 results257 ?_;have F:=g7 S1 Th d g i;exact dT
    have c:0<=n/\n<w.act.length:=by simpa using c
    obtain⟨m,rfl⟩:=fO c.1;have j:(m:Int)< (w.act.length:Int):=c.2;have u:w.act[m]? =some (w.act.getD m false):=by rw[MJ,Lc (by omega)];rfl
    show b7 _ _ _ _ (.tuple [I (No (w.act.getD ((m:Int).toNat) false)),B true]);rw[Mz];have f0:=fJ env (w.act.getD m false);generalize w.act.getD m false=t at*;refine qf func257 call257 ntmps257 results257 ?_;have F:=ns S1 Th As.eq_1 d g i j u;exact g9 f0
   ·simp only at q r;rw[r]at v;have A:l.length<=f:=by omega
    have f0:=lK env w x f l A (by omega) v;have z:=(iQ x f l A v).1;generalize gu w f l=T at*;unfold dm at f0 |-;rcases q with rfl|rfl
    ·rw[Lf (by omega),Lj rfl]at b;rw[b];have j:IntKind.i64.wrap (0-T.1)=0-T.1:=gI (by unfold Rb at z |-;omega);refine qf func257 call257 ntmps257 results257 ?_;have F:=ns OJ S1 d s g i C j;exact g9 f0
    rw[Lf (by omega),Lf (by omega),Lj rfl]at b;rw[b];have f1:=fJ env (T.1==0);refine qf func257 call257 ntmps257 results257 ?_;have F:=lP OJ S1 d s g i C;exact m5 f0 f1
   ·simp only at q y r;rw[r]at v;obtain⟨W,X,h3⟩:=tz v;rw[Lf (by omega),Lf (by omega),Lf (by omega)]at b;have D:=FZ env a l.length (by omega) M;have ea:fU a l.length 1=fU l l.length 1:=by rw[e];exact mg l _ _ _ (Lr _)
    rw[ea]at D;generalize fU l l.length 1=p at*;have f0:=lK env w x f (l.take p) (by rw[Lw];omega) (by rw[Lw];omega) W;have f1:=lK env w x f (l.drop p) (by rw[NP];omega) (by rw[NP];omega) X;have U:=iQ x f (l.take p) (by rw[Lw];omega) W;have V:=iQ x f (l.drop p) (by rw[NP];omega) X;have j:IntKind.i64.wrap ((l.length:Int)-1)=(l.length:Int)-1:=aW (by omega) (by omega);have u:a.take p=l.take p:=by rw[e,NX (QV h3)]
    have O:(a.drop p).take (l.length-p)=l.drop p:=by rw[<-List.drop_take,s]
    have P:(p:Int)<=(a.length:Int):=by omega
    have Q:(p:Int)<=(l.length:Int):=by omega
    generalize gu w f (l.take p)=Z at*;generalize gu w f (l.drop p)=Tb at*;unfold dm at f0 f1 |-;have E:(k==1)=false:=by simp;omega
    have G:(k==2)=false:=by simp;omega
    have H:(k==3)=false:=by simp;omega
    have J:(k==4)=false:=by simp;omega
    have K:(k==5)=false:=by simp;omega
    have L:(k==6)=false:=by simp;omega
    rcases Z with⟨S,ab⟩;rcases Tb with⟨bv,bb⟩;simp only at U V f0 f1 b;cases ab with
    | false=>
      rw[b];show b7 _ _ _ _ (.tuple [I 0,B false]);refine qf func257 call257 ntmps257 results257 ?_;have F:=dk OJ S1 d j u O P Q g i C<|ip E G H J K L;exact x5 D f0 f1
    | true=>
      cases bb with
      | false=>
        rw[b];show b7 _ _ _ _ (.tuple [I 0,B false]);refine qf func257 call257 ntmps257 results257 ?_;have F:=dk OJ S1 d j u O P Q g i C<|ip E G H J K L;exact x5 D f0 f1
      | true=>
        have f2:=CH env k S bv ⟨q,y⟩ (U.2 rfl) (V.2 rfl);rw[b];simp only[Bool.and_self,Mb];generalize jt k S bv=R at*;refine qf func257 call257 ntmps257 results257 ?_;have F:=dk OJ S1 d j u O P Q g i C<|ip E G H J K L;exact RG D f0 f1 f2
def Ci:Option Int->AV
 |some v=> .tuple [I v,I 0]
 |none=> .tuple [I 0,I 2]
def vZ(env:b6)(w:ph)(e:w.Ok)(i:w.vars.length<=1000000)(a:List lf)(d:bn a w.vars.length w.act.length=true):b7 prog env 221 [qs a, .agg (dm w)] (Ci (kO w a)):=by
 obtain⟨h,c⟩:=oU d;have g:iM a w.vars.length w.act.length=0:=by unfold bn at d;simpa using d
 have f0:=zN env w e i;have f1:=kS env a w.vars.length w.act.length;rw[g]at f1;have f2:=lK env w e a.length a (Lr _) c h;have f:(w.act.map As).length=w.act.length:=ME ..;unfold kO;generalize gu w a.length a=T at*;obtain⟨v,b⟩:=T;unfold dm at f0 f2 |-;cases b with
 | true=>
   show b7 _ _ _ _ (.tuple [I v,I 0]);refine qf func221 call221 ntmps221 results221 ?_;have F:=f;exact x5 f0 f1 f2
 | false=>
   show b7 _ _ _ _ (.tuple [I 0,I 2]);refine qf func221 call221 ntmps221 results221 ?_;have F:=f;exact x5 f0 f1 f2
end Go.Proofs.YtknkhdgfhbogdaaGreatDoor
set_option linter.unusedSimpArgs false
namespace Go.Proofs.YtknkhdgfhbogdaaGreatDoor
open Go.Proofs.Tryz
open Go.RowKit
set_option maxRecDepth 100000
set_option maxHeartbeats 16000000
def RM(w:ph)(g:Nat->Nat):AV:= .agg [.row 1002 (g 1002),I w.data, .seq 1 (w.act.map As)]
def u6(w:ph):Nat×Row:=(1002,⟨1,w.vars.map aa,3,true⟩)
def B8(env:b6)(w:ph)(o:lf)(R:List Int)(l:R.length<=1000)(b:1<=o.kind/\o.kind<=4)(h:mZ o w.vars.length w.act.length=true):hU prog env 259 [1002,27] (fun k=>k==27) (fun g=>[b0 R, .agg (bV o),RM w g]) (fun _=>[u6 w]) (fun _=>[u6 w,(27,⟨1,(R++[l' w o]).map aa,3,true⟩)]) (fun g=> .tuple [.row 27 (g 27),B true]):=by
 have f0:=(Ae env w o b h).lend rfl;have i:o.kind<=4:=b.2;have j:cI (R.length+1) 8:=aC (by omega) (by omega);have c:(R++[l' w o]).map aa=R.map aa++[[I (l' w o)]]:=by simp
 rw[c];try clear c
 generalize l' w o=v at*;unfold bV dm at f0;unfold RM u6;refine qi func259 call259 ntmps259 results259 ?_;intro m f a;obtain⟨d,e⟩:=OF a;have F:=g7 S1 i j d e;repeat refine st ?_
 refine lL f0 ?_;repeat refine st ?_
 exact rI
def B7(env:b6)(w:ph)(o:lf)(a:Int)(R:List Int)(A:R.length<=1000)(j:o.kind=5\/o.kind=6)(i:aL a=true):hU prog env 259 [1002,51] (fun k=>k==51) (fun g=>[b0 (R++[a]), .agg (bV o),RM w g]) (fun _=>[u6 w]) (fun _=>[u6 w,(51,⟨1,(R++[Qe o.kind a]).map aa,3,true⟩)]) (fun g=> .tuple [.row 51 (g 51),B true]):=by
 have f0:=vO env o.kind a j i;have l: ¬o.kind<=4:=by omega
 have m:o.kind<=6:=by omega
 have n:cI (R.length+1) 8:=aC (by omega) (by omega);have d: ∀x:Int,(R++[x]).map aa=R.map aa++[[I x]]:=fun x=>by simp
 have e:b0 (R++[a])= .seq 1 (R.map aa++[[I a]]):=by rw[show R.map aa++[[I a]]=(R++[a]).map aa by simp]
 rw[d,e];have q:(R.map aa++[[I a]]).length=R.length+1:=by simp
 have r:(R.map aa++[[I a]])[R.length]? =some [I a]:=by rw[MO (by simp)];simp
 have s:(R.map aa++[[I a]]).take R.length=R.map aa:=by rw[NX (by simp),M8 (by simp)]
 have p:IntKind.i64.wrap (((R.length+1:Nat):Int)-1)=(R.length:Int):=(aW (by omega) (by omega)).trans (by omega);have t:(R.length:Int)< ((R.length+1:Nat):Int):=by omega
 have u: ¬((R.length:Int)=((R.length+1:Nat):Int)):=by omega
 have y:(R.length:Int)<=((R.length+1:Nat):Int):=by omega
 generalize z:R.map aa++[[I a]]=X at*;generalize Qe o.kind a=v at*;unfold RM u6;refine qi func259 call259 ntmps259 results259 ?_;intro C h b;obtain⟨c,f⟩:=OF b;have F:=dk S1 l m n p q r s t u y<|ai c f;repeat refine ef f0 ?_
 exact rI
def B9(env:b6)(w:ph)(o:lf)(a b:Int)(R:List Int)(D:R.length<=1000)(m:7<=o.kind/\o.kind<=19)(j:aL a=true)(l:aL b=true):hU prog env 259 [1002,77] (fun k=>k==77) (fun g=>[b0 (R++[a,b]), .agg (bV o),RM w g]) (fun _=>[u6 w]) (fun _=>[u6 w,(77,⟨1,(R++[(jt o.kind a b).1]).map aa,3,true⟩)]) (fun g=> .tuple [.row 77 (g 77),B (jt o.kind a b).2]):=by
 have f0:=tG env o.kind a b m j l;have n: ¬o.kind<=4:=by omega
 have p: ¬o.kind<=6:=by omega
 have q:cI (R.length+1) 8:=aC (by omega) (by omega);have e: ∀x:Int,(R++[x]).map aa=R.map aa++[[I x]]:=fun x=>by simp
 have f:b0 (R++[a,b])= .seq 1 (R.map aa++[[I a],[I b]]):=by rw[show R.map aa++[[I a],[I b]]=(R++[a,b]).map aa by simp]
 rw[e,f];have s:(R.map aa++[[I a],[I b]]).length=R.length+2:=by simp
 have t:(R.map aa++[[I a],[I b]])[R.length]? =some [I a]:=by rw[MO (by simp)];simp
 have p5:(R.map aa++[[I a],[I b]])[R.length+1]? =some [I b]:=by rw[MO (by simp)];simp
 have u:(R.map aa++[[I a],[I b]]).take R.length=R.map aa:=by rw[NX (by simp),M8 (by simp)]
 have r:IntKind.i64.wrap (((R.length+2:Nat):Int)-2)=(R.length:Int):=(aW (by omega) (by omega)).trans (by omega);have p3:IntKind.i64.wrap (((R.length+2:Nat):Int)-1)=((R.length+1:Nat):Int):=(aW (by omega) (by omega)).trans (by omega);have y:(R.length:Int)< ((R.length+2:Nat):Int):=by omega
 have p7:((R.length+1:Nat):Int)< ((R.length+2:Nat):Int):=by omega
 have z: ¬((R.length:Int)=((R.length+2:Nat):Int)):=by omega
 have A:(R.length:Int)<=((R.length+2:Nat):Int):=by omega
 generalize C:R.map aa++[[I a],[I b]]=X at*;generalize jt o.kind a b=v at*;unfold RM u6;refine qi func259 call259 ntmps259 results259 ?_;intro E i c;obtain⟨d,h⟩:=OF c;have F:=dk S1 n p q r p3 s t p5 u y<|g7 p7 z A d h;repeat refine ef f0 ?_
 exact rI
def G7(env:b6)(W Q X:Addr)(he:fq env W X)(h2:env 5=some (cf Q))(w:ph)(O:w.Ok)(hl:w.vars.length<=1000000)(e:List lf)(U:bn e w.vars.length w.act.length=true):hU prog env 233 [1002] (fun _=>false) (fun g=>[qs e,RM w g]) (fun _=>[u6 w]) (fun _=>[u6 w]) (fun _=>j7 Q (kO w e)):=by
 have f0:=(jo env w O hl).lend rfl;have f1:=gd env W X he e w.vars.length w.act.length;have g2:=iH h2;have f9:=bh env [118,97,108,117,101,46,69,118,97,108] Q;obtain⟨M,Y⟩:=oU U;have h0:iM e w.vars.length w.act.length=0:=by unfold bn at U;simpa using U
 unfold iA at f1;rw[Lj h0]at f1;have r:=Ay w M;have q0:(w.act.map As).length=w.act.length:=ME ..;have s1: ∀(o:lf)(R:List Int),R.length<=1000->1<=o.kind/\o.kind<=4->mZ o w.vars.length w.act.length=true->_:=fun o R=>B8 env w o R;have s2: ∀(o:lf)(a:Int)(R:List Int),_:=fun o a R=>B7 env w o a R;have s3: ∀(o:lf)(a b:Int)(R:List Int),_:=fun o a b R=>B9 env w o a b R;unfold dm at f0;unfold RM u6 at*;refine qi func233 call233 ntmps233 results233 ?_;intro K t H;have n:=H 1002 (by simp);have F:=n;repeat refine st ?_
 refine lL f0 ?_;repeat refine ef f1 ?_
 refine eh (cU.nil 8 1 (by simp only[go_sem])) ?_;refine lp (D:=Nat×List Int) (fun d K=>[(3, .loc 3 (K 3) 0 0),(8,b0 d.2.reverse),(31,qs e),(32,I e.length),(33,I d.1)]) (fun _ K=>[(3,⟨3,[[.row 1002 (K 1002),I w.data, .seq 1 (w.act.map As)]],245,false⟩),(1002,⟨1,w.vars.map aa,3,true⟩)]) (fun d V t=>(d.1<=e.length/\mT w (e.take d.1) []=some d.2/\ql w.vars.length w.act.length e 0=ql w.vars.length w.act.length (e.drop d.1) d.2.length/\(∀x∈d.2,aL x=true)/\d.2.length<=d.1)/\V 1002=K 1002/\t 1002=false) (fun d=>e.length-d.1) (0,[]) ⟨⟨Lx _,rfl,rfl,by simp,Lr _⟩,by simp only[go_sem],by simp only[go_sem,n]⟩ ?_;try clear n
 rintro⟨i,s⟩ ws t ⟨⟨hi,q,u,p,j⟩,J,n⟩;simp only at hi q u p j;by_cases m:i<e.length
 ·obtain⟨o,y,_⟩:=aS m;obtain⟨up,no⟩:=oM y u;have z:=h9 m;have P:=aD m (by omega);have c:=AK (w:=w) y q
  have h:cA w.vars.length w.act.length s.length o=true:=by
   cases h:cA w.vars.length w.act.length s.length o with
   |true=>rfl
   |false=>rw[no h]at M;cases M
  have k:=up h;have l:=D4 h;refine wt 9001 rfl ?_;rcases mP h with⟨A,L,B⟩|⟨A,B,C⟩|⟨A,L,B,C⟩
  ·have f2:=s1 o s.reverse (by rw[NZ];omega) ⟨A,L⟩ l;have f:dr w o s=some (l' w o::s):=by unfold dr;rw[Lj L]
   rw[f]at c;have E:s.reverse++[l' w o]=(l' w o::s).reverse:=by simp
   rw[E]at f2;refine dq ?_;have F:=g7 S1 y z P n;repeat refine st ?_
   refine iL [(1002,1002),(27,9001)] f2 ?_;repeat refine st ?_
   refine⟨_,cU.frozen 9001 8 ⟨1,(l' w o::s).reverse.map aa,3,true⟩ rfl (MZ 0) (by simp only[go_sem]) (by simp only[go_sem]),(i+1,l' w o::s),⟨⟨m,c,?_,gg O l p f,?_⟩,?_,?_⟩,?_,?_,?_⟩
   ·rw[k,B]
    congr 1<;>simp
   ·simp only[MB];omega
   ·simp only[go_sem,J]
   ·simp only[go_sem,n]
   ·exact qe
   ·exact qe
   simp only;omega
  ·match s,q,u,p,j,h,k,c,C with
   | a::s,q,u,p,j,h,k,c,C=>
     have T:=p a (by simp);have f2:=s2 o a s.reverse (by rw[NZ];simp only[MB]at j;omega) A T;have f:dr w o (a::s)=some (Qe o.kind a::s):=by unfold dr;rw[Lf (by omega),Lj (by omega)]
     rw[f]at c;have E:s.reverse++[Qe o.kind a]=(Qe o.kind a::s).reverse:=by simp
     have S:s.reverse++[a]=(a::s).reverse:=by simp
     rw[E,S]at f2;refine dq ?_;have F:=g7 S1 y z P n;repeat refine st ?_
     refine iL [(1002,1002),(51,9001)] f2 ?_;repeat refine st ?_
     refine⟨_,cU.frozen 9001 8 ⟨1,(Qe o.kind a::s).reverse.map aa,3,true⟩ rfl (MZ 0) (by simp only[go_sem]) (by simp only[go_sem]),(i+1,Qe o.kind a::s),⟨⟨m,c,?_,gg O l p f,?_⟩,?_,?_⟩,?_,?_,?_⟩
     ·rw[k,B]
      congr 1<;>simp
     ·simp only[MB]at j |-;omega
     ·simp only[go_sem,J]
     ·simp only[go_sem,n]
     ·exact qe
     ·exact qe
     simp only;omega
  ·match s,q,u,p,j,h,k,c,C with
   | b::a::s,q,u,p,j,h,k,c,C=>
     have hb:=p b (by simp);have T:=p a (by simp);have f2:=s3 o a b s.reverse (by rw[NZ];simp only[MB]at j;omega) ⟨A,L⟩ T hb;have f:dr w o (b::a::s)=if (jt o.kind a b).2 then some ((jt o.kind a b).1::s) else none:=by unfold dr;rw[Lf (by omega),Lf (by omega)]
     rw[f]at c;have E:s.reverse++[(jt o.kind a b).1]=((jt o.kind a b).1::s).reverse:=by simp
     have S:s.reverse++[a,b]=(b::a::s).reverse:=by simp
     rw[E,S]at f2;cases N:(jt o.kind a b).2 with
     | true=>
       rw[N]at f2 f c;simp only[Mb]at f c;refine dq ?_;have F:=g7 S1 y z P n;repeat refine st ?_
       refine iL [(1002,1002),(77,9001)] f2 ?_;repeat refine st ?_
       refine⟨_,cU.frozen 9001 8 ⟨1,((jt o.kind a b).1::s).reverse.map aa,3,true⟩ rfl (MZ 0) (by simp only[go_sem]) (by simp only[go_sem]),(i+1,(jt o.kind a b).1::s),⟨⟨m,c,?_,gg O l p f,?_⟩,?_,?_⟩,?_,?_,?_⟩
       ·rw[k,B]
        congr 1
        simp only[MB];omega
       ·simp only[MB]at j |-;omega
       ·simp only[go_sem,J]
       ·simp only[go_sem,n]
       ·exact qe
       ·exact qe
       simp only;omega
     | false=>
       rw[N]at f2 c;simp only[MH,Mi]at c;have Z:=run_stuck c;rw[r,P9]at Z;rw[Z];show fk _ _ _ _ _ _;unfold j7;have F:=lP S1 y z P g2 n J;repeat refine st ?_
       refine iL [(1002,1002),(77,9001)] f2 ?_;repeat refine ef f9 ?_
       exact rI
 obtain rfl:i=e.length:=by omega
 have z:=nl e.length;have G:=sS (Lr _) u;rw[M]at G;rw[MC,r]at q;obtain⟨v,N,rfl⟩:=NA.1 q;rw[N];unfold j7;have F:=ip S3 z @QL.{0} @List.reverse_nil.{0} n J;repeat refine st ?_
 exact rI
end Go.Proofs.YtknkhdgfhbogdaaGreatDoor
set_option linter.unusedSimpArgs false
namespace Go.Proofs.YtknkhdgfhbogdaaGreatDoor
open Go.Proofs.Tryz
open Go.RowKit
set_option maxRecDepth 100000
set_option maxHeartbeats 16000000
def oh(p:(List UInt8×Int)->Bool):List (List UInt8×Int)->Option Nat
 |[]=>none
 |d::l=>if p d=true then some 0 else(oh p l).map (· +1)
def wA{p:(List UInt8×Int)->Bool} : ∀ {l:List (List UInt8×Int)}{i:Nat},oh p l=some i->i<l.length/\l.take i=(l.take i).filter (fun d=> !p d)/\ ∃d,l[i]? =some d/\p d=true
 |[],i,h=>by simp[oh]at h
 | d::l,i,h=>by
   unfold oh at h;split at h
   ·rename_i a;cases h;exact⟨by simp,by simp,d,rfl,a⟩
   ·rename_i a;cases b:oh p l with
    |none=>rw[b]at h;cases h
    | some j=>
      rw[b]at h;cases h;obtain⟨g,c,x,e,f⟩:=wA b;refine⟨by simp;omega,?_,x,by simpa using e,f⟩;have a:p d=false:=by simpa using a
      simp only[List.take_succ_cons,Na,a,NI,Mb];rw[<-c]
def wB{p:(List UInt8×Int)->Bool} : ∀ {l:List (List UInt8×Int)},oh p l=none->l.filter (fun d=> !p d)=l/\ ∀d∈l,p d=false
 |[],h=>by simp
 | d::l,h=>by
   unfold oh at h;split at h
   ·cases h
   ·rename_i a;have a:p d=false:=by simpa using a
    cases c:oh p l with
    |some j=>rw[c]at h;cases h
    | none=>
      obtain⟨e,f⟩:=wB c;refine⟨by simp only[Na,a,NI,Mb,e],fun x b=> ?_⟩;rcases MI.1 b with rfl|b
      ·exact a
      exact f x b
def GO{p:(List UInt8×Int)->Bool}{l:List (List UInt8×Int)}{n:Nat}{d:(List UInt8×Int)}(a:l[n]? =some d):oh p (l.drop n)=if p d=true then some 0 else(oh p (l.drop (n+1))).map (· +1):=by
 rw[ar a];rfl
def za(env:b6)(l:List (List UInt8×Int))(p:(List UInt8×Int)->Bool)(g:FuncId)(a:List (List AV))(m: ∀d,b7 prog env g [.agg (cR d), .ref 1 a 0 0] (B (p d)))(o:l.length<=4096):b7 prog env 286 [.seq 2 (l.map cR), .clo g [.ref 1 a 0 0]] (I (lz (oh p l))):=by
 refine qf func286 call286 ntmps286 results286 ?_;repeat refine m8 ?_
 refine PA l.length (by omega) (fun n i=>[(0, .seq 2 (l.map cR)),(1, .clo g [.ref 1 a 0 0]),(7,I l.length),(8,I n)]) (fun n i=>[]) (fun n _ c=>oh p l=(oh p (l.drop n)).map (· +n)) (by simp) ?_ ?_
 ·rintro n i c e f j b;obtain⟨d,h⟩:=gE e;have f1:=m d;unfold cR at f1;rw[GO h]at b;cases k:p d
  ·rw[k]at b f1;simp only[MH,Mi]at b;have F:=hH S5 h f j;repeat refine st ?_
   refine oC (cH rfl (by simp only[go_sem,F];exact iR)) (f1) (by simp only[go_sem,F];exact iR) (by simp only[go_sem,F];exact⟨rfl,rfl⟩) ?_;repeat refine st ?_
   refine⟨n+1,⟨e,?_⟩,?_,?_,?_⟩
   ·rw[b];cases oh p (l.drop (n+1))
    ·rfl
    simp;omega
   ·exact qe
   ·exact qe
   omega
  rw[k]at b f1;simp only[Mb,MG,Mt]at b;rw[b];have F:=ip S5 h f j Tp lz.eq_2;repeat refine st ?_
  refine oC (cH rfl (by simp only[go_sem,F];exact iR)) (f1) (by simp only[go_sem,F];exact iR) (by simp only[go_sem,F];exact⟨rfl,rfl⟩) ?_;exact dT
 rintro i c f b;rw[Mm (by omega)]at b;rw[b];have F:=g7 f Tp lz.eq_2 oh.eq_1 oh.eq_2;exact dT
def xW(env:b6)(l:List (List UInt8×Int))(p:(List UInt8×Int)->Bool)(g:FuncId)(G:List UInt8)(P:TypeId)(U: ∀d,b7 prog env g [.agg (cR d), .ref 1 [[Sg G]] 0 0] (B (p d)))(hl:l.length<=4096):
 hU prog env 270 [1000,1001] (fun k=>k==1000) (fun vs=>[.row 1000 (vs 1000), .clo g [.loc 1001 (vs 1001) 0 0]]) (fun _=>[(1000,⟨2,l.map cR,85,true⟩),(1001,⟨1,[[Sg G]],P,false⟩)]) (fun _=>[(1000,⟨2,(l.filter fun d=> !p d).map cR,85,true⟩),(1001,⟨1,[[Sg G]],P,false⟩)]) (fun vs=> .row 1000 (vs 1000)):=by
 have f0:=(za env l p g [[Sg G]] U hl).lend rfl;cases t:oh p l with
 | none=>
   rw[t]at f0;obtain⟨m,_⟩:=wB t;rw[m];refine qi func270 call270 ntmps270 results270 ?_;intro vs z h;obtain⟨e,f⟩:=OF h;have F:=hH e f Tp lz.eq_2;repeat refine st ?_
   refine lL f0 ?_;repeat refine st ?_
   exact rI
 | some s=>
   rw[t]at f0;obtain⟨m,E,d0,H,J⟩:=wA t;have R:((s:Int) == -1)=false:=by simp
   have r:=aD m (by omega);refine qi func270 call270 ntmps270 results270 ?_;intro vs z h;obtain⟨e,f⟩:=OF h;have F:=ip e f Tp lz.eq_2 R r;repeat refine st ?_
   refine lL f0 ?_;repeat refine st ?_
   refine aG (D:=Nat×List (List UInt8×Int)) (fun x i=>[(0, .row 1000 (i 1000)),(1, .clo g [.loc 1001 (i 1001) 0 0]),(5,I (((l.take x.1).filter fun d=> !p d).length:Int)),(6,I (x.1:Int))]) (fun x i=>[(1000,⟨2,x.2.map cR,85,true⟩),(1001,⟨1,[[Sg G]],P,false⟩)]) (fun x i o=>(x.1<=l.length/\x.2.length=l.length/\((l.take x.1).filter fun d=> !p d).length<x.1/\x.2.take ((l.take x.1).filter fun d=> !p d).length=(l.take x.1).filter (fun d=> !p d)/\x.2.drop x.1=l.drop x.1)/\i 1001=vs 1001/\o 1000=false/\o 1001=false) (fun x=>l.length-x.1) (s+1,l) ?_ ?_ ?_ ?_
   ·have b:(l.take (s+1)).filter (fun d=> !p d)=l.take s:=by
     rw[bE H,MR, <-E];simp[J]
    refine⟨⟨m,rfl,?_,?_,rfl⟩,by simp only[go_sem],by simp only[go_sem,e],by simp only[go_sem,f]⟩
    ·rw[b,Lw];omega
    simp only;rw[b,Lw,OD (by omega)]
   ·have b:((l.take (s+1)).filter fun d=> !p d).length=s:=by
     rw[bE H,MR, <-E];simp[J];omega
    simp only[b];exact qe
   ·exact qe
   try clear e f R r m E H J t
   rintro⟨j,L⟩ ws es ⟨⟨hj,K,hc,u,w⟩,Q,e,f⟩;simp only at hj K hc u w;generalize a:((l.take j).filter fun d=> !p d).length=c at*;by_cases n:j<l.length
   ·obtain⟨d,V⟩:=gE n
    have v:L[j]? =some d:=by
     have:=MS (fun q:List (List UInt8×Int)=>q[0]?) w;simpa[V]using this
    have f1:=U d;unfold cR at f1;have r:(j:Int)< (L.length:Int):=by omega
    have S:=aD n (by omega);have T:=bE V;cases m:p d
    ·rw[m]at f1;obtain⟨y,hy⟩: ∃x,L[c]? =some x:=⟨L[c]'(by omega),Lc (by omega)⟩;have A:(c:Int)< (L.length:Int):=by omega
     have C:IntKind.i64.wrap ((c:Int)+1)=((c+1:Nat):Int):=aD (show c<l.length by omega) (by omega);have b:((l.take (j+1)).filter fun d=> !p d)=(l.take j).filter (fun d=> !p d)++[d]:=by rw[T,MR];simp[m]
     have hs:(L.map cR).set c [Sg d.1,I d.2]=(L.set c d).map cR:=by rw[O7];rfl
     have F:=la S5 v hy e f r S A C hs;repeat refine st ?_
     refine oL (cH rfl (by simp only[go_sem,F];exact iR)) (f1.lend rfl) (by simp only[go_sem,F];exact iR) (by simp only[go_sem,F];exact⟨rfl,rfl⟩) ?_;repeat refine st ?_
     refine⟨(j+1,L.set c d),⟨⟨n,by simpa using K,?_,?_,?_⟩,?_,?_,?_⟩,?_,?_,?_⟩
     ·simp only[b,Ll,MX,a];omega
     ·simp only[b,Ll,MX,a];rw[<-u];apply Md;intro k;rw[MV,NF];by_cases hk:k<c
      ·rw[Lj (by omega),Lf (by omega),MY (by simp;omega),MV,Lj hk]
      by_cases N:k=c
      ·subst N;rw[Lj (by omega),Lj rfl,Lj (by omega),MO (by rw[Lw];omega),Lw,OD (by omega)];simp
      rw[Lf (by omega),Lu (by rw[Ll,Lw,MX];omega)]
     ·simp only;rw[List.drop_set_of_lt (by omega)];have:=MS (List.drop 1) w;simpa[Pa]using this
     ·simp only[go_sem,Q]
     ·simp only[go_sem,e]
     ·simp only[go_sem,f]
     ·have O:((l.take (j+1)).filter fun d=> !p d).length=c+1:=by rw[b,Ll,a];rfl
      simp only[O];exact qe
     ·exact qe
     simp only;omega
    rw[m]at f1;have b:((l.take (j+1)).filter fun d=> !p d)=(l.take j).filter (fun d=> !p d):=by rw[T,MR];simp[m]
    have F:=ip S5 v e f r S;repeat refine st ?_
    refine oL (cH rfl (by simp only[go_sem,F];exact iR)) (f1.lend rfl) (by simp only[go_sem,F];exact iR) (by simp only[go_sem,F];exact⟨rfl,rfl⟩) ?_;repeat refine st ?_
    refine⟨(j+1,L),⟨⟨n,K,?_,?_,?_⟩,?_,?_,?_⟩,?_,?_,?_⟩
    ·simp only[b,a];omega
    ·simp only[b,a];exact u
    ·simp only;have:=MS (List.drop 1) w;simpa[Pa]using this
    ·simp only[go_sem,Q]
    ·simp only[go_sem,e]
    ·simp only[go_sem,f]
    ·simp only[b,a];exact qe
    ·exact qe
    simp only;omega
   have r: ¬(j:Int)< (L.length:Int):=by omega
   have M:l.take j=l:=M8 (by omega);rw[M]at u a;have A:(c:Int)<=(L.length:Int):=by omega
   have C:c<=L.length:=by omega
   have W: ∀X:List (List AV),((L.take c).map cR++X).take c=(l.filter fun d=> !p d).map cR:=fun X=>by
    rw[OW (by rw[ME,Lw];omega),u]
   have Y:c+(L.length-c)=L.length:=by omega
   have Z:min c L.length=c:=by omega
   have F:=pc Q e f @Lw.{0} @List.length_replicate.{0} r A C W Y Z;repeat refine st ?_
   exact rI
end Go.Proofs.YtknkhdgfhbogdaaGreatDoor
namespace Go.Proofs.YtknkhdgfhbogdaaGreatDoor
open Go.Proofs.Tryz
open Go.RowKit Go.Sort Go.Shelf Go.Lib
section
variable {α:Type} [Inhabited α]
theorem sY(enc:α->List Value)(k:Nat)(a: ∀x,(enc x).length=k)(d:List α):flatK enc k d.toArray=(d.map enc).flatten.toArray:=by
 have j: ∀l∈d.map enc,l.length=k:=fun l c=>by
  obtain⟨x,_,rfl⟩:=Lp.1 c;exact a x
 have c:=dw (d.map enc) j;apply Array.ext';apply Md;intro p;by_cases e:p<d.length*k
 ·have b:0<k:=by
   rcases Nat.eq_zero_or_pos k with h|h
   ·subst h;simp at e
   exact h
  have g:p/k<d.length:=O4 (by rw[OC];exact e);have i:p%k<k:=PD _ b;have f:=fQ (d.map enc) j (p/k) (p%k) (enc d[p/k]) ((enc d[p/k])[p%k]'(by rw[a];exact i)) (by simp[g]) (Lc _);rw[PI]at f;rw[PO,f,ON];simp[flatK,e,g,a,i]
 rw[Lu (by simp;omega),Lu (by simp[c];omega)]
theorem rC{P:Program}{ρ:Ren}(L:SlLaysF0.n6 P ρ){e:TypeId}(k:Nat)(q: ∀w,(isAgg (ρ.t 24)).run P w= .ok true w)(D: ∀w,(Go.sizeOf (ρ.t 24)).run P w= .ok k w)(enc:α->List Value)(h: ∀x,(enc x).length=k)(p: ∀x,∀v∈enc x,v.oneCell'=true)
 (a:α->α->Int)(u:SWO (ltOf a))(g:Nat)(i:Array Value)(d:List α)(B:0<d.length)(o:d.length<4611686018427387904)(r: ∀(args:Array Value)(w:World),(callFunc (ρ.f 6) args).run P w= .ok (.enter (ρ.f 6) args) w)(s: ∀args w,(callFunc g args).run P w= .ok (.enter g args) w)
 (f: ∀j w,CmpLays P g i enc k a j 0 d.length w)(z: ∀x y,(ltOf a) x y=false->(ltOf a) y x=false->x=y):
 An P (ρ.f 6) [.func (.func g) #[] i] e k (d.map enc) ((d.mergeSort fun x y=> !(ltOf a) y x).map enc):=by
 refine jq (by simpa using B) r (by simp) (fun l m=> ?_) (fun l m=> ?_) fun w b c t A=> ?_
 ·obtain⟨x,_,rfl⟩:=Lp.1 m;exact h x
 ·obtain⟨x,_,rfl⟩:=Lp.1 m;exact⟨h x,p x⟩
 have:=AnyQ.slices_SortFunc_total L k q D enc h p a u g i b 0 c d.toArray w s (by simpa using f b w) (by unfold HoldsK;rw[sY enc k h];exact t) A (by simpa using o) z;rw[ME];refine(by simpa using this:Calls P (ρ.f 6) #[.slice (some ⟨b,0,none⟩) d.length c, .func (.func g) #[] i] w _).mono ?_;rintro E G ⟨rfl,n,C,rfl⟩;refine⟨rfl,n,C,?_⟩;unfold sortWorldK putRowK;rw[sY enc k h]
end
end Go.Proofs.YtknkhdgfhbogdaaGreatDoor
namespace Go.Proofs
open Go.Shelf
def Tryz.sortTm_ren:Go.Shelf.Ren:=⟨fun|6=>272|15=>111|14=>287|28=>170|29=>171|20=>293|21=>294|22=>295|23=>296|24=>297|25=>298|26=>299|27=>300|46=>302|47=>213|48=>214|49=>303|50=>304|57=>306|n=>n,fun|22=>29|24=>85|25=>301|3=>3|39=>187|0=>0|53=>132|55=>227|4=>4|46=>221|45=>220|50=>148|5=>5|9=>9|66=>256|70=>260|76=>280|77=>86|n=>n,fun|n=>n⟩
def Tryz.sortTm:Go.Proofs.SlLaysF0.n6 prog Tryz.sortTm_ren:={
 mixed:=by kernel_rfl
 f6:=⟨Tryz.f272.name,by decide,func272.trans (congrArg some (by kernel_rfl))⟩
 f14:=⟨Tryz.f287.name,by decide,func287.trans (congrArg some (by kernel_rfl))⟩
 f15:=func111.trans (congrArg some (by kernel_rfl))
 f20:=⟨Tryz.f293.name,by decide,func293.trans (congrArg some (by kernel_rfl))⟩
 f21:=⟨Tryz.f294.name,by decide,func294.trans (congrArg some (by kernel_rfl))⟩
 f22:=⟨Tryz.f295.name,by decide,func295.trans (congrArg some (by kernel_rfl))⟩
 f23:=⟨Tryz.f296.name,by decide,func296.trans (congrArg some (by kernel_rfl))⟩
 f24:=⟨Tryz.f297.name,by decide,func297.trans (congrArg some (by kernel_rfl))⟩
 f25:=⟨Tryz.f298.name,by decide,func298.trans (congrArg some (by kernel_rfl))⟩
 f26:=⟨Tryz.f299.name,by decide,func299.trans (congrArg some (by kernel_rfl))⟩
 f27:=⟨Tryz.f300.name,by decide,func300.trans (congrArg some (by kernel_rfl))⟩
 f28:=func170.trans (congrArg some (by kernel_rfl))
 f29:=func171.trans (congrArg some (by kernel_rfl))
 f46:=⟨Tryz.f302.name,by decide,func302.trans (congrArg some (by kernel_rfl))⟩
 f47:=func213.trans (congrArg some (by kernel_rfl))
 f48:=func214.trans (congrArg some (by kernel_rfl))
 f49:=⟨Tryz.f303.name,by decide,func303.trans (congrArg some (by kernel_rfl))⟩
 f50:=⟨Tryz.f304.name,by decide,func304.trans (congrArg some (by kernel_rfl))⟩
 f57:=⟨Tryz.f306.name,by decide,func306.trans (congrArg some (by kernel_rfl))⟩
 t0:=Tryz.underlying0
 a0:=Tryz.isAgg0
 z0:=Tryz.sizeOf0
 v0:=Tryz.zeroValue0
 t3:=Tryz.underlying3
 a3:=Tryz.isAgg3
 z3:=Tryz.sizeOf3
 v3:=Tryz.zeroValue3
 t4:=Tryz.underlying4
 a4:=Tryz.isAgg4
 z4:=Tryz.sizeOf4
 v4:=Tryz.zeroValue4
 t5:=Tryz.underlying5
 a5:=Tryz.isAgg5
 z5:=Tryz.sizeOf5
 v5:=Tryz.zeroValue5
 t9:=Tryz.underlying9
 a9:=Tryz.isAgg9
 z9:=Tryz.sizeOf9
 v9:=Tryz.zeroValue9
 t22:=Tryz.underlying29
 a22:=Tryz.isAgg29
 z22:=Tryz.sizeOf29
 v22:=Tryz.zeroValue29
 t25:=Tryz.underlying301
 a25:=Tryz.isAgg301
 z25:=Tryz.sizeOf301
 v25:=Tryz.zeroValue301
 t39:=Tryz.underlying187
 a39:=Tryz.isAgg187
 z39:=Tryz.sizeOf187
 v39:=Tryz.zeroValue187
 t45:=Tryz.underlying220
 a45:=Tryz.isAgg220
 z45:=Tryz.sizeOf220
 v45:=Tryz.zeroValue220
 t46:=Tryz.underlying221
 a46:=Tryz.isAgg221
 z46:=Tryz.sizeOf221
 v46:=Tryz.zeroValue221
 t50:=Tryz.underlying148
 a50:=Tryz.isAgg148
 z50:=Tryz.sizeOf148
 v50:=Tryz.zeroValue148
 t53:=Tryz.underlying132
 a53:=Tryz.isAgg132
 z53:=Tryz.sizeOf132
 v53:=Tryz.zeroValue132
 t55:=Tryz.underlying227
 a55:=Tryz.isAgg227
 z55:=Tryz.sizeOf227
 v55:=Tryz.zeroValue227
 t66:=Tryz.underlying256
 a66:=Tryz.isAgg256
 z66:=Tryz.sizeOf256
 v66:=Tryz.zeroValue256
 t70:=Tryz.underlying260
 a70:=Tryz.isAgg260
 z70:=Tryz.sizeOf260
 v70:=Tryz.zeroValue260
 t76:=Tryz.underlying280
 a76:=Tryz.isAgg280
 z76:=Tryz.sizeOf280
 v76:=Tryz.zeroValue280
 t77:=Tryz.underlying86
 a77:=Tryz.isAgg86
 z77:=Tryz.sizeOf86
 v77:=Tryz.zeroValue86 }
end Go.Proofs
set_option linter.unusedSimpArgs false
namespace Go.Proofs.YtknkhdgfhbogdaaGreatDoor
open Go.Proofs.Tryz
open Go.RowKit
set_option maxRecDepth 100000
set_option maxHeartbeats 1000000
def ov(p:List UInt8×Int):List Value:=[.string ⟨p.1.toArray⟩, .int .i64 p.2]
def Aa(l:List (List UInt8×Int)):bN (l.map ov)=l.map cR:=by simp[bN,ov,cR,Sg,I]
def uE(x:List UInt8×Int): ∀l,(rn x l).Perm (l++[x])
 |[]=> .refl _
 | y::l=>by
   unfold rn;split
   ·exact(List.perm_append_comm (l₁:=[x]) (l₂:=y::l))
   exact(uE x l).cons y
def Hy{x:List UInt8×Int}{l:List (List UInt8×Int)}(h:l.Pairwise fun a b=>Op.bytesLess a.1 b.1=true)(B: ∀y∈l,y.1≠x.1):(l++[x]).mergeSort (fun x y=> !Op.bytesLess y.1 x.1)=rn x l:=by
 have o:=uD h B
 have u:((l++[x]).mergeSort fun x y=> !Op.bytesLess y.1 x.1).Pairwise fun x y=>(!Op.bytesLess y.1 x.1)=true:=P4 (fun a b c d g=>by
  simp only[Mo]at*;cases k:Op.bytesLess c.1 a.1
  ·rfl
  ·cases s:Op.bytesLess b.1 a.1
   ·cases t:Op.bytesLess a.1 b.1
    ·rw[<-dp t s,k]at g;cases g
    rw[e9 k t]at g;cases g
   rw[s]at d;cases d) (fun a b=>by
  cases k:Op.bytesLess b.1 a.1
  ·simp
  rw[o6 k];simp) (l++[x])
 refine(PV (le:=fun x y=>(!Op.bytesLess y.1 x.1)=true) ?_ (o.imp fun {a b} h=>by simp[o6 h]) u ((uE x l).trans (PQ _ _).symm)).symm;intro a b z A v w;have e:a.1=b.1:=dp (by simpa using w) (by simpa using v);by_cases d:a=b
 ·exact d
 exfalso
 obtain⟨i,p,m⟩:=NC z;obtain⟨j,q,n⟩:=NC (((uE x l).trans (PQ _ _).symm).mem_iff.2 A);have r:=M6.1 o;rcases O2 i j with f|f|f
 ·have:=r i j p q f;rw[m,n,e,eI]at this;cases this
 ·subst f;exact d (m.symm.trans n)
 have:=r j i q p f;rw[m,n,e,eI]at this;cases this
def Kn{x:List UInt8×Int}{l:List (List UInt8×Int)}(h:l.Pairwise fun a b=>Op.bytesLess a.1 b.1=true)(f: ∀y∈l,y.1≠x.1):(l++[x]).Pairwise fun x y=>x.1≠y.1:=by
 rw[OR];refine⟨h.imp (fun {a b} h e=>by rw[e,eI]at h;cases h),Od _ _,fun a c b d=> ?_⟩;obtain rfl:=MA.1 d;exact f a c
section
open Go.Shelf Go.Lib Go.Sort
def Jq: ∀w,(isAgg 85).run prog w= .ok true w:=fun w=>by kernel_rfl
def HY: ∀w,(Go.sizeOf 85).run prog w= .ok 2 w:=fun w=>by kernel_rfl
def RX(x y:List UInt8):Int:=if Op.bytesLess x y then -1 else 1
def I4(a:List UInt8)(b:Int)(c:List UInt8)(d:Int)(W:World):Calls prog 273 #[.agg #[.string ⟨a.toArray⟩, .int .i64 b], .agg #[.string ⟨c.toArray⟩, .int .i64 d]] W fun e w'=>e= .returned (.int .i64 (RX a c))/\ ∃q os',w'=grow (W.drewN q) os':=by
 unfold RX;by_cases h:Op.bytesLess a c=true
 ·rw[Lj h]
  go_enter func273,ntmps273
  go_wp2_with fail
  go_ret
  exact⟨rfl,0,_,by rw[alloc_eq_grow,alloc_eq_grow,grow_grow];rfl⟩
 have h:Op.bytesLess a c=false:=by simpa using h
 rw[Lf (by rw[h];simp)]
 go_enter func273,ntmps273
 go_wp2_with fail
 go_ret
 exact⟨rfl,0,_,by rw[alloc_eq_grow,alloc_eq_grow,grow_grow];rfl⟩
def wz(ps:List (List UInt8×Int))(J:ps.Pairwise (fun x y=>x.1≠y.1))(L:ps.length<=1000)(H:ps≠[]):
 An prog 272 [.func (.func 273) #[] #[]] 85 2 (ps.map ov) ((ps.mergeSort fun x y=> !Op.bytesLess y.1 x.1).map ov):=by
 have G:=call272;have g:0<ps.length:=NG.2 H
 haveI:Inhabited {p // p∈ps} :=⟨⟨ps[0],N4 g⟩⟩
 have d: ∀x y: {p // p∈ps},ltOf (fun x y: {p // p∈ps} =>RX x.1.1 y.1.1) x y=Op.bytesLess x.1.1 y.1.1:=fun x y=>by
  unfold ltOf RX;cases k:Op.bytesLess x.1.1 y.1.1<;>simp[k]
 have l:SWO (ltOf fun x y: {p // p∈ps} =>RX x.1.1 y.1.1):=by
  refine⟨fun x=> ?_,fun x y z h f=> ?_,fun x y z h f=> ?_⟩
  ·rw[d];exact eI _
  ·rw[d]at*;exact e9 h f
  rw[d]at*;cases k:Op.bytesLess x.1.1 z.1.1
  ·rfl
  cases B:Op.bytesLess y.1.1 x.1.1
  ·rw[dp h B]at k;rw[k]at f;cases f
  rw[e9 B k]at f;cases f
 have I: ∀x y: {p // p∈ps},ltOf (fun x y: {p // p∈ps} =>RX x.1.1 y.1.1) x y=false->ltOf (fun x y: {p // p∈ps} =>RX x.1.1 y.1.1) y x=false->x=y:=fun x y h f=>by
  rw[d]at h f;have e:=dp h f;obtain⟨i,q,n⟩:=NC x.2;obtain⟨j,r,o⟩:=NC y.2;have t:=M6.1 J;apply Subtype.ext;rw[<-n, <-o]at e |-;rcases O2 i j with c|c|c
  ·exact absurd e (t i j q r c)
  ·subst c;rfl
  exact absurd e.symm (t j i r q c)
 have u:=rC (e:=85) Tryz.sortTm 2 Jq HY (fun x: {p // p∈ps} =>ov x.1) (fun _=>rfl) (fun x v A=>by simp[ov]at A;rcases A with rfl|rfl<;>rfl) (fun x y=>RX x.1.1 y.1.1) l 273 #[] ps.attach (by simpa using g) (by simp;omega) G call273
  (fun C w m M K _ x y=>I4 _ _ _ _ _) I
 have D:ps.attach.map (fun x: {p // p∈ps} =>ov x.1)=ps.map ov:=by
  rw[show (fun x: {p // p∈ps} =>ov x.1)=ov ∘ Subtype.val from rfl, <-OE,List.attach_map_subtype_val]
 have E:(ps.attach.mergeSort fun x y=> !ltOf (fun x y: {p // p∈ps} =>RX x.1.1 y.1.1) y x).map (fun x: {p // p∈ps} =>ov x.1)=(ps.mergeSort fun x y=> !Op.bytesLess y.1 x.1).map ov:=by
  rw[show (fun x: {p // p∈ps} =>ov x.1)=ov ∘ Subtype.val from rfl, <-OE]
  congr 1
  rw[List.map_mergeSort (s:=fun x y:List UInt8×Int=> !Op.bytesLess y.1 x.1) (fun a _ b _=>by simp only[d]),List.attach_map_subtype_val]
 rw[D,E]at u;exact u
def Eu(x:List UInt8×Int)(l:List (List UInt8×Int))(h:l.Pairwise fun a b=>Op.bytesLess a.1 b.1=true)(c: ∀y∈l,y.1≠x.1)(d:l.length<=100):
 An prog 272 [.func (.func 273) #[] #[]] 85 2 ((l++[x]).map ov) ((rn x l).map ov):=by
 rw[<-Hy h c];exact wz _ (Kn h c) (by simp;omega) (by simp)
end
end Go.Proofs.YtknkhdgfhbogdaaGreatDoor
