/- What the rows of MacroQuiet and RecordLives give: the table of bits and five errors. -/
import Derived.Test.YtknkhdgfhbogdaaGreatDoorP34
set_option maxRecDepth 100000
set_option maxHeartbeats 16000000
set_option linter.unusedSimpArgs false
set_option linter.defProp false
namespace Go.Proofs.YtknkhdgfhbogdaaGreatDoor
open Go.Proofs.Tryz
section
open Go.RowKit
def CD:List UInt8:=[110,111,98,111,100,121,46,104,97,115,46,116,104,105,115]
def nG(env:b6)(v M N H C:Addr)(Q:fq env v C)(h2:env 5=some (cf M))(h6:env 3=some (cf N))(h7:env 0=some (cf H))(hT: ∀W,env.inv W->wg W)(c:aq)(Y:j6 c)(x:pb)(hx:sb x)(ev:List UInt8)(d n f:Int):b7 prog env 3 [.agg (eZ c x ev d n f)] (B true):=by
 have o:=zp env v M N H C Q h2 h6 h7 hT;have b:=zD env c x ev d n f;cases w:lU c with
 | false=>
   have p:=zZ env c w;unfold li at b;rw[w,NI,P7,P7,P7]at b;unfold aA at p;unfold eZ at b |-;refine qf func3 call3 ntmps3 results3 ?_;repeat refine HF p b o ?_
   exact p'
 |true=>
 have h:=GU w;have hs:=t8 (EQ w);obtain⟨hvl,_⟩:=I6 (EQ w);have p:=C2 env v C Q hT c Y w;unfold aA aH at p;cases hr:li c x with
 | true=>
   rw[hr]at b;unfold eZ at b |-;refine qf func3 call3 ntmps3 results3 ?_;repeat refine HF p b o ?_
   exact p'
 |false=>
 rw[hr]at b;obtain⟨l1,l2,l3⟩:=H2 w hr;obtain⟨hF,U⟩:=IH hx;have hL:MT (D' x):=⟨show x.1.length<=1000000 by omega,show x.2.1.length<=1000000 by omega,show x.2.2.1.length<=1000000 by omega,U.2⟩;have hnm: ∀t∈x.2.2.2.1,t.1.length<=9223372036854775807:=fun t g=>oG (hx.1.2.2.2 t g);have l:=zJ env c h x hL hF ev d n f;rcases RK (fun k=>if k=1 then v else H) c x d n f with⟨k,S,q1,hk,_⟩|⟨q1,_,O,P,b3,b4⟩
 ·rw[q1]at l;have q7:((k:Int) != 0)=true:=by rw[QA];omega
  unfold eZ at b l |-;refine qf func3 call3 ntmps3 results3 ?_;have F:=q7;exact RG p b l o
 rw[q1]at l;obtain⟨R,D,rfl,J⟩:=Ky b4;have E:If env v M N C c n:=⟨Q,h2,h6,h,hs,R⟩;have f2:=ub env h hs hvl R (x:=x) (d:=7) (fu:=0) O rfl (by omega);have z:=fun e=>Ke h R (JV (F:=0) (d:=7) O rfl (by omega)) (x:=e);change ∀e,(sm c n 0 x 7).2=some e->_ at z;rcases V:sm c n 0 x 7 with⟨m,_|⟨k,S⟩⟩
 case some=>
  rw[V]at f2 z;obtain⟨_,e2⟩:=z _ rfl
  have q7:((k:Int) != 0)=true:=by
   simp only at e2;rw[QA];omega
  unfold AI PJ at f2;unfold aA k0 at f2;simp only at f2;unfold eZ at b l |-;refine qf func3 call3 ntmps3 results3 ?_;have F:=q7;exact SA p b l f2 o
 have Z:ir c (m0 x 7) []= .ok []:=zB P (by rw[V]);rw[V]at f2;have fy:=qA env v H C Q h7 c h hs x hL hnm hF [109,97,99,114,111,46,83,101,110,100] 7 n D;rw[show Bw v H c x 7 n D=h8 by unfold Bw;rw[O,P,show aL 7=true from rfl,JM R J];rfl]at fy;have f1:=vj E (ev:=CD) O P (show aL 7=true from rfl) J rfl fy;have f3:=zK env x.1 x.2.1 x hx.1 rfl rfl;rw[show ((x.1==x.1)&&(x.2.1==x.2.1))=true by simp]at f3;have G:=fun(hh: ∀t∈c.trans,t.Z8≠CD)=>CI (F:=D) (now:=n) P hh Z;have hftr:=h.ZP;generalize Qk c n D x CD 7=X at*;unfold AI DP at f2;unfold aA k0 at f2;unfold CD at f1;simp only at f2;rcases X with⟨u,_|⟨k,S⟩⟩
 ·unfold vg at f1;unfold aH k0 at f1;simp only at f1;unfold eZ at b l |-;refine qf func3 call3 ntmps3 results3 ?_;repeat refine LH p b l f2 f1 o ?_
  have F:=eZ.eq_1;refine lq c.trans.length (by omega) (fun i A=>[(1, .loc 1 (A 1) 0 0),(4, .loc 4 (A 4) 0 0),(5, .loc 5 (A 5) 0 0),(6,h8),(7,I i)]) (fun _ _=>[(1,⟨14,[eZ c x ev d n D],35,false⟩),(4,⟨5,[[b0 u.x.1,b0 u.x.2.1, .seq 2 (u.x.2.2.1.map eg), .seq 2 (u.x.2.2.2.1.map cR),B u.x.2.2.2.2]],31,false⟩),(5,⟨3,[[b0 u.said,I u.steps,B u.x.2.2.2.2]],45,false⟩)]) (fun i _ _=> ∀t∈c.trans.take i,t.Z8≠CD) (fun t g=>by simp at g) ?_ ?_
  ·rintro i ws T j s L a;obtain⟨t,g⟩:=gE j;cases r:t.Z8 == [110,111,98,111,100,121,46,104,97,115,46,116,104,105,115]with
   | true=>
     have F:=ip Tt SV g s L r;exact g9 o
   | false=>
     have F:=ip Tt SV g s L r;repeat refine st ?_
     refine⟨i+1,⟨j,fun y K=> ?_⟩,?_,?_,by omega⟩
     ·rw[bE g]at K;rcases ML.1 K with q|q
      ·exact a y q
      rw[MA.1 q];exact fun e=>by rw[e]at r;simp[CD]at r
     ·exact qe
     exact qe
  rintro ws T _ a;rw[MC]at a;have s:=nl c.trans.length;have G:=G a;obtain⟨rfl,_⟩:=Prod.mk.inj G;unfold m0;simp only[NH];unfold k0 at f3;simp only at f3;have F:=ai Tt s;exact m5 f3 o
 unfold vg gY uZ kI at f1;unfold aH k0 at f1;simp only at f1;unfold eZ at b l |-;refine qf func3 call3 ntmps3 results3 ?_;repeat refine LH p b l f2 f1 o ?_
 have F:=eZ.eq_1;refine lq c.trans.length (by omega) (fun i A=>[(1, .loc 1 (A 1) 0 0),(4, .loc 4 (A 4) 0 0),(5, .loc 5 (A 5) 0 0),(6,fc (-1) (fc (S.headD (-1)) (l5 S.tail (cf (if k=2 then M else if k=6 then N else C))))),(7,I i)]) (fun _ _=>[(1,⟨14,[eZ c x ev d n D],35,false⟩),(4,⟨5,[[ct,ct,ct,ct,B false]],31,false⟩),(5,⟨3,[[ct,I 0,B false]],45,false⟩)]) (fun i _ _=> ∀t∈c.trans.take i,t.Z8≠CD) (fun t g=>by simp at g) ?_ ?_
 ·rintro i ws T j s L a;obtain⟨t,g⟩:=gE j;cases r:t.Z8 == [110,111,98,111,100,121,46,104,97,115,46,116,104,105,115]with
  | true=>
    have F:=ip Tt SV g s L r;exact g9 o
  | false=>
    have F:=ip Tt SV g s L r;repeat refine st ?_
    refine⟨i+1,⟨j,fun y K=> ?_⟩,?_,?_,by omega⟩
    ·rw[bE g]at K;rcases ML.1 K with q|q
     ·exact a y q
     rw[MA.1 q];exact fun e=>by rw[e]at r;simp[CD]at r
    ·exact qe
    exact qe
 rintro ws T _ a;rw[MC]at a;have s:=nl c.trans.length;have G:=G a;exact absurd (MS Prod.snd G) (by simp)
end
section
open Go.RowKit Go.ChangeShapes Go.WideShapes Go.ChangeAt Go.Deep
def KE:prog.cellsOf 35=14:=by kernel_rfl
def K0:prog.cellsOf 33=2:=by kernel_rfl
def Kk{l:List Value}(h:l.length=14): ∃a b c d e f g i j k m n o p,l=[a,b,c,d,e,f,g,i,j,k,m,n,o,p]:=by
 match l,h with
 |[a,b,c,d,e,f,g,i,j,k,m,n,o,p],_=>exact⟨a,b,c,d,e,f,g,i,j,k,m,n,o,p,rfl⟩
section
variable {H:Type} {enc:TypeId×Value->H} {w:World} {base:Nat} {spare:Nat->Bool} {held:Bool}
theorem Hd(m:Nat)(cs:List Value)(y:DataW H×List MemPlace)(h:DataW.trod enc prog w base spare held m 33 cs=some y): ∃a:List UInt8×Int,RE w cR qm cs a:=by
 obtain⟨s,n,_,_,d,b,c⟩:=Nf Tryz.underlying33 h;rw[K0]at d;obtain⟨e,f,rfl⟩:=C3 d;obtain⟨q,j⟩:=bY b c 0 _ rfl 9 0 1 rfl rfl iZ;obtain⟨o,g, -,l⟩:=OU Tryz.underlying9 (show DataW.trod enc prog w base spare held n 9 [e]=some q from j);cases g;obtain⟨⟨t0⟩⟩:=o;obtain⟨r,k⟩:=bY b c 1 _ rfl 3 1 1 rfl rfl po;obtain⟨p,i, -, -⟩:=NK Tryz.underlying3 (show DataW.trod enc prog w base spare held n 3 [f]=some r from k);cases i;exact⟨(t0,p),⟨⟨rfl, .lit _⟩,⟨rfl, .lit _⟩,trivial⟩,(by simpa[qm,ByteArray.size]using l)⟩
theorem CQ{r0:Reach}{L:Nat}{v:Value}{d:DataW H}{p:List MemPlace}(hv:Value.okWide prog w r0 L 35 v)(J:WB prog 35 d)(h:DataW.Trod enc prog w base spare held 35 v d p):
 ∃(c:aq) (x:pb) (ev:List UInt8) (S n f:Int),j6 c/\sb x/\RV (fun b _=>b<w.heap.size) w v (.agg (eZ c x ev S n f)):=by
 obtain⟨R,rfl,hsz⟩:=okWide_struct Tryz.underlying35 hv;obtain⟨l⟩:=R;obtain⟨E,hf⟩:=h;obtain⟨k,n,_,hx,G,a,g⟩:=Nf Tryz.underlying35 hf;rw[KE]at G;obtain⟨M,N,O,P,Q,s,t,u,y,A,m,o,q,r,rfl⟩:=Kk (show l.length=14 from G);have hxk:k.length=5:=a;have hd:d= .agg (k.map (·.1)):=MS (·.1) hx;rw[hd]at J;obtain⟨y0,V⟩:=bY a g 0 _ rfl 26 0 5 rfl rfl L8;obtain⟨c,q1,q2⟩:=Jf _ _ _ V;obtain⟨K,j⟩: ∃z,k[1]? =some z:=⟨k[1]'(by omega),Lc _⟩
 have W:DataW.trod enc prog w base spare held n 31 [s,t,u,y,A]=some K:=by
  have:=g 1 _ rfl;exact Eq.trans (show DataW.trod enc prog w base spare held n 31 [s,t,u,y,A]=k[1]? from this) j
 have B:WB prog 31 K.1:=WB.part (i:=1) Tryz.underlying35 J rfl (by rw[Lo,j];rfl);obtain⟨x,k1,k2⟩:=CP _ _ _ W B;obtain⟨y2,X⟩:=bY a g 2 _ rfl 33 10 2 rfl rfl K0;obtain⟨e,k3, -⟩:=Hd _ _ _ X;obtain⟨y3,Y⟩:=bY a g 3 _ rfl 3 12 1 rfl rfl po;obtain⟨C,T, -, -⟩:=NK Tryz.underlying3 (show DataW.trod enc prog w base spare held n 3 [q]=some y3 from Y);cases T;obtain⟨y4,Z⟩:=bY a g 4 _ rfl 3 13 1 rfl rfl po;obtain⟨D,U, -, -⟩:=NK Tryz.underlying3 (show DataW.trod enc prog w base spare held n 3 [r]=some y4 from Z);cases U;exact⟨c,x,e.1,e.2,C,D,q2,k2,Qx.agg (show Qx _ w ([M,N,O,P,Q]++([s,t,u,y,A]++([m,o]++[.int .i64 C, .int .i64 D]))) (aA c++(k0 x++(cR e++[I C,I D]))) from Qx.app q1 (Qx.app k1 (Qx.app k3 ⟨⟨rfl, .lit _⟩,⟨rfl, .lit _⟩,trivial⟩)))⟩
end
end
section
open Go.RowKit Go.ChangeShapes
structure Sx(w:World)(a1 a2 a6 a7 a8:Addr):Prop where
 s1:Qn w 1 a1
 s2:Qn w 5 a2
 s6:Qn w 3 a6
 s7:Qn w 0 a7
 s8:Qn w 2 a8
 tab:wg w
def LI(a b c d e:Addr)(g:Nat):Option AV:=
 if g=1 then some (cf a) else
 if g=5 then some (cf b) else
 if g=3 then some (cf c) else
 if g=0 then some (cf d) else
 if g=2 then some (cf e) else none
def HB(b c d e f:Addr):b6:=⟨LI b c d e f,fun w=>Sx w b c d e f,fun _ _ h a=>⟨h.s1.below a,h.s2.below a,h.s6.below a,h.s7.below a,h.s8.below a,h.tab.below a⟩⟩
def IE(a c d e b:Addr):fq (HB a c d e b) a b:=⟨rfl,rfl⟩
def GV(a b c d e:Addr): ∀W,(HB a b c d e).inv W->wg W:=fun _ h=>Sx.tab h
def ID{d f i j k:Addr}{w:World}(h:Sx w d f i j k):tI (HB d f i j k) (fun b _=>b<w.heap.size) w:=by
 refine⟨h,fun b o l=>l,fun g c a=> ?_⟩;have a:LI d f i j k g=some c:=a;unfold LI at a;split at a
 ·rename_i e;subst e;cases a;exact⟨_,h.s1.1,rfl,mJ h.s1.1, .lit _⟩
 split at a
 ·rename_i e;subst e;cases a;exact⟨_,h.s2.1,rfl,mJ h.s2.1, .lit _⟩
 split at a
 ·rename_i e;subst e;cases a;exact⟨_,h.s6.1,rfl,mJ h.s6.1, .lit _⟩
 split at a
 ·rename_i e;subst e;cases a;exact⟨_,h.s7.1,rfl,mJ h.s7.1, .lit _⟩
 split at a
 ·rename_i e;subst e;cases a;exact⟨_,h.s8.1,rfl,mJ h.s8.1, .lit _⟩
 cases a
def GB{W:World}(h:laidMetH prog [("math/bits.deBruijn32tab",Rows.laid_math_bits_deBruijn32tab),("scrinium/api.ErrForm",Rows.laid_scrinium_api_ErrForm),("scrinium/api.ErrRange",Rows.laid_scrinium_api_ErrRange),("scrinium/api.ErrFuel",Rows.laid_scrinium_api_ErrFuel),("scrinium/api.ErrState",Rows.laid_scrinium_api_ErrState),("scrinium/api.ErrLong",Rows.laid_scrinium_api_ErrLong)] W): ∃e f i j k,Sx W e f i j k:=by
 rw[MakeChecks.laidMetH_plain _ _ _ (by kernel_rfl)]at h;obtain⟨C,x,w,c⟩:=h;obtain⟨z,t0,s,f0,B,y,n,o,p,m,a,rfl⟩:=x;have u:=Ka n o p m
 obtain⟨l,t,d,A⟩:=vv (nm:= "*errors.errorString") Tryz.underlying47 Tryz.row160 Tryz.underlying324 Tryz.underlying340 rfl rfl Tryz.underlying9 (by kernel_rfl) (by kernel_rfl)
  [("scrinium/api.ErrForm",[102,111,114,109]),("scrinium/api.ErrRange",[114,97,110,103,101]),("scrinium/api.ErrFuel",[102,117,101,108]),("scrinium/api.ErrState",[115,116,97,116,101]),("scrinium/api.ErrLong",[108,111,110,103])] [1,5,3,0,2] y a (by kernel_rfl) (by
    intro g r;simp at r
    rcases r with rfl|rfl|rfl|rfl|rfl<;>kernel_rfl) (fun b q v=>c b q (Nj _ v))
 match l,t with
 |[e,f,i,j,k],_=>exact⟨e,f,i,j,k,d 0 _ _ rfl rfl,d 1 _ _ rfl rfl,d 2 _ _ rfl rfl,d 3 _ _ rfl rfl,d 4 _ _ rfl rfl,u⟩
end
end Go.Proofs.YtknkhdgfhbogdaaGreatDoor
