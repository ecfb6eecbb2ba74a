/- The document's words on guards and on what is found. -/
import Derived.Test.YtfhkmjbjafeckaaGreatDoorQ31
set_option maxRecDepth 100000
set_option maxHeartbeats 16000000
set_option linter.unusedSimpArgs false
set_option linter.defProp false
namespace Go.Proofs.YtfhkmjbjafeckaaGreatDoor
open Go.Proofs.Tryz
open Go.RowKit
section
def I6(a:Addr):Except Nat (List Nat)->AV
 | .ok l=> .tuple [.seq 1 (l.map aB),ik]
 | .error n=> .tuple [b6,c0 (1000+(n:Nat)) (bt a)]
def CG{c:aq}{w:rx}{ev:List UInt8}{i:Nat}{l o:List Nat}(h:dS c w ev ((i:Int)::kf c i)= .no):dA c w ev (i::l) o=dA c w ev l o:=by
 conv=>lhs;unfold dA
 rw[h]
def xY{c:aq}{w:rx}{ev:List UInt8}{i n:Nat}{l o:List Nat}(h:dS c w ev ((i:Int)::kf c i)= .one n):dA c w ev (i::l) o=dA c w ev l (if o.contains n then o else o++[n]):=by
 conv=>lhs;unfold dA
 rw[h]
def xZ{c:aq}{w:rx}{ev:List UInt8}{i n:Nat}{l o:List Nat}(h:dS c w ev ((i:Int)::kf c i)= .bad n):dA c w ev (i::l) o= .error n:=by
 unfold dA;rw[h]
def F9{c:aq}{w:rx}{ev:List UInt8}{n:Nat}{l:List Int}(h:dS c w ev l= .one n):n<c.trans.length:=by
 obtain⟨_,_,t,a,_⟩:=zP h;exact(Mt.1 a).1
def take_len(c:aq)(act:List Int)(l:List Nat)(n:Nat):(l' c act l n).length<=l.length+1:=by
 unfold l';split
 ·rw[NA,Nf];have:=NV (fun k=> !bd c act k n) l;omega
 omega
def E6(l:List Nat):l.map aB=(zL l).map aa:=(bl l).symm
def BL(env:cf)(z J C:Addr)(L:gb env z C)(h2:env 1=some (bt J))(c:aq)(h:ct c)(G:hP c)(x:tD)(d:Int)(H:E7 c x d)(ev:List UInt8)
 (K:b8 prog env 133 [Sg [109,105,99,114,111,46,69,110,97,98,108,101,100],aG c, .agg (i' x),I d] ik)(l:List Nat)(N:x.1=zL l)(r: ∀k∈l,k<c.Z9.length):
 b8 prog env 75 [aG c, .agg (i' x),Sg ev,I d] (I6 J (rY c x.1 (IS c x.1 x.2.1 d) ev (x4 c l))):=by
 have Y:=h.Z6;have S:=H.act;have f1:=ay env c G
 have f2:b8 prog env 134 [aG c,bs x.1] (.tuple [.seq 1 ((x4 c l).map aB),ik]):=by
  have:=Gz env z C L c h G l (by rw[N,ar]at S;omega) r (by rw[<-N];exact H.lg);rwa [E6 l, <-N]at this
 have f3:=fun k:Nat=>J9 env z J C L h2 c h G x d H k ev;have f4:=fun(o:List Nat)(n:Nat)(Z:o.length<=1000)=>(bI env (zL o) n (by rw[ar];omega)).lend rfl;have f5:=fun(o:List Nat)(Z:o.length<=1000)(r: ∀n∈o,n<c.trans.length)(n:Nat)(i:n<c.trans.length)=>Ij env z C L c h G x d H o Z r n i
 have hil:(x4 c l).length<=32:=by
  have:=(kH h.toRight (zL (u3 c l l.length))).length_le_of_subset (l₂:=List.range c.Z9.length) fun m hm=>by
   have hm:m∈x4 c l:=hm;unfold x4 b7 at hm;split at hm
   ·exact NZ.2 ((gS h.toRight m).1 (NF.1 hm).1)
   simp at hm
  simp at this;show (b7 c (zL (u3 c l l.length))).length<=32;omega
 unfold rY;generalize hW:IS c x.1 x.2.1 d=W at*;generalize x4 c l=R at*;unfold Sd at f3 f5;unfold i' at K |-;unfold aG at f1 f2 K |-;unfold aA at f1;refine qf func75 call75 ntmps75 results75 ?_;repeat refine Ci K f1 f2 ?_
 refine ap 14 14 3 1 ?_;refine fG (dg.nil 15 1 (by simp only[go_sem])) ?_
 refine aH (D:=Nat×List Nat) (fun e y=>[(2,Sg ev),(11, .loc 35 (y 35) 0 0),(14, .row 14 (y 14)),(15, .seq 1 []),(47, .seq 1 (R.map aB)),(48,I R.length),(49,I e.1)])
  (fun e _=>[(14,⟨1,e.2.map aB,3,true⟩),(35,⟨15,[[bs x.1,bs x.2.1, .seq 2 (x.2.2.1.map fj), .seq 2 (x.2.2.2.1.map cI),B x.2.2.2.2,b6,b6, .ref 9 [cy c] 0 0,Sg c.name,I c.initial,qa c.vars,rv c.Z9,tg c.trans,I d,I 0]],150,false⟩)])
  (fun e _ v=>(e.1<=R.length/\dA c W ev R []=dA c W ev (R.drop e.1) e.2/\e.2.length<=e.1/\ ∀n∈e.2,n<c.trans.length)/\v 14=false) (fun e=>R.length-e.1) (0,[]) ?_ ?_ ?_ ?_
 ·exact⟨⟨NJ _,rfl,ND _,fun n i=>by simp at i⟩,by simp only[go_sem]⟩
 ·exact TZ
 ·(simp only[go_sem])
  try rfl
 rintro⟨j,o⟩ ws v ⟨⟨hj,a,s,g⟩,q⟩;simp only at hj a s g;by_cases f:j<R.length
 ·obtain⟨k,p⟩:=gE f;have u:=ip f;have X:=aD f (by omega);have f6:=f3 k;rw[aZ p]at a;have q4: ¬(0:Int)<= -1:=by omega
  cases t:dS c W ev ((k:Int)::kf c k) with
  | no=>
    rw[t]at f6;unfold tx at f6;rw[CG t]at a;have F:=kv Uu p u X q4 q;repeat refine ff f6 ?_
    exact qn (j+1,o) ⟨⟨f,a,Qy s,g⟩,by simp only[go_sem,q]⟩
  | bad n=>
    rw[t]at f6;unfold tx at f6;rw[xZ t]at a;rw[a];show fq _ _ _ _ _ _;unfold I6;have F:=i0 Uu p u q;exact kb f6
  | one n=>
    have O:=F9 t;rw[t]at f6;unfold tx at f6;rw[xY t]at a;have q3:(0:Int)<=(n:Int):=by omega
    have f7:=f4 o n (by omega);rw[bl]at f7;have hf:dd (o.length+1) 8:=aC (by omega) (by omega);cases E:o.contains n with
    | true=>
      have T:(zL o).contains (n:Int)=true:=o8.2 (Mz.1 E);rw[T]at f7;rw[E]at a;simp only[Nn]at a;have F:=kv Uu p u X q3 q;repeat refine ff f6 ?_
      refine lL f7 ?_;repeat refine st ?_
      exact qn (j+1,o) ⟨⟨f,a,Qy s,g⟩,by simp only[go_sem,q]⟩
    | false=>
      have T:(zL o).contains (n:Int)=false:=by
       cases hh:(zL o).contains (n:Int) with
       |false=>rfl
       | true=>
         have:=Mz.2 (o8.1 hh);rw[E]at this;cases this
      rw[T]at f7;rw[E]at a;simp only[NW,OB]at a;have F:=m7 Uu p u X q3 hf q;repeat refine ff f6 ?_
      refine lL f7 ?_;repeat refine st ?_
      refine⟨(j+1,o++[n]),⟨⟨f,a,by simp only[NA,Nf];omega,fun m hm=> ?_⟩,by simp only[go_sem,q]⟩,?_,?_,by simp only;omega⟩
      ·rcases N1.1 hm with hm|hm
       ·exact g m hm
       rw[NP.1 hm];exact O
      ·exact qe
      have F:=ai Uu @NC.{0,0};exact qe
 obtain rfl:j=R.length:=by omega
 have u:=nl R.length;rw[OE]at a;have Q:dA c W ev R []= .ok o:=a;rw[Q];show fq _ _ _ _ _ _;unfold Eb I6
 have M: ∀m,m<=o.length->((o.take m).foldl (l' c x.1) []).length<=m/\ ∀n∈(o.take m).foldl (l' c x.1) [],n<c.trans.length:=fun m=>by
  induction m with
  |zero=>exact fun _=>⟨by simp,fun n i=>by simp at i⟩
  | succ m ih=>
    intro hm;obtain⟨i1,U⟩:=ih (by omega);obtain⟨n,i⟩: ∃n,o[m]? =some n:=⟨o[m],Ms (by omega)⟩;rw[bY _ _ i];refine⟨NN (take_len ..) (by omega),fun k r=> ?_⟩;rcases ua r with r|rfl
    ·exact U k r
    exact g _ (My i)
 have F:=ai u q;repeat refine st ?_
 try clear f4 f6
 refine aH (D:=Nat) (fun m y=>[(11, .loc 35 (y 35) 0 0),(15, .seq 1 (((o.take m).foldl (l' c x.1) []).map aB)),(76, .row 14 (y 14)),(77,I o.length),(78,I m)])
  (fun m _=>[(14,⟨1,o.map aB,3,true⟩),(35,⟨15,[[bs x.1,bs x.2.1, .seq 2 (x.2.2.1.map fj), .seq 2 (x.2.2.2.1.map cI),B x.2.2.2.2,b6,b6, .ref 9 [cy c] 0 0,Sg c.name,I c.initial,qa c.vars,rv c.Z9,tg c.trans,I d,I 0]],150,false⟩)])
  (fun m _ _=>m<=o.length) (fun m=>o.length-m) 0 ?_ ?_ ?_ ?_
 ·exact NJ _
 ·(simp only[go_sem,F])
  try rfl
 ·exact qe
 rintro m us es hm;obtain⟨i1,U⟩:=M m hm;by_cases b:m<o.length
 ·obtain⟨n,i⟩:=gE b;have V:=ip b;have p2:=aD b (by omega);have f6:=f5 _ (by omega) U n (g n (My i));have P:=bY (l' c x.1) [] i;rw[<-P]at f6;generalize (o.take m).foldl (l' c x.1) []=A at*;generalize w:(o.take (m+1)).foldl (l' c x.1) []=A2 at*;have F:=i0 Uu i V p2;repeat refine ff f6 ?_
  refine⟨m+1,b,?_,?_,by omega⟩
  ·have F:=ai Uu w;exact qe
  ·(simp only[go_sem,aB,w])
 obtain rfl:m=o.length:=by omega
 have V:=nl o.length;rw[NS];have F:=V;exact fc
end
section
def GN{l:List (List UInt8×Int)}(h:Fk l)(k:l.length<=8):eG l=true:=by
 unfold eG;rw[Ny k,SP];refine yI fun j a=> ?_;have e:l.getD j ([],0)=l[j]:=by simp[N3,Ms a]
 obtain⟨b,c,d⟩:=h.each _ (Oo a);unfold wU;rw[e,b];have i:I7 l[j].2=true:=by unfold I7;simp[c,d]
 rw[i];by_cases g:j=0
 ·simp[g]
 have m:=Nk.1 h.ZZ (j-1) j (by omega) a (by omega);have f:l.getD (j-1) ([],0)=l[j-1]'(by omega):=by simp[N3,Ms (show j-1<l.length by omega)]
 rw[f,m];simp
def N'(r:cD):tD:=(r.act,r.vars,r.mem,r.Z2,r.over)
def wZ{c:aq}{r:cD}(h:fe c r)(a:tU c r.act=true)(b:bm c r.mem=true)(d:r.over=nO c r.act):cq c (M' (N' r))=true:=by
 unfold cq;show (tU c r.act&&bm c r.mem&&(r.vars.length==c.vars.length)&&eG r.Z2&&(r.over==nO c r.act)&&wK r.vars)=true;rw[a,b,h.len,GN h.Z2 h.ZM,d,show wK r.vars=true from NB.2 h.vars];simp
def yx{c:aq}{act:List Int}(h: ∀x∈act,fi c x=true):nO c act=act.any fun x=>bX c x==3&&decide (aP c x<0):=by
 unfold nO;rw[N8,OG,OG]
 have e: ∀x∈act,jc c x=(bX c x==3&&decide (aP c x<0)):=fun x a=>by
  obtain⟨k,s,rfl,b,_⟩:=dB (h x a);unfold jc;rw[OP,b,iT b,ob b,Bool.and_comm]
 exact⟨fun⟨x,a,q⟩=>⟨x,a,by rw[<-e x a];exact q⟩,fun⟨x,a,q⟩=>⟨x,a,by rw[e x a];exact q⟩⟩
def rA{c:aq}(h:ct c){now:Int}(n:0<=now/\now<=1099511627776)(o: ∀v∈c.vars,aJ v.start=true)(k:(gu c now).2=none):cq c (M' (N' (gu c now).1))=true/\fe c (gu c now).1/\(gu c now).1.mem=[]:=by
 obtain⟨r,u⟩:=pE (bL h) (l:=zL (h9 c (-1))) (show aJ 0=true by rfl) n (y6 o) .nil
 have d:(ak c 0 now (g4 c) [] (zL (h9 c (-1)))).1.2=none:=by
  cases b:(ak c 0 now (g4 c) [] (zL (h9 c (-1)))).1.2 with
  |none=>rfl
  |some e=>rw[show gu c now=g5 c 0 now (g4 c) (zL (h9 c (-1))) from rfl,qM b,b]at k;cases k
 have i:=(ky h n o d);have g:=u k;change cq c (M' (N' (g5 c 0 now (g4 c) (zL (h9 c (-1)))).1))=true/\fe c (g5 c 0 now (g4 c) (zL (h9 c (-1)))).1/\(g5 c 0 now (g4 c) (zL (h9 c (-1)))).1.mem=[]
 have a:(g5 c 0 now (g4 c) (zL (h9 c (-1)))).1.act=zL (nL c (h9 c (-1))):=by
  obtain⟨_,s⟩:=iX (bL h) (l:=zL (h9 c (-1))) (f:=[]) (show aJ 0=true by rfl) n (y6 o) .nil;rw[<-i.2];exact mL g.ZZ (s d).ZZ fun x=>by rw[g.mem,(s d).mem]
 have m: ∀x∈zL (nL c (h9 c (-1))),fi c x=true:=fun x b=>by
  obtain⟨j,t,rfl⟩:=NG.1 b;exact aW.2 (NZ.1 (NF.1 t).1)
 refine⟨wZ r (by rw[a, <-i.2];exact i.1) (by rw[g.mm];rfl) ?_,r,g.mm⟩;rw[g.over,a,yx m,N8];show (false||_)=true↔_;rw[PF,OG,OG]
 have p: ∀x,x∈zL (nL c (h9 c (-1)))↔x∈zL (h9 c (-1)):=fun x=>by
  rw[<-a,g.mem];simp[g4]
 constructor
 ·rintro⟨x,b,q⟩;exact⟨x,(p x).2 b,by simpa[g4]using q⟩
 rintro⟨x,b,q⟩;exact⟨x,(p x).1 b,by simpa[g4]using q⟩
def JS{c:aq}{act:List Int}(h:tU c act=true):act.length<=c.Z9.length:=by
 have a:=cx h
 have:=a.nodup.length_le_of_subset (l₂:=zL (List.range c.Z9.length)) fun x b=>by
  obtain⟨_,_,d,_⟩:=a.of b;obtain⟨e,f⟩:=aI.1 d;exact NG.2 ⟨x.toNat,NZ.2 (by omega),by simp;omega⟩
 rw[ar,Pn]at this;exact this
def DX(env:cf)(c:aq)(h:ct c)(w:c.vars.length<=8)(now:Int)(o:0<=now/\now<=1099511627776)(p: ∀v∈c.vars,aJ v.start=true):b8 prog env 32 [.agg (aA c),I now] (.agg (fk (gu c now).1 0 now (gu c now).2)):=by
 have n:(h9 c (-1)).length<=1000:=by
  rw[IV h];have:=zh h (Es c);omega
 have f0:=DZ env c h (-1);have f1:=sl env c h (by omega) 0 now (show aJ 0=true by rfl) o (g4 c) (y6 p) .nil (fun x l=>by simp[g4]at l) (NJ _) (h9 c (-1)) (fun i t=>u9 h t) n (fun s=>(ky h o p s).1);change b8 _ _ _ _ (.agg (fk (gu c now).1 0 now (gu c now).2)) at f1;have f2:=f1.args (cs':=[.agg (aA c), .agg [b6,bs (c.vars.map (·.start)),b6,b6,B false,b6,b6,I 0,I now,I 0,I (-1)], .seq 1 ((h9 c (-1)).map aB)]) (.cons (.refl _) (.cons (.agg (.cons (.nil 1) (.cons (.refl _) (.cons (.nil 2) (.cons (.nil 2) (.cons (.refl _) (.cons (.nil 1) (.cons (.nil 2) (.cons (.refl _) (.cons (.refl _) (.cons (.refl _) (.cons (.refl _) .nil)))))))))))) (.cons (.refl _) .nil)));try clear f1
 generalize h9 c (-1)=G at*;generalize gu c now=X at*;unfold aA at f0 f2;unfold bs at f2;have r: ∀k,k<=c.vars.length->((c.vars.take k).map (·.start)).length=k:=fun k H=>by simp;omega
 refine qf func32 call32 ntmps32 results32 ?_;repeat refine nw ?_
 refine Tz 5 9001 0 1 3 1 ?_;have F:=aA.eq_1;refine lq c.vars.length (by omega) (fun j g=>[(2, .loc 2 (g 2) 0 0),(4, .loc 4 (g 4) 0 0),(5, .loc 5 (g 5) 0 0),(6,I j)]) (fun j g=>[(2,⟨5,[aA c],26,false⟩),(4,⟨11,[[b6,b6,b6,b6,B false,b6,b6,I 0,I 0,I 0,I 0]],91,false⟩),(5,⟨11,[[b6, .row 9001 (g 9001),b6,b6,B false,b6,b6,I 0,I now,I 0,I (-1)]],91,false⟩),(9001,⟨1,((c.vars.take j).map (·.start)).map aa,3,true⟩)]) (fun j _ a=>a 4=false/\a 5=false/\a 9001=false) (by simp only[go_sem,NH]) ?_ ?_
 ·rintro j D q b m y ⟨d,e,f⟩;have u:=R8 b;obtain⟨v,l⟩:=gE b;have z:dd (((c.vars.take j).map (·.start)).length+1) 8:=by rw[r j u];exact aC (by omega) (by omega)
  have A:((c.vars.take (j+1)).map (·.start)).map aa=((c.vars.take j).map (·.start)).map aa++[[I v.start]]:=by rw[bO l];simp
  generalize E:(c.vars.take j).map (·.start)=U at*;have F:=qs Us UO l m y z d e f;repeat refine st ?_
  refine⟨j+1,⟨b,?_⟩,?_,?_,by omega⟩
  ·simp only[go_sem,d,e,f,NH]
  ·exact qe
  simp only[A];exact qe
 rintro D q m ⟨d,e,f⟩;have C:((c.vars.take c.vars.length).map (·.start)).map aa=(c.vars.map (·.start)).map aa:=by rw[NS]
 simp only[C];rcases X with⟨K,_|⟨k,J⟩⟩
 ·unfold fk at f2 |-;simp only at f2 |-;have F:=ii Us m d e f;exact ns f0 f2
 unfold fk at f2 |-;simp only at f2 |-;have F:=ii Us m d e f;exact ns f0 f2
def mH(env:cf)(l:List Int)(g:l.length<=1000000):b8 prog env 18 [.seq 1 (l.map aa), .seq 1 (l.map aa)] (B true):=by
 refine qf func18 call18 ntmps18 results18 ?_;repeat refine nw ?_
 refine Q' l.length (by omega) (fun j h=>[(0, .seq 1 (l.map aa)),(1, .seq 1 (l.map aa)),(5,I j)]) (fun _ _=>[]) (fun _ _ _=>True) trivial ?_ ?_
 ·rintro j f c a b e _;obtain⟨x,d⟩:=gE a;have F:=i0 UB d b e;repeat refine st ?_
  exact qn (j+1) ⟨a,trivial⟩
 rintro f c b _;have F:=b;exact fc
end
section
def MB{l:List (List UInt8×Int)}(h:eG l=true):Fk l/\l.length<=8:=by
 unfold eG at h;rw[Mx,NI]at h;obtain⟨d,e⟩:=h;have at_: ∀j (a:j<l.length),l.getD j ([],0)=l[j]:=fun j a=>by simp[N3,Ms a]
 have k:=fun j (a:j<l.length)=>Lc d j a;refine⟨⟨Nk.2 fun i j o a f=> ?_,fun x g=> ?_⟩,e⟩
 ·have c: ∀m,(b:i+1+m<l.length)->Op.bytesLess l[i].1 l[i+1+m].1=true:=fun m=>by
   have step: ∀j (a:j+1<l.length),Op.bytesLess l[j].1 l[j+1].1=true:=fun j a=>by
    have:=k (j+1) a;unfold wU at this;rw[at_ _ a,show j+1-1=j by omega,at_ j (by omega)]at this;simp only[Mx,OO,NI]at this;exact this.2.resolve_left (by omega)
   induction m with
   |zero=>exact fun b=>step i b
   |succ m n=>exact fun b=>fB (n (by omega)) (step (i+1+m) b)
  have:=c (j-i-1) (by omega);simpa[show i+1+(j-i-1)=j by omega]using this
 obtain⟨j,a,rfl⟩:=QF.1 g;have:=k j a;unfold wU I7 at this;rw[at_ j a]at this;simp only[Mx,NI]at this;exact⟨this.1.1,this.1.2⟩
structure CD(c:aq)(x:tD):Prop where
 lg:tU c x.1=true
 mem:bm c x.2.2.1=true
 len:x.2.1.length=c.vars.length
 fit: ∀v∈x.2.1,aJ v=true
 Z2:Fk x.2.2.2.1
 ZM:x.2.2.2.1.length<=8
 over:x.2.2.2.2=nO c x.1
def dp{c:aq}{x:tD}(a:cq c (M' x)=true):CD c x:=by
 unfold cq at a;simp only[Mx,OQ]at a;obtain⟨⟨⟨⟨⟨b,d⟩,e⟩,f⟩,g⟩,h⟩:=a;obtain⟨t1,t2⟩:=MB f;exact⟨b,d,e,NB.1 h,t1,t2,g⟩
def CD.beg{c:aq}{x:tD}(h:CD c x):fe c (bj x):=⟨h.len,h.fit,h.Z2,h.ZM,NJ _,NJ _,fun e a=>by simp[bj]at a⟩
section
variable {c:aq} (h:ct c) {act:List Int} (hb:tU c act=true) {ts:List Nat} (hf:Fit c act ts)
include h hb hf
theorem Ck{mem:List eg}(b:bm c mem=true){n:Nat}(d:n∈ts):Tp c act mem (dl c n):=by
 obtain⟨t,a,e⟩:=hf.real n d;rw[dD a];exact yo h hb b a e
theorem zN{y:Int} :y∈dj c act ts↔y∈act/\ ∃n∈ts,ny c (dl c n) y:=by
 have e:bm c []=true:=rfl;unfold dj;rw[PR];constructor
 ·rintro⟨n,a,f⟩;obtain⟨b,d⟩:=((Ck h hb hf e a).left y).1 f;exact⟨b,n,a,d⟩
 rintro⟨b,n,a,d⟩;exact⟨n,a,((Ck h hb hf e a).left y).2 ⟨b,d⟩⟩
theorem CF{y:Int} :y∈zL (b7 c (dj c act ts))↔y∈act/\ ∃n∈ts,ny c (dl c n) y:=by
 rw[iA h.toRight fun y a=>by
  obtain⟨_,_,b,_⟩:=(cx hb).of ((zN h hb hf).1 a).1
  exact b]
 exact zN h hb hf
theorem vm: ∀y∈zL (b7 c (dj c act ts)),y∈act:=fun _ a=>((CF h hb hf).1 a).1
theorem MO: ∃a:List Nat,dj c act ts=zL a:=⟨_,IU fun _ b=>(Kc hb _ ((zN h hb hf).1 b).1).1⟩
theorem M7{mem:List eg}(d:bm c mem=true){y:Int} :y∈zL (b7 c (zL (toR c mem ts)))↔ ∃n∈ts,TJ c mem (dl c n) y:=by
 have e: ∀y,y∈zL (toR c mem ts)↔ ∃n∈ts,TJ c mem (dl c n) y:=fun y=>by
  unfold toR zL;rw[NG];constructor
  ·rintro⟨k,b,rfl⟩;obtain⟨n,a,b⟩:=PR.1 b;exact⟨n,a,((Ck h hb hf d a).to _).1 (NG.2 ⟨k,b,rfl⟩)⟩
  rintro⟨n,a,q⟩;obtain⟨k,b,e⟩:=NG.1 (((Ck h hb hf d a).to y).2 q);exact⟨k,PR.2 ⟨n,a,b⟩,e⟩
 rw[iA h.toRight fun y f=>by
  obtain⟨n,a,q⟩:=(e y).1 f
  exact am (Ek h ((Ck h hb hf d a).uni q.1).Z4 q.2)]
 exact e y
theorem uc{d now:Int}(p:aJ d=true)(b:0<=now/\now<=1099511627776){mem:List eg}(o:bm c mem=true){r2:cD}(s:fe c r2)(m:r2.act=act.filter (fun k=> !(zL (b7 c (dj c act ts))).reverse.contains k))(r:(ak c d now r2 [] (zL (b7 c (zL (toR c mem ts))))).1.2=none):
 tU c (ak c d now r2 [] (zL (b7 c (zL (toR c mem ts))))).1.1.act=true/\ ∀y,y∈(ak c d now r2 [] (zL (b7 c (zL (toR c mem ts))))).1.1.act↔i6 c act mem ts y:=by
 have a:r2.act.Pairwise (· < ·):=by rw[m];exact(cx hb).ZZ.sublist OT
 obtain⟨_,i⟩:=iX (bL h) (l:=zL (b7 c (zL (toR c mem ts)))) (f:=[]) p b s a;have i:=i r;obtain⟨O,u,v,w⟩:=tL h hb o ts.length ts rfl hf
 have g: ∀y,y∈(ak c d now r2 [] (zL (b7 c (zL (toR c mem ts))))).1.1.act↔i6 c act mem ts y:=fun y=>by
  rw[i.mem,m,NF,M7 h hb hf o,OA];unfold i6;refine or_congr ?_ Iff.rfl;refine and_congr_right fun t=> ?_;rw[<-Bool.not_eq_true,Mz,QL,CF h hb hf];constructor
  ·exact fun q n b j=>q ⟨t,n,b,j⟩
  rintro q ⟨_,n,b,j⟩;exact q n b j
 refine⟨?_,g⟩;have e:(ak c d now r2 [] (zL (b7 c (zL (toR c mem ts))))).1.1.act=zL O:=mL i.ZZ (Q1.2 (u.imp fun q=>by omega)) fun y=>(g y).trans (w y).symm;rw[e];exact v
end
def sP{c:aq}(h:ct c){d now:Int}(B:aJ d=true)(u:0<=now/\now<=1099511627776){x:tD}(p:CD c x)(V:x.2.2.2.2=false){ts:List Nat}(I:Fit c x.1 ts)(i:(md c d now (bj x) ts).2=none):
 fe c (md c d now (bj x) ts).1/\cq c (M' (N' (md c d now (bj x) ts).1))=true/\ ∀y,y∈(md c d now (bj x) ts).1.act↔i6 c x.1 (nr c x.1 (zL (b7 c (dj c x.1 ts))) x.2.2.1) ts y:=by
 have H:=bL h;have U:=(jI h p.lg p.mem (vm h p.lg I)).2
 have N: ∀n∈ts,∃t,c.trans[n]? =some t:=fun n u=>by
  obtain⟨t,ht,_⟩:=I.real n u;exact⟨t,ht⟩
 have D:nO c x.1=false:=by rw[<-p.over];exact V
 have E: ∀y∈x.1,fi c y=true:=fun y g=>by
  obtain⟨_,_,E,_⟩:=(cx p.lg).of g;exact E
 have hG: ∀y∈zL (b7 c (dj c x.1 ts)),y∈x.1:=vm h p.lg I;have R:=fun(a:cD) hr z i=>uc h p.lg I B u U (r2:=a) hr z i;have K:fe c (bj x):=p.beg
 change (match bS c d now { bj x with mem:=nr c x.1 (zL (b7 c (dj c x.1 ts))) x.2.2.1 } (zL (b7 c (dj c x.1 ts))).reverse with
  |(o,none)=>(match dW c d now o ts with
    |(a,none)=>g5 c d now a (zL (b7 c (zL (toR c (nr c x.1 (zL (b7 c (dj c x.1 ts))) x.2.2.1) ts))))
    |y=>y)
  |y=>y).2=none at i
 show fe c (match bS c d now { bj x with mem:=nr c x.1 (zL (b7 c (dj c x.1 ts))) x.2.2.1 } (zL (b7 c (dj c x.1 ts))).reverse with
  |(o,none)=>(match dW c d now o ts with
    |(a,none)=>g5 c d now a (zL (b7 c (zL (toR c (nr c x.1 (zL (b7 c (dj c x.1 ts))) x.2.2.1) ts))))
    |y=>y)
  |y=>y).1/\cq c (M' (N' (match bS c d now { bj x with mem:=nr c x.1 (zL (b7 c (dj c x.1 ts))) x.2.2.1 } (zL (b7 c (dj c x.1 ts))).reverse with
  |(o,none)=>(match dW c d now o ts with
    |(a,none)=>g5 c d now a (zL (b7 c (zL (toR c (nr c x.1 (zL (b7 c (dj c x.1 ts))) x.2.2.1) ts))))
    |y=>y)
  |y=>y).1))=true/\ ∀y,y∈(match bS c d now { bj x with mem:=nr c x.1 (zL (b7 c (dj c x.1 ts))) x.2.2.1 } (zL (b7 c (dj c x.1 ts))).reverse with
  |(o,none)=>(match dW c d now o ts with
    |(a,none)=>g5 c d now a (zL (b7 c (zL (toR c (nr c x.1 (zL (b7 c (dj c x.1 ts))) x.2.2.1) ts))))
    |y=>y)
  |y=>y).1.act↔_
 generalize nr c x.1 (zL (b7 c (dj c x.1 ts))) x.2.2.1=b at*;obtain⟨O,P,Q,G⟩:=lV H (l:=(zL (b7 c (dj c x.1 ts))).reverse) B u (r:={ bj x with mem:=b }) { K with };rcases S:bS c d now { bj x with mem:=b } (zL (b7 c (dj c x.1 ts))).reverse with⟨o,_|e⟩
 ·rw[S]at i O P Q G;have G:=G rfl;simp only at i O P Q G |-;obtain⟨v,w⟩:=zd H B u (l:=ts) (r:=o) N O;rcases T:dW c d now o ts with⟨a,_|e⟩
  ·rw[T]at i v w;simp only at i v w |-;have z:a.act=x.1.filter fun k=> !(zL (b7 c (dj c x.1 ts))).reverse.contains k:=w.act.trans G;have m:a.act.Pairwise (· < ·):=by rw[z];exact(cx p.lg).ZZ.sublist OT
   obtain⟨Y,s⟩:=pE H (l:=zL (b7 c (zL (toR c b ts)))) B u v m;have s:=s i
   have A:(ak c d now a [] (zL (b7 c (zL (toR c b ts))))).1.2=none:=by
    cases W:(ak c d now a [] (zL (b7 c (zL (toR c b ts))))).1.2 with
    |none=>rfl
    |some e=>rw[qM W,W]at i;cases i
   obtain⟨X,l2⟩:=R a v z A;obtain⟨_,J⟩:=iX H (l:=zL (b7 c (zL (toR c b ts)))) (f:=[]) B u v m;have J:=J A;have j:(g5 c d now a (zL (b7 c (zL (toR c b ts))))).1.act=(ak c d now a [] (zL (b7 c (zL (toR c b ts))))).1.1.act:=mL s.ZZ J.ZZ fun y=>by rw[s.mem,J.mem]
   refine⟨Y,wZ Y (by rw[j];exact X) (by rw[s.mm,w.mem,P];exact U) ?_,fun y=>by rw[j];exact l2 y⟩
   have L: ∀y∈(g5 c d now a (zL (b7 c (zL (toR c b ts))))).1.act,fi c y=true:=fun y g=>by
    rw[j]at g;obtain⟨_,_,E,_⟩:=(cx X).of g;exact E
   rw[s.over,w.over,Q,yx L,N8];rw[yx E]at D;have M:(bj x).over=false:=V;show ((bj x).over||_)=true↔_;rw[M,PF,OG,OG]
   have C: ∀y∈a.act,(bX c y==3&&decide (aP c y<0))=false:=fun y g=>by
    rw[z]at g;exact Pb.2 fun q=>Pb.1 D (OG.2 ⟨y,(NF.1 g).1,q⟩)
   constructor
   ·rintro⟨y,g,q⟩;refine⟨y,(s.mem y).2 (.inr g),?_⟩;simp only[Mx]at q |-;exact⟨q.1.2,q.2⟩
   rintro⟨y,g,q⟩;rcases (s.mem y).1 g with g|g
   ·rw[C y g]at q;cases q
   refine⟨y,g,?_⟩
   have Z:a.act.contains y=false:=by
    cases hh:a.act.contains y with
    |false=>rfl
    | true=>
      rw[C y (Mz.1 hh)]at q;cases q
   rw[Z];simpa using q
  rw[T]at i;cases i
 rw[S]at i;cases i
end
section
structure mw where
 x:tD
 said:List Int
 steps:Nat
 wait:List (List UInt8×Int)
 data:Int
def lx(c:aq)(m:mw)(ev:List UInt8):Except Nat (List Nat):=rY c m.x.1 (IS c m.x.1 m.x.2.1 m.data) ev (x4 c (m.x.1.map Int.toNat))
def sy(m:mw)(outs:List Int)(rais:List (List UInt8×Int)):mw×tn:=
 if 256< (m.said++outs).length\/16< (m.wait++rais).length then({ m with said:=m.said++outs,wait:=m.wait++rais },some (8,[-1])) else({ m with said:=m.said++outs,wait:=m.wait++rais },none)
def FL(m:mw)(r:cD):mw×tn:=sy ⟨N' r,m.said,m.steps+1,m.wait,m.data⟩ r.outs r.Z8
def rt(c:aq)(now:Int)(F:Nat)(m:mw)(l:List Nat):mw×tn:=
 if F<=m.steps then(m,some (6,[-1]))
 else match md c m.data now (bj m.x) l with
  |(_,some e)=>(m,some (e.1, -1::e.2.headD (-1)::e.2.tail))
  |(r,none)=>FL m r
def v2(c:aq)(now:Int)(F:Nat)(m:mw)(ev:List UInt8):(mw×tn)×Bool:=
 match lx c m ev with
 | .error n=>((m,some (2,[1000+(n:Int)])),false)
 | .ok []=>((m,none),false)
 | .ok (k::l)=>(rt c now F m (k::l),true)
def y1(c:aq)(now:Int)(F:Nat):Nat->mw->mw×tn
 |0,m=>(m,some (0,[]))
 | n+1,m=>if m.x.2.2.2.2=true then(m,none)
   else match v2 c now F m []with
    |((a,some e),_)=>(a,some e)
    |((a,none),true)=>y1 c now F n a
    |((a,none),false)=>match a.wait with
      |[]=>(a,none)
      | e::w=>match v2 c now F { a with wait:=w,data:=e.2 } e.1 with
        |((b,some e),_)=>(b,some e)
        |((b,none),_)=>y1 c now F n b
def jS(F:Nat)(m:mw):Nat:=(F-m.steps)*17+m.wait.length
structure kE(c:aq)(F:Nat)(m:mw):Prop where
 inst:cq c (M' m.x)=true
 data:aJ m.data=true
 wait:m.wait.length<=16
 waf: ∀e∈m.wait,aJ e.2=true
 said:m.said.length<=256
 steps:m.steps<=F
 ZQ:F<=256
def yz{act:List Int}{l:List Nat}(h:act=zL l):act.map Int.toNat=l:=by
 rw[h];unfold zL;rw[P4]
 conv=>rhs;rw[<-SG l]
 exact O6 fun k _=>by simp
def qN{c:aq}(h:ct c){m:mw}(a:tU c m.x.1=true){ev:List UInt8}{f:List Nat}(e:lx c m ev= .ok f):Fit c m.x.1 f:=by
 obtain⟨l,b,g⟩:=tQ a;unfold lx at e;rw[yz b]at e;refine Je h (cx a) (fun i d=> ?_) e;rw[b];exact NG.2 ⟨i,LL h g d,rfl⟩
section
variable {c:aq} (h:ct c) {now:Int} (hn:0<=now/\now<=1099511627776)
include h hn
theorem JM{F:Nat}{m:mw}(b:kE c F m)(o:m.x.2.2.2.2=false){l:List Nat}(n:Fit c m.x.1 l)(a:(rt c now F m l).2=none):kE c F (rt c now F m l).1/\(rt c now F m l).1.steps=m.steps+1/\m.steps<F/\(rt c now F m l).1.data=m.data:=by
 unfold rt at a |-;split at a
 ·cases a
 rename_i j;rw[Mv j];have f:=sP h b.data hn (dp b.inst) o n;rcases d:md c m.data now (bj m.x) l with⟨r,_|e⟩
 ·rw[d]at a f;obtain⟨g,i,_⟩:=f rfl;simp only at a g i |-;unfold FL sy at a |-;simp only at a |-;split at a
  ·cases a
  rename_i k;rw[Mv k];refine⟨⟨i,b.data,show (m.wait++r.Z8).length<=16 by omega,fun e a=> ?_,show (m.said++r.outs).length<=256 by omega,show m.steps+1<=F by omega,b.ZQ⟩,rfl,by omega,rfl⟩;rcases N1.1 a with q|q
  ·exact b.waf e q
  exact g.raf e q
 rw[d]at a;cases a
theorem km{F:Nat}{m:mw}(b:kE c F m)(e:m.x.2.2.2.2=false){ev:List UInt8}(a:(v2 c now F m ev).1.2=none):kE c F (v2 c now F m ev).1.1/\(v2 c now F m ev).1.1.data=m.data/\(((v2 c now F m ev).2=true/\(v2 c now F m ev).1.1.steps=m.steps+1/\m.steps<F)\/((v2 c now F m ev).2=false/\(v2 c now F m ev).1.1=m)):=by
 unfold v2 at a |-;cases d:lx c m ev with
 |error n=>rw[d]at a;cases a
 | ok f=>
   rw[d]at a;cases f with
   |nil=>exact⟨b,rfl, .inr ⟨rfl,rfl⟩⟩
   | cons k l=>
     obtain⟨g,i,j,o⟩:=JM h hn b e (qN h (dp b.inst).lg d) a;exact⟨g,o, .inl ⟨rfl,i,j⟩⟩
end
end
section
def Li(e:tn):Prop:= ∀x,e=some x->x.1=2\/x.1=6\/x.1=8
def JN(c:aq)(now:Int)(F:Nat)(m:mw)(l:List Nat):Li (rt c now F m l).2:=by
 unfold rt;split
 ·intro x a;cases a;exact .inr (.inl rfl)
 split
 ·rename_i y e b;intro x a;cases a;have:=sQ c m.data now (bj m.x) l e (by rw[b]);exact this.elim .inl fun q=> .inr (.inr q)
 unfold FL sy;split
 ·intro x a;cases a;exact .inr (.inr rfl)
 intro x a;cases a
def I1(c:aq)(now:Int)(F:Nat)(m:mw)(ev:List UInt8):Li (v2 c now F m ev).1.2:=by
 unfold v2;split
 ·intro x a;cases a;exact .inl rfl
 ·intro x a;cases a
 exact JN _ _ _ _ _
def zl{c:aq}{F:Nat}{m:mw}(a:kE c F m){e:List UInt8×Int}{w:List (List UInt8×Int)}(b:m.wait=e::w):kE c F { m with wait:=w,data:=e.2 } :=
 { a with data:=a.waf e (by rw[b];simp),wait:=by have:=a.wait;rw[b]at this;simp at this |-;omega,waf:=fun x d=>a.waf x (by rw[b];simp[d]) }
section
variable {c:aq} (h:ct c) {now:Int} (hn:0<=now/\now<=1099511627776)
include h hn
theorem ri{F:Nat}{m:mw}(i:kE c F m)(j:m.x.2.2.2.2=false){ev:List UInt8}(g:(v2 c now F m ev).1.2=none):jS F (v2 c now F m ev).1.1<=jS F m/\((v2 c now F m ev).2=true->jS F (v2 c now F m ev).1.1<jS F m):=by
 obtain⟨d,_,f⟩:=km h hn i j g;have k:=d.wait;rcases f with⟨b,a,l⟩|⟨b,a⟩
 ·have:jS F (v2 c now F m ev).1.1<jS F m:=by
   unfold jS;rw[a];have e:F-m.steps=(F-(m.steps+1))+1:=by omega
   rw[e];omega
  exact⟨by omega,fun _=>this⟩
 rw[a];exact⟨ND _,fun e=>by rw[b]at e;cases e⟩
theorem Ef{F:Nat} : ∀(n:Nat)(m:mw),kE c F m->jS F m<n->Li (y1 c now F n m).2
 |0,m,_,y=>by omega
 | n+1,m,p,y=>by
   unfold y1;by_cases d:m.x.2.2.2.2=true
   ·rw[Mw d];intro x r;cases r
   rw[Mv d];have d:m.x.2.2.2.2=false:=by simpa using d
   have o:=km h hn p d (ev:=[]);have i:=ri h hn p d (ev:=[]);have a:=I1 c now F m [];rcases l:v2 c now F m []with⟨⟨f,_|e⟩,_|_⟩
   ·rw[l]at o;obtain⟨B,C,v⟩:=o rfl;obtain rfl:f=m:=by rcases v with⟨q,_⟩|⟨_,q⟩;cases q;exact q
    simp only;cases u:f.wait with
    |nil=>intro x r;cases r
    | cons e w=>
      have k:=zl p u;have t:=km h hn k d (ev:=e.1);have j:=ri h hn k d (ev:=e.1);have g:=I1 c now F { f with wait:=w,data:=e.2 } e.1;have z:jS F { f with wait:=w,data:=e.2 } <jS F f:=by unfold jS;rw[u];simp
      simp only;rcases s:v2 c now F { f with wait:=w,data:=e.2 } e.1 with⟨⟨A,_|e⟩,b⟩
      ·rw[s]at t j;exact Ef n A (t rfl).1 (by have:=(j rfl).1;simp only at this;omega)
      rw[s]at g;exact g
   ·rw[l]at o i;exact Ef n f (o rfl).1 (by have:=(i rfl).2 rfl;simp only at this;omega)
   ·rw[l]at a;exact a
   rw[l]at a;exact a
theorem K8{F:Nat} : ∀(n:Nat)(m:mw),kE c F m->(y1 c now F n m).2=none->kE c F (y1 c now F n m).1/\m.steps<=(y1 c now F n m).1.steps/\((y1 c now F n m).1.x.2.2.2.2=true\/((y1 c now F n m).1.x.2.2.2.2=false/\lx c (y1 c now F n m).1 []= .ok []/\(y1 c now F n m).1.wait=[]))
 |0,m,_,a=>by cases a
 | n+1,m,o,a=>by
   unfold y1 at a |-;by_cases g:m.x.2.2.2.2=true
   ·rw[Mw g];exact⟨o,ND _, .inl g⟩
   rw[Mv g]at a |-;have g:m.x.2.2.2.2=false:=by simpa using g
   have j:=km h hn o g (ev:=[]);rcases d:v2 c now F m []with⟨⟨i,_|e⟩,_|_⟩
   ·rw[d]at a j;obtain⟨y,C,p⟩:=j rfl;obtain rfl:i=m:=by rcases p with⟨q,_⟩|⟨_,q⟩;cases q;exact q
    simp only at a |-;cases s:i.wait with
    | nil=>
      refine⟨o,ND _, .inr ⟨g,?_,s⟩⟩;unfold v2 at d;cases B:lx c i []with
      |error n=>rw[B]at d;cases d
      | ok f=>
        rw[B]at d;cases f with
        |nil=>rfl
        | cons k l=>
          have:=N7 Prod.snd d;cases this
    | cons e w=>
      rw[s]at a;have r:=zl o s;have A:=km h hn r g (ev:=e.1);simp only at a |-;rcases z:v2 c now F { i with wait:=w,data:=e.2 } e.1 with⟨⟨t,_|e⟩,b⟩
      ·rw[z]at a A;obtain⟨D,_,E⟩:=A rfl;obtain⟨u,v,x⟩:=K8 n t D a;refine⟨u,?_,x⟩
       have:i.steps<=t.steps:=by
        rcases E with⟨_,q,_⟩|⟨_,q⟩
        ·simp only at q;have q:t.steps=i.steps+1:=q;omega
        simp only at q;rw[q];exact ND _
       exact NN this v
      rw[z]at a;cases a
   ·rw[d]at a j;obtain⟨y,C,p⟩:=j rfl;obtain⟨u,v,x⟩:=K8 n i y a;refine⟨u,?_,x⟩;rcases p with⟨_,q,_⟩|⟨q,_⟩
    ·simp only at q v |-;omega
    cases q
   ·rw[d]at a;cases a
   rw[d]at a;cases a
end
end
section
def Ub:Option Bool->AV
 |some b=> .tuple [B b,I 0]
 |none=> .tuple [B false,I 2]
def DW(env:cf)(c:aq)(h:ct c)(p:hP c)(x:tD)(d:Int)(f:E7 c x d)(n:Nat)(t:tS)(b:c.trans[n]? =some t):b8 prog env 165 [.agg (aA c), .agg (i' x),I n,I d] (Ub (fh (IS c x.1 x.2.1 d) t.guard)):=by
 have l:=h.Z6;have i:=(Mt.1 b).1;have k:=ip i;have j:(IS c x.1 x.2.1 d).vars.length<=1000000:=by show x.2.1.length<=_;have:=f.len;have:=p.vars;omega
 have f0:=sb env c (by omega) x (by have:=f.act;omega) d;have g:=vD h b;unfold fh;by_cases a:t.guard=[]
 ·rw[Mw a];show b8 _ _ _ _ (.tuple [B true,I 0]);unfold i' at f0 |-;refine qf func165 call165 ntmps165 results165 ?_;have F:=ii Us Uv b k a;exact kb f0
 rw[Mv a];have f1:=wh env (IS c x.1 x.2.1 d) f.ok j t.guard (by rw[pO];show bo t.guard (x.2.1.length:Int) _=true;rw[f.len];exact g.resolve_left a)
 have o:((t.guard.length:Int)==0)=false:=by
  have:t.guard.length≠0:=fun e=>a (OZ.1 e);simp;omega
 unfold aA i' at f0;unfold i';generalize IS c x.1 x.2.1 d=W at*;unfold dv at f0 f1;cases m:ki W t.guard with
 | none=>
   rw[m]at f1;unfold EA at f1;show b8 _ _ _ _ (.tuple [B false,I 2]);refine qf func165 call165 ntmps165 results165 ?_;have F:=ii Us Uv b k o;exact ns f0 f1
 | some v=>
   rw[m]at f1;unfold EA at f1;show b8 _ _ _ _ (.tuple [B (v != 0),I 0]);refine qf func165 call165 ntmps165 results165 ?_;have F:=ii Us Uv b k o;exact ns f0 f1
def TU:Fd->AV
 | .no=> .tuple [I (-1),I 0,I (-1)]
 | .one n=> .tuple [I (n:Nat),I 0,I (-1)]
 | .bad n=> .tuple [I (-1),I 2,I (1000+(n:Nat))]
def Ag(env:cf)(c:aq)(h:ct c)(S:hP c)(x:tD)(d:Int)(V:E7 c x d)(i:Int)(ev:List UInt8):b8 prog env 114 [.agg (aA c), .agg (i' x),I i,Sg ev,I d] (TU (dS c (IS c x.1 x.2.1 d) ev (i::kf c i))):=by
 have J:=h.ZO;have f1:=pr env c h.toRight i;have f2:=fun k=>Kr env c (by omega) k ev;have f3:=fun(n:Nat)(t:tS)(y:c.trans[n]? =some t)=>DW env c h S x d V n t y;have T:(kf c i).length<=40:=kZ ..;have Q:dd (1+(kf c i).length) 8:=aC (by omega) (by omega);have N:[[I i]]++(kf c i).map aa=(i::kf c i).map aa:=rfl;have U:(i::kf c i).length<=4000:=by simp only[NQ];omega
 generalize IS c x.1 x.2.1 d=W at*;generalize Y:(i::kf c i)=R at*;unfold aA at f1 f2 f3;unfold i' at f3 |-;refine qf func114 call114 ntmps114 results114 ?_;have F:=gs Us Q N;repeat refine ff f1 ?_
 have F:=aA.eq_1;refine lq R.length (by omega) (fun j e=>[(3,Sg ev),(4,I d),(5, .loc 5 (e 5) 0 0),(6, .loc 6 (e 6) 0 0),(13, .row 20 (e 20)),(14,I j)]) (fun _ _=>[(5,⟨5,[aA c],26,false⟩),(6,⟨5,[[bs x.1,bs x.2.1, .seq 2 (x.2.2.1.map fj), .seq 2 (x.2.2.2.1.map cI),B x.2.2.2.2]],37,false⟩),(20,⟨1,R.map aa,3,true⟩)]) (fun j _ _=>dS c W ev R=dS c W ev (R.drop j)) rfl ?_ ?_
 ·rintro j e z r H M p;obtain⟨k,K⟩:=gE r;have f4:=f2 k;rw[aZ K]at p;have P:(it c k ev c.trans.length).length<=c.trans.length:=gH (je c k ev) c.trans.length;have A: ∀n∈it c k ev c.trans.length,n<c.trans.length:=fun n o=>B9 o;have D:=F8 (c:=c) (w:=W) (ev:=ev) (k:=k) (l:=R.drop (j+1));have s: ∀n,_:=fun n=>CM (c:=c) (w:=W) (ev:=ev) (k:=k) (l:=R.drop (j+1)) (n:=n);have q: ∀n,_:=fun n=>CN (c:=c) (w:=W) (ev:=ev) (k:=k) (l:=R.drop (j+1)) (n:=n);generalize it c k ev c.trans.length=L at*;have F:=ii Us UB K H M;repeat refine ff f4 ?_
  have F:=aA.eq_1;refine lq L.length (by omega) (fun m e=>[(3,Sg ev),(4,I d),(5, .loc 5 (e 5) 0 0),(6, .loc 6 (e 6) 0 0),(13, .row 20 (e 20)),(14,I j),(15, .row 37 (e 37)),(16,I m)]) (fun _ _=>[(5,⟨5,[aA c],26,false⟩),(6,⟨5,[[bs x.1,bs x.2.1, .seq 2 (x.2.2.1.map fj), .seq 2 (x.2.2.2.1.map cI),B x.2.2.2.2]],37,false⟩),(20,⟨1,R.map aa,3,true⟩),(37,⟨1,L.map aB,3,true⟩)]) (fun m _ _=>cO c W L=cO c W (L.drop m)) rfl ?_ ?_
  ·rintro m X O f v G a;obtain⟨n,o⟩:=gE f;have C:=A n (My o);obtain⟨t,y⟩:=gE C;have p4:IntKind.i64.wrap (1000+(n:Int))=1000+(n:Int):=aX (by omega) (by omega);have g:jR c n=t.guard:=by unfold jR;rw[y]
   have f5:=f3 n t y;rw[aZ o]at a;cases u:fh W t.guard with
   | none=>
     rw[u]at f5;unfold Ub at f5;rw[tt (by rw[g];exact u)]at a;rw[p,q n a];show fq _ _ _ _ _ _;unfold TU;have F:=kv Us Uu o v G p4;exact kb f5
   | some b=>
     rw[u]at f5;unfold Ub at f5;cases b with
     | true=>
       rw[xa (by rw[g];exact u)]at a;rw[p,s n a];show fq _ _ _ _ _ _;unfold TU;have F:=ii Us Uu o v G;exact kb f5
     | false=>
       rw[CK (by rw[g];exact u)]at a;have F:=ii Us Uu o v G;repeat refine ff f5 ?_
       refine⟨m+1,⟨f,a⟩,?_,?_,by omega⟩
       ·exact qe
       have F:=aA.eq_1;exact qe
  rintro X O v a;rw[OE]at a;have E:=D a;have F:=gs Us v M;repeat refine st ?_
  refine⟨j+1,⟨r,p.trans E⟩,?_,?_,by omega⟩
  ·exact qe
  have F:=aA.eq_1;exact qe
 rintro e z H p;rw[OE]at p;rw[p];show fq _ _ _ _ _ _;unfold dS TU;have F:=H;exact fc
end
end Go.Proofs.YtfhkmjbjafeckaaGreatDoor
