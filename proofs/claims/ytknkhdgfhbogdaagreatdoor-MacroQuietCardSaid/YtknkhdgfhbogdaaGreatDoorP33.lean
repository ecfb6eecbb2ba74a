/- The laws of layer 32: their small functions. -/
import Derived.Test.YtknkhdgfhbogdaaGreatDoorP32
set_option maxRecDepth 100000
set_option maxHeartbeats 16000000
set_option linter.unusedSimpArgs false
set_option linter.defProp false
namespace Go.Proofs.YtknkhdgfhbogdaaGreatDoor
open Go.Proofs.Tryz
section
open Go.RowKit Go.ChangeShapes Go.WideShapes Go.ChangeAt Go.Deep
def WB{H:Type}(P:Program)(t:TypeId)(d:DataW H):Prop:= ∀z∈DataW.weights P t d,z<=reachBytes
section
variable {H:Type} {enc:TypeId×Value->H} {P:Program} {w:World} {base:Nat} {spare:Nat->Bool} {held:Bool}
theorem zx{e:TypeId}{d:DataW H} : ∀ {l:List (DataW H)},d∈l-> ∀z∈DataW.weights P e d,z∈DataW.weightsAll P e l
 | a::r,h,z,b=>by
   unfold DataW.weightsAll;rcases MI.1 h with rfl|h
   ·exact Ma _ b
   exact Nj _ (zx h z b)
theorem WB.elem{t e:TypeId}{es rs:List (DataW H)}(b:P.underlying t=some (.slice e))(h:WB P t (.slice es rs)){d:DataW H}(a:d∈es):WB P e d:=fun z c=>by
 refine h z ?_;unfold DataW.weights;rw[b];exact NJ _ (Ma _ (zx a z c))
theorem WB.size{t e:TypeId}{es rs:List (DataW H)}(a:P.underlying t=some (.slice e))(h:WB P t (.slice es rs)):es.length*P.bytesOf e<=reachBytes:=by
 refine Ly ?_ (h ((es.length+rs.length)*P.bytesOf e) ?_)
 ·exact M3 _ (QN ..)
 unfold DataW.weights;rw[a];exact Om ..
theorem ow: ∀ {ts:List TypeId}{l:List (DataW H)}{i:Nat}{t:TypeId}{d:DataW H},ts[i]? =some t->l[i]? =some d-> ∀z∈DataW.weights P t d,z∈DataW.weightsEach P ts l
 |t::ts,d::l,0,_,_,rfl,rfl,z,a=>by unfold DataW.weightsEach;exact Ma _ a
 | t::ts,d::l,i+1,_,_,b,c,z,a=>by
   unfold DataW.weightsEach;exact Nj _ (ow (i:=i) (by simpa using b) (by simpa using c) z a)
 |[],_,i,_,_,b,_,z,a=>by simp at b
 |_::_,[],i,_,_,_,c,z,a=>by simp at c
theorem WB.part{t:TypeId}{a:Array Field}{ps:List (DataW H)}(e:P.underlying t=some (.struct a))(h:WB P t (.agg ps)){i:Nat}{f:Field}{d:DataW H}(c:a[i]? =some f)(b:ps[i]? =some d):WB P f.type d:=fun z g=>by
 refine h z ?_;unfold DataW.weights;rw[e];refine ow (i:=i) ?_ b z g;rw[Lo,ON,c];rfl
theorem CO{α:Type}{t e:TypeId}{size fuel:Nat}{R:List Value->α->Prop}{cs:List Value}{x:DataW H×List MemPlace}(U:P.underlying t=some (.slice e))(Z:P.cellsOf e=size)(k:0<size)
 (hR: ∀(m:Nat)(cs:List Value)(y:DataW H×List MemPlace),DataW.trod enc P w base spare held m e cs=some y->WB P e y.1-> ∃a,R cs a)(hw:WB P t x.1)
 (h:DataW.trod enc P w base spare held fuel t cs=some x): ∃v l,cs=[v]/\eU w w.heap.size size R v l:=by
 rcases open_slice U h with⟨rfl,_⟩|⟨a,c,K,m,n,D,Q,rfl,hb,hl,hm,M,rfl,V⟩
 ·exact⟨_,[],rfl,none,0,[],rfl,Lr _,Lx _,iS.empty _ _ _ _,by simp,fun i o=>by simp at o⟩
 have hlm:c<=m:=by rw[M];split<;>omega
 rw[Z]at V
 have C: ∀i,∃r:List Value,i<c->w.cells? base (a.add (i*size)) size=some r/\DataW.trod enc P w base spare held n e r=some (D i,Q i):=fun i=>by
  by_cases o:i<c
  ·obtain⟨r,X,Y⟩:=V i (by omega);exact⟨r,fun _=>⟨X,Y⟩⟩
  exact⟨[],fun h=>absurd h o⟩
 let f:Nat->List Value:=fun i=>(C i).choose
 have I: ∀i,i<c->w.cells? base (a.add (i*size)) size=some (f i)/\DataW.trod enc P w base spare held n e (f i)=some (D i,Q i):=fun i o=>(C i).choose_spec o;have g: ∀i,i<c->(f i).length=size:=fun i o=>(O6 (I i o).1).2.1;obtain⟨l,z,L⟩:=EE (n:=c) (p:=fun i a=>R (f i) a) fun i o=>hR _ _ _ (I i o).2 (WB.elem U hw (Lp.2 ⟨i,MK.2 o,rfl⟩));refine⟨_,l,rfl,some a,K,(List.range c).flatMap f,by rw[z],by omega,by omega,⟨by rw[z,n9 f size c g],fun J=> ?_⟩,by rw[z,n9 f size c g],fun i o=> ?_⟩
 ·rw[z]at J;have W:=O6 (I 0 J).1;have d:=W.2.2 0 k
  have G:a.spot=none:=by
   rw[OP]at d;have:(f 0)[0]? =some ((f 0)[0]'(by rw[g 0 J];exact k)):=Lc _;rw[this]at d;have e:(a.add 0).add 0=a:=rfl;rw[e]at d;unfold World.cell? at d;cases hs:a.spot with
   |none=>rfl
   | some s=>
     rw[hs]at d;split at d<;>simp at d
  obtain⟨b,B,sp⟩:=a;simp only at G;subst G
  have q: ∀j u,((List.range c).flatMap f)[j]? =some u->w.cell? ⟨b,B+j,none⟩=some u:=by
   intro j u N
   have hj:j<c*size:=by
    rcases OO j (c*size) with h|h
    ·exact h
    rw[Lu (by rw[n9 f size c g];exact h)]at N;cases N
   have S:j/size<c:=O4 (by rw[OC];exact hj);have T:j%size<size:=PD _ k;have A:=jR f size c g (j/size) S;have e:j=j/size*size+j%size:=by rw[OC];exact(Nat.div_add_mod j size).symm
   have E:(f (j/size))[j%size]? =some u:=by
    rw[<-A,MV,Lj T,Ms, <-e];exact N
   have:=(O6 (I _ S).1).2.2 (j%size) T;rw[E,add_plain,add_plain,Ot, <-e]at this;exact this
  refine⟨b,B,rfl,?_,q⟩;have O:((List.range c).flatMap f)[0]? =some (((List.range c).flatMap f)[0]'(by rw[n9 f size c g];exact Nat.mul_pos J k)):=Lc _;exact P1 w ⟨b,B+0,none⟩ (q 0 _ O)
 rw[jR f size c g i (by omega)];exact L i o
end
section
variable {H:Type} {enc:TypeId×Value->H} {P:Program} {w:World} {base:Nat} {spare:Nat->Bool} {held:Bool}
theorem mY{I:Type}{t e:TypeId}{size fuel:Nat}{cs:List Value}{x:DataW H×List MemPlace}(g:I->List AV)(d:I->Prop)(z: ∀a,(g a).length=size)(C:P.underlying t=some (.slice e))(O:P.cellsOf e=size)(o:0<size)
 (Q: ∀(m:Nat)(cs:List Value)(y:DataW H×List MemPlace),DataW.trod enc P w base spare held m e cs=some y->WB P e y.1-> ∃a,RE w g d cs a)(D:WB P t x.1)
 (h:DataW.trod enc P w base spare held fuel t cs=some x): ∃(v:Value) (l:List I),cs=[v]/\(v.oneCell'=true/\RV (fun b _=>b<w.heap.size) w v (.seq size (l.map g)))/\(l.length<=maxLen/\l.length*P.bytesOf e<=reachBytes)/\ ∀a∈l,d a:=by
 obtain⟨v,l,q,J⟩:=CO (R:=RE w g d) C O o Q D h;have B:=ED g z J fun cs a _ V j u c W T=>V.1.at_.2 j u c W T;obtain⟨A,c,X,rfl,_,N,_,p⟩:=J;refine⟨_,l,q,⟨rfl,B⟩,⟨N,?_⟩,fun a S=> ?_⟩
 ·rcases DataW.trod_slice C h with⟨f,_⟩|⟨a,E,L,s,K,n,_,f,M,_,_,_,k,_⟩
  ·rw[q]at f;have r:l.length=0:=by injection f with G _;injection G
   rw[r,OP];exact Lx _
  rw[q]at f;have r:l.length=E:=by injection f with G _;injection G
  rw[M]at D;have:=D.size C;rw[ME,k]at this;rw[r];exact this
 obtain⟨i,U,rfl⟩:=NC S;exact(p.2 i U).2
end
def Kw:prog.bytesOf 3=8:=by kernel_rfl
def EW(m:dg):Prop:=m.2.length<=maxLen/\m.2.length*8<=reachBytes
section
variable {H:Type} {enc:TypeId×Value->H} {w:World} {base:Nat} {spare:Nat->Bool} {held:Bool}
theorem Fi(m:Nat)(cs:List Value)(y:DataW H×List MemPlace)(h:DataW.trod enc prog w base spare held m 122 cs=some y)(o:WB prog 122 y.1): ∃a:dg,RE w eg EW cs a:=by
 obtain⟨d,n,_,v,l,b,f⟩:=Nf Tryz.underlying122 h;rw[KZ]at l;obtain⟨q,j,rfl⟩:=C3 l;obtain⟨D,t⟩:=bY b f 0 _ rfl 3 0 1 rfl rfl po;obtain⟨C,r, -, -⟩:=NK Tryz.underlying3 (show DataW.trod enc prog w base spare held n 3 [q]=some D from t);cases r;have x:d.length=2:=b;obtain⟨e,c⟩: ∃e,d[1]? =some e:=⟨d[1]'(by omega),Lc _⟩;obtain⟨G,k⟩:=bY b f 1 _ rfl 27 1 1 rfl rfl Db
 have u:DataW.trod enc prog w base spare held n 27 [j]=d[1]? :=by
  have:=f 1 _ rfl;exact this
 have k:DataW.trod enc prog w base spare held n 27 [j]=some e:=u.trans c;rw[v]at o;have g:WB prog 27 e.1:=WB.part (i:=1) Tryz.underlying122 o rfl (by rw[Lo,c];rfl);obtain⟨E,z,s,B,⟨A,p⟩, -⟩:=mY (size:=1) aa (fun _=>True) (fun _=>rfl) Tryz.underlying27 po (by decide) (fun m cs y h _=>L' m cs y h) g k;cases s;rw[Kw]at p;exact⟨(C,z),⟨⟨rfl, .lit _⟩,B,trivial⟩,A,p⟩
end
end
section
open Go.RowKit Go.ChangeShapes Go.WideShapes Go.ChangeAt Go.Deep
def LY:prog.bytesOf 85=24:=by kernel_rfl
def sb(x:pb):Prop:=JE x/\(∀m∈x.2.2.1,m.2.length*8<=reachBytes)/\x.2.2.2.1.length*24<=reachBytes
section
variable {H:Type} {enc:TypeId×Value->H} {w:World} {base:Nat} {spare:Nat->Bool} {held:Bool}
theorem CP(m:Nat)(cs:List Value)(y:DataW H×List MemPlace)(h:DataW.trod enc prog w base spare held m 31 cs=some y)(j:WB prog 31 y.1): ∃a:pb,RE w k0 sb cs a:=by
 obtain⟨c,n,_,N,q,b,d⟩:=Nf Tryz.underlying31 h;rw[N]at j;have O:c.length=5:=b;rw[Ku]at q;obtain⟨v,x,o,p,A,rfl⟩:=JW q;obtain⟨y0,I⟩:=bY b d 0 _ rfl 27 0 1 rfl rfl Db;obtain⟨x0,P,B,X,T, -⟩:=dF (size:=1) aa (fun _=>True) (fun _=>rfl) Tryz.underlying27 po (by decide) L' (show DataW.trod enc prog w base spare held n 27 [v]=some y0 from I);cases B;obtain⟨y1,J⟩:=bY b d 1 _ rfl 27 1 1 rfl rfl Db;obtain⟨x1,Q,C,Y,U, -⟩:=dF (size:=1) aa (fun _=>True) (fun _=>rfl) Tryz.underlying27 po (by decide) L' (show DataW.trod enc prog w base spare held n 27 [x]=some y1 from J);cases C;obtain⟨t,e⟩: ∃z,c[2]? =some z:=⟨c[2]'(by omega),Lc _⟩
 have K:DataW.trod enc prog w base spare held n 28 [o]=some t:=by
  have:=d 2 _ rfl;exact Eq.trans (show DataW.trod enc prog w base spare held n 28 [o]=c[2]? from this) e
 have k:WB prog 28 t.1:=WB.part (i:=2) Tryz.underlying31 j rfl (by rw[Lo,e];rfl);obtain⟨x2,R,D,Z,⟨V, -⟩,s⟩:=mY (size:=2) eg EW (fun _=>rfl) Tryz.underlying28 KZ (by decide) Fi k K;cases D;obtain⟨u,f⟩: ∃z,c[3]? =some z:=⟨c[3]'(by omega),Lc _⟩
 have L:DataW.trod enc prog w base spare held n 29 [p]=some u:=by
  have:=d 3 _ rfl;exact Eq.trans (show DataW.trod enc prog w base spare held n 29 [p]=c[3]? from this) f
 have l:WB prog 29 u.1:=WB.part (i:=3) Tryz.underlying31 j rfl (by rw[Lo,f];rfl);obtain⟨x3,S,E,r3,⟨W,r⟩,p3⟩:=mY (size:=2) cR qm (fun _=>rfl) Tryz.underlying29 Sr (by decide) (fun m cs y h _=>Je m cs y h) l L;cases E;rw[LY]at r;obtain⟨y4,M⟩:=bY b d 4 _ rfl 4 4 1 rfl rfl Kv;obtain⟨x4,G, -⟩:=DataW.trod_bool Tryz.underlying4 (show DataW.trod enc prog w base spare held n 4 [A]=some y4 from M);cases G;exact⟨(P,Q,R,S,x4),⟨X,Y,Z,r3,⟨rfl, .lit _⟩,trivial⟩,⟨⟨T,U⟩,⟨V,fun m g=>(s m g).1⟩,W,p3⟩,fun m g=>(s m g).2,r⟩
end
end
section
open Go.RowKit
def IH{x:pb}(h:sb x):(∀m∈x.2.2.1,cI m.2.length 8)/\cI x.2.2.2.1.length 24:=⟨fun m a=>⟨Ly (h.2.1 m a) (by decide),oG (h.1.2.1.2 m a)⟩,Ly h.2.2 (by decide),oG h.1.2.2.1⟩
def Bl(env:b6)(l:List dg)(t:l.length<=9223372036854775807)(h: ∀m∈l,m.2.length<=9223372036854775807):b7 prog env 26 [.seq 2 (l.map eg), .seq 2 (l.map eg)] (B true):=by
 refine qf func26 call26 ntmps26 results26 ?_;repeat refine m8 ?_
 refine PA l.length (by omega) (fun j r=>[(0, .seq 2 (l.map eg)),(1, .seq 2 (l.map eg)),(5,I j)]) (fun _ _=>[]) (fun _ _ _=>True) trivial ?_ ?_
 ·rintro j s e b c p _;obtain⟨x,d⟩:=gE b;have i:=h x (Lh d);have F:=fI S6 d c;repeat refine st ?_
  refine lq x.2.length (by omega) (fun k r=>[(0, .seq 2 (l.map eg)),(1, .seq 2 (l.map eg)),(5,I j),(6,I k)]) (fun _ _=>[]) (fun _ _ _=>True) trivial ?_ ?_
  ·rintro k q g a f o _;obtain⟨y,n⟩:=gE a;have F:=lP S6 S3 d n c f o;repeat refine st ?_
   exact qn (k+1) ⟨a,trivial⟩
  rintro q g f _;have F:=g7 S6 d c p f;repeat refine st ?_
  exact qn (j+1) ⟨b,trivial⟩
 rintro s e c _;have F:=c;exact dT
def zK(env:b6)(A V:List Int)(x:pb)(h:JE x)(q:A.length=x.1.length)(s:V.length=x.2.1.length):b7 prog env 10 [.agg (k0 (A,V,x.2.2)), .agg (k0 x)] (B ((A==x.1)&&(V==x.2.1))):=by
 have n:maxLen=9223372036854775807:=rfl;have f0:=Bl env x.2.2.1 (n ▸ h.2.1.1) fun m y=>n ▸ h.2.1.2 m y;have E:x.2.2.2.1.length<=9223372036854775807:=n ▸ h.2.2.1;have r:x.1.length<=9223372036854775807:=n ▸ h.1.1;have w:x.2.1.length<=9223372036854775807:=n ▸ h.1.2;have z:((A.length:Int) != (x.1.length:Int))=false:=by simp[q]
 have C:((V.length:Int) != (x.2.1.length:Int))=false:=by simp[s]
 refine qf func10 call10 ntmps10 results10 ?_;have F:=fI Ti z C;repeat refine ef f0 ?_
 refine aG (D:=Nat) (fun i j=>[(2, .loc 2 (j 2) 0 0),(3, .loc 3 (j 3) 0 0),(5,I i)]) (fun _ _=>[(2,⟨5,[k0 (A,V,x.2.2)],31,false⟩),(3,⟨5,[k0 x],31,false⟩)]) (fun i _ _=>i<=x.2.2.2.1.length) (fun i=>x.2.2.2.1.length-i) 0 ?_ ?_ ?_ ?_
 ·exact Lx _
 ·exact qe
 ·have F:=k0.eq_1;exact qe
 rintro i l c p;by_cases a:i<x.2.2.2.1.length
 ·obtain⟨t,d⟩:=gE a;have b:=h9 a;have k:=aD a (by omega);have F:=g7 Ti S5 b k d;repeat refine st ?_
  refine⟨i+1,a,?_,?_,by omega⟩
  ·exact qe
  have F:=k0.eq_1;exact qe
 have b: ¬(i:Int)< (x.2.2.2.1.length:Int):=by omega
 have F:=ai Ti b;repeat refine st ?_
 try clear p a b
 refine aG (D:=Nat) (fun i j=>[(2, .loc 2 (j 2) 0 0),(3, .loc 3 (j 3) 0 0),(6,I i)]) (fun _ _=>[(2,⟨5,[k0 (A,V,x.2.2)],31,false⟩),(3,⟨5,[k0 x],31,false⟩)]) (fun i _ _=>i<=A.length/\A.take i=x.1.take i) (fun i=>A.length-i) 0 ?_ ?_ ?_ ?_
 ·exact⟨Lx _,rfl⟩
 ·exact qe
 ·have F:=k0.eq_1;exact qe
 try clear l c
 rintro i l c ⟨p,d⟩;by_cases a:i<A.length
 ·obtain⟨u,f,_⟩:=aS a;obtain⟨v,g,_⟩:=aS (show i<x.1.length by omega);have b:=h9 a;have o:=h9 (show i<x.1.length by omega);have k:=aD a (by omega);cases e:(u==v)
  ·rw[vN f g (by simpa using e)];have F:=pf Ti S3 b k o f g e jC;exact dT
  have F:=pf Ti S3 b k o f g e jC;repeat refine st ?_
  refine⟨i+1,⟨a,Ql d f g (by simpa using e)⟩,?_,?_,by omega⟩
  ·exact qe
  have F:=k0.eq_1;exact qe
 have b: ¬(i:Int)< (A.length:Int):=by omega
 rw[AJ d (by omega) (by omega),M5];have F:=ai Ti b;repeat refine st ?_
 try clear p a b d
 have F:=k0.eq_1;refine lq V.length (by omega) (fun i j=>[(2, .loc 2 (j 2) 0 0),(3, .loc 3 (j 3) 0 0),(7,I i)]) (fun _ _=>[(2,⟨5,[k0 (A,V,x.2.2)],31,false⟩),(3,⟨5,[k0 x],31,false⟩)]) (fun i _ _=>V.take i=x.2.1.take i) rfl ?_ ?_
 ·try clear l c
  rintro i l c a b k d;obtain⟨u,f,_⟩:=aS a;obtain⟨v,g,_⟩:=aS (show i<x.2.1.length by omega);have o:=h9 (show i<x.2.1.length by omega);cases e:(u==v)
  ·rw[vN f g (by simpa using e)];have F:=pf Ti S3 b k o f g e jC;exact dT
  have F:=pf Ti S3 b k o f g e jC;repeat refine st ?_
  refine⟨i+1,⟨a,Ql d f g (by simpa using e)⟩,?_,?_,by omega⟩
  ·exact qe
  have F:=k0.eq_1;exact qe
 try clear l c
 rintro l c b d;rw[AJ d (by omega) (by omega)];have F:=ai Ti b;exact dT
def kw{c:aq}(h:b8 c){mem:List dg}(b:bZ c mem=true):mem.length<=32/\ ∀m∈mem,cI m.2.length 8:=
 ⟨Ly (xn (Ix b)) h.Z6,fun m a=>aC (Ly (rz h b m a).2 (by decide)) (by omega)⟩
def ET{c:aq}(h:b8 c){act:List Int}{f:List Nat}(b:Fit c act f):f.length<=64:=by
 have a:f.Nodup:=b.two.imp fun h=>h.1
 have:=a.length_le_of_subset (l₂:=List.range c.trans.length) fun n e=>by
  obtain⟨t,g,_⟩:=b.real n e;exact MK.2 (Ld.1 g).1
 have d:=h.ZP;simp at this;omega
def JD{c:aq}{act:List Int}{f:List Nat}(a:Fit c act f): ∀n∈f,∃t,c.trans[n]? =some t:=fun n b=>by
 obtain⟨t,d,_⟩:=a.real n b;exact⟨t,d⟩
def Gx(env:b6)(g h f:Addr)(c:aq)(d now:Int)(E:x6 env g h f c d now)(x:pb)(b:Bx c x)(j:x.1.length<=100)(n:x.2.1.length<=4096)(m:cI x.2.2.2.1.length 24)(ts:List Nat)(e:Fit c x.1 ts)(l:b7 prog env 85 [Sg [109,105,99,114,111,46,83,116,101,112],aH c, .agg (k0 x),I d] h8):
 b7 prog env 90 [aH c, .agg (k0 x), .seq 1 (ts.map aB),I d,I now] (vF h f (ld c d now (bj x) ts)):=by
 obtain⟨s,k⟩:=kw E.h b.mem;obtain⟨_,a⟩:=iz E.h b.lg b.mem (uj E.h b.lg e);obtain⟨t,r⟩:=kw E.h a;have i:=ET E.h e
 exact Gw env g h f c d now E x j n (by omega) k m ts l (Jw env g f E.he c E.h E.hs d now (bj x) (show x.1.length<=1000 by omega) b.lg ts e (by omega))
  (HX env g h f c d now E (bj x) b.beg j b.lg b.mem (show x.2.2.1.length<=1000000 by omega) k ts (JD e) i (uj E.h b.lg e) a ⟨show (m7 c x.1 (zL (bt c (c0 c x.1 ts))) x.2.2.1).length<=1000000 by omega,r⟩ fun u o p q=>(t7 E.h b.lg e E.hd E.hn a o p q).1)
def Bz(env:b6)(c:aq)(h:b8 c)(m:c.vars.length<=8)(d now:Int)(i:aL d=true)(j:0<=now/\now<=1099511627776)(x:pb)(b:Bx c x)(l:x.1.length<=100)(ts:List Nat)(f:Fit c x.1 ts):
 b7 prog env 80 [.agg (aA c), .agg (k0 x), .seq 1 (ts.map aB),I d,I now] (Sb d now (ld c d now (bj x) ts)):=by
 obtain⟨q,r⟩:=kw h b.mem;obtain⟨e,a⟩:=iz h b.lg b.mem (uj h b.lg f);obtain⟨s,t⟩:=kw h a;obtain⟨k,g⟩:=Ko h b.lg f;exact FW env c h (by omega) d now i j x b.beg l b.lg (by omega) ts (JD f) (ET h f) k g a (by omega) e.symm fun u n o p=>(t7 h b.lg f i j a n o p).1
structure RU(c:aq)(x:pb):Prop where
 act:x.1.length<=32
 vars:x.2.1.length<=4096
 mem:x.2.2.1.length<=32
 mems: ∀m∈x.2.2.1,cI m.2.length 8
 Z0:x.2.2.2.1.length<=8
 nms: ∀t∈x.2.2.2.1,t.1.length<=32
def j5{c:aq}(h:b8 c)(f:c.vars.length<=4096){x:pb}(a:Bx c x):RU c x:=by
 obtain⟨g,i⟩:=kw h a.mem;have d:=Hr a.lg;have b:=h.Z6
 exact⟨by omega,by rw[a.len];exact f,g,i,a.ZN,fun t e=>by
  have:=(a.Z0.each t e).1;unfold bl at this;simp only[Li,Lt]at this
  exact this.1.1⟩
structure If(env:b6)(a1 a2 a6 a8:Addr)(c:aq)(now:Int):Prop where
 he:fq env a1 a8
 h2:env 5=some (cf a2)
 h6:env 3=some (cf a6)
 h:b8 c
 hs:g6 c
 hn:0<=now/\now<=1099511627776
def rZ{env:b6}{a b:Addr}(j:fq env a b){c:aq}(h:b8 c)(f:g6 c){x:pb}{d:Int}(e:bM c (D' x)=true)(l:x.2.2.2.2=false)(i:aL d=true)(g:List UInt8):b7 prog env 85 [Sg g,aH c, .agg (k0 x),I d] h8:=by
 have k:=j5 h f.vars (gM e);have n:=k.act;have o:=k.vars;have p:=k.mem;have q:=k.Z0;exact FT env a b j c h f x ⟨show x.1.length<=1000000 by omega,show x.2.1.length<=1000000 by omega,show x.2.2.1.length<=1000000 by omega,show x.2.2.2.1.length<=9223372036854775807 by omega⟩ (fun t m=>Ly (k.nms t m) (by omega)) k.mems g d e l i
def Ga{env:b6}{f b g:Addr}(m:fq env f g)(o:env 5=some (cf b)){c:aq}(h:b8 c)(e:g6 c){x:pb}{d:Int}(i:bM c (D' x)=true)(q:x.2.2.2.2=false)(j:aL d=true)(ev:List UInt8):b7 prog env 49 [aH c, .agg (k0 x),Sg ev,I d] (HL b (mo c x.1 (GS c x.1 x.2.1 d) ev (u' c (x.1.map Int.toNat)))):=by
 have a:=gM i;have k:=(j5 h e.vars a).act;obtain⟨l,n,p⟩:=sI a.lg;rw[xo n];exact zt env f b g m o c h e x d ⟨by omega,a.len,a.fit,j,a.lg⟩ ev (rZ m h e i q j _) l n p
def FC{env:b6}{e a i b:Addr}{c:aq}{now:Int}(E:If env e a i b c now){x:pb}{d:Int}(g:bM c (D' x)=true)(l:x.2.2.2.2=false)(h:aL d=true){ts:List Nat}(j:Fit c x.1 ts):b7 prog env 90 [aH c, .agg (k0 x), .seq 1 (ts.map aB),I d,I now] (vF a b (ld c d now (bj x) ts)):=by
 have f:=gM g;have k:=j5 E.h E.hs.vars f;have n:=k.act;have m:=k.Z0;exact Gx env e a b c d now ⟨E.he,E.h2,E.h,E.hs,h,E.hn⟩ x f (by omega) k.vars (aC (Ly m (by omega)) (by omega)) ts j (rZ E.he E.h E.hs g l h _)
def sE(env:b6)(a b:Addr)(d:fq env a b)(s:List UInt8):b7 prog env 22 [Sg s] (fc (-1) (cf a)):=by
 have c:=iH d.e1;have f1:=bh env s a;refine qf func22 call22 ntmps22 results22 ?_;have F:=c;exact g9 f1
def AS(c:aq)(now:Int)(F:Nat)(o:Bool)(m:qa)(g:Nat->Nat):List AV:=[.ref 9 [ca c] 0 0,b0 m.x.1,b0 m.x.2.1, .seq 2 (m.x.2.2.1.map eg), .seq 2 (m.x.2.2.2.1.map cR),B m.x.2.2.2.2, .row 1002 (g 1002), .row 1001 (g 1001),I m.steps,B o,I m.data,I now,I F]
def Tc:=@AS.eq_1
def RQ(c:aq)(now:Int)(F:Nat)(o:Bool)(m:qa)(g:Nat->Nat):List (Nat×Row):=[(1000,⟨13,[AS c now F o m g],79,false⟩),(1001,⟨1,m.said.map aa,3,true⟩),(1002,⟨2,m.wait.map cR,33,true⟩)]
def Td:=@RQ.eq_1
def DA(k:Nat):Bool:=k==1001||k==1002
def S7:=@DA.eq_1
def mG(b c d:Addr):r5->AV
 |none=>h8
 |some (k,a)=>fc (a.headD (-1)) (l5 a.tail (cf (if k=2 then b else if k=6 then c else d)))
def aN(a b c:Addr)(e:r5)(L:Nat->Nat->Option (Nat×Nat)):(mG a b c e).ren L=mG a b c e:=by rcases e with _|⟨_,_⟩<;>rfl
def A9(env:b6)(q r h:Addr)(s:env 2=some (cf h))(c:aq)(now:Int)(F:Nat)(m:qa)(outs:List Int)(rais:List (List UInt8×Int))(t:m.said.length<=256)(w:m.wait.length<=16)(u:outs.length<=256)(v:rais.length<=16):
 hU prog env 42 [1000,1001,1002] DA (fun g=>[.loc 1000 (g 1000) 0 0, .agg [b0 outs, .seq 2 (rais.map cR)]]) (RQ c now F false m) (RQ c now F false (AT m outs rais).1) (fun _=>mG q r h (AT m outs rais).2):=by
 have o:=iH s;have f0:=bh env [109,97,99,114,111,46,97,100,100] h;have l:cI (m.said.length+outs.length) 8:=aC (by omega) (by omega);have n:cI (m.wait.length+rais.length) 24:=aC (by omega) (by omega);have x:(m.said++outs).length=m.said.length+outs.length:=Ll;have y:(m.wait++rais).length=m.wait.length+rais.length:=Ll;unfold AT;by_cases k:256< (m.said++outs).length\/16< (m.wait++rais).length
 ·rw[Lj k];show hU _ _ _ _ _ _ _ _ fun _=>fc (-1) (cf h);unfold RQ AS;simp only[Ln];by_cases i:(256:Int)< ((m.said.length+outs.length:Nat):Int)
  ·refine qi func42 call42 ntmps42 results42 ?_;intro p f a;obtain⟨b,d,e⟩:=Rl a;have F:=ns S7 o l n i b d e;repeat refine ef f0 ?_
   exact rI
  have j:(16:Int)< ((m.wait.length+rais.length:Nat):Int):=by omega
  refine qi func42 call42 ntmps42 results42 ?_;intro p f a;obtain⟨b,d,e⟩:=Rl a;have F:=pf S7 o l n i j b d e;repeat refine ef f0 ?_
  exact rI
 rw[Lf k];have i: ¬(256:Int)< ((m.said.length+outs.length:Nat):Int):=by omega
 have j: ¬(16:Int)< ((m.wait.length+rais.length:Nat):Int):=by omega
 show hU _ _ _ _ _ _ _ _ fun _=>h8;unfold RQ AS;simp only[Ln];refine qi func42 call42 ntmps42 results42 ?_;intro p f a;obtain⟨b,d,e⟩:=Rl a;have F:=ns S7 l n i j b d e;repeat refine st ?_
 exact rI
def Fo{env:b6}{A h e i:Addr}{c:aq}{now:Int}(E:If env A h e i c now){F:Nat}{m:qa}(d:tg c F m)(w:m.x.2.2.2.2=false){l:List Nat}(v:Fit c m.x.1 l):
 hU prog env 50 [1000,1001,1002] DA (fun g=>[.loc 1000 (g 1000) 0 0, .seq 1 (l.map aB)]) (RQ c now F false m) (RQ c now F false (o3 c now F m l).1) (fun _=>mG h e i (o3 c now F m l).2):=by
 have C:=iH E.h6;have f6:=bh env [109,97,99,114,111,46,115,116,101,112] e;have b:=FC E d.inst w d.data v;unfold o3;by_cases k:F<=m.steps
 ·rw[Lj k];have t:(F:Int)<=(m.steps:Int):=by omega
  show hU _ _ _ _ _ _ _ _ fun _=>fc (-1) (cf e);refine qi func50 call50 ntmps50 results50 ?_;intro z q a;obtain⟨j,n,p⟩:=Rl a;have F:=ns Td Tc S7 C t j n p;repeat refine ef f6 ?_
  exact rI
 rw[Lf k];have t: ¬(F:Int)<=(m.steps:Int):=by omega
 have x:=rQ E.h d.data E.hn (gM d.inst) w v;unfold aH k0 at b;rcases u:ld c m.data now (bj m.x) l with⟨r,_|⟨k,f⟩⟩
 ·rw[u]at b x;obtain⟨y,_,_⟩:=x rfl;have s:=A9 env h e i E.he.e8 c now F ⟨Qi r,m.said,m.steps+1,m.wait,m.data⟩ r.outs r.Z7 d.said d.wait y.outs y.Z7;have G:=d.steps;have H:IntKind.i64.wrap ((m.steps:Int)+1)=((m.steps+1:Nat):Int):=aD (show m.steps<F by omega) (by have:=d.ZO;omega);unfold vF at b;unfold RQ AS at s;unfold Es;simp only at b s |-;generalize AT _ r.outs r.Z7=Y at*;unfold Qi at s;simp only at s;unfold RQ AS;refine qi func50 call50 ntmps50 results50 ?_;intro z q a;obtain⟨j,n,p⟩:=Rl a;have F:=ip S7 t H j n p;repeat (first|refine oO rfl (by simp only[go_sem,aN,F];exact⟨rfl,rfl⟩) ?_|refine gR ?_|refine gO ?_|refine oC rfl (b) (by simp only[go_sem,aN,F];exact iR) (by simp only[go_sem,aN,F];exact⟨rfl,rfl⟩) ?_|refine oZ (kP ?_)|refine oZ ?_|refine oS ?_|refine gT ?_|refine gD mixed ?_|refine oB ?_|refine oK ?_|(refine oX ?_;simp only[bB,ba, ↓reduceIte,Nat.reduceEqDiff,reduceCtorEq])|refine oY (by simp only[go_sem,aN,F];exact iR) ?_|refine oN (by simp only[go_sem,aN,F];exact iR) ?_)
  refine i6 [(1000,1000),(1001,1001),(1002,1002)] rfl (s) (by decide) (by decide) (by simp only[go_sem,aN,F]<;>rfl) (by simp only[go_sem,aN,F,Ls]<;>trivial) (by simp only[go_sem,aN,F,Ls]<;>trivial) (by intro o;simp only[go_sem,aN,F,g4,Ls]<;>trivial) (by intro o;simp only[go_sem,aN,F]<;>rfl) (by simp only[go_sem,aN,F,g4];exact iR) (by simp only[go_sem,aN,F,g4];exact iR) ?_;repeat (first|refine oO rfl (by simp only[go_sem,aN,F];exact⟨rfl,rfl⟩) ?_|refine gR ?_|refine gO ?_|refine oZ (kP ?_)|refine oZ ?_|refine oS ?_|refine gT ?_|refine gD mixed ?_|refine oB ?_|refine oK ?_|(refine oX ?_;simp only[bB,ba, ↓reduceIte,Nat.reduceEqDiff,reduceCtorEq])|refine oY (by simp only[go_sem,aN,F];exact iR) ?_|refine oN (by simp only[go_sem,aN,F];exact iR) ?_)
  (refine aM ?_;(try simp only[bB,ba, ↓reduceIte,Nat.reduceEqDiff,reduceCtorEq]);refine rY ?_ ?_<;>simp only[go_sem,aN,F,Pv,Ls,Qa,Pm,AV.tuple.injEq,PY,ne_eq])
 rw[u]at b;unfold vF at b;have D:=rR c m.data now (bj m.x) l (k,f) (by rw[u])
 have B:ck h i (some (k,f))=fc (f.headD (-1)) (l5 f.tail (cf (if k=2 then h else if k=6 then e else i))):=by
  unfold ck;simp only;rcases D with rfl|rfl<;>rfl
 simp only[B]at b;show hU _ _ _ _ _ _ _ _ fun _=>fc (-1) (fc (f.headD (-1)) (l5 f.tail (cf (if k=2 then h else if k=6 then e else i))));generalize l5 f.tail _=V at*;refine qi func50 call50 ntmps50 results50 ?_;intro z q a;obtain⟨j,n,p⟩:=Rl a;have F:=lP Td Tc S7 t j n p;repeat refine ef b ?_
 exact rI
def xq{env:b6}{w j r s:Addr}{c:aq}{now:Int}(E:If env w j r s c now){F:Nat}{m:qa}(p:tg c F m)(u:m.x.2.2.2.2=false)(ev:List UInt8):
 hU prog env 24 [1000,1001,1002] DA (fun g=>[.loc 1000 (g 1000) 0 0,Sg ev]) (RQ c now F false m) (RQ c now F false (tn c now F m ev).1.1) (fun _=> .tuple [B (tn c now F m ev).2,mG j r s (tn c now F m ev).1.2]):=by
 have b:=Ga E.he E.h2 E.h E.hs p.inst u p.data ev;change b7 _ _ _ _ (HL j (ir c m ev)) at b;unfold aH k0 at b;unfold tn;cases q:ir c m ev with
 | error n=>
   rw[q]at b;unfold HL at b;show hU _ _ _ _ _ _ _ _ fun _=> .tuple [B false,fc (1000+(n:Nat)) (cf j)];refine qi func24 call24 ntmps24 results24 ?_;intro v i a;obtain⟨d,e,h⟩:=Rl a;have F:=ip Td Tc S7 d e h;repeat refine ef b ?_
   exact rI
 | ok f=>
   rw[q]at b;unfold HL at b;simp only at b;cases f with
   | nil=>
     show hU _ _ _ _ _ _ _ _ fun _=> .tuple [B false,h8];refine qi func24 call24 ntmps24 results24 ?_;intro v i a;obtain⟨d,e,h⟩:=Rl a;have F:=ip Td Tc S7 d e h;repeat refine ef b ?_
     exact rI
   | cons k l=>
     have t:=Fo E p u (pS E.h (gM p.inst).lg q);simp only;generalize o3 c now F m (k::l)=Y at*;have x:(((k::l).map aB).length:Int)≠0:=by simp;omega
     simp only[M1]at b t;refine qi func24 call24 ntmps24 results24 ?_;intro v i a;obtain⟨d,e,h⟩:=Rl a;have F:=ip Td Tc S7 d e h;repeat (first|refine oO rfl (by simp only[go_sem,aN,F];exact⟨rfl,rfl⟩) ?_|refine gR ?_|refine gO ?_|refine oC rfl (b) (by simp only[go_sem,aN,F];exact iR) (by simp only[go_sem,aN,F];exact⟨rfl,rfl⟩) ?_|refine oZ (kP ?_)|refine oZ ?_|refine oS ?_|refine gT ?_|refine gD mixed ?_|refine oB ?_|refine oK ?_|(refine oX ?_;simp only[bB,ba, ↓reduceIte,Nat.reduceEqDiff,reduceCtorEq])|refine oY (by simp only[go_sem,aN,F];exact iR) ?_|refine oN (by simp only[go_sem,aN,F];exact iR) ?_)
     refine i6 [(1000,1000),(1001,1001),(1002,1002)] rfl (t) (by decide) (by decide) (by simp only[go_sem,aN,F]<;>rfl) (by simp only[go_sem,aN,F,Ls]<;>trivial) (by simp only[go_sem,aN,F,Ls]<;>trivial) (by intro o;simp only[go_sem,aN,F,g4,Ls]<;>trivial) (by intro o;simp only[go_sem,aN,F]<;>rfl) (by simp only[go_sem,aN,F,g4];exact iR) (by simp only[go_sem,aN,F,g4];exact iR) ?_;repeat (first|refine oO rfl (by simp only[go_sem,aN,F];exact⟨rfl,rfl⟩) ?_|refine gR ?_|refine gO ?_|refine oZ (kP ?_)|refine oZ ?_|refine oS ?_|refine gT ?_|refine gD mixed ?_|refine oB ?_|refine oK ?_|(refine oX ?_;simp only[bB,ba, ↓reduceIte,Nat.reduceEqDiff,reduceCtorEq])|refine oY (by simp only[go_sem,aN,F];exact iR) ?_|refine oN (by simp only[go_sem,aN,F];exact iR) ?_)
     (refine aM ?_;(try simp only[bB,ba, ↓reduceIte,Nat.reduceEqDiff,reduceCtorEq]);refine rY ?_ ?_<;>simp only[go_sem,aN,F,Pv,Ls,Qa,Pm,AV.tuple.injEq,PY,ne_eq])
def m0(x:pb)(d:Int):qa:=⟨x,[],0,[],d⟩
def NM:Nat:=5000
def L5(c:aq)(now:Int)(F:Nat):qa×r5->qa×r5
 |(m,none)=>DM c now F NM m
 |y=>y
def Qk(c:aq)(now:Int)(F:Nat)(x:pb)(ev:List UInt8)(d:Int):qa×r5:=L5 c now F (tn c now F (m0 x d) ev).1
def sm(c:aq)(now:Int)(F:Nat)(x:pb)(d:Int):qa×r5:=DM c now F NM (m0 x d)
def Dd(c:aq)(now:Int)(F:Nat):qa×r5:=match dJ c now with
 |(r,none)=>L5 c now F (AT (m0 (Qi r) 0) r.outs r.Z7)
 |(r,some e)=>(m0 (Qi r) 0,some (e.1, -1::e.2.headD (-1)::e.2.tail))
def JV{c:aq}{F:Nat}{x:pb}{d:Int}(b:bM c (D' x)=true)(f:aL d=true)(a:F<=256):tg c F (m0 x d):=⟨b,f,Lx _,fun e g=>by simp[m0]at g,Lx _,Lx _,a⟩
def D9{c:aq}{F:Nat}{m:qa}(h:tg c F m):jI F m<NM:=by
 have a:=h.ZO;have b:=h.wait;unfold jI NM;have:(F-m.steps)*17<=256*17:=M3 _ (by omega);omega
section
variable {c:aq} (h:b8 c) {now:Int} (hn:0<=now/\now<=1099511627776)
include h hn
theorem KV{F:Nat}{m:qa}(a:tg c F m):K5 (DM c now F NM m).2:=D3 h hn NM m a (D9 a)
theorem Ia{F:Nat}(e:F<=256)(f: ∀v∈c.vars,aL v.start=true):((dJ c now).2=none->(AT (m0 (Qi (dJ c now).1) 0) (dJ c now).1.outs (dJ c now).1.Z7).2=none->tg c F (AT (m0 (Qi (dJ c now).1) 0) (dJ c now).1.outs (dJ c now).1.Z7).1):=by
 intro d a;obtain⟨g,i,_⟩:=qJ h hn f d;unfold AT at a |-;split at a
 ·cases a
 rename_i b;rw[Lf b];simp only[m0,Nz]at b |-;exact⟨g,rfl,show (dJ c now).1.Z7.length<=16 by omega,i.raf,show (dJ c now).1.outs.length<=256 by omega,Lx _,e⟩
end
end
section
open Go.RowKit
attribute [local go_sem] eJ nq
def zk(env:b6)(es:List (List AV))(c:cI es.length 24):b7 prog env 91 [.seq 2 es] (.own 33 2 es):=by
 cases es with
 | nil=>
   refine b7.empty fun A a=> ?_;cases A with
   | none=>
     refine qw func91 call91 ntmps91 results91 ?_;repeat refine m8 ?_
     (refine aM ?_;refine⟨_,(by show (ag _ _ _).run _=some _;simp only[go_sem];rfl),?_⟩)
     exact fX.own_nil _ _ (by decide)
   | some A=>
     refine qf func91 call91 ntmps91 results91 ?_;repeat refine m8 ?_
     exact p'
 | cons d l=>
   have b:cI (l.length+1) 24:=c;refine qf func91 call91 ntmps91 results91 ?_;have F:=b;exact dT
def rS{P:Program}{rs:List ResultVar}{ids:List Nat}{grown:Nat->Bool}{vs0:Nat->Nat}{post:(Nat->Nat)->List (Nat×Row)}{res:(Nat->Nat)->AV}{s:St}(h:Ir P rs ids grown vs0 post res .ret s:=by
 refine rY ?_ ?_<;>simp only[go_sem,F,Pv,Ls,Qa,Pm,AV.tuple.injEq,PY,ne_eq]):Ir P rs ids grown vs0 post res .ret s:=h
def Ie{P:Program}{env:b6}{nt:Nat}{c:Code}{Q:Exit->St->Prop}{s:St}(r:Nat)(h:fk P env nt c Q { s with rows:=mc s.rows r none }):fk P env nt c Q s:=
 BR (s':={ s with rows:=mc s.rows r none }) ⟨fun _=> .inl rfl,fun k=>by
  by_cases e:k=r
  ·subst e;exact .inr (aw _ _ _)
  exact .inl (cD _ _ _ e),rfl,rfl⟩ h
def Rp:qa×r5->Bool
 |(m,none)=>m.x.2.2.2.2
 |_=>false
def Jk{env:b6}{U H I J:Addr}{c:aq}{now:Int}(E:If env U H I J c now){fu:Nat}{m:qa}(v:tg c fu m):
 hU prog env 51 [1000,1001,1002] DA (fun g=>[.loc 1000 (g 1000) 0 0]) (RQ c now fu false m) (RQ c now fu (Rp (DM c now fu NM m)) (DM c now fu NM m).1) (fun _=>mG H I J (DM c now fu NM m).2):=by
 obtain⟨X,a⟩: ∃X,DM c now fu NM m=X:=⟨_,rfl⟩;have p:=D9 v;rw[a];refine qi func51 call51 ntmps51 results51 ?_;intro vs K A;obtain⟨i,j,l⟩:=Rl A;have F:=ip Td Tc S7 i j l;repeat refine st ?_
 refine wo ?_;repeat refine st ?_
 refine wq ?_;show fk _ _ _ _ _ _;repeat refine st ?_
 refine lp (D:=qa×Nat) (fun _ t=>[(0, .loc 1000 (t 1000) 0 0)]) (fun y t=>RQ c now fu false y.1 t) (fun y t s=>(tg c fu y.1/\DM c now fu y.2 y.1=X/\jI fu y.1<y.2)/\t 1000=vs 1000/\s 1000=false/\s 1001=false/\s 1002=false) (fun y=>jI fu y.1) (m,NM) ⟨⟨v,a,p⟩,by simp only[go_sem,i,j,l,Ls]⟩ ?_;try clear i j l A p a v
 rintro⟨m,n⟩ ws K ⟨⟨v,a,p⟩,u,i,j,l⟩;simp only at v a p;obtain⟨n,rfl⟩: ∃k,n=k+1:=⟨n-1,by omega⟩;unfold DM at a;by_cases d:m.x.2.2.2.2=true
 ·rw[Lj d]at a;subst a;have f:Rp (m,none)=true:=d;have M:mG H I J none= .lit .nilIface:=rfl;show fk _ _ _ _ _ _;have F:=la Td Tc S7 f M d u i j l;repeat refine st ?_
  show fk _ _ _ _ _ _;refine aM ?_;simp only[bB,ba,oc];exact rS
 rw[Lf d]at a;have d:m.x.2.2.2.2=false:=by simpa using d
 have r:=xq E v d [];have R:=tK E.h E.hn v d (ev:=[]);have G:=qq E.h E.hn v d (ev:=[]);rcases Q:tn c now fu m []with⟨⟨h,_|e⟩,b⟩
 ·rw[Q]at a r R G;obtain⟨O,V,P⟩:=R rfl;obtain⟨f1,f2⟩:=G rfl;simp only at a r O V P f1 f2;cases b with
  | true=>
    simp only at a;unfold mG RQ AS at r;have F:=ns Td Tc S7 d u i j l;repeat refine st ?_
    refine iL [(1000,1000),(1001,1001),(1002,1002)] r ?_;repeat refine st ?_
    refine⟨(h,n),⟨⟨O,a,by have:=f2 rfl;simp only;omega⟩,?_⟩,?_,?_,?_⟩
    ·simp only[go_sem,u,i,j,l,Ls]
    ·exact qe
    ·exact qe
    exact f2 rfl
  | false=>
    obtain rfl:h=m:=by rcases P with⟨q,_⟩|⟨_,q⟩;cases q;exact q
    unfold mG RQ AS at r;simp only at a;cases z:h.wait with
    | nil=>
      rw[z]at a;simp only at a;subst a;have f:Rp (h,none)=false:=d;have M:mG H I J none= .lit .nilIface:=rfl;show fk _ _ _ _ _ _;have F:=pc Td Tc S7 f M z d u i j l;repeat refine st ?_
      refine iL [(1000,1000),(1001,1001),(1002,1002)] r ?_;repeat refine st ?_
      refine aM ?_;simp only[bB,ba,oc];exact rS
    | cons e w=>
      rw[z]at a;simp only at a;have q0:h.wait[0]? =some e:=by rw[z];rfl
      have q5:(0:Int)< (h.wait.length:Int):=by rw[z];simp only[MB];omega
      have T:((h.wait.length:Int)==0)=false:=by rw[Nt];omega
      have F:=pf Td Tc S7 T d u i j l;repeat refine st ?_
      refine iL [(1000,1000),(1001,1001),(1002,1002)] r ?_
      iterate 20 (refine st ?_)
      refine cT [(1002,⟨2,h.wait.map cR,33,true⟩)] ?_ ?_
      ·exact qe
      have x:=D1 v z;have Y:=zk env (w.map cR) (by rw[ME];have:=x.wait;exact aC (by simp only at this;omega) (by omega));have C:=xq E x d e.1;have L:=tK E.h E.hn x d (ev:=e.1);have B:=qq E.h E.hn x d (ev:=e.1);have q3:(h.wait.drop 1).take (h.wait.length-1)=w:=by rw[z,List.drop_one,Q3,MB,OG,MC]
      have q4:(1:Int)<=(h.wait.length:Int):=by rw[z];simp only[MB];omega
      rcases hB:tn c now fu { h with wait:=w,data:=e.2 } e.1 with⟨⟨N,W⟩,b⟩;rw[hB]at a C L B;simp only at a C L B;unfold RQ AS at C;simp only at C;have F:=dk Td Tc S7 S5 q0 q3 q4 q5 T d u<|fI i j l;repeat (first|refine oO rfl (by simp only[go_sem,aN,F];exact⟨rfl,rfl⟩) ?_|refine gR ?_|refine gO ?_|refine oC rfl (Y) (by simp only[go_sem,aN,F];exact iR) (by simp only[go_sem,aN,F];exact⟨rfl,rfl⟩) ?_|refine oZ (kP ?_)|refine oZ ?_|refine oS ?_|refine gT ?_|refine gD mixed ?_|refine oB ?_|refine oK ?_|(refine oX ?_;simp only[bB,ba, ↓reduceIte,Nat.reduceEqDiff,reduceCtorEq])|refine oY (by simp only[go_sem,aN,F];exact iR) ?_|refine oN (by simp only[go_sem,aN,F];exact iR) ?_)
      refine i6 [(1000,1000),(1001,1001),(1002,41)] rfl (C) (by decide) (by decide) (by simp only[go_sem,aN,F]<;>rfl) (by simp only[go_sem,aN,F,Ls]<;>trivial) (by simp only[go_sem,aN,F,Ls]<;>trivial) (by intro o;simp only[go_sem,aN,F,g4,Ls]<;>trivial) (by intro o;simp only[go_sem,aN,F]<;>rfl) (by simp only[go_sem,aN,F,g4];exact iR) (by simp only[go_sem,aN,F,g4];exact iR) ?_
      iterate 6 (refine st ?_)
      show fk _ _ _ _ _ _;refine Ie 1002 ?_;refine KH 41 1002 ⟨2,N.wait.map cR,33,true⟩ (by decide) (by simp only[go_sem]) (by simp only[go_sem]) (MZ 1) rfl ?_;rcases W with _|⟨k,S⟩
      ·obtain⟨Z,_,g3⟩:=L rfl;obtain⟨h1,h2⟩:=B rfl;have hlt:jI fu { h with wait:=w,data:=e.2 } <jI fu h:=by unfold jI;rw[z];simp
       unfold mG;simp only at a h1 |-;have F:=lP Td Tc S7 u i j l;repeat refine st ?_
       refine⟨(N,n),⟨⟨Z,a,by simp only;omega⟩,?_⟩,?_,?_,by simp only;omega⟩
       ·simp only[go_sem,u,i,j,l,Ls]
       ·exact qe
       exact qe
      simp only at a;subst a;have f:Rp (N,some (k,S))=false:=rfl;unfold mG;simp only;have F:=ns Td Tc S7 f u i j l;repeat refine st ?_
      refine aM ?_;simp only[bB,ba,oc];exact rS
 rw[Q]at a r;simp only at a r;subst a;have f:Rp (h,some e)=false:=rfl;obtain⟨k,S⟩:=e;unfold mG RQ AS at r;simp only at r;show fk _ _ _ _ _ _;unfold mG;simp only;have F:=pf Td Tc S7 f d u i j l;repeat refine st ?_
 refine iL [(1000,1000),(1001,1001),(1002,1002)] r ?_;repeat refine st ?_
 show fk _ _ _ _ _ _;refine aM ?_;simp only[bB,ba,oc];exact rS
end
section
open Go.RowKit
def eZ(c:aq)(x:pb)(ev:List UInt8)(d n f:Int):List AV:=[Sg c.name,I c.initial,n7 c.vars,o' c.Z9,rk c.trans,b0 x.1,b0 x.2.1, .seq 2 (x.2.2.1.map eg), .seq 2 (x.2.2.2.1.map cR),B x.2.2.2.2,Sg ev,I d,I n,I f]
def Tt:=@eZ.eq_1
def kX(env:b6)(c:aq):b7 prog env 11 [.agg (aA c)] (B (sH c)):=by
 unfold sH;refine qf func11 call11 ntmps11 results11 ?_;have F:=aA.eq_1;exact dT
def C2(env:b6)(b d:Addr)(f:fq env b d)(e: ∀W,env.inv W->wg W)(c:aq)(a:j6 c)(h:lU c=true):b7 prog env 4 [.agg (aA c)] (aH c):=by
 have f0:=kX env c;have f1:=mX env c;unfold lU at h;rw[Li]at h;rw[h.1]at f0;rw[h.2]at f1;rw[Mh]at h;have f2:=vQ env b d f e c (Ks h.2) a;unfold aH at f2 |-;refine qf func4 call4 ntmps4 results4 ?_;repeat refine HF f0 f1 f2 ?_
 exact p'
def zZ(env:b6)(c:aq)(h:lU c=false):b7 prog env 4 [.agg (aA c)] (.lit (.pointer none)):=by
 have f0:=kX env c;have f1:=mX env c;unfold lU at h;cases a:sH c
 ·rw[a]at f0;refine qf func4 call4 ntmps4 results4 ?_;repeat refine zy f0 f1 ?_
  exact p'
 rw[a]at f0;rw[a,M5]at h;rw[h]at f1;refine qf func4 call4 ntmps4 results4 ?_;repeat refine zy f0 f1 ?_
 exact p'
def li(c:aq)(x:pb):Bool:= !lU c||decide (60< (x.1.length:Int))||decide (60< (x.2.2.1.length:Int))||decide (60< (x.2.1.length:Int))
def zD(env:b6)(c:aq)(x:pb)(ev:List UInt8)(d n f:Int):b7 prog env 5 [.agg (eZ c x ev d n f)] (B (li c x)):=by
 have f0:=kX env c;have f1:=mX env c;unfold aA at f0 f1;unfold li lU;refine qf func5 call5 ntmps5 results5 ?_;have F:=eZ.eq_1;exact m5 f0 f1
def tE(n f:Int):Bool:=decide (0<=n)&&decide (n<=1099511627776)&&decide (0<=f)&&decide (f<=256)
def x8(env:b6)(n f:Int):b7 prog env 16 [I n,I f] (B (tE n f)):=by
 unfold tE;refine qf func16 call16 ntmps16 results16 ?_;have F:=trivial;exact dT
def J9(c:aq)(x:pb)(d n f:Int):Int:=if bM c (D' x)=false then 1 else if x.2.2.2.2=true then 7 else if aL d=false then 1 else if tE n f=false then 1 else 0
def zJ(env:b6)(c:aq)(h:b8 c)(x:pb)(b:MT (D' x))(a: ∀m∈x.2.2.1,cI m.2.length 8)(ev:List UInt8)(d n f:Int):b7 prog env 6 [.agg (eZ c x ev d n f)] (I (J9 c x d n f)):=by
 have f0:=xK env c h (D' x) b a;have f1:=d6 env d;have f2:=x8 env n f;rw[xx]at f0;unfold aA k0 at f0;refine qf func6 call6 ntmps6 results6 ?_;have F:=ai Tt J9.eq_1;exact x5 f0 f1 f2
def qC(env:b6)(a b:Addr)(k:fq env a b)(d:List UInt8)(c:aq)(n f:Int):b7 prog env 40 [Sg d,aH c,I n,I f] (if tE n f=true then h8 else fc (-1) (cf a)):=by
 have e:(if tE n f=true then h8 else fc (-1) (cf a))=if n<0 then fc (-1) (cf a) else if 1099511627776<n then fc (-1) (cf a) else if f<0 then fc (-1) (cf a) else if 256<f then fc (-1) (cf a) else h8:=by
  unfold tE;by_cases g:n<0<;>by_cases h:1099511627776<n<;>by_cases i:f<0<;>by_cases j:256<f<;>simp[g,h,i,j]<;>omega
 rw[e];have f0:=sE env a b k d;unfold aH;refine qf func40 call40 ntmps40 results40 ?_;have F:=trivial;exact g9 f0
end
end Go.Proofs.YtknkhdgfhbogdaaGreatDoor
