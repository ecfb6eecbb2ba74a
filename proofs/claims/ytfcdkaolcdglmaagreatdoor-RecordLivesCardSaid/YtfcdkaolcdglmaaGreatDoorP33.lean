/- Events and pairs of ints that came in. -/
import Derived.Test.YtfcdkaolcdglmaaGreatDoorP32
import Derived.Test.YtfcdkaolcdglmaaGreatDoorP28
set_option maxRecDepth 100000
set_option maxHeartbeats 16000000
set_option linter.unusedSimpArgs false
set_option linter.defProp false
namespace Go.Proofs.YtfcdkaolcdglmaaGreatDoor
open Go.Proofs.Tryz
section
open Go.RowKit
def Up(S:Nat->Nat->Prop)(w w':World)(b o:Nat):Prop:=S b o\/w.heap.size<=b/\b<w'.heap.size
section
variable {S:Nat->Nat->Prop} {w w':World}
theorem US{f:Type}{size:Nat}{e:TypeId}{v:Value}{xs:List Value}{R:List Value->f->Prop}{l:List f}(enc:f->List AV)(m: ∀a,(enc a).length=size)(d:w'.ownsRow w.heap.size e size v l.length xs)(k:eY size R xs l)
 (h: ∀cs a,a∈l->R cs a-> ∀(j:Nat)(u:Value)(c:AV),cs[j]? =some u->(enc a)[j]? =some c->u.oneCell'=true/\RV (Up S w w') w' u c):v.oneCell'=true/\RV (Up S w w') w' v (.seq size (l.map enc)):=by
 refine⟨?_,uM enc m (GS d rfl k) (fun b off n c e i o=> .inr ⟨?_,i⟩) h⟩
 ·obtain⟨A,c,rfl,_⟩:=aj d;rfl
 obtain⟨A,p,g,_⟩:=aj d;subst g;cases e;exact(sW d).2 b off _ rfl
theorem Uz{e:TypeId}{v:Value}{l:List Int}(g:w'.ownsRow w.heap.size e 1 v l.length (iv l)):v.oneCell'=true/\RV (Up S w w') w' v (cI l):=
 US aa (fun _=>rfl) g (PB _ _) fun d a _ b j u c h f=>by
  have b:d=[.int .i64 a]:=b;subst b;exact(UW.at_ (S:=Up S w w') (w:=w') (vs:=[.int .i64 a]) (cs:=[I a]) ⟨⟨rfl, .lit _⟩,trivial⟩).2 j u c h f
theorem Lk{l o m n:Value}{r:Rc}(h:gv w' w.heap.size l o m n r):RV (Up S w w') w' (.agg (ph r l o m n)) (.agg (dy r)):=by
 obtain⟨s,d,e⟩:=h.mem;obtain⟨t,g,i⟩:=h.Z4
 refine UW.agg (vs:=[.int .i64 r.Z5, .int .i64 r.born, .int .i64 r.steps,l,o,m,n, .bool r.over]) (cs:=dy r)
  ⟨⟨rfl, .lit _⟩,⟨rfl, .lit _⟩,⟨rfl, .lit _⟩,Uz h.act,Uz h.vars,US fi (fun _=>rfl) d e fun p a _ f j u c k b=> ?_,US ew (fun _=>rfl) g i fun p a _ f j u c k b=> ?_,⟨rfl, .lit _⟩,trivial⟩
 ·obtain⟨x,rfl,q⟩:=f;exact(UW.at_ (S:=Up S w w') (w:=w') (vs:=[.int .i64 a.1,x]) (cs:=[I a.1,cI a.2]) ⟨⟨rfl, .lit _⟩,Uz q,trivial⟩).2 j u c k b
 obtain⟨rfl,_⟩:=f;exact(UW.at_ (S:=Up S w w') (w:=w') (vs:=[.string ⟨a.1.toArray⟩, .int .i64 a.2]) (cs:=[Sg a.1,I a.2]) ⟨⟨rfl, .lit _⟩,⟨rfl, .lit _⟩,trivial⟩).2 j u c k b
end
/-! What came in without memory, in memory. -/
def Kr{S:Nat->Nat->Prop}{w:World}{cs:List Value}{u:Value}(a:cs.length=1)(h: ∀(j:Nat)(v:Value)(c:AV),cs[j]? =some v->[AV.lit u][j]? =some c->RV S w v c):cs=[u]:=by
 match cs,a with
 |[v],_=>rw[(h 0 v _ rfl rfl).lit_inv]
def UU{w:World}{B:Nat}{v:Value}{l:List Int}(c:l.length<=maxLen)(h:RV (fun b _=>b<B) w v (cI l)):aV w B 1 Um v l:=
 Ut aa (fun _=>rfl) (by decide) c h fun a f _ e d=>Kr e d
def JB{w:World}{B:Nat}{v:Value}{l:List UInt8}(d:l.length<=maxLen)(h:RV (fun b _=>b<B) w v (Bs l)): ∃A c,v= .slice A l.length c/\l.length<=c/\c0 w B 1 A l.length (bv l):=by
 have f:aV w B 1 Vd v l:=Ut Vy (fun _=>rfl) (by decide) d h fun a k _ f j=>Kr f j;obtain⟨A,c,e,g,_,i⟩:=f.one;exact⟨A,c,e,g,i⟩
def Kg{S:Nat->Nat->Prop}{w:World}{cs:List Value}{d e:AV}(f:cs.length=2)(h: ∀(j:Nat)(v:Value)(c:AV),cs[j]? =some v->[d,e][j]? =some c->RV S w v c): ∃a b,cs=[a,b]/\RV S w a d/\RV S w b e:=by
 match cs,f with
 |[a,b],_=>exact⟨a,b,rfl,h 0 a _ rfl rfl,h 1 b _ rfl rfl⟩
def NC{w:World}{B:Nat}{v:Value}{r:Rc}(f:Vm r)(M: ∀t∈r.timers,t.1.length<=9223372036854775807)(h:RV (fun b _=>b<B) w v (.agg (dy r))): ∃s A u z,v= .agg (ph r s A u z)/\wg w B s A u z r:=by
 obtain⟨R,rfl,g,c⟩:=h.agg_inv
 match R,g with
 | [N,O,P,m,o,p,q,Q],_=>
   have D:=(c 0 N _ rfl rfl).2.lit_inv;have E:=(c 1 O _ rfl rfl).2.lit_inv;have G:=(c 2 P _ rfl rfl).2.lit_inv;have H:=(c 3 m _ rfl rfl).2;have I:=(c 4 o _ rfl rfl).2;have J:=(c 5 p _ rfl rfl).2;have K:=(c 6 q _ rfl rfl).2;have L:=(c 7 Q _ rfl rfl).2.lit_inv;subst D E G L;have i: ∀n:Nat,n<=1000000->n<=maxLen:=fun n S=>by unfold maxLen;omega
   refine⟨m,o,p,q,rfl,UU (i _ f.Z8) H,UU (i _ f.vars) I,Ut fi (fun _=>rfl) (by decide) (i _ f.mem) J fun a C j e d=> ?_,Ut ew (fun _=>rfl) (by decide) (i _ f.timers) K fun a C j e d=> ?_⟩
   ·obtain⟨x,y,rfl,k,l⟩:=Kg e d;obtain rfl:=k.lit_inv;exact⟨y,rfl,UU (i _ (f.Z9 a j)) l⟩
   obtain⟨x,y,rfl,k,l⟩:=Kg e d;obtain rfl:=k.lit_inv;obtain rfl:=l.lit_inv;exact⟨rfl,M a j⟩
def mf{l:List Int}(h:ku l.length (i6 l)=true):l.length<=32:=by
 have:=vk (nw l);rwa [mi l h]at this
def nF{r:Rc}(h:aW r=true):Vm r/\(∀t∈r.timers,t.1.length<=9223372036854775807)/\ ∀m∈r.mem,ek m.2.length 8:=by
 have R:=uw h;refine⟨⟨?_,?_,?_,?_,fun m a=> ?_⟩,fun t b=> ?_,fun m a=> ?_⟩
 ·have:=mf R.act;omega
 ·have:=R.ZO;omega
 ·have:=R.ZM;omega
 ·have:=R.ZL;omega
 ·have:=mf (R.mem m a).2.2;omega
 ·have:=(R.Z4 t b).1;omega
 have:=mf (R.mem m a).2.2;exact⟨by omega,by omega⟩
def zx{r:Rc}(h:aW r=true):(kb r).length<=1000:=by
 have R:=uw h;have b:=jT r.vars;have c:=j5 r.mem;have d:=tw r.timers (fun t a=>(R.Z4 t a).1);have:=R.ZO;have:=R.ZM;have:=R.ZL;simp only[kb,kh,ON,aU,OU,Q0];omega
def Aw{env:b7}{S:Nat->Nat->Prop}{w:World}(a:zE env S w){v:Value}{c:AV}(h:RV S w v c):RV (fun b _=>b<w.heap.size) w v c:=h.mono fun b o d=>⟨a.low b o d, .rfl⟩
def MQ{env:b7}{k:Addr}(hi: ∀W,env.inv W->p' W 0 k){r:Rc}(d:aW r=true):cy prog env 8 [.agg (dy r)] (.tuple [Bs (kb r),gc]):=
 ⟨call8,fun w S D i x z=>by
  match D,x with
  | [v],_=>
    obtain⟨B,G,C,E,rfl,m⟩:=NC (nF d).1 (nF d).2.1 (Aw i (z 0 v _ rfl rfl));refine(Ej r B G C E w m k (hi w i.inv) d).mono ?_;rintro e f ⟨A,n,c,rfl,p,s,g⟩;refine⟨_,rfl,g,Up S w f,fun b o h=> .inl h,fun b o h=>h.imp id fun q=>q.1,fun b o h=>h.elim (fun h=>PX (i.low b o h) g.size) fun q=>q.2,?_⟩;refine RV.tuple [.slice A n c, .nilIface] [Bs (kb r),gc] rfl (VX.at_ (S:=Up S w f) (w:=f) (vs:=[.slice A n c, .nilIface]) (cs:=[Bs (kb r),gc]) ⟨?_, .lit _,trivial⟩).2;refine uM Vy (fun _=>rfl) p (fun b off n c e g o=> .inr ⟨s b off (by cases e;rfl),g⟩) fun l a _ d j u c y t=> ?_;have d:l=[.int .u8 (a.toNat:Int)]:=d;subst d
    exact(UW.at_ (S:=Up S w f) (w:=f) (vs:=[.int .u8 (a.toNat:Int)]) (cs:=Vy a) ⟨⟨rfl, .lit _⟩,trivial⟩).2 j u c y t⟩
def MR{env:b7}{g:Addr}(hi: ∀W,env.inv W->p' W 0 g)(y: ∀W,env.inv W->sy W){r:Rc}(k:aW r=true):cy prog env 9 [Bs (kb r)] (.tuple [.agg (dy r),gc]):=
 ⟨call9,fun w S B a x z=>by
  match B,x with
  | [v],_=>
    have C:=zx k;obtain⟨A,c,rfl,u,t⟩:=JB (by unfold maxLen;omega) (Aw a (z 0 v _ rfl rfl));refine(FN A _ c (kb r) w rfl t u (by omega) g (hi w a.inv) (y w a.inv)).mono ?_;rintro e f ⟨l,p,m,n,D,E,rfl,i,s,j⟩;rw[wY r k]at j;rcases j with⟨d,rfl⟩|⟨d,_⟩
    ·cases d;refine⟨_,rfl,i,Up S w f,fun b o h=> .inl h,fun b o h=>h.imp id fun q=>q.1,fun b o h=>h.elim (fun h=>PX (a.low b o h) i.size) fun q=>q.2,?_⟩;exact RV.tuple [.agg (ph r l p m n), .nilIface] [.agg (dy r),gc] rfl (VX.at_ (S:=Up S w f) (w:=f) (vs:=[.agg (ph r l p m n), .nilIface]) (cs:=[.agg (dy r),gc]) ⟨Lk s, .lit _,trivial⟩).2
    cases d⟩
def xq(a c d e f:Addr):cy prog (Pc a c d e f) 5 [] (B true):=
 F7 call5 fun w S h b g _=>by
  match h,g with
  |[],_=>exact MZ w a b.inv.s1 b.inv.tab
end
section
open Go.RowKit
def BS{c:aq}(h:cD c){b:Int}(r:0<=b/\b<=1099511627776){F:Nat} : ∀(l:List (List UInt8×Int))(m:r5)(o:List r5)(d:r5)(f:List r5),n5 c F m->(∀y∈o,n5 c F y)->od c b F l m o= .ok (d,f)->n5 c F d/\ ∀y∈f,n5 c F y
 | [],m,o,d,f,g,i,a=>by
   unfold od at a;cases a;exact⟨g,i⟩
 | e::l,m,o,d,f,g,i,a=>by
   unfold od at a;split at a
   ·cases a;exact⟨g,i⟩
   rename_i n;split at a
   ·cases a
   rename_i t
   have j:aL e.2=true:=by
    cases j:aL e.2
    ·exact absurd (.inl j) t
    rfl
   have p:=Ee h r (g.x j) (by simpa using n) (ev:=e.1);rcases s:o7 c b F m.x e.1 e.2 with⟨v,_|⟨k,w⟩⟩<;>rw[s]at a p
   ·exact BS h r l v _ d f (p rfl) (fun y u=>by
     rcases Of.1 u with q|q
     ·exact i y q
     rw[O2.1 q];exact p rfl) a
   cases a
def Wk(a:Int)(x:E'):Rc:=⟨7,a,3,x.1,x.2.1,x.2.2.1,x.2.2.2.1,x.2.2.2.2⟩
def mZ(a d f i b:Addr)(c:aq)(A:oV c)(l:List (List UInt8×Int))(n:Int):cy prog (Pc a d f i b) 3 [.agg (aA c), .seq 2 (l.map ew),I n] (B true):=by
 have C:=Jl a d f i b;have N:=Hm a d f i b;have R:Pc a d f i b 3=some (b6 d):=rfl;have S:Pc a d f i b 5=some (b6 f):=rfl;have T:Pc a d f i b 1=some (b6 i):=rfl;have q:=xq a d f i b;have g:=Cm (Pc a d f i b) c;have O: ∀W,(Pc a d f i b).inv W->p' W 0 a:=fun _ h=>Wl.s1 h;generalize Pc a d f i b=j at*;cases p:((qs c).1==0) with
 | false=>
   rw[p]at g;unfold aA at g;refine qf func3 call3 ntmps3 results3 ?_;have F:=aA.eq_1;exact po g q
 |true=>
 rw[p]at g;have p:=P4.1 p;have f2:=Fz j a b C N c (NU p) A;have h:=Vh p;have G:=Au p;obtain⟨H,P⟩:=KV p;unfold aA aH at f2;by_cases u:(12:Int)< (l.length:Int)
 ·unfold aA at g;try clear f2
  refine qf func3 call3 ntmps3 results3 ?_;have F:=ai WH u;exact po g q
 by_cases D:0<=n/\n<=1099511627776
 case neg=>
  unfold aA at g;try clear f2
  by_cases s:n<0
  ·refine qf func3 call3 ntmps3 results3 ?_;have F:=jw WH u s;exact po g q
  have v:(1099511627776:Int)<n:=by omega
  refine qf func3 call3 ntmps3 results3 ?_;have F:=mX WH u s v;exact po g q
 have s: ¬n<0:=by omega
 have v: ¬(1099511627776:Int)<n:=by omega
 have E:Tw j a d f b c n:=⟨C,R,S,h,G,D⟩;have f3:=Gt E T P (fu:=20) (by omega) l (by omega);unfold aA at g;unfold aH at f3;rcases r:IZ c n 20 l with⟨k,Z⟩|⟨m,o⟩<;>rw[r]at f3
 ·unfold sV kD at f3;simp only at f3;generalize dj (-1) (ik _ _)=V at f3;refine qf func3 call3 ntmps3 results3 ?_;have F:=mX WH u s v;exact Wi g f2 f3 q
 have x:n5 c 20 m:=by
  unfold IZ at r;have z:=qt h D (F:=20) (by omega) P;rcases U:jr c n 20 with⟨w,_|e⟩<;>rw[U]at r z
  ·exact(BS h D l w [w] m o (z rfl) (fun y X=>by rw[O2.1 X];exact z rfl) r).1
  cases r
 have t:aW (Wk n m.x)=true:=DZ h H (by unfold nK Wk jP;simp;omega) x.inst;have M:cM c (Wk n m.x)=true:=x.inst;obtain⟨J,K,L⟩:=nF t;have f4:=MQ O t;have f5:=MR O N t;have f6:=Cj j a b C c h G (Wk n m.x) J K L;unfold FO at f6;rw[OL (by rw[t,M];rfl)]at f6;have Q:=(jk h G.vars (gI x.inst)).fewI;have f7:=zy j m.x.1 m.x.2.1 m.x Q.1 rfl rfl;rw[show ((m.x.1==m.x.1)&&(m.x.2.1==m.x.2.1))=true by simp]at f7;generalize kb (Wk n m.x)=Y at f4 f5;unfold dy Wk at f4 f5 f6;unfold aH at f6;unfold o' at f7;unfold sV o' at f3;simp only at f3 f4 f5 f6;try clear r x t M J K L Q E
 refine qf func3 call3 ntmps3 results3 ?_;have F:=mX WH u s v;exact WD g f2 f3 f4 f5 f6 f7 q
end
section
open Go.RowKit Go.ChangeShapes Go.WideShapes Go.ChangeAt Go.Deep
def Ms:prog.cellsOf 81=2:=by kernel_rfl
section
variable {H:Type} {enc:TypeId×Value->H} {w:World} {base:Nat} {spare:Nat->Bool} {held:Bool}
theorem JR(m:Nat)(cs:List Value)(y:DataW H×List MemPlace)(h:DataW.trod enc prog w base spare held m 81 cs=some y): ∃a:List UInt8×Int,RE w ew vC cs a:=by
 obtain⟨s,n,_,_,d,b,c⟩:=Qu Tryz.underlying81 h;rw[Ms]at d;obtain⟨e,f,rfl⟩:=LW d;obtain⟨q,j⟩:=dN b c 0 _ rfl 9 0 1 rfl rfl jp;obtain⟨o,g, -,l⟩:=RO Tryz.underlying9 (show DataW.trod enc prog w base spare held n 9 [e]=some q from j);cases g;obtain⟨⟨t0⟩⟩:=o;obtain⟨r,k⟩:=dN b c 1 _ rfl 3 1 1 rfl rfl lk;obtain⟨p,i, -, -⟩:=QP Tryz.underlying3 (show DataW.trod enc prog w base spare held n 3 [f]=some r from k);cases i;exact⟨(t0,p),⟨⟨rfl, .lit _⟩,⟨rfl, .lit _⟩,trivial⟩,(by simpa[vC,ByteArray.size]using l)⟩
end
end
section
open Go.RowKit Go.ChangeShapes Go.WideShapes Go.ChangeAt Go.Deep
section
variable {H:Type} {enc:TypeId×Value->H} {w:World} {base:Nat} {spare:Nat->Bool} {held:Bool}
theorem JQ{k:Reach}{e:Nat}{v:Value}{d:DataW H}{p:List MemPlace}(j:Value.okWide prog w k e 27 v)(h:DataW.Trod enc prog w base spare held 27 v d p): ∃l:List (List UInt8×Int),RV (fun b _=>b<w.heap.size) w v (.seq 2 (l.map ew)):=by
 obtain⟨A,n,c,rfl⟩:=okWide_slice Tryz.underlying27 j;obtain⟨a,g⟩:=h;obtain⟨x,l,f,⟨_,i⟩,_,_⟩:=da (size:=2) ew vC (fun _=>rfl) Tryz.underlying27 Ms (by decide) JR g;obtain rfl:Value.slice A n c=x:=(List.cons.inj f).1;exact⟨l,i⟩
end
end
end Go.Proofs.YtfcdkaolcdglmaaGreatDoor
