/- The plain law of charts' trees: in a right chart parents are ahead; what is counted. No program is named here. -/
import Derived.Test.YtknkhdgfhbogdaaGreatDoorP9
import Derived.Test.YtknkhdgfhbogdaaGreatDoorP6
import Derived.Test.YtknkhdgfhbogdaaGreatDoorRows
import Derived.LaidMore
import Derived.Stop.Joined
import Derived.Shelf.Sort.Plain
import Derived.Shelf.Slices.CompactS
set_option linter.unusedSimpArgs false
set_option linter.defProp false
namespace Go.Proofs.YtknkhdgfhbogdaaGreatDoor
open Go.Proofs.Tryz
open Go.RowKit
def DJ(n:Nat)(f:Nat->Bool):Bool:=(List.range n).all f
def pW{n:Nat}{f:Nat->Bool}(h: ∀j,j<n->f j=true):DJ n f=true:=by
 simp only[DJ,Lm,MK];exact h
def tP{n k:Nat}{f:Nat->Bool}(b:k<n)(h:f k=false):DJ n f=false:=by
 rw[<-Bool.not_eq_true,DJ,Lm];intro a;have:=a k (by simpa using b);rw[h]at this;cases this
def KL{n:Nat}{f:Nat->Bool}(h:DJ n f=true)(j:Nat)(a:j<n):f j=true:=by
 simp only[DJ,Lm,MK]at h;exact h j a
structure Rc where
 chart:Int
 born:Int
 steps:Int
 Z4:List Int
 vars:List Int
 mem:List (Int×List Int)
 timers:List (List UInt8×Int)
 over:Bool
def BM(n:Int):Bool:=decide (0<=n/\n<=1099511627776)
def kR(l:List (List UInt8×Int))(j:Nat):Bool:=
 bl (l.getD j ([],0)).1&&BM (l.getD j ([],0)).2&&(decide (j=0)||Op.bytesLess (l.getD (j-1) ([],0)).1 (l.getD j ([],0)).1)
def dL(l:List (List UInt8×Int)):Bool:=DJ l.length (kR l)&&decide (l.length<=8)
/-! How bytes are read -/
def PL(b:List UInt8)(at_ a:Nat):Option (Nat×Nat):=if at_+a<=b.length/\yS (Sm b at_ a)<=4611686018427387904 then some (yS (Sm b at_ a),at_+a) else none
def Sv(a:List UInt8)(at_:Nat):Option (List UInt8×Nat):=
 if at_+2<=a.length/\at_+2+yS (Sm a at_ 2)<=a.length then some (Sm a (at_+2) (yS (Sm a at_ 2)),at_+2+yS (Sm a at_ 2)) else none
def J1(n:Nat):Int:=if n%2=1 then -(((n+1)/2:Nat):Int) else((n/2:Nat):Int)
def Sa{d:Type}(c:List UInt8)(K:List Int->Nat->Option d):Nat->Nat->List Int->Option d
 |0,a,b=>K b a
 |n+1,a,b=>(PL c a 4).bind fun x=>Sa c K n x.2 (b++[J1 x.1])
def R'{d:Type}(c:List UInt8)(K:List (Int×List Int)->Nat->Option d):Nat->Nat->List (Int×List Int)->Option d
 |0,a,b=>K b a
 |n+1,a,b=>(PL c a 1).bind fun x=>(PL c x.2 4).bind fun y=>R' c K n y.2 (b++[((x.1:Int),ra y.1)])
def Sw{d:Type}(c:List UInt8)(K:List (List UInt8×Int)->Nat->Option d):Nat->Nat->List (List UInt8×Int)->Option d
 |0,a,b=>K b a
 |n+1,a,b=>(Sv c a).bind fun x=>(PL c x.2 8).bind fun y=>Sw c K n y.2 (b++[(x.1,(y.1:Int))])
def p9(d:List UInt8)(c b s:Int)(o:Bool)(e vs:List Int)(f:List (Int×List Int))(a:Nat):Option Rc:=
 (PL d a 1).bind fun x=>Sw d (fun g _=>some ⟨c,b,s,e,vs,f,g,o⟩) x.1 x.2 []
def p8(d:List UInt8)(c b s:Int)(o:Bool)(f vs:List Int)(a:Nat):Option Rc:=
 (PL d a 1).bind fun x=>R' d (fun g e=>p9 d c b s o f vs g e) x.1 x.2 []
def p7(d:List UInt8)(c b s:Int)(o:Bool)(f:List Int)(a:Nat):Option Rc:=
 (PL d a 1).bind fun x=>Sa d (fun g e=>p8 d c b s o f g e) x.1 x.2 []
def p6(d:List UInt8)(c b s:Int)(o:Bool)(a:Nat):Option Rc:=(PL d a 4).bind fun x=>p7 d c b s o (ra x.1) x.2
def p5(d:List UInt8)(c b s:Int)(a:Nat):Option Rc:=(PL d a 1).bind fun x=>p6 d c b s (decide (x.1=1)) x.2
def p4(d:List UInt8)(c b:Int)(a:Nat):Option Rc:=(PL d a 8).bind fun x=>p5 d c b x.1 x.2
def p3(b:List UInt8)(c:Int)(a:Nat):Option Rc:=(PL b a 8).bind fun x=>p4 b c x.1 x.2
end Go.Proofs.YtknkhdgfhbogdaaGreatDoor
namespace Go.Proofs.YtknkhdgfhbogdaaGreatDoor
open Go.Proofs.Tryz
open Go.RowKit Go.ChangeShapes
section
variable {P:Program} {W:World} {nm:String} {ti tp te ts:TypeId} {ms:Array (String×TypeId)} {f:Field}
theorem vv(hi:P.underlying ti=some (.interface ms))(m: ∀u,P.typeName? 3 u=some nm->u=tp)
 (L:P.underlying tp=some (.pointer te))(K:P.underlying te=some (.struct #[f]))(z:f.type=ts)(y:f.offset=0)(M:P.underlying ts=some .string)(J:P.cellsOf te=1)(w:P.cellsOf ts=1):
 ∀(l:List (String×List UInt8))(j:List Nat)(ps:List MemPlace),DataW.LaidVars P W (l.map fun x=>(x.1, .iface nm (.ptr (.agg [.lit (.string x.2)])))) ps->
  l.map (fun x=>P.globalNamed x.1)=j.map some->(∀g∈j,(P.globals[g]?).map (·.type)=some ti)->
  (∀b off,MemPlace.cell b off∈ps->(∃c t,W.heap[b]? =some (.cells c t (0,0)))/\ ∀u v,W.cell? ⟨b,off,none⟩=some (.iface u v)->Value.okWide P W .any 0 u v)->
  ∃k:List Addr,k.length=j.length/\(∀(i:Nat)(g:Nat)(a:Addr),j[i]? =some g->k[i]? =some a->W.cell? ⟨g,0,none⟩=some (.iface tp (.pointer (some a)))/\ ∃R Z,W.heap[a.block]? =some (.cells R Z (0,0)))/\
   (k.map fun a=>MemPlace.cell a.block a.off).Sublist ps
 | [],j,ps,_,B,_,_=>by
   obtain rfl:j=[]:=by cases j<;>simp_all
   exact⟨[],rfl,by simp,by simp⟩
 |(n,O)::l,j,ps,V,B,N,d=>by
   obtain⟨g,j,rfl⟩: ∃g E,j=g::E:=by cases j<;>simp_all
   simp only[M1,OB]at B;obtain⟨g0,t0,C,f0,p0,Y,q,H,A,G,r,rfl⟩:=V;obtain rfl:=NQ (B.1.symm.trans q);obtain rfl:=NQ ((N g (by simp)).symm.trans H);obtain⟨X⟩:=C
   have I: ∀u v,X=[.iface u v]->Value.okWide P W .any 0 u v:=fun u v e=>by
    subst e;exact(d g 0 (by simp[MemPlace.row])).2 u v (by simpa using QY q A 0)
   obtain⟨s,s0,rfl,_,_,_,rfl⟩:=errorString_of_trod hi m L K z y M J w G I;obtain⟨k,S,T,U⟩:=vv hi m L K z y M J w l j Y r B.2 (fun D h=>N D (by simp[h])) (fun b off h=>d b off (Nj _ h));refine⟨s::k,by simp[S],?_,?_⟩
   ·intro i D Q p o;cases i with
    | zero=>
      simp at p o;subst p o;exact⟨by simpa using QY q A 0,(d s.block s.off (by simp[MemPlace.row])).1⟩
    |succ i=>exact T i D Q (by simpa using p) (by simpa using o)
   simp only[M1,MemPlace.row];exact List.Sublist.trans (List.Sublist.append (by simp:[MemPlace.cell s.block s.off].Sublist _) U) (List.Sublist.append (List.sublist_append_right _ _) (List.Sublist.refl _))
end
def Tryz.row160: ∀u,prog.typeName? 3 u=some "*errors.errorString" ->u=324:=
 fun u a=>typeName_ptr_named (nm:= "errors.errorString") (by kernel_rfl) (by kernel_rfl) (by decide) u a
section
open Go.WideShapes
variable {H:Type} {enc:TypeId×Value->H} {P:Program}
theorem nH(g:laidOutB P=true){W e:World}(f:Below W.heap.size W e): ∀(ts:List TypeId)(vs:List Value)(a:List (DataW H))(ps:List MemPlace),
 (∀t∈ts,P.readableRec t=true/\t<P.types.size)->(∀x∈ps,x.block<W.heap.size)->DataW.TrodAll enc P W 0 (fun _=>true) true ts vs a ps->DataW.TrodAll enc P e 0 (fun b=>decide (b<W.heap.size)) true ts vs a ps
 |[],[],[],_,_,_,h=>h
 | t::ts,v::vs,d::a,ps,j,i,h=>by
   obtain⟨p,q,l,m,rfl⟩:=h;have r:=j t (by simp);exact⟨p,q,Below.trod g r.1 r.2 l f (fun x c=>i x (Ma _ c)),nH g f ts vs a q (fun n k=>j n (by simp[k])) (fun x c=>i x (Nj _ c)) m,rfl⟩
 |[],_::_,_,_,_,_,h=>by cases h
 |[],[],_::_,_,_,_,h=>by cases h
 |_::_,[],_,_,_,_,h=>by cases h
 |_::_,_::_,[],_,_,_,h=>by cases h
theorem Hs(y:laidOutB P=true){f:Func}{s:ChangeSpec}{v:TypeId}{W m:World}{args:Array Value}{e g:List (DataW H)}{a:List MemPlace}
 (c: ∀t∈f.params.toList,P.readableRec t=true/\t<P.types.size)(k:f.resultTypes= #[v])(l:P.underlying v=some .bool)
 (i:DataW.Whole enc P f.params.toList s.vars false W args.toList e g a)(r:s.vars=[])
 (d:g=[]->s.fn H (e++g)={ results:=[.lit (.bool true)],args:=e })(o:Below W.heap.size W m):s.post enc P f false true false false W args (.bool true) m:=by
 have b: ∀p∈a,p.block<W.heap.size:=fun p z=>i.lt p z;have j:=i;obtain⟨p,q,w,n,rfl,_,_⟩:=i;rw[r]at n;obtain⟨rfl,rfl⟩:=trodVars_none n;have d:=d rfl;rw[Mw]at b;refine⟨e,[],p++[],[],p,[],j,?_,?_,?_,?_,fun h=>by cases h⟩
 ·rw[d,k];exact trodAll_mk1 (shut_bool l true)
 ·rw[d];exact nH y o _ _ _ _ c b w
 ·rw[d,r];rfl
 exact World.keptBut_mono (fun x u=>⟨u, .inr (.inl (by simpa using u))⟩) (o.frame (· ∈p++[]))
end
section
open Go.WideShapes
variable {H:Type} {enc:TypeId×Value->H} {P:Program} {w:World} {base:Nat} {spare:Nat->Bool} {held:Bool}
end
end Go.Proofs.YtknkhdgfhbogdaaGreatDoor
namespace Go.Proofs.YtknkhdgfhbogdaaGreatDoor
open Go.Proofs.Tryz
open Go.RowKit Go.ChangeShapes Go.WideShapes Go.Deep
section
variable {H:Type} {enc:TypeId×Value->H} {P:Program} {w:World} {base:Nat} {spare:Nat->Bool} {held:Bool}
theorem bY{a:Array Field}{cs:List Value}{n:Nat}{xs:List (DataW H×List MemPlace)}(m:xs.length=a.size)(j: ∀(i:Nat)(f:Field),a[i]? =some f->DataW.trod enc P w base spare held n f.type ((cs.drop f.offset).take (P.cellsOf f.type))=xs[i]?)
 (i:Nat)(f:Field)(c:a[i]? =some f)(b off k:Nat)(d:f.type=b)(e:f.offset=off)(g:P.cellsOf b=k): ∃y,DataW.trod enc P w base spare held n b ((cs.drop off).take k)=some y:=by
 have h:=j i f c;rw[d,e,g]at h;have l:i<a.size:=(MN.1 c).1;rw[Lc (by omega)]at h;exact⟨_,h⟩
def RE{d:Type}(w:World)(e:d->List AV)(c:d->Prop)(cs:List Value)(a:d):Prop:=Qx (fun b _=>b<w.heap.size) w cs (e a)/\c a
theorem dF{p:Type}{t e:TypeId}{size fuel:Nat}{cs:List Value}{x:DataW H×List MemPlace}(f:p->List AV)(d:p->Prop)(n: ∀a,(f a).length=size)(I:P.underlying t=some (.slice e))(z:P.cellsOf e=size)(g:0<size)
 (B: ∀(m:Nat)(cs:List Value)(y:DataW H×List MemPlace),DataW.trod enc P w base spare held m e cs=some y-> ∃a,RE w f d cs a)
 (h:DataW.trod enc P w base spare held fuel t cs=some x): ∃(v:Value) (l:List p),cs=[v]/\(v.oneCell'=true/\RV (fun b _=>b<w.heap.size) w v (.seq size (l.map f)))/\l.length<=maxLen/\ ∀a∈l,d a:=by
 obtain⟨v,l,r,q⟩:=Rt (R:=RE w f d) I z g B h;have o:=ED f n q fun cs a _ G j u c J D=>G.1.at_.2 j u c J D;obtain⟨A,c,K,rfl,_,s,_,k⟩:=q;refine⟨_,l,r,⟨rfl,o⟩,s,fun a C=> ?_⟩;obtain⟨i,E,rfl⟩:=NC C;exact(k.2 i E).2
theorem C3{l:List Value}(h:l.length=2): ∃a b,l=[a,b]:=by
 match l,h with
 |[a,b],_=>exact⟨a,b,rfl⟩
theorem LR{l:List Value}(h:l.length=4): ∃a b c d,l=[a,b,c,d]:=by
 match l,h with
 |[a,b,c,d],_=>exact⟨a,b,c,d,rfl⟩
theorem JW{l:List Value}(h:l.length=5): ∃a b c d e,l=[a,b,c,d,e]:=by
 match l,h with
 |[a,b,c,d,e],_=>exact⟨a,b,c,d,e,rfl⟩
theorem LQ{l:List Value}(h:l.length=6): ∃a b c d e f,l=[a,b,c,d,e,f]:=by
 match l,h with
 |[a,b,c,d,e,f],_=>exact⟨a,b,c,d,e,f,rfl⟩
end
def po:prog.cellsOf 3=1:=by kernel_rfl
def iZ:prog.cellsOf 9=1:=by kernel_rfl
def KY:prog.cellsOf 50=1:=by kernel_rfl
def Dc:prog.cellsOf 51=1:=by kernel_rfl
def LX:prog.cellsOf 23=1:=by kernel_rfl
def LW:prog.cellsOf 24=1:=by kernel_rfl
def Kt:prog.cellsOf 22=1:=by kernel_rfl
def Sf:prog.cellsOf 65=2:=by kernel_rfl
def Rk:prog.cellsOf 67=4:=by kernel_rfl
def Sq:prog.cellsOf 62=6:=by kernel_rfl
def Ss:prog.cellsOf 53=5:=by kernel_rfl
def R9:prog.cellsOf 143=2:=by kernel_rfl
def L8:prog.cellsOf 26=5:=by kernel_rfl
section
variable {H:Type} {enc:TypeId×Value->H} {w:World} {base:Nat} {spare:Nat->Bool} {held:Bool}
set_option maxRecDepth 100000 in
theorem Ro(m:Nat)(cs:List Value)(y:DataW H×List MemPlace)(h:DataW.trod enc prog w base spare held m 65 cs=some y): ∃a:lf,RE w bV qo cs a:=by
 obtain⟨r,n,_,_,d,b,c⟩:=Nf Tryz.underlying65 h;rw[Sf]at d;obtain⟨e,f,rfl⟩:=C3 d;obtain⟨p,j⟩:=bY b c 0 _ rfl 3 0 1 rfl rfl po;obtain⟨l,g, -, -⟩:=NK Tryz.underlying3 (show DataW.trod enc prog w base spare held n 3 [e]=some p from j);cases g;obtain⟨q,k⟩:=bY b c 1 _ rfl 3 1 1 rfl rfl po;obtain⟨o,i, -, -⟩:=NK Tryz.underlying3 (show DataW.trod enc prog w base spare held n 3 [f]=some q from k);cases i;exact⟨⟨l,o⟩,⟨⟨rfl, .lit _⟩,⟨rfl, .lit _⟩,trivial⟩,trivial⟩
set_option maxRecDepth 100000 in
theorem PB(m:Nat)(cs:List Value)(y:DataW H×List MemPlace)(h:DataW.trod enc prog w base spare held m 67 cs=some y): ∃a:jn,RE w az iI cs a:=by
 obtain⟨J,n,_,_,d,b,c⟩:=Nf Tryz.underlying67 h;rw[Rk]at d;obtain⟨e,f,g,i,rfl⟩:=LR d;obtain⟨C,p⟩:=bY b c 0 _ rfl 3 0 1 rfl rfl po;obtain⟨z,j, -, -⟩:=NK Tryz.underlying3 (show DataW.trod enc prog w base spare held n 3 [e]=some C from p);cases j;obtain⟨D,q⟩:=bY b c 1 _ rfl 3 1 1 rfl rfl po;obtain⟨A,k, -, -⟩:=NK Tryz.underlying3 (show DataW.trod enc prog w base spare held n 3 [f]=some D from q);cases k;obtain⟨E,r⟩:=bY b c 2 _ rfl 9 2 1 rfl rfl iZ;obtain⟨B,l, -,x⟩:=OU Tryz.underlying9 (show DataW.trod enc prog w base spare held n 9 [g]=some E from r);cases l;obtain⟨⟨t2⟩⟩:=B;obtain⟨G,s⟩:=bY b c 3 _ rfl 50 3 1 rfl rfl KY;obtain⟨I,t,o,v,u,p3⟩:=dF (size:=2) bV qo (fun _=>rfl) Tryz.underlying50 Sf (by decide) Ro (show DataW.trod enc prog w base spare held n 50 [i]=some G from s);cases o;exact⟨⟨z,A,t2,t⟩,⟨⟨rfl, .lit _⟩,⟨rfl, .lit _⟩,⟨rfl, .lit _⟩,v,trivial⟩,(by simpa[ByteArray.size]using x),⟨u,p3⟩⟩
set_option maxRecDepth 100000 in
theorem R4(m:Nat)(cs:List Value)(y:DataW H×List MemPlace)(h:DataW.trod enc prog w base spare held m 62 cs=some y): ∃a:na,RE w aK uq cs a:=by
 obtain⟨W,n,_,_,d,b,c⟩:=Nf Tryz.underlying62 h;rw[Sq]at d;obtain⟨e,f,g,i,j,k,rfl⟩:=LQ d;obtain⟨O,t⟩:=bY b c 0 _ rfl 9 0 1 rfl rfl iZ;obtain⟨K,l, -,J⟩:=OU Tryz.underlying9 (show DataW.trod enc prog w base spare held n 9 [e]=some O from t);cases l;obtain⟨⟨t0⟩⟩:=K;obtain⟨P,u⟩:=bY b c 1 _ rfl 3 1 1 rfl rfl po;obtain⟨L,o, -, -⟩:=NK Tryz.underlying3 (show DataW.trod enc prog w base spare held n 3 [f]=some P from u);cases o;obtain⟨Q,v⟩:=bY b c 2 _ rfl 3 2 1 rfl rfl po;obtain⟨M,p, -, -⟩:=NK Tryz.underlying3 (show DataW.trod enc prog w base spare held n 3 [g]=some Q from v);cases p;obtain⟨R,x⟩:=bY b c 3 _ rfl 3 3 1 rfl rfl po;obtain⟨N,q, -, -⟩:=NK Tryz.underlying3 (show DataW.trod enc prog w base spare held n 3 [i]=some R from x);cases q;obtain⟨S,z⟩:=bY b c 4 _ rfl 51 4 1 rfl rfl Dc;obtain⟨U,B,r,G,D,p4⟩:=dF (size:=4) az iI (fun _=>rfl) Tryz.underlying51 Rk (by decide) PB (show DataW.trod enc prog w base spare held n 51 [j]=some S from z);cases r;obtain⟨T,A⟩:=bY b c 5 _ rfl 51 5 1 rfl rfl Dc;obtain⟨V,C,s,I,E,p5⟩:=dF (size:=4) az iI (fun _=>rfl) Tryz.underlying51 Rk (by decide) PB (show DataW.trod enc prog w base spare held n 51 [k]=some T from A);cases s;exact⟨⟨t0,L,M,N,B,C⟩,⟨⟨rfl, .lit _⟩,⟨rfl, .lit _⟩,⟨rfl, .lit _⟩,⟨rfl, .lit _⟩,G,I,trivial⟩,(by simpa[ByteArray.size]using J),⟨D,p4⟩,⟨E,p5⟩⟩
set_option maxRecDepth 100000 in
theorem R5(m:Nat)(cs:List Value)(y:DataW H×List MemPlace)(h:DataW.trod enc prog w base spare held m 53 cs=some y): ∃a:sh,RE w an uo cs a:=by
 obtain⟨S,n,_,_,d,b,c⟩:=Nf Tryz.underlying53 h;rw[Ss]at d;obtain⟨e,f,g,i,j,rfl⟩:=JW d;obtain⟨L,r⟩:=bY b c 0 _ rfl 3 0 1 rfl rfl po;obtain⟨I,k, -, -⟩:=NK Tryz.underlying3 (show DataW.trod enc prog w base spare held n 3 [e]=some L from r);cases k;obtain⟨M,s⟩:=bY b c 1 _ rfl 9 1 1 rfl rfl iZ;obtain⟨J,l, -,G⟩:=OU Tryz.underlying9 (show DataW.trod enc prog w base spare held n 9 [f]=some M from s);cases l;obtain⟨⟨t1⟩⟩:=J;obtain⟨N,t⟩:=bY b c 2 _ rfl 50 2 1 rfl rfl KY;obtain⟨Q,x,o,D,A,C⟩:=dF (size:=2) bV qo (fun _=>rfl) Tryz.underlying50 Sf (by decide) Ro (show DataW.trod enc prog w base spare held n 50 [g]=some N from t);cases o;obtain⟨O,u⟩:=bY b c 3 _ rfl 51 3 1 rfl rfl Dc;obtain⟨R,z,p,E,B,p3⟩:=dF (size:=4) az iI (fun _=>rfl) Tryz.underlying51 Rk (by decide) PB (show DataW.trod enc prog w base spare held n 51 [i]=some O from u);cases p;obtain⟨P,v⟩:=bY b c 4 _ rfl 3 4 1 rfl rfl po;obtain⟨K,q, -, -⟩:=NK Tryz.underlying3 (show DataW.trod enc prog w base spare held n 3 [j]=some P from v);cases q;exact⟨⟨I,t1,x,z,K⟩,⟨⟨rfl, .lit _⟩,⟨rfl, .lit _⟩,D,E,⟨rfl, .lit _⟩,trivial⟩,(by simpa[ByteArray.size]using G),⟨A,C⟩,⟨B,p3⟩⟩
set_option maxRecDepth 100000 in
theorem RI(m:Nat)(cs:List Value)(y:DataW H×List MemPlace)(h:DataW.trod enc prog w base spare held m 143 cs=some y): ∃a:L7,RE w iB om cs a:=by
 obtain⟨s,n,_,_,d,b,c⟩:=Nf Tryz.underlying143 h;rw[R9]at d;obtain⟨e,f,rfl⟩:=C3 d;obtain⟨q,j⟩:=bY b c 0 _ rfl 9 0 1 rfl rfl iZ;obtain⟨o,g, -,l⟩:=OU Tryz.underlying9 (show DataW.trod enc prog w base spare held n 9 [e]=some q from j);cases g;obtain⟨⟨t0⟩⟩:=o;obtain⟨r,k⟩:=bY b c 1 _ rfl 3 1 1 rfl rfl po;obtain⟨p,i, -, -⟩:=NK Tryz.underlying3 (show DataW.trod enc prog w base spare held n 3 [f]=some r from k);cases i;exact⟨⟨t0,p⟩,⟨⟨rfl, .lit _⟩,⟨rfl, .lit _⟩,trivial⟩,(by simpa[om,ByteArray.size]using l)⟩
set_option maxRecDepth 100000 in
theorem Jf(m:Nat)(cs:List Value)(y:DataW H×List MemPlace)(h:DataW.trod enc prog w base spare held m 26 cs=some y): ∃a:aq,RE w aA j6 cs a:=by
 obtain⟨V,n,_,_,d,b,c⟩:=Nf Tryz.underlying26 h;rw[L8]at d;obtain⟨e,f,g,i,j,rfl⟩:=JW d;obtain⟨N,r⟩:=bY b c 0 _ rfl 9 0 1 rfl rfl iZ;obtain⟨L,k, -,K⟩:=OU Tryz.underlying9 (show DataW.trod enc prog w base spare held n 9 [e]=some N from r);cases k;obtain⟨⟨t0⟩⟩:=L;obtain⟨O,s⟩:=bY b c 1 _ rfl 3 1 1 rfl rfl po;obtain⟨M,l, -, -⟩:=NK Tryz.underlying3 (show DataW.trod enc prog w base spare held n 3 [f]=some O from s);cases l;obtain⟨P,t⟩:=bY b c 2 _ rfl 22 2 1 rfl rfl Kt;obtain⟨S,x,o,G,B,E⟩:=dF (size:=2) iB om (fun _=>rfl) Tryz.underlying22 R9 (by decide) RI (show DataW.trod enc prog w base spare held n 22 [g]=some P from t);cases o;obtain⟨Q,u⟩:=bY b c 3 _ rfl 23 3 1 rfl rfl LX;obtain⟨T,z,p,I,C,p3⟩:=dF (size:=6) aK uq (fun _=>rfl) Tryz.underlying23 Sq (by decide) R4 (show DataW.trod enc prog w base spare held n 23 [i]=some Q from u);cases p;obtain⟨R,v⟩:=bY b c 4 _ rfl 24 4 1 rfl rfl LW;obtain⟨U,A,q,J,D,p4⟩:=dF (size:=5) an uo (fun _=>rfl) Tryz.underlying24 Ss (by decide) R5 (show DataW.trod enc prog w base spare held n 24 [j]=some R from v);cases q;exact⟨⟨t0,M,x,z,A⟩,⟨⟨rfl, .lit _⟩,⟨rfl, .lit _⟩,G,I,J,trivial⟩,(by simpa[ByteArray.size]using K),⟨B,E⟩,⟨C,p3⟩,⟨D,p4⟩⟩
end
end Go.Proofs.YtknkhdgfhbogdaaGreatDoor
namespace Go.Proofs.YtknkhdgfhbogdaaGreatDoor
open Go.Proofs.Tryz
open Go.RowKit
structure RS(P:Program)(f:FuncId)(e:TypeId)(sz:Nat)(ls ls':List (List Value)):Prop where
 enter: ∀(args:Array Value)(w:World),(callFunc f args).run P w= .ok (.enter f args) w
 ZS: ∀l∈ls',l.length=sz/\ ∀u∈l,u.oneCell'=true
 calls: ∀(w:World)(base:Nat)(v:Value),w.ownsRow base e sz v ls.length ls.flatten->
  Calls P f #[v] w fun ex w'=> ∃v',ex= .returned v'/\v'.oneCell'=true/\w.grownBy w' v.ownBlock/\(∀g,v'.ownBlock=some g->v.ownBlock=some g)/\w'.ownsRow base e sz v' ls'.length ls'.flatten
def Fv{S:Nat->Nat->Prop}{w:World}{row:Row}{a:List (List Value)}{xs:List Value}(b: ∀l∈a,l.length=row.sz)(e:0<row.sz)(r:xs.length=a.length*row.sz)(m:row.es=bN a)
 (s: ∀(i j:Nat)(c:AV),bs row.es i j=some c-> ∃u,xs[i*row.sz+j]? =some u/\RV S w u c):xs=a.flatten:=by
 apply Md;intro p;have o:=dw a b;by_cases q:p<a.length*row.sz
 ·have f:p/row.sz<a.length:=O4 (by rw[OC];exact q);have t:p%row.sz<row.sz:=PD _ e;have g:p/row.sz*row.sz+p%row.sz=p:=PI p row.sz;have v:=b _ (N4 f);have d:(a[p/row.sz])[p%row.sz]? =some ((a[p/row.sz])[p%row.sz]'(by omega)):=Lc _;have h:=fQ a b _ _ _ _ (Lc f) d
  obtain⟨u,k,n⟩:=s (p/row.sz) (p%row.sz) (.lit ((a[p/row.sz])[p%row.sz]'(by omega))) (by
   rw[m];unfold bs bN;rw[Lo,Lc f]
   simp only[MG,Mk,Lo,d])
  rw[g]at h k;have:u=(a[p/row.sz])[p%row.sz]'(by omega):=by cases n;rfl
  rw[h,k,this]
 rw[Lu (by omega),Lu (by omega)]
def Ij{P:Program}{env:b6}{f:FuncId}{r A:Nat}{row:Row}{rows:Nat->Option Row}{vsv:Nat->Nat}{J d:List (List Value)}(L:RS P f row.e row.sz J d)(hr:rows r=some row)(hv:vsv r=A)(hrz:row.sz≠0)(hp:row.pure=true)(T:row.es=bN J):
 Rx P env f [.row r A] [r] rows vsv ⟨.row r (A+1),[.renew r { row with es:=bN d }]⟩:=by
 refine⟨L.enter,fun x s a w m vs hx p hro y hvs=> ?_⟩;obtain⟨H,q2,q3⟩:=hro r (by simp);rw[hr]at H;rw[hv]at q2
 match vs,y with
 |[u],_=>
 have hu:u=m.ρ r:=(hvs 0 u _ rfl rfl).row_.2 q2 row H;subst hu;have k:=(p.rows r row H).cells hrz;obtain⟨xs,S,k2,k3⟩:=k.own;have hn:row.es.length=J.length:=by rw[T];simp[bN]
 have Z: ∀l∈J,l.length=row.sz:=fun l y=>by
  obtain⟨i,hi,rfl⟩:=NC y;have:=k.len i ((J[i]).map .lit) (by rw[T];simp[bN,hi]);simpa using this
 have hxx:xs=J.flatten:=Fv Z k.pos (by rw[<-hn];exact S.1) T fun i j c hc=>by
  obtain⟨u,K,R⟩:=k3 i j c hc;rw[Lj hp]at R;exact⟨u,K,R⟩
 rw[hxx,hn]at S;refine(L.calls w x.w.heap.size (m.ρ r) S).mono ?_;rintro ex O ⟨I,rfl,K,B,h,ho⟩
 have hb:Below x.w.heap.size w O:=⟨B.os,B.tape,B.output,B.size,fun q N=>B.block q (NS N p.Z3.size) fun e=>by
  have:=(bf S e.symm).1
  omega⟩
 have E: ∀g,(m.ρ r).ownBlock=some g-> ∀o,¬m.S g o:=k.fresh q3;have C: ∀b o,m.S b o->kE w O b o:=fun b o n=> .block (B.block b (p.low b o n) fun e=>E b e.symm o n);have hlow: ∀b o,m.S b o->b<O.heap.size:=fun b o n=>NS (p.low b o n) B.size
 have U:dj x (s.renew r { row with es:=bN d } false) a O ⟨m.S,mc m.ρ r I⟩:=by
  refine p.renew r _ false I m.S hb (fun b o n=>⟨n,C b o n⟩) (fun b o n=> .inl n) (fun q z M N Q D=>⟨?_,fun e=> ?_,fun _ n=>n⟩) ?_ fun b X=>⟨B.block b (p.fxlt X) fun e=>p.Z5 r row H b e.symm X,fun _ n=>n,fun e=>p.Z5 r row H b (h b e) X⟩
  ·exact B.block Q ((p.rows q z N).blk D).2 fun e=>p.inj r q row z H N (N5 M) Q e.symm D
  ·exact p.inj r q row z H N (N5 M) Q (h Q e) D
  have W: ∀(i:Nat)(e:List AV),(bN d)[i]? =some e->e.length=row.sz:=fun i e t=>by
   unfold bN at t;rw[Lo]at t;cases y:d[i]? with
   |none=>rw[y]at t;cases t
   | some l=>
     rw[y]at t;cases t;simpa using (L.ZS l (Lh y)).1
  have Y:(bN d).length=d.length:=by unfold bN;rw[ME]
  have G:(⟨m.S,mc m.ρ r I⟩:k6).ρ r=I:=aw ..;refine .inl ⟨k.pos,W,⟨d.flatten,by rw[G];show O.ownsRow _ _ _ _ (bN d).length _;rw[Y];exact ho,?_,?_⟩,fun t=> ?_,fun g v o _=> ?_,fun _ g v o=> ?_⟩
  ·intro u hu;obtain⟨l,y,hul⟩:=QP.1 hu;exact(L.ZS l y).2 u hul
  ·intro i j c V;obtain⟨l,u,K,R,rfl⟩:=Ab V;refine⟨u,fQ d (fun l y=>(L.ZS l y).1) i j l u K R,?_⟩;show if row.pure=true then _ else _
   rw[Lj hp];exact .lit u
  ·have t:mc s.esc r false r=true:=t;rw[aw]at t;cases t
  ·rw[G]at v;exact E g (h g v) o
  rw[G]at v;exact E g (h g v) o
 refine⟨I,_,rfl,U, .row r (A+1) K ?_ fun _ row' _=> ?_⟩
 ·show A+1<=mc s.vs r (s.vs r+1) r;rw[aw,q2];exact Lr _
 show I=mc m.ρ r I r;rw[aw]
section
variable {P:Program} {env:b6} {s:St}
theorem uX{o:Oper}{f:FuncId}{args:List AV}{a:List IS}{i:St}{row:Row}{h b:List (List Value)}{e:fl}{K:St->List fl->Prop}(r:Nat)(p:bK env s.f o=some (f,args))(m:RS P f row.e row.sz h b)(d:row.sz≠0)(u:row.pure=true)(j:row.es=bN h)
 (n:Is args [.row r (s.vs r)])(w:Is (s.rows r) (some row))(t:Is (s.esc r) false)(l:Is ((⟨.row r (s.vs r+1),[.renew r { row with es:=bN b }]⟩:Out).app o.dst s) i)(g:Is (⟨[r],[r],[r],[]⟩:fl) e)(k:i9 P env a i fun x c=>K x (e::c)):i9 P env (⟨o, .always⟩::a) s K:=by
 unfold Is at g;subst g;exact pV p n (Ij m w rfl d u j) (fun q v=>by rw[MA.1 v];exact t) l k
theorem ng{o:Oper}{f:FuncId}{args:List AV}{a:List IS}{g:St}{row:Row}{e b:List (List Value)}{K:St->List fl->Prop}(r:Nat)(m:bK env s.f o=some (f,args))(j:An P f [] row.e row.sz e b)(d:row.sz≠0)(p:row.pure=true)(h:row.es=bN e)
 (l:Is args [.row r (s.vs r)])(q:Is (s.rows r) (some row))(n:Is (s.esc r) false)(i:Is ((s.setRow r { row with es:=bN b }).put o.dst .any) g)(k:i9 P env a g fun t c=>K t (⟨[r],[r],[r],[]⟩::c)):i9 P env (⟨o, .always⟩::a) s K:=
 wv (rs:=[]) r m (show args=_ from l) q n j h p d i k
end
end Go.Proofs.YtknkhdgfhbogdaaGreatDoor
namespace Go.Proofs.YtknkhdgfhbogdaaGreatDoor
open Go.Proofs.Tryz
open Go.RowKit Go.Sort Go.Shelf Go.Lib
def O'{w:World}{g n:Nat}{os:Array Obj}{a:Array Value}{e:TypeId}{b:Nat×Nat}(F:Array Value)(c:w.heap[g]? =some (.cells a e b)):
 (grow (putRow id (Sort.ahead w n) g 0 F) os).heap[g]? =some (.cells (putCells id 0 F a) e b):=by
 have d:g<w.heap.size:=(MN.1 c).1;rw[heap_grow_old _ _ (by simpa[putRow,mapBlock,Sort.ahead]using d)];simp[putRow,mapBlock,Sort.ahead,NV,c,onCells]
def kY{w:World}{g n:Nat}{os:Array Obj}(F:Array Value):w.grownBy (grow (putRow id (Sort.ahead w n) g 0 F) os) (some g):=by
 refine⟨rfl,rfl,rfl,by simp[putRow,mapBlock,Sort.ahead],fun k b a=> ?_⟩;rw[heap_grow_old _ _ (by simpa[putRow,mapBlock,Sort.ahead]using b)];have:g≠k:=fun e=>a (by rw[e]);simp[putRow,mapBlock,Sort.ahead,NV,this]
def t6(a F:Array Value)(h:F.size<=a.size):(putCells id 0 F a).toList.take F.size=F.toList:=by
 apply Md;intro j;by_cases b:j<F.size
 ·rw[Nx b,ON];simp[putCells,b,show j<a.size by omega]
 rw[PF (by omega),Lu (by simp;omega)]
def jq{P:Program}{f:FuncId}{d:List Value}{e:TypeId}{sz:Nat}{b a:List (List Value)}(I:0<b.length)(c: ∀(args:Array Value)(w:World),(callFunc f args).run P w= .ok (.enter f args) w)
 (o:a.length=b.length)(s: ∀l∈b,l.length=sz)(p: ∀l∈a,l.length=sz/\ ∀u∈l,u.oneCell'=true)
 (h: ∀(w:World)(g cap:Nat),Holds id w g 0 b.flatten.toArray->g<w.heap.size->Calls P f (.slice (some ⟨g,0,none⟩) b.length cap::d).toArray w fun z D=>z= .returned (.tuple #[])/\ ∃n os,D=grow (putRow id (Sort.ahead w n) g 0 a.flatten.toArray) os):
 An P f d e sz b a:=by
 refine⟨c,o,p,fun w x v J=> ?_⟩;have L:=dw b s;have m:=dw a fun l o=>(p l o).1;rcases J.2 with⟨_,K⟩|⟨g,cap,i,rfl,k,q,A,E,B,G⟩
 ·omega
 have t:b.length*sz<=i.size:=by rw[B];exact M3 _ A
 have H:g<w.heap.size:=(MN.1 q).1;refine(h w g cap (fun j C=>⟨?_,by simp[World.frozen?,q]⟩) H).mono ?_
 ·have r:j<b.flatten.length:=by simpa using C
  have y:(i.toList.take (b.length*sz))[j]? =b.flatten[j]? :=by rw[G]
  rw[Nx (by omega)]at y;simp only[World.cell?,q,Mt];simp only[QE,MH,Mi];rw[<-ON,y,OQ _ j C,Lc r];rfl
 rintro z D ⟨rfl,n,os,rfl⟩;refine⟨rfl,kY _,by rw[m,o], .inr ⟨g,cap,_,rfl,k,O' _ q,A,E,by simp[putCells,B],?_⟩⟩;have:=t6 i a.flatten.toArray (by simp[m,o];exact t);rw[show a.flatten.toArray.size=b.length*sz by simp[m,o]]at this;exact this
def mN{P:Program}{f:FuncId}{b:List Value}{e:TypeId}{sz:Nat}(a: ∀(args:Array Value)(w:World),(callFunc f args).run P w= .ok (.enter f args) w)
 (h: ∀(p:Option Addr)(cap:Nat)(w:World),Calls P f (.slice p 0 cap::b).toArray w fun i k=>i= .returned (.tuple #[])/\k=w):An P f b e sz [] []:=by
 refine⟨a,rfl,fun l n=>by simp at n,fun w d v j=> ?_⟩
 have c: ∃p cap,v= .slice p 0 cap:=by
  rcases j.2 with⟨rfl,_⟩|⟨g,cap,m,rfl,_⟩
  ·exact⟨_,_,rfl⟩
  exact⟨_,_,rfl⟩
 obtain⟨p,cap,rfl⟩:=c;refine(h p cap w).mono ?_;rintro i k ⟨rfl,rfl⟩;exact⟨rfl,⟨rfl,rfl,rfl,Lr _,fun _ _ _=>rfl⟩,j⟩
section
variable {α:Type} [Inhabited α]
theorem jP(enc:α->Value)(w:World)(g:Nat)(d:Array α):putRow enc w g 0 d=putRow id w g 0 (d.map enc):=by
 unfold putRow;refine mapBlock_congr _ _ _ _ fun c _ _ _=> ?_;apply Array.ext_getElem?;intro k;simp only[putCells,Array.getElem?_mapIdx,Array.size_map];cases c[k]? with
 |none=>rfl
 | some y=>
   simp only[MG,OJ,Mt];by_cases a:0<=k/\k<d.size
   ·rw[Lj a,Lj a];simp[a.2]
   rw[Lf a,Lf a]
end
end Go.Proofs.YtknkhdgfhbogdaaGreatDoor
namespace Go.Proofs
open Go.Shelf
def Tryz.sortS_ren:Go.Shelf.Ren:=⟨fun|190=>63|125=>111|258=>110|128=>170|129=>171|302=>162|303=>163|304=>164|305=>165|306=>166|307=>167|308=>112|309=>168|310=>169|333=>212|329=>213|330=>214|334=>215|335=>216|336=>172|344=>245|n=>n,fun|31=>93|9=>9|3=>3|46=>187|0=>0|51=>132|53=>227|4=>4|183=>221|182=>220|131=>148|5=>5|218=>256|222=>260|228=>280|229=>86|n=>n,fun|n=>n⟩
def Tryz.sortS:Go.Proofs.Lays.n190 prog Tryz.sortS_ren:={
 mixed:=by kernel_rfl
 f125:=func111.trans (congrArg some (by kernel_rfl))
 f128:=func170.trans (congrArg some (by kernel_rfl))
 f129:=func171.trans (congrArg some (by kernel_rfl))
 f190:=func63.trans (congrArg some (by kernel_rfl))
 f258:=func110.trans (congrArg some (by kernel_rfl))
 f302:=func162.trans (congrArg some (by kernel_rfl))
 f303:=func163.trans (congrArg some (by kernel_rfl))
 f304:=func164.trans (congrArg some (by kernel_rfl))
 f305:=func165.trans (congrArg some (by kernel_rfl))
 f306:=func166.trans (congrArg some (by kernel_rfl))
 f307:=func167.trans (congrArg some (by kernel_rfl))
 f308:=func112.trans (congrArg some (by kernel_rfl))
 f309:=func168.trans (congrArg some (by kernel_rfl))
 f310:=func169.trans (congrArg some (by kernel_rfl))
 f329:=func213.trans (congrArg some (by kernel_rfl))
 f330:=func214.trans (congrArg some (by kernel_rfl))
 f333:=func212.trans (congrArg some (by kernel_rfl))
 f334:=func215.trans (congrArg some (by kernel_rfl))
 f335:=func216.trans (congrArg some (by kernel_rfl))
 f336:=func172.trans (congrArg some (by kernel_rfl))
 f344:=func245.trans (congrArg some (by kernel_rfl))
 t0:=Tryz.underlying0
 a0:=Tryz.isAgg0
 z0:=Tryz.sizeOf0
 v0:=Tryz.zeroValue0
 t3:=Tryz.underlying3
 a3:=Tryz.isAgg3
 z3:=Tryz.sizeOf3
 v3:=Tryz.zeroValue3
 t4:=Tryz.underlying4
 a4:=Tryz.isAgg4
 z4:=Tryz.sizeOf4
 v4:=Tryz.zeroValue4
 t5:=Tryz.underlying5
 a5:=Tryz.isAgg5
 z5:=Tryz.sizeOf5
 v5:=Tryz.zeroValue5
 t9:=Tryz.underlying9
 a9:=Tryz.isAgg9
 z9:=Tryz.sizeOf9
 v9:=Tryz.zeroValue9
 t31:=Tryz.underlying93
 a31:=Tryz.isAgg93
 z31:=Tryz.sizeOf93
 v31:=Tryz.zeroValue93
 t46:=Tryz.underlying187
 a46:=Tryz.isAgg187
 z46:=Tryz.sizeOf187
 v46:=Tryz.zeroValue187
 t51:=Tryz.underlying132
 a51:=Tryz.isAgg132
 z51:=Tryz.sizeOf132
 v51:=Tryz.zeroValue132
 t53:=Tryz.underlying227
 a53:=Tryz.isAgg227
 z53:=Tryz.sizeOf227
 v53:=Tryz.zeroValue227
 t131:=Tryz.underlying148
 a131:=Tryz.isAgg148
 z131:=Tryz.sizeOf148
 v131:=Tryz.zeroValue148
 t182:=Tryz.underlying220
 a182:=Tryz.isAgg220
 z182:=Tryz.sizeOf220
 v182:=Tryz.zeroValue220
 t183:=Tryz.underlying221
 a183:=Tryz.isAgg221
 z183:=Tryz.sizeOf221
 v183:=Tryz.zeroValue221
 t218:=Tryz.underlying256
 a218:=Tryz.isAgg256
 z218:=Tryz.sizeOf256
 v218:=Tryz.zeroValue256
 t222:=Tryz.underlying260
 a222:=Tryz.isAgg260
 z222:=Tryz.sizeOf260
 v222:=Tryz.zeroValue260
 t228:=Tryz.underlying280
 a228:=Tryz.isAgg280
 z228:=Tryz.sizeOf280
 v228:=Tryz.zeroValue280
 t229:=Tryz.underlying86
 a229:=Tryz.isAgg86
 z229:=Tryz.sizeOf86
 v229:=Tryz.zeroValue86 }
def Tryz.sortI_ren:Go.Shelf.Ren:=⟨fun|189=>176|125=>111|257=>217|128=>170|129=>171|294=>246|295=>247|296=>248|297=>249|298=>250|299=>251|216=>252|300=>253|301=>254|328=>266|329=>213|330=>214|331=>267|332=>268|215=>269|343=>285|n=>n,fun|28=>27|3=>3|46=>187|0=>0|51=>132|53=>227|4=>4|183=>221|182=>220|131=>148|5=>5|9=>9|218=>256|222=>260|228=>280|229=>86|n=>n,fun|n=>n⟩
def Tryz.sortI:Go.Proofs.Lays.n189 prog Tryz.sortI_ren:={
 mixed:=by kernel_rfl
 f125:=func111.trans (congrArg some (by kernel_rfl))
 f128:=func170.trans (congrArg some (by kernel_rfl))
 f129:=func171.trans (congrArg some (by kernel_rfl))
 f189:=func176.trans (congrArg some (by kernel_rfl))
 f215:=func269.trans (congrArg some (by kernel_rfl))
 f216:=func252.trans (congrArg some (by kernel_rfl))
 f257:=func217.trans (congrArg some (by kernel_rfl))
 f294:=func246.trans (congrArg some (by kernel_rfl))
 f295:=func247.trans (congrArg some (by kernel_rfl))
 f296:=func248.trans (congrArg some (by kernel_rfl))
 f297:=func249.trans (congrArg some (by kernel_rfl))
 f298:=func250.trans (congrArg some (by kernel_rfl))
 f299:=func251.trans (congrArg some (by kernel_rfl))
 f300:=func253.trans (congrArg some (by kernel_rfl))
 f301:=func254.trans (congrArg some (by kernel_rfl))
 f328:=func266.trans (congrArg some (by kernel_rfl))
 f329:=func213.trans (congrArg some (by kernel_rfl))
 f330:=func214.trans (congrArg some (by kernel_rfl))
 f331:=func267.trans (congrArg some (by kernel_rfl))
 f332:=func268.trans (congrArg some (by kernel_rfl))
 f343:=func285.trans (congrArg some (by kernel_rfl))
 t0:=Tryz.underlying0
 a0:=Tryz.isAgg0
 z0:=Tryz.sizeOf0
 v0:=Tryz.zeroValue0
 t3:=Tryz.underlying3
 a3:=Tryz.isAgg3
 z3:=Tryz.sizeOf3
 v3:=Tryz.zeroValue3
 t4:=Tryz.underlying4
 a4:=Tryz.isAgg4
 z4:=Tryz.sizeOf4
 v4:=Tryz.zeroValue4
 t5:=Tryz.underlying5
 a5:=Tryz.isAgg5
 z5:=Tryz.sizeOf5
 v5:=Tryz.zeroValue5
 t9:=Tryz.underlying9
 a9:=Tryz.isAgg9
 z9:=Tryz.sizeOf9
 v9:=Tryz.zeroValue9
 t28:=Tryz.underlying27
 a28:=Tryz.isAgg27
 z28:=Tryz.sizeOf27
 v28:=Tryz.zeroValue27
 t46:=Tryz.underlying187
 a46:=Tryz.isAgg187
 z46:=Tryz.sizeOf187
 v46:=Tryz.zeroValue187
 t51:=Tryz.underlying132
 a51:=Tryz.isAgg132
 z51:=Tryz.sizeOf132
 v51:=Tryz.zeroValue132
 t53:=Tryz.underlying227
 a53:=Tryz.isAgg227
 z53:=Tryz.sizeOf227
 v53:=Tryz.zeroValue227
 t131:=Tryz.underlying148
 a131:=Tryz.isAgg148
 z131:=Tryz.sizeOf148
 v131:=Tryz.zeroValue148
 t182:=Tryz.underlying220
 a182:=Tryz.isAgg220
 z182:=Tryz.sizeOf220
 v182:=Tryz.zeroValue220
 t183:=Tryz.underlying221
 a183:=Tryz.isAgg221
 z183:=Tryz.sizeOf221
 v183:=Tryz.zeroValue221
 t218:=Tryz.underlying256
 a218:=Tryz.isAgg256
 z218:=Tryz.sizeOf256
 v218:=Tryz.zeroValue256
 t222:=Tryz.underlying260
 a222:=Tryz.isAgg260
 z222:=Tryz.sizeOf260
 v222:=Tryz.zeroValue260
 t228:=Tryz.underlying280
 a228:=Tryz.isAgg280
 z228:=Tryz.sizeOf280
 v228:=Tryz.zeroValue280
 t229:=Tryz.underlying86
 a229:=Tryz.isAgg86
 z229:=Tryz.sizeOf86
 v229:=Tryz.zeroValue86 }
def Tryz.compS_ren:Go.Shelf.Ren:=⟨fun|194=>64|n=>n,fun|31=>93|9=>9|3=>3|4=>4|0=>0|n=>n,fun|n=>n⟩
def Tryz.compS:Go.Proofs.Lays.n194 prog Tryz.compS_ren:={
 mixed:=by kernel_rfl
 f194:=func64.trans (congrArg some (by kernel_rfl))
 t0:=Tryz.underlying0
 a0:=Tryz.isAgg0
 z0:=Tryz.sizeOf0
 v0:=Tryz.zeroValue0
 t3:=Tryz.underlying3
 a3:=Tryz.isAgg3
 z3:=Tryz.sizeOf3
 v3:=Tryz.zeroValue3
 t4:=Tryz.underlying4
 a4:=Tryz.isAgg4
 z4:=Tryz.sizeOf4
 v4:=Tryz.zeroValue4
 t9:=Tryz.underlying9
 a9:=Tryz.isAgg9
 z9:=Tryz.sizeOf9
 v9:=Tryz.zeroValue9
 t31:=Tryz.underlying93
 a31:=Tryz.isAgg93
 z31:=Tryz.sizeOf93
 v31:=Tryz.zeroValue93 }
end Go.Proofs
namespace Go.Proofs.YtknkhdgfhbogdaaGreatDoor
open Go.Proofs.Tryz
open Go.RowKit Go.Sort Go.Shelf Go.Lib
set_option maxHeartbeats 4000000 in
set_option maxRecDepth 100000 in
theorem Bi(p:Option Addr)(cap:Nat)(w:World):Calls prog 63 #[.slice p 0 cap] w fun ex w'=>ex= .returned (.tuple #[])/\w'=w:=by
 go_enter func63,ntmps63
 go_wp2_with (first|go_in)
 refine wp_loop_rounds 1 ?_;simp only[Code.rounds]
 go_wp2_with (first|go_in)
 refine wp_loop_rounds 1 ?_;simp only[Code.rounds]
 go_wp2_with (first|go_in)
 go_end0
 exact⟨rfl,rfl⟩
def Dm(s:List UInt8):List Value:=[encStr s]
def d4{a:Type}(f:a->Value): ∀l:List a,(l.map fun s=>[f s]).flatten=l.map f
 |[]=>rfl
 |x::l=>by simp[d4 f l]
def GQ{w:World}{g:Nat}{l:List (List UInt8)}(h:Holds id w g 0 (l.map encStr).toArray):Holds encStr w g 0 l.toArray:=fun j b=>by
 have a:j<l.length:=by simpa using b
 have:=h j (by simpa using a);rw[OQ _ j (by simpa using a)]at this;rw[OQ _ j b];simpa using this
def Tryz.sortEnter: ∀(args:Array Value)(w:World),(callFunc 63 args).run prog w= .ok (.enter 63 args) w:=Px func63 (by kernel_rfl) rfl
def Tryz.compEnter: ∀(args:Array Value)(w:World),(callFunc 64 args).run prog w= .ok (.enter 64 args) w:=Px func64 (by kernel_rfl) rfl
def gW(l:List (List UInt8)):List (List UInt8):=l.mergeSort fun x y=>decide (x<=y)
def yz(l:List (List UInt8))(f:l.length<4611686018427387904):An prog 63 [] 9 1 (l.map Dm) ((gW l).map Dm):=by
 by_cases d:l=[]
 ·subst d;rw[show gW []=[] by simp[gW]];exact mN Tryz.sortEnter fun p a w=>Bi p a w
 refine jq (by rw[ME];exact NG.2 d) Tryz.sortEnter (by simp[gW]) (fun x c=> ?_) (fun x c=> ?_) fun w g a b e=> ?_
 ·obtain⟨y,_,rfl⟩:=Lp.1 c;rfl
 ·obtain⟨y,_,rfl⟩:=Lp.1 c;exact⟨rfl,fun u h=>by rw[MA.1 h];rfl⟩
 have b:Holds id w g 0 (l.map encStr).toArray:=by rw[<-d4];exact b
 have:=Any.slices_Sort_string Tryz.sortS g 0 a l w (GQ b) e f;rw[ME];refine(show Calls prog 63 #[.slice (some ⟨g,0,none⟩) l.length a] w _ from this).mono ?_;rintro j k ⟨rfl,n,i,rfl⟩;refine⟨rfl,n,i,?_⟩;rw[jP,show ((gW l).map Dm).flatten=(gW l).map encStr from d4 encStr _];simp[gW]
def Cq(l:List (List UInt8))(J:l.length<=9223372036854775807):RS prog 64 9 1 (l.map Dm) ((Lib.compact l).map Dm):=by
 refine⟨Tryz.compEnter,fun x M=> ?_,fun w o v e=> ?_⟩
 ·obtain⟨y,_,rfl⟩:=Lp.1 M;exact⟨rfl,fun u L=>by rw[MA.1 L];rfl⟩
 rw[show (l.map Dm).flatten=l.map encStr from d4 encStr _,ME]at e;rw[show ((Lib.compact l).map Dm).flatten=(Lib.compact l).map encStr from d4 encStr _,ME];by_cases z:l=[]
 ·subst z
  obtain⟨p,a,rfl⟩: ∃p a,v= .slice p 0 a:=by
   rcases e.2 with⟨rfl,_⟩|⟨g,a,b,rfl,_⟩
   ·exact⟨_,_,rfl⟩
   exact⟨_,_,rfl⟩
  refine(show Calls prog 64 #[.slice p 0 a] w _ from Any.slices_Compact_string_empty Tryz.compS p a w).mono ?_;rintro E N ⟨rfl,rfl⟩;exact⟨_,rfl,rfl,⟨rfl,rfl,rfl,Lr _,fun _ _ _=>rfl⟩,fun _ h=>h,e⟩
 rcases e.2 with⟨_,h⟩|⟨g,a,b,rfl,c,d,A,G,B,H⟩
 ·exact absurd (M7 h) z
 have O:g<w.heap.size:=(MN.1 d).1
 have I:Holds encStr w g 0 l.toArray:=fun j D=>by
  have m:j<l.length:=by simpa using D
  have r:(b.toList.take (l.length*1))[j]? =(l.map encStr)[j]? :=by rw[H]
  rw[Nx (by omega),Lo,Lc m]at r;refine⟨?_,by simp[World.frozen?,d]⟩;simp only[World.cell?,d,Mt,QE,MH,Mi];rw[<-ON,r,OQ _ j D];rfl
 have i:(Lib.compact l).length<=l.length:=by
  unfold Lib.compact Lib.compactUpTo;rw[ME];exact Ly (MF ..) (by simp)
 refine(show Calls prog 64 #[.slice (some ⟨g,0,none⟩) l.length a] w _ from Any.slices_Compact_string Tryz.compS g 0 a l w I J A).mono ?_;rintro E N ⟨rfl,q,rfl⟩;rw[jP];generalize C:((Lib.compact l++List.replicate (l.length-(Lib.compact l).length) []).toArray.map encStr)=F;have f:F.size=l.length:=by rw[<-C];simp;omega
 have k: ∀W:World,grow W #[]=W:=fun W=>by simp[grow]
 have s:=O' (n:=q) (os:= #[]) F d;have t:=kY (w:=w) (g:=g) (n:=q) (os:= #[]) F;rw[k]at s t;refine⟨_,rfl,rfl,t,fun _ h=>h,⟨by rw[ME,PG], .inr ⟨g,a,_,rfl,c,s,Ly i A,G,by simp[putCells,B],?_⟩⟩⟩;have K:=t6 b F (by rw[f,B];omega);rw[PG]
 have:((putCells id 0 F b).toList.take (Lib.compact l).length)=(F.toList).take (Lib.compact l).length:=by
  rw[<-K,QC,OD (by omega)]
 rw[this, <-C];simp
end Go.Proofs.YtknkhdgfhbogdaaGreatDoor
namespace Go.Proofs.YtknkhdgfhbogdaaGreatDoor
open Go.Proofs.Tryz
open Go.RowKit
structure Right(c:aq):Prop where
 Z6:c.Z9.length<=32
 par: ∀(k:Nat)(s:na),c.Z9[k]? =some s-> -1<=s.parent/\s.parent<k
 top: ∃(m:Nat) (q:na),c.initial=m/\c.Z9[m]? =some q/\q.parent= -1
def cc{p:Nat->Bool}{n:Nat}(h:bD p n=none)(j:Nat)(a:j<n):p j=true:=by
 unfold bD at h;rw[O1]at h;simpa using h j (by simpa using a)
def AL{c:aq}(h:(nv c).1=0):Right c:=by
 unfold nv at h;split at h
 ·simp at h
 rename_i l;split at h
 ·simp at h
 split at h
 ·simp at h
 split at h
 ·simp at h
 rename_i e;split at h
 ·simp at h
 rename_i f;refine⟨by omega,fun k s d=> ?_,?_⟩
 ·have g:k<c.Z9.length:=(Ld.1 d).1;have:=cc e k g;unfold lY at this;rw[d]at this
  have i:dB c k s=true:=by
   simp only[cJ,Li]at this;exact this.1.1.1.2
  simp only[dB,Mx,Li,Lt,Mh]at i;omega
 have a:mO c=true:=by simpa using f
 unfold mO at a;split at a
 ·rename_i q b;simp only[Li,Mh]at a;unfold at_ at b;split at b
  ·rename_i j;exact⟨c.initial.toNat,q,by omega,b,a.1⟩
  cases b
 cases a
def low(c:aq)(n:Nat)(k:Nat):Bool:=match c.Z9[k]? with
 |some s=>decide (s.parent+1<n)&& !aU s
 |none=>false
def y8{c:aq}{i:Int}{k:Nat}(h:k∈av c i true): ∃s,c.Z9[k]? =some s/\s.parent=i/\aU s=false/\k<c.Z9.length:=by
 obtain⟨b,a⟩:=pJ h;obtain⟨s,d,_⟩:=aS b;unfold dI at a;rw[d]at a;simp at a;exact⟨s,d,a.1,a.2,b⟩
def D6{c:aq}{i:Int}{k:Nat}{s:na}(a:c.Z9[k]? =some s)(e:s.parent=i)(d:aU s=false):k∈av c i true:=by
 have b:k<c.Z9.length:=(Ld.1 a).1;unfold av bg;rw[Lq];refine⟨by simpa using b,?_⟩;unfold dI;rw[a];simp[e,d]
end Go.Proofs.YtknkhdgfhbogdaaGreatDoor
