/- The plain law of charts' trees: in a right chart parents are ahead; what is counted. No program is named here. -/
import Derived.Test.YtfhkmjbjafeckaaGreatDoorP9
import Derived.Test.YtfhkmjbjafeckaaGreatDoorP6
import Derived.Test.YtfhkmjbjafeckaaGreatDoorRows
import Derived.LaidMore
import Derived.Stop.Joined
import Derived.Shelf.Sort.Plain
import Derived.Shelf.Slices.CompactS
set_option linter.unusedSimpArgs false
set_option linter.defProp false
namespace Go.Proofs.YtfhkmjbjafeckaaGreatDoor
open Go.Proofs.Tryz
open Go.RowKit
def EV(n:Nat)(f:Nat->Bool):Bool:=(List.range n).all f
def qM{n:Nat}{f:Nat->Bool}(h: ∀j,j<n->f j=true):EV n f=true:=by
 simp only[EV,Mz,NX];exact h
def uQ{n k:Nat}{f:Nat->Bool}(b:k<n)(h:f k=false):EV n f=false:=by
 rw[<-Bool.not_eq_true,EV,Mz];intro a;have:=a k (by simpa using b);rw[h]at this;cases this
def LV{n:Nat}{f:Nat->Bool}(h:EV n f=true)(j:Nat)(a:j<n):f j=true:=by
 simp only[EV,Mz,NX]at h;exact h j a
structure Rc where
 chart:Int
 born:Int
 steps:Int
 Z4:List Int
 vars:List Int
 mem:List (Int×List Int)
 timers:List (List UInt8×Int)
 over:Bool
def CY(n:Int):Bool:=decide (0<=n/\n<=1099511627776)
def ki(l:List (List UInt8×Int))(j:Nat):Bool:=
 bp (l.getD j ([],0)).1&&CY (l.getD j ([],0)).2&&(decide (j=0)||Op.bytesLess (l.getD (j-1) ([],0)).1 (l.getD j ([],0)).1)
def dP(l:List (List UInt8×Int)):Bool:=EV l.length (ki l)&&decide (l.length<=8)
/-! How bytes are read -/
def Sb(b:List UInt8)(at_ a:Nat):Option (Nat×Nat):=if at_+a<=b.length/\zX (T6 b at_ a)<=4611686018427387904 then some (zX (T6 b at_ a),at_+a) else none
def Ub(a:List UInt8)(at_:Nat):Option (List UInt8×Nat):=
 if at_+2<=a.length/\at_+2+zX (T6 a at_ 2)<=a.length then some (T6 a (at_+2) (zX (T6 a at_ 2)),at_+2+zX (T6 a at_ 2)) else none
def K9(n:Nat):Int:=if n%2=1 then -(((n+1)/2:Nat):Int) else((n/2:Nat):Int)
def TT{d:Type}(c:List UInt8)(K:List Int->Nat->Option d):Nat->Nat->List Int->Option d
 |0,a,b=>K b a
 |n+1,a,b=>(Sb c a 4).bind fun x=>TT c K n x.2 (b++[K9 x.1])
def TS{d:Type}(c:List UInt8)(K:List (Int×List Int)->Nat->Option d):Nat->Nat->List (Int×List Int)->Option d
 |0,a,b=>K b a
 |n+1,a,b=>(Sb c a 1).bind fun x=>(Sb c x.2 4).bind fun y=>TS c K n y.2 (b++[((x.1:Int),sy y.1)])
def Uc{d:Type}(c:List UInt8)(K:List (List UInt8×Int)->Nat->Option d):Nat->Nat->List (List UInt8×Int)->Option d
 |0,a,b=>K b a
 |n+1,a,b=>(Ub c a).bind fun x=>(Sb c x.2 8).bind fun y=>Uc c K n y.2 (b++[(x.1,(y.1:Int))])
def p9(d:List UInt8)(c b s:Int)(o:Bool)(e vs:List Int)(f:List (Int×List Int))(a:Nat):Option Rc:=
 (Sb d a 1).bind fun x=>Uc d (fun g _=>some ⟨c,b,s,e,vs,f,g,o⟩) x.1 x.2 []
def p8(d:List UInt8)(c b s:Int)(o:Bool)(f vs:List Int)(a:Nat):Option Rc:=
 (Sb d a 1).bind fun x=>TS d (fun g e=>p9 d c b s o f vs g e) x.1 x.2 []
def p7(d:List UInt8)(c b s:Int)(o:Bool)(f:List Int)(a:Nat):Option Rc:=
 (Sb d a 1).bind fun x=>TT d (fun g e=>p8 d c b s o f g e) x.1 x.2 []
def p6(d:List UInt8)(c b s:Int)(o:Bool)(a:Nat):Option Rc:=(Sb d a 4).bind fun x=>p7 d c b s o (sy x.1) x.2
def p5(d:List UInt8)(c b s:Int)(a:Nat):Option Rc:=(Sb d a 1).bind fun x=>p6 d c b s (decide (x.1=1)) x.2
def p4(d:List UInt8)(c b:Int)(a:Nat):Option Rc:=(Sb d a 8).bind fun x=>p5 d c b x.1 x.2
def p3(b:List UInt8)(c:Int)(a:Nat):Option Rc:=(Sb b a 8).bind fun x=>p4 b c x.1 x.2
end Go.Proofs.YtfhkmjbjafeckaaGreatDoor
namespace Go.Proofs.YtfhkmjbjafeckaaGreatDoor
open Go.Proofs.Tryz
open Go.RowKit Go.ChangeShapes
section
variable {P:Program} {W:World} {nm:String} {ti tp te ts:TypeId} {ms:Array (String×TypeId)} {f:Field}
theorem xD(hi:P.underlying ti=some (.interface ms))(m: ∀u,P.typeName? 3 u=some nm->u=tp)
 (L:P.underlying tp=some (.pointer te))(K:P.underlying te=some (.struct #[f]))(z:f.type=ts)(y:f.offset=0)(M:P.underlying ts=some .string)(J:P.cellsOf te=1)(w:P.cellsOf ts=1):
 ∀(l:List (String×List UInt8))(j:List Nat)(ps:List MemPlace),DataW.LaidVars P W (l.map fun x=>(x.1, .iface nm (.ptr (.agg [.lit (.string x.2)])))) ps->
  l.map (fun x=>P.globalNamed x.1)=j.map some->(∀g∈j,(P.globals[g]?).map (·.type)=some ti)->
  (∀b off,MemPlace.cell b off∈ps->(∃c t,W.heap[b]? =some (.cells c t (0,0)))/\ ∀u v,W.cell? ⟨b,off,none⟩=some (.iface u v)->Value.okWide P W .any 0 u v)->
  ∃k:List Addr,k.length=j.length/\(∀(i:Nat)(g:Nat)(a:Addr),j[i]? =some g->k[i]? =some a->W.cell? ⟨g,0,none⟩=some (.iface tp (.pointer (some a)))/\ ∃R Z,W.heap[a.block]? =some (.cells R Z (0,0)))/\
   (k.map fun a=>MemPlace.cell a.block a.off).Sublist ps
 | [],j,ps,_,B,_,_=>by
   obtain rfl:j=[]:=by cases j<;>simp_all
   exact⟨[],rfl,by simp,by simp⟩
 |(n,O)::l,j,ps,V,B,N,d=>by
   obtain⟨g,j,rfl⟩: ∃g E,j=g::E:=by cases j<;>simp_all
   simp only[Nh,PZ]at B;obtain⟨g0,t0,C,f0,p0,Y,q,H,A,G,r,rfl⟩:=V;obtain rfl:=OV (B.1.symm.trans q);obtain rfl:=OV ((N g (by simp)).symm.trans H);obtain⟨X⟩:=C
   have I: ∀u v,X=[.iface u v]->Value.okWide P W .any 0 u v:=fun u v e=>by
    subst e;exact(d g 0 (by simp[MemPlace.row])).2 u v (by simpa using R8 q A 0)
   obtain⟨s,s0,rfl,_,_,_,rfl⟩:=errorString_of_trod hi m L K z y M J w G I;obtain⟨k,S,T,U⟩:=xD hi m L K z y M J w l j Y r B.2 (fun D h=>N D (by simp[h])) (fun b off h=>d b off (PH _ h));refine⟨s::k,by simp[S],?_,?_⟩
   ·intro i D Q p o;cases i with
    | zero=>
      simp at p o;subst p o;exact⟨by simpa using R8 q A 0,(d s.block s.off (by simp[MemPlace.row])).1⟩
    |succ i=>exact T i D Q (by simpa using p) (by simpa using o)
   simp only[Nh,MemPlace.row];exact List.Sublist.trans (List.Sublist.append (by simp:[MemPlace.cell s.block s.off].Sublist _) U) (List.Sublist.append (List.sublist_append_right _ _) (List.Sublist.refl _))
end
def Tryz.row160: ∀u,prog.typeName? 3 u=some "*errors.errorString" ->u=369:=
 fun u a=>typeName_ptr_named (nm:= "errors.errorString") (by kernel_rfl) (by kernel_rfl) (by decide) u a
section
open Go.WideShapes
variable {H:Type} {enc:TypeId×Value->H} {P:Program}
theorem nj(g:laidOutB P=true){W e:World}(f:Below W.heap.size W e): ∀(ts:List TypeId)(vs:List Value)(a:List (DataW H))(ps:List MemPlace),
 (∀t∈ts,P.readableRec t=true/\t<P.types.size)->(∀x∈ps,x.block<W.heap.size)->DataW.TrodAll enc P W 0 (fun _=>true) true ts vs a ps->DataW.TrodAll enc P e 0 (fun b=>decide (b<W.heap.size)) true ts vs a ps
 |[],[],[],_,_,_,h=>h
 | t::ts,v::vs,d::a,ps,j,i,h=>by
   obtain⟨p,q,l,m,rfl⟩:=h;have r:=j t (by simp);exact⟨p,q,Below.trod g r.1 r.2 l f (fun x c=>i x (Ns _ c)),nj g f ts vs a q (fun n k=>j n (by simp[k])) (fun x c=>i x (PH _ c)) m,rfl⟩
 |[],_::_,_,_,_,_,h=>by cases h
 |[],[],_::_,_,_,_,h=>by cases h
 |_::_,[],_,_,_,_,h=>by cases h
 |_::_,_::_,[],_,_,_,h=>by cases h
theorem Bm(y:laidOutB P=true){f:Func}{s:ChangeSpec}{v:TypeId}{W m:World}{args:Array Value}{e g:List (DataW H)}{a:List MemPlace}
 (c: ∀t∈f.params.toList,P.readableRec t=true/\t<P.types.size)(k:f.resultTypes= #[v])(l:P.underlying v=some .bool)
 (i:DataW.Whole enc P f.params.toList s.vars false W args.toList e g a)(r:s.vars=[])
 (d:g=[]->s.fn H (e++g)={ results:=[.lit (.bool true)],args:=e })(o:Below W.heap.size W m):s.post enc P f false true false false W args (.bool true) m:=by
 have b: ∀p∈a,p.block<W.heap.size:=fun p z=>i.lt p z;have j:=i;obtain⟨p,q,w,n,rfl,_,_⟩:=i;rw[r]at n;obtain⟨rfl,rfl⟩:=trodVars_none n;have d:=d rfl;rw[OP]at b;refine⟨e,[],p++[],[],p,[],j,?_,?_,?_,?_,fun h=>by cases h⟩
 ·rw[d,k];exact trodAll_mk1 (shut_bool l true)
 ·rw[d];exact nj y o _ _ _ _ c b w
 ·rw[d,r];rfl
 exact World.keptBut_mono (fun x u=>⟨u, .inr (.inl (by simpa using u))⟩) (o.frame (· ∈p++[]))
end
section
open Go.WideShapes
variable {H:Type} {enc:TypeId×Value->H} {P:Program} {w:World} {base:Nat} {spare:Nat->Bool} {held:Bool}
end
def vT{W:World}(h:laidMetH prog [("scrinium/api.ErrForm",Rows.laid_scrinium_api_ErrForm),("scrinium/api.ErrRange",Rows.laid_scrinium_api_ErrRange),("scrinium/api.ErrFull",Rows.laid_scrinium_api_ErrFull),("scrinium/api.ErrNone",Rows.laid_scrinium_api_ErrNone),("scrinium/api.ErrCorrupt",Rows.laid_scrinium_api_ErrCorrupt),("scrinium/api.ErrFuel",Rows.laid_scrinium_api_ErrFuel),("scrinium/api.ErrState",Rows.laid_scrinium_api_ErrState),("scrinium/api.ErrLong",Rows.laid_scrinium_api_ErrLong),("scrinium/api.ErrTwice",Rows.laid_scrinium_api_ErrTwice)] W): ∃z,sh W z:=by
 rw[MakeChecks.laidMetH_plain _ _ _ (by kernel_rfl)]at h;obtain⟨J,I,u,c⟩:=h
 obtain⟨t,C,b,D⟩:=xD (nm:= "*errors.errorString") Tryz.underlying40 Tryz.row160 Tryz.underlying369 Tryz.underlying389 rfl rfl Tryz.underlying9 (by kernel_rfl) (by kernel_rfl)
  [("scrinium/api.ErrForm",[102,111,114,109]),("scrinium/api.ErrRange",[114,97,110,103,101]),("scrinium/api.ErrFull",[102,117,108,108]),("scrinium/api.ErrNone",[110,111,110,101]),("scrinium/api.ErrCorrupt",[99,111,114,114,117,112,116]),("scrinium/api.ErrFuel",[102,117,101,108]),("scrinium/api.ErrState",[115,116,97,116,101]),("scrinium/api.ErrLong",[108,111,110,103]),("scrinium/api.ErrTwice",[116,119,105,99,101])] [0,1,2,3,4,5,6,7,8] J I (by kernel_rfl) (by
    intro g v;simp at v
    rcases v with rfl|rfl|rfl|rfl|rfl|rfl|rfl|rfl|rfl<;>kernel_rfl) c
 have f:=Qn D u
 match t,C with
 | [a,k,m,n,o,p,q,r,s],_=>
   refine⟨fun i=>[a,k,m,n,o,p,q,r,s].getD (i-1) a,b 0 _ _ rfl rfl,b 1 _ _ rfl rfl,b 2 _ _ rfl rfl,b 3 _ _ rfl rfl,b 4 _ _ rfl rfl,b 5 _ _ rfl rfl,b 6 _ _ rfl rfl,b 7 _ _ rfl rfl,b 8 _ _ rfl rfl,?_⟩;intro i j K E L G e
   have d: ∀x y,x<9->y<9->[a,k,m,n,o,p,q,r,s].getD x a=[a,k,m,n,o,p,q,r,s].getD y a->x=y:=by
    intro x y M N e;generalize H:[a,k,m,n,o,p,q,r,s]=l at*;have w:l.length=9:=by rw[<-H];rfl
    have A:l.getD x a=l[x]'(by omega):=by simp[List.getD,Mq (show x<l.length by omega)]
    have B:l.getD y a=l[y]'(by omega):=by simp[List.getD,Mq (show y<l.length by omega)]
    rw[A,B]at e;have:=(List.getElem_inj f (i:=x) (j:=y) (h₀:=by simp;omega) (h₁:=by simp;omega)).1 (by simp only[List.getElem_map];rw[e]);exact this
   have:=d (i-1) (j-1) (by omega) (by omega) e;omega
end Go.Proofs.YtfhkmjbjafeckaaGreatDoor
namespace Go.Proofs.YtfhkmjbjafeckaaGreatDoor
open Go.Proofs.Tryz
open Go.RowKit Go.ChangeShapes Go.WideShapes Go.Deep
section
variable {H:Type} {enc:TypeId×Value->H} {P:Program} {w:World} {base:Nat} {spare:Nat->Bool} {held:Bool}
theorem ba{a:Array Field}{cs:List Value}{n:Nat}{xs:List (DataW H×List MemPlace)}(m:xs.length=a.size)(j: ∀(i:Nat)(f:Field),a[i]? =some f->DataW.trod enc P w base spare held n f.type ((cs.drop f.offset).take (P.cellsOf f.type))=xs[i]?)
 (i:Nat)(f:Field)(c:a[i]? =some f)(b off k:Nat)(d:f.type=b)(e:f.offset=off)(g:P.cellsOf b=k): ∃y,DataW.trod enc P w base spare held n b ((cs.drop off).take k)=some y:=by
 have h:=j i f c;rw[d,e,g]at h;have l:i<a.size:=(N2.1 c).1;rw[Mq (by omega)]at h;exact⟨_,h⟩
def RE{d:Type}(w:World)(e:d->List AV)(c:d->Prop)(cs:List Value)(a:d):Prop:=SU (fun b _=>b<w.heap.size) w cs (e a)/\c a
theorem dJ{p:Type}{t e:TypeId}{size fuel:Nat}{cs:List Value}{x:DataW H×List MemPlace}(f:p->List AV)(d:p->Prop)(n: ∀a,(f a).length=size)(I:P.underlying t=some (.slice e))(z:P.cellsOf e=size)(g:0<size)
 (B: ∀(m:Nat)(cs:List Value)(y:DataW H×List MemPlace),DataW.trod enc P w base spare held m e cs=some y-> ∃a,RE w f d cs a)
 (h:DataW.trod enc P w base spare held fuel t cs=some x): ∃(v:Value) (l:List p),cs=[v]/\(v.oneCell'=true/\RV (fun b _=>b<w.heap.size) w v (.seq size (l.map f)))/\l.length<=maxLen/\ ∀a∈l,d a:=by
 obtain⟨v,l,r,q⟩:=Tk (R:=RE w f d) I z g B h;have o:=FN f n q fun cs a _ G j u c J D=>G.1.at_.2 j u c J D;obtain⟨A,c,K,rfl,_,s,_,k⟩:=q;refine⟨_,l,r,⟨rfl,o⟩,s,fun a C=> ?_⟩;obtain⟨i,E,rfl⟩:=OX C;exact(k.2 i E).2
theorem Dh{l:List Value}(h:l.length=2): ∃a b,l=[a,b]:=by
 match l,h with
 |[a,b],_=>exact⟨a,b,rfl⟩
theorem M8{l:List Value}(h:l.length=4): ∃a b c d,l=[a,b,c,d]:=by
 match l,h with
 |[a,b,c,d],_=>exact⟨a,b,c,d,rfl⟩
theorem K3{l:List Value}(h:l.length=5): ∃a b c d e,l=[a,b,c,d,e]:=by
 match l,h with
 |[a,b,c,d,e],_=>exact⟨a,b,c,d,e,rfl⟩
theorem M7{l:List Value}(h:l.length=6): ∃a b c d e f,l=[a,b,c,d,e,f]:=by
 match l,h with
 |[a,b,c,d,e,f],_=>exact⟨a,b,c,d,e,f,rfl⟩
end
def ra:prog.cellsOf 3=1:=by kernel_rfl
def io:prog.cellsOf 9=1:=by kernel_rfl
def Lh:prog.cellsOf 79=1:=by kernel_rfl
def Ej:prog.cellsOf 73=1:=by kernel_rfl
def Md:prog.cellsOf 23=1:=by kernel_rfl
def Mc:prog.cellsOf 24=1:=by kernel_rfl
def MK:prog.cellsOf 22=1:=by kernel_rfl
def TZ:prog.cellsOf 78=2:=by kernel_rfl
def S9:prog.cellsOf 81=4:=by kernel_rfl
def T8:prog.cellsOf 75=6:=by kernel_rfl
def T':prog.cellsOf 83=5:=by kernel_rfl
def TP:prog.cellsOf 140=2:=by kernel_rfl
def Mk:prog.cellsOf 26=5:=by kernel_rfl
section
variable {H:Type} {enc:TypeId×Value->H} {w:World} {base:Nat} {spare:Nat->Bool} {held:Bool}
set_option maxRecDepth 100000 in
theorem Te(m:Nat)(cs:List Value)(y:DataW H×List MemPlace)(h:DataW.trod enc prog w base spare held m 78 cs=some y): ∃a:l5,RE w bX r9 cs a:=by
 obtain⟨r,n,_,_,d,b,c⟩:=PE Tryz.underlying78 h;rw[TZ]at d;obtain⟨e,f,rfl⟩:=Dh d;obtain⟨p,j⟩:=ba b c 0 _ rfl 3 0 1 rfl rfl ra;obtain⟨l,g, -, -⟩:=O4 Tryz.underlying3 (show DataW.trod enc prog w base spare held n 3 [e]=some p from j);cases g;obtain⟨q,k⟩:=ba b c 1 _ rfl 3 1 1 rfl rfl ra;obtain⟨o,i, -, -⟩:=O4 Tryz.underlying3 (show DataW.trod enc prog w base spare held n 3 [f]=some q from k);cases i;exact⟨⟨l,o⟩,⟨⟨rfl, .lit _⟩,⟨rfl, .lit _⟩,trivial⟩,trivial⟩
set_option maxRecDepth 100000 in
theorem Sa(m:Nat)(cs:List Value)(y:DataW H×List MemPlace)(h:DataW.trod enc prog w base spare held m 81 cs=some y): ∃a:j',RE w bB iU cs a:=by
 obtain⟨J,n,_,_,d,b,c⟩:=PE Tryz.underlying81 h;rw[S9]at d;obtain⟨e,f,g,i,rfl⟩:=M8 d;obtain⟨C,p⟩:=ba b c 0 _ rfl 3 0 1 rfl rfl ra;obtain⟨z,j, -, -⟩:=O4 Tryz.underlying3 (show DataW.trod enc prog w base spare held n 3 [e]=some C from p);cases j;obtain⟨D,q⟩:=ba b c 1 _ rfl 3 1 1 rfl rfl ra;obtain⟨A,k, -, -⟩:=O4 Tryz.underlying3 (show DataW.trod enc prog w base spare held n 3 [f]=some D from q);cases k;obtain⟨E,r⟩:=ba b c 2 _ rfl 9 2 1 rfl rfl io;obtain⟨B,l, -,x⟩:=Pp Tryz.underlying9 (show DataW.trod enc prog w base spare held n 9 [g]=some E from r);cases l;obtain⟨⟨t2⟩⟩:=B;obtain⟨G,s⟩:=ba b c 3 _ rfl 79 3 1 rfl rfl Lh;obtain⟨I,t,o,v,u,p3⟩:=dJ (size:=2) bX r9 (fun _=>rfl) Tryz.underlying79 TZ (by decide) Te (show DataW.trod enc prog w base spare held n 79 [i]=some G from s);cases o;exact⟨⟨z,A,t2,t⟩,⟨⟨rfl, .lit _⟩,⟨rfl, .lit _⟩,⟨rfl, .lit _⟩,v,trivial⟩,(by simpa[ByteArray.size]using x),⟨u,p3⟩⟩
set_option maxRecDepth 100000 in
theorem TK(m:Nat)(cs:List Value)(y:DataW H×List MemPlace)(h:DataW.trod enc prog w base spare held m 75 cs=some y): ∃a:nr,RE w aK vn cs a:=by
 obtain⟨W,n,_,_,d,b,c⟩:=PE Tryz.underlying75 h;rw[T8]at d;obtain⟨e,f,g,i,j,k,rfl⟩:=M7 d;obtain⟨O,t⟩:=ba b c 0 _ rfl 9 0 1 rfl rfl io;obtain⟨K,l, -,J⟩:=Pp Tryz.underlying9 (show DataW.trod enc prog w base spare held n 9 [e]=some O from t);cases l;obtain⟨⟨t0⟩⟩:=K;obtain⟨P,u⟩:=ba b c 1 _ rfl 3 1 1 rfl rfl ra;obtain⟨L,o, -, -⟩:=O4 Tryz.underlying3 (show DataW.trod enc prog w base spare held n 3 [f]=some P from u);cases o;obtain⟨Q,v⟩:=ba b c 2 _ rfl 3 2 1 rfl rfl ra;obtain⟨M,p, -, -⟩:=O4 Tryz.underlying3 (show DataW.trod enc prog w base spare held n 3 [g]=some Q from v);cases p;obtain⟨R,x⟩:=ba b c 3 _ rfl 3 3 1 rfl rfl ra;obtain⟨N,q, -, -⟩:=O4 Tryz.underlying3 (show DataW.trod enc prog w base spare held n 3 [i]=some R from x);cases q;obtain⟨S,z⟩:=ba b c 4 _ rfl 73 4 1 rfl rfl Ej;obtain⟨U,B,r,G,D,p4⟩:=dJ (size:=4) bB iU (fun _=>rfl) Tryz.underlying73 S9 (by decide) Sa (show DataW.trod enc prog w base spare held n 73 [j]=some S from z);cases r;obtain⟨T,A⟩:=ba b c 5 _ rfl 73 5 1 rfl rfl Ej;obtain⟨V,C,s,I,E,p5⟩:=dJ (size:=4) bB iU (fun _=>rfl) Tryz.underlying73 S9 (by decide) Sa (show DataW.trod enc prog w base spare held n 73 [k]=some T from A);cases s;exact⟨⟨t0,L,M,N,B,C⟩,⟨⟨rfl, .lit _⟩,⟨rfl, .lit _⟩,⟨rfl, .lit _⟩,⟨rfl, .lit _⟩,G,I,trivial⟩,(by simpa[ByteArray.size]using J),⟨D,p4⟩,⟨E,p5⟩⟩
set_option maxRecDepth 100000 in
theorem TL(m:Nat)(cs:List Value)(y:DataW H×List MemPlace)(h:DataW.trod enc prog w base spare held m 83 cs=some y): ∃a:tR,RE w ax vm cs a:=by
 obtain⟨S,n,_,_,d,b,c⟩:=PE Tryz.underlying83 h;rw[T']at d;obtain⟨e,f,g,i,j,rfl⟩:=K3 d;obtain⟨L,r⟩:=ba b c 0 _ rfl 3 0 1 rfl rfl ra;obtain⟨I,k, -, -⟩:=O4 Tryz.underlying3 (show DataW.trod enc prog w base spare held n 3 [e]=some L from r);cases k;obtain⟨M,s⟩:=ba b c 1 _ rfl 9 1 1 rfl rfl io;obtain⟨J,l, -,G⟩:=Pp Tryz.underlying9 (show DataW.trod enc prog w base spare held n 9 [f]=some M from s);cases l;obtain⟨⟨t1⟩⟩:=J;obtain⟨N,t⟩:=ba b c 2 _ rfl 79 2 1 rfl rfl Lh;obtain⟨Q,x,o,D,A,C⟩:=dJ (size:=2) bX r9 (fun _=>rfl) Tryz.underlying79 TZ (by decide) Te (show DataW.trod enc prog w base spare held n 79 [g]=some N from t);cases o;obtain⟨O,u⟩:=ba b c 3 _ rfl 73 3 1 rfl rfl Ej;obtain⟨R,z,p,E,B,p3⟩:=dJ (size:=4) bB iU (fun _=>rfl) Tryz.underlying73 S9 (by decide) Sa (show DataW.trod enc prog w base spare held n 73 [i]=some O from u);cases p;obtain⟨P,v⟩:=ba b c 4 _ rfl 3 4 1 rfl rfl ra;obtain⟨K,q, -, -⟩:=O4 Tryz.underlying3 (show DataW.trod enc prog w base spare held n 3 [j]=some P from v);cases q;exact⟨⟨I,t1,x,z,K⟩,⟨⟨rfl, .lit _⟩,⟨rfl, .lit _⟩,D,E,⟨rfl, .lit _⟩,trivial⟩,(by simpa[ByteArray.size]using G),⟨A,C⟩,⟨B,p3⟩⟩
set_option maxRecDepth 100000 in
theorem Tw(m:Nat)(cs:List Value)(y:DataW H×List MemPlace)(h:DataW.trod enc prog w base spare held m 140 cs=some y): ∃a:PJ,RE w iK pS cs a:=by
 obtain⟨s,n,_,_,d,b,c⟩:=PE Tryz.underlying140 h;rw[TP]at d;obtain⟨e,f,rfl⟩:=Dh d;obtain⟨q,j⟩:=ba b c 0 _ rfl 9 0 1 rfl rfl io;obtain⟨o,g, -,l⟩:=Pp Tryz.underlying9 (show DataW.trod enc prog w base spare held n 9 [e]=some q from j);cases g;obtain⟨⟨t0⟩⟩:=o;obtain⟨r,k⟩:=ba b c 1 _ rfl 3 1 1 rfl rfl ra;obtain⟨p,i, -, -⟩:=O4 Tryz.underlying3 (show DataW.trod enc prog w base spare held n 3 [f]=some r from k);cases i;exact⟨⟨t0,p⟩,⟨⟨rfl, .lit _⟩,⟨rfl, .lit _⟩,trivial⟩,(by simpa[pS,ByteArray.size]using l)⟩
set_option maxRecDepth 100000 in
theorem Kq(m:Nat)(cs:List Value)(y:DataW H×List MemPlace)(h:DataW.trod enc prog w base spare held m 26 cs=some y): ∃a:aq,RE w aA jN cs a:=by
 obtain⟨V,n,_,_,d,b,c⟩:=PE Tryz.underlying26 h;rw[Mk]at d;obtain⟨e,f,g,i,j,rfl⟩:=K3 d;obtain⟨N,r⟩:=ba b c 0 _ rfl 9 0 1 rfl rfl io;obtain⟨L,k, -,K⟩:=Pp Tryz.underlying9 (show DataW.trod enc prog w base spare held n 9 [e]=some N from r);cases k;obtain⟨⟨t0⟩⟩:=L;obtain⟨O,s⟩:=ba b c 1 _ rfl 3 1 1 rfl rfl ra;obtain⟨M,l, -, -⟩:=O4 Tryz.underlying3 (show DataW.trod enc prog w base spare held n 3 [f]=some O from s);cases l;obtain⟨P,t⟩:=ba b c 2 _ rfl 22 2 1 rfl rfl MK;obtain⟨S,x,o,G,B,E⟩:=dJ (size:=2) iK pS (fun _=>rfl) Tryz.underlying22 TP (by decide) Tw (show DataW.trod enc prog w base spare held n 22 [g]=some P from t);cases o;obtain⟨Q,u⟩:=ba b c 3 _ rfl 23 3 1 rfl rfl Md;obtain⟨T,z,p,I,C,p3⟩:=dJ (size:=6) aK vn (fun _=>rfl) Tryz.underlying23 T8 (by decide) TK (show DataW.trod enc prog w base spare held n 23 [i]=some Q from u);cases p;obtain⟨R,v⟩:=ba b c 4 _ rfl 24 4 1 rfl rfl Mc;obtain⟨U,A,q,J,D,p4⟩:=dJ (size:=5) ax vm (fun _=>rfl) Tryz.underlying24 T' (by decide) TL (show DataW.trod enc prog w base spare held n 24 [j]=some R from v);cases q;exact⟨⟨t0,M,x,z,A⟩,⟨⟨rfl, .lit _⟩,⟨rfl, .lit _⟩,G,I,J,trivial⟩,(by simpa[ByteArray.size]using K),⟨B,E⟩,⟨C,p3⟩,⟨D,p4⟩⟩
end
end Go.Proofs.YtfhkmjbjafeckaaGreatDoor
namespace Go.Proofs.YtfhkmjbjafeckaaGreatDoor
open Go.Proofs.Tryz
open Go.RowKit
structure TD(P:Program)(f:FuncId)(e:TypeId)(sz:Nat)(ls ls':List (List Value)):Prop where
 enter: ∀(args:Array Value)(w:World),(callFunc f args).run P w= .ok (.enter f args) w
 ZS: ∀l∈ls',l.length=sz/\ ∀u∈l,u.oneCell'=true
 calls: ∀(w:World)(base:Nat)(v:Value),w.ownsRow base e sz v ls.length ls.flatten->
  Calls P f #[v] w fun ex w'=> ∃v',ex= .returned v'/\v'.oneCell'=true/\w.grownBy w' v.ownBlock/\(∀g,v'.ownBlock=some g->v.ownBlock=some g)/\w'.ownsRow base e sz v' ls'.length ls'.flatten
def HT{S:Nat->Nat->Prop}{w:World}{row:Row}{a:List (List Value)}{xs:List Value}(b: ∀l∈a,l.length=row.sz)(e:0<row.sz)(r:xs.length=a.length*row.sz)(m:row.es=bO a)
 (s: ∀(i j:Nat)(c:AV),bs row.es i j=some c-> ∃u,xs[i*row.sz+j]? =some u/\RV S w u c):xs=a.flatten:=by
 apply Nv;intro p;have o:=eE a b;by_cases q:p<a.length*row.sz
 ·have f:p/row.sz<a.length:=Pz (by rw[P3];exact q);have t:p%row.sz<row.sz:=Q4 _ e;have g:p/row.sz*row.sz+p%row.sz=p:=Q9 p row.sz;have v:=b _ (Oq f);have d:(a[p/row.sz])[p%row.sz]? =some ((a[p/row.sz])[p%row.sz]'(by omega)):=Mq _;have h:=fo a b _ _ _ _ (Mq f) d
  obtain⟨u,k,n⟩:=s (p/row.sz) (p%row.sz) (.lit ((a[p/row.sz])[p%row.sz]'(by omega))) (by
   rw[m];unfold bs bO;rw[NB,Mq f]
   simp only[NT,OD,NB,d])
  rw[g]at h k;have:u=(a[p/row.sz])[p%row.sz]'(by omega):=by cases n;rfl
  rw[h,k,this]
 rw[NI (by omega),NI (by omega)]
def Jt{P:Program}{env:b8}{f:FuncId}{r A:Nat}{row:Row}{rows:Nat->Option Row}{vsv:Nat->Nat}{J d:List (List Value)}(L:TD P f row.e row.sz J d)(hr:rows r=some row)(hv:vsv r=A)(hrz:row.sz≠0)(hp:row.pure=true)(T:row.es=bO J):
 To P env f [.row r A] [r] rows vsv ⟨.row r (A+1),[.renew r { row with es:=bO d }]⟩:=by
 refine⟨L.enter,fun x s a w m vs hx p hro y hvs=> ?_⟩;obtain⟨H,q2,q3⟩:=hro r (by simp);rw[hr]at H;rw[hv]at q2
 match vs,y with
 |[u],_=>
 have hu:u=m.ρ r:=(hvs 0 u _ rfl rfl).row_.2 q2 row H;subst hu;have k:=(p.rows r row H).cells hrz;obtain⟨xs,S,k2,k3⟩:=k.own;have hn:row.es.length=J.length:=by rw[T];simp[bO]
 have Z: ∀l∈J,l.length=row.sz:=fun l y=>by
  obtain⟨i,hi,rfl⟩:=OX y;have:=k.len i ((J[i]).map .lit) (by rw[T];simp[bO,hi]);simpa using this
 have hxx:xs=J.flatten:=HT Z k.pos (by rw[<-hn];exact S.1) T fun i j c hc=>by
  obtain⟨u,K,R⟩:=k3 i j c hc;rw[Mw hp]at R;exact⟨u,K,R⟩
 rw[hxx,hn]at S;refine(L.calls w x.w.heap.size (m.ρ r) S).mono ?_;rintro ex O ⟨I,rfl,K,B,h,ho⟩
 have hb:Below x.w.heap.size w O:=⟨B.os,B.tape,B.output,B.size,fun q N=>B.block q (Oc N p.Z3.size) fun e=>by
  have:=(bi S e.symm).1
  omega⟩
 have E: ∀g,(m.ρ r).ownBlock=some g-> ∀o,¬m.S g o:=k.fresh q3;have C: ∀b o,m.S b o->k9 w O b o:=fun b o n=> .block (B.block b (p.low b o n) fun e=>E b e.symm o n);have hlow: ∀b o,m.S b o->b<O.heap.size:=fun b o n=>Oc (p.low b o n) B.size
 have U:dT x (s.renew r { row with es:=bO d } false) a O ⟨m.S,mu m.ρ r I⟩:=by
  refine p.renew r _ false I m.S hb (fun b o n=>⟨n,C b o n⟩) (fun b o n=> .inl n) (fun q z M N Q D=>⟨?_,fun e=> ?_,fun _ n=>n⟩) ?_ fun b X=>⟨B.block b (p.fxlt X) fun e=>p.Z5 r row H b e.symm X,fun _ n=>n,fun e=>p.Z5 r row H b (h b e) X⟩
  ·exact B.block Q ((p.rows q z N).blk D).2 fun e=>p.inj r q row z H N (Ot M) Q e.symm D
  ·exact p.inj r q row z H N (Ot M) Q (h Q e) D
  have W: ∀(i:Nat)(e:List AV),(bO d)[i]? =some e->e.length=row.sz:=fun i e t=>by
   unfold bO at t;rw[NB]at t;cases y:d[i]? with
   |none=>rw[y]at t;cases t
   | some l=>
     rw[y]at t;cases t;simpa using (L.ZS l (Mv y)).1
  have Y:(bO d).length=d.length:=by unfold bO;rw[NQ]
  have G:(⟨m.S,mu m.ρ r I⟩:ld).ρ r=I:=aw ..;refine .inl ⟨k.pos,W,⟨d.flatten,by rw[G];show O.ownsRow _ _ _ _ (bO d).length _;rw[Y];exact ho,?_,?_⟩,fun t=> ?_,fun g v o _=> ?_,fun _ g v o=> ?_⟩
  ·intro u hu;obtain⟨l,y,hul⟩:=Rv.1 hu;exact(L.ZS l y).2 u hul
  ·intro i j c V;obtain⟨l,u,K,R,rfl⟩:=Bh V;refine⟨u,fo d (fun l y=>(L.ZS l y).1) i j l u K R,?_⟩;show if row.pure=true then _ else _
   rw[Mw hp];exact .lit u
  ·have t:mu s.esc r false r=true:=t;rw[aw]at t;cases t
  ·rw[G]at v;exact E g (h g v) o
  rw[G]at v;exact E g (h g v) o
 refine⟨I,_,rfl,U, .row r (A+1) K ?_ fun _ row' _=> ?_⟩
 ·show A+1<=mu s.vs r (s.vs r+1) r;rw[aw,q2];exact NC _
 show I=mu m.ρ r I r;rw[aw]
section
variable {P:Program} {env:b8} {s:St}
theorem vN{o:Oper}{f:FuncId}{args:List AV}{a:List No}{i:St}{row:Row}{h b:List (List Value)}{e:fy}{K:St->List fy->Prop}(r:Nat)(p:bM env s.f o=some (f,args))(m:TD P f row.e row.sz h b)(d:row.sz≠0)(u:row.pure=true)(j:row.es=bO h)
 (n:Is args [.row r (s.vs r)])(w:Is (s.rows r) (some row))(t:Is (s.esc r) false)(l:Is ((⟨.row r (s.vs r+1),[.renew r { row with es:=bO b }]⟩:Out).app o.dst s) i)(g:Is (⟨[r],[r],[r],[]⟩:fy) e)(k:jw P env a i fun x c=>K x (e::c)):jw P env (⟨o, .always⟩::a) s K:=by
 unfold Is at g;subst g;exact qL p n (Jt m w rfl d u j) (fun q v=>by rw[NO.1 v];exact t) l k
theorem oW{o:Oper}{f:FuncId}{args:List AV}{a:List No}{g:St}{row:Row}{e b:List (List Value)}{K:St->List fy->Prop}(r:Nat)(m:bM env s.f o=some (f,args))(j:CT P f [] row.e row.sz e b)(d:row.sz≠0)(p:row.pure=true)(h:row.es=bO e)
 (l:Is args [.row r (s.vs r)])(q:Is (s.rows r) (some row))(n:Is (s.esc r) false)(i:Is ((s.setRow r { row with es:=bO b }).put o.dst .any) g)(k:jw P env a g fun t c=>K t (⟨[r],[r],[r],[]⟩::c)):jw P env (⟨o, .always⟩::a) s K:=
 xw (rs:=[]) r m (show args=_ from l) q n j h p d i k
end
end Go.Proofs.YtfhkmjbjafeckaaGreatDoor
namespace Go.Proofs.YtfhkmjbjafeckaaGreatDoor
open Go.Proofs.Tryz
open Go.RowKit Go.Sort Go.Shelf Go.Lib
def RT{w:World}{g n:Nat}{os:Array Obj}{a:Array Value}{e:TypeId}{b:Nat×Nat}(F:Array Value)(c:w.heap[g]? =some (.cells a e b)):
 (grow (putRow id (Sort.ahead w n) g 0 F) os).heap[g]? =some (.cells (putCells id 0 F a) e b):=by
 have d:g<w.heap.size:=(N2.1 c).1;rw[heap_grow_old _ _ (by simpa[putRow,mapBlock,Sort.ahead]using d)];simp[putRow,mapBlock,Sort.ahead,Of,c,onCells]
def kw{w:World}{g n:Nat}{os:Array Obj}(F:Array Value):w.grownBy (grow (putRow id (Sort.ahead w n) g 0 F) os) (some g):=by
 refine⟨rfl,rfl,rfl,by simp[putRow,mapBlock,Sort.ahead],fun k b a=> ?_⟩;rw[heap_grow_old _ _ (by simpa[putRow,mapBlock,Sort.ahead]using b)];have:g≠k:=fun e=>a (by rw[e]);simp[putRow,mapBlock,Sort.ahead,Of,this]
def uZ(a F:Array Value)(h:F.size<=a.size):(putCells id 0 F a).toList.take F.size=F.toList:=by
 apply Nv;intro j;by_cases b:j<F.size
 ·rw[PV b,Ph];simp[putCells,b,show j<a.size by omega]
 rw[Q6 (by omega),NI (by simp;omega)]
def kD{P:Program}{f:FuncId}{d:List Value}{e:TypeId}{sz:Nat}{b a:List (List Value)}(I:0<b.length)(c: ∀(args:Array Value)(w:World),(callFunc f args).run P w= .ok (.enter f args) w)
 (o:a.length=b.length)(s: ∀l∈b,l.length=sz)(p: ∀l∈a,l.length=sz/\ ∀u∈l,u.oneCell'=true)
 (h: ∀(w:World)(g cap:Nat),Holds id w g 0 b.flatten.toArray->g<w.heap.size->Calls P f (.slice (some ⟨g,0,none⟩) b.length cap::d).toArray w fun z D=>z= .returned (.tuple #[])/\ ∃n os,D=grow (putRow id (Sort.ahead w n) g 0 a.flatten.toArray) os):
 CT P f d e sz b a:=by
 refine⟨c,o,p,fun w x v J=> ?_⟩;have L:=eE b s;have m:=eE a fun l o=>(p l o).1;rcases J.2 with⟨_,K⟩|⟨g,cap,i,rfl,k,q,A,E,B,G⟩
 ·omega
 have t:b.length*sz<=i.size:=by rw[B];exact Nk _ A
 have H:g<w.heap.size:=(N2.1 q).1;refine(h w g cap (fun j C=>⟨?_,by simp[World.frozen?,q]⟩) H).mono ?_
 ·have r:j<b.flatten.length:=by simpa using C
  have y:(i.toList.take (b.length*sz))[j]? =b.flatten[j]? :=by rw[G]
  rw[PV (by omega)]at y;simp only[World.cell?,q,OM];simp only[Rk,NU,OA];rw[<-Ph,y,Pj _ j C,Mq r];rfl
 rintro z D ⟨rfl,n,os,rfl⟩;refine⟨rfl,kw _,by rw[m,o], .inr ⟨g,cap,_,rfl,k,RT _ q,A,E,by simp[putCells,B],?_⟩⟩;have:=uZ i a.flatten.toArray (by simp[m,o];exact t);rw[show a.flatten.toArray.size=b.length*sz by simp[m,o]]at this;exact this
def mh{P:Program}{f:FuncId}{b:List Value}{e:TypeId}{sz:Nat}(a: ∀(args:Array Value)(w:World),(callFunc f args).run P w= .ok (.enter f args) w)
 (h: ∀(p:Option Addr)(cap:Nat)(w:World),Calls P f (.slice p 0 cap::b).toArray w fun i k=>i= .returned (.tuple #[])/\k=w):CT P f b e sz [] []:=by
 refine⟨a,rfl,fun l n=>by simp at n,fun w d v j=> ?_⟩
 have c: ∃p cap,v= .slice p 0 cap:=by
  rcases j.2 with⟨rfl,_⟩|⟨g,cap,m,rfl,_⟩
  ·exact⟨_,_,rfl⟩
  exact⟨_,_,rfl⟩
 obtain⟨p,cap,rfl⟩:=c;refine(h p cap w).mono ?_;rintro i k ⟨rfl,rfl⟩;exact⟨rfl,⟨rfl,rfl,rfl,NC _,fun _ _ _=>rfl⟩,j⟩
section
variable {α:Type} [Inhabited α]
theorem j4(enc:α->Value)(w:World)(g:Nat)(d:Array α):putRow enc w g 0 d=putRow id w g 0 (d.map enc):=by
 unfold putRow;refine mapBlock_congr _ _ _ _ fun c _ _ _=> ?_;apply Array.ext_getElem?;intro k;simp only[putCells,Array.getElem?_mapIdx,Array.size_map];cases c[k]? with
 |none=>rfl
 | some y=>
   simp only[NT,Pb,OM];by_cases a:0<=k/\k<d.size
   ·rw[Mw a,Mw a];simp[a.2]
   rw[Mt a,Mt a]
end
end Go.Proofs.YtfhkmjbjafeckaaGreatDoor
namespace Go.Proofs
open Go.Shelf
def Tryz.sortS_ren:Go.Shelf.Ren:=⟨fun|190=>88|125=>152|258=>151|128=>216|129=>217|302=>208|303=>209|304=>210|305=>211|306=>212|307=>213|308=>153|309=>214|310=>215|333=>246|329=>247|330=>248|334=>249|335=>250|336=>218|344=>281|n=>n,fun|31=>119|9=>9|3=>3|46=>231|0=>0|51=>168|53=>288|4=>4|183=>282|182=>281|131=>179|5=>5|218=>309|222=>313|228=>332|229=>71|n=>n,fun|n=>n⟩
def Tryz.sortS:Go.Proofs.Lays.n190 prog Tryz.sortS_ren:={
 mixed:=by kernel_rfl
 f125:=func152.trans (congrArg some (by kernel_rfl))
 f128:=func216.trans (congrArg some (by kernel_rfl))
 f129:=func217.trans (congrArg some (by kernel_rfl))
 f190:=func88.trans (congrArg some (by kernel_rfl))
 f258:=func151.trans (congrArg some (by kernel_rfl))
 f302:=func208.trans (congrArg some (by kernel_rfl))
 f303:=func209.trans (congrArg some (by kernel_rfl))
 f304:=func210.trans (congrArg some (by kernel_rfl))
 f305:=func211.trans (congrArg some (by kernel_rfl))
 f306:=func212.trans (congrArg some (by kernel_rfl))
 f307:=func213.trans (congrArg some (by kernel_rfl))
 f308:=func153.trans (congrArg some (by kernel_rfl))
 f309:=func214.trans (congrArg some (by kernel_rfl))
 f310:=func215.trans (congrArg some (by kernel_rfl))
 f329:=func247.trans (congrArg some (by kernel_rfl))
 f330:=func248.trans (congrArg some (by kernel_rfl))
 f333:=func246.trans (congrArg some (by kernel_rfl))
 f334:=func249.trans (congrArg some (by kernel_rfl))
 f335:=func250.trans (congrArg some (by kernel_rfl))
 f336:=func218.trans (congrArg some (by kernel_rfl))
 f344:=func281.trans (congrArg some (by kernel_rfl))
 t0:=Tryz.underlying0
 a0:=Tryz.isAgg0
 z0:=Tryz.sizeOf0
 v0:=Tryz.zeroValue0
 t3:=Tryz.underlying3
 a3:=Tryz.isAgg3
 z3:=Tryz.sizeOf3
 v3:=Tryz.zeroValue3
 t4:=Tryz.underlying4
 a4:=Tryz.isAgg4
 z4:=Tryz.sizeOf4
 v4:=Tryz.zeroValue4
 t5:=Tryz.underlying5
 a5:=Tryz.isAgg5
 z5:=Tryz.sizeOf5
 v5:=Tryz.zeroValue5
 t9:=Tryz.underlying9
 a9:=Tryz.isAgg9
 z9:=Tryz.sizeOf9
 v9:=Tryz.zeroValue9
 t31:=Tryz.underlying119
 a31:=Tryz.isAgg119
 z31:=Tryz.sizeOf119
 v31:=Tryz.zeroValue119
 t46:=Tryz.underlying231
 a46:=Tryz.isAgg231
 z46:=Tryz.sizeOf231
 v46:=Tryz.zeroValue231
 t51:=Tryz.underlying168
 a51:=Tryz.isAgg168
 z51:=Tryz.sizeOf168
 v51:=Tryz.zeroValue168
 t53:=Tryz.underlying288
 a53:=Tryz.isAgg288
 z53:=Tryz.sizeOf288
 v53:=Tryz.zeroValue288
 t131:=Tryz.underlying179
 a131:=Tryz.isAgg179
 z131:=Tryz.sizeOf179
 v131:=Tryz.zeroValue179
 t182:=Tryz.underlying281
 a182:=Tryz.isAgg281
 z182:=Tryz.sizeOf281
 v182:=Tryz.zeroValue281
 t183:=Tryz.underlying282
 a183:=Tryz.isAgg282
 z183:=Tryz.sizeOf282
 v183:=Tryz.zeroValue282
 t218:=Tryz.underlying309
 a218:=Tryz.isAgg309
 z218:=Tryz.sizeOf309
 v218:=Tryz.zeroValue309
 t222:=Tryz.underlying313
 a222:=Tryz.isAgg313
 z222:=Tryz.sizeOf313
 v222:=Tryz.zeroValue313
 t228:=Tryz.underlying332
 a228:=Tryz.isAgg332
 z228:=Tryz.sizeOf332
 v228:=Tryz.zeroValue332
 t229:=Tryz.underlying71
 a229:=Tryz.isAgg71
 z229:=Tryz.sizeOf71
 v229:=Tryz.zeroValue71 }
def Tryz.sortI_ren:Go.Shelf.Ren:=⟨fun|189=>174|125=>152|257=>226|128=>216|129=>217|294=>252|295=>253|296=>254|297=>255|298=>256|299=>257|216=>258|300=>259|301=>260|328=>285|329=>247|330=>248|331=>286|332=>287|215=>288|343=>301|n=>n,fun|28=>33|3=>3|46=>231|0=>0|51=>168|53=>288|4=>4|183=>282|182=>281|131=>179|5=>5|9=>9|218=>309|222=>313|228=>332|229=>71|n=>n,fun|n=>n⟩
def Tryz.sortI:Go.Proofs.Lays.n189 prog Tryz.sortI_ren:={
 mixed:=by kernel_rfl
 f125:=func152.trans (congrArg some (by kernel_rfl))
 f128:=func216.trans (congrArg some (by kernel_rfl))
 f129:=func217.trans (congrArg some (by kernel_rfl))
 f189:=func174.trans (congrArg some (by kernel_rfl))
 f215:=func288.trans (congrArg some (by kernel_rfl))
 f216:=func258.trans (congrArg some (by kernel_rfl))
 f257:=func226.trans (congrArg some (by kernel_rfl))
 f294:=func252.trans (congrArg some (by kernel_rfl))
 f295:=func253.trans (congrArg some (by kernel_rfl))
 f296:=func254.trans (congrArg some (by kernel_rfl))
 f297:=func255.trans (congrArg some (by kernel_rfl))
 f298:=func256.trans (congrArg some (by kernel_rfl))
 f299:=func257.trans (congrArg some (by kernel_rfl))
 f300:=func259.trans (congrArg some (by kernel_rfl))
 f301:=func260.trans (congrArg some (by kernel_rfl))
 f328:=func285.trans (congrArg some (by kernel_rfl))
 f329:=func247.trans (congrArg some (by kernel_rfl))
 f330:=func248.trans (congrArg some (by kernel_rfl))
 f331:=func286.trans (congrArg some (by kernel_rfl))
 f332:=func287.trans (congrArg some (by kernel_rfl))
 f343:=func301.trans (congrArg some (by kernel_rfl))
 t0:=Tryz.underlying0
 a0:=Tryz.isAgg0
 z0:=Tryz.sizeOf0
 v0:=Tryz.zeroValue0
 t3:=Tryz.underlying3
 a3:=Tryz.isAgg3
 z3:=Tryz.sizeOf3
 v3:=Tryz.zeroValue3
 t4:=Tryz.underlying4
 a4:=Tryz.isAgg4
 z4:=Tryz.sizeOf4
 v4:=Tryz.zeroValue4
 t5:=Tryz.underlying5
 a5:=Tryz.isAgg5
 z5:=Tryz.sizeOf5
 v5:=Tryz.zeroValue5
 t9:=Tryz.underlying9
 a9:=Tryz.isAgg9
 z9:=Tryz.sizeOf9
 v9:=Tryz.zeroValue9
 t28:=Tryz.underlying33
 a28:=Tryz.isAgg33
 z28:=Tryz.sizeOf33
 v28:=Tryz.zeroValue33
 t46:=Tryz.underlying231
 a46:=Tryz.isAgg231
 z46:=Tryz.sizeOf231
 v46:=Tryz.zeroValue231
 t51:=Tryz.underlying168
 a51:=Tryz.isAgg168
 z51:=Tryz.sizeOf168
 v51:=Tryz.zeroValue168
 t53:=Tryz.underlying288
 a53:=Tryz.isAgg288
 z53:=Tryz.sizeOf288
 v53:=Tryz.zeroValue288
 t131:=Tryz.underlying179
 a131:=Tryz.isAgg179
 z131:=Tryz.sizeOf179
 v131:=Tryz.zeroValue179
 t182:=Tryz.underlying281
 a182:=Tryz.isAgg281
 z182:=Tryz.sizeOf281
 v182:=Tryz.zeroValue281
 t183:=Tryz.underlying282
 a183:=Tryz.isAgg282
 z183:=Tryz.sizeOf282
 v183:=Tryz.zeroValue282
 t218:=Tryz.underlying309
 a218:=Tryz.isAgg309
 z218:=Tryz.sizeOf309
 v218:=Tryz.zeroValue309
 t222:=Tryz.underlying313
 a222:=Tryz.isAgg313
 z222:=Tryz.sizeOf313
 v222:=Tryz.zeroValue313
 t228:=Tryz.underlying332
 a228:=Tryz.isAgg332
 z228:=Tryz.sizeOf332
 v228:=Tryz.zeroValue332
 t229:=Tryz.underlying71
 a229:=Tryz.isAgg71
 z229:=Tryz.sizeOf71
 v229:=Tryz.zeroValue71 }
def Tryz.compS_ren:Go.Shelf.Ren:=⟨fun|194=>89|n=>n,fun|31=>119|9=>9|3=>3|4=>4|0=>0|n=>n,fun|n=>n⟩
def Tryz.compS:Go.Proofs.Lays.n194 prog Tryz.compS_ren:={
 mixed:=by kernel_rfl
 f194:=func89.trans (congrArg some (by kernel_rfl))
 t0:=Tryz.underlying0
 a0:=Tryz.isAgg0
 z0:=Tryz.sizeOf0
 v0:=Tryz.zeroValue0
 t3:=Tryz.underlying3
 a3:=Tryz.isAgg3
 z3:=Tryz.sizeOf3
 v3:=Tryz.zeroValue3
 t4:=Tryz.underlying4
 a4:=Tryz.isAgg4
 z4:=Tryz.sizeOf4
 v4:=Tryz.zeroValue4
 t9:=Tryz.underlying9
 a9:=Tryz.isAgg9
 z9:=Tryz.sizeOf9
 v9:=Tryz.zeroValue9
 t31:=Tryz.underlying119
 a31:=Tryz.isAgg119
 z31:=Tryz.sizeOf119
 v31:=Tryz.zeroValue119 }
end Go.Proofs
namespace Go.Proofs.YtfhkmjbjafeckaaGreatDoor
open Go.Proofs.Tryz
open Go.RowKit Go.Sort Go.Shelf Go.Lib
set_option maxHeartbeats 4000000 in
set_option maxRecDepth 100000 in
theorem Ct(p:Option Addr)(cap:Nat)(w:World):Calls prog 88 #[.slice p 0 cap] w fun ex w'=>ex= .returned (.tuple #[])/\w'=w:=by
 go_enter func88,ntmps88
 go_wp2_with (first|go_in)
 refine Pm 1 ?_;simp only[Code.rounds]
 go_wp2_with (first|go_in)
 refine Pm 1 ?_;simp only[Code.rounds]
 go_wp2_with (first|go_in)
 go_end0
 exact⟨rfl,rfl⟩
def Ev(s:List UInt8):List Value:=[encStr s]
def d9{a:Type}(f:a->Value): ∀l:List a,(l.map fun s=>[f s]).flatten=l.map f
 |[]=>rfl
 |x::l=>by simp[d9 f l]
def Hd{w:World}{g:Nat}{l:List (List UInt8)}(h:Holds id w g 0 (l.map encStr).toArray):Holds encStr w g 0 l.toArray:=fun j b=>by
 have a:j<l.length:=by simpa using b
 have:=h j (by simpa using a);rw[Pj _ j (by simpa using a)]at this;rw[Pj _ j b];simpa using this
def Tryz.sortEnter: ∀(args:Array Value)(w:World),(callFunc 88 args).run prog w= .ok (.enter 88 args) w:=Rb func88 (by kernel_rfl) rfl
def Tryz.compEnter: ∀(args:Array Value)(w:World),(callFunc 89 args).run prog w= .ok (.enter 89 args) w:=Rb func89 (by kernel_rfl) rfl
def gg(l:List (List UInt8)):List (List UInt8):=l.mergeSort fun x y=>decide (x<=y)
def AL(l:List (List UInt8))(f:l.length<4611686018427387904):CT prog 88 [] 9 1 (l.map Ev) ((gg l).map Ev):=by
 by_cases d:l=[]
 ·subst d;rw[show gg []=[] by simp[gg]];exact mh Tryz.sortEnter fun p a w=>Ct p a w
 refine kD (by rw[NQ];exact O2.2 d) Tryz.sortEnter (by simp[gg]) (fun x c=> ?_) (fun x c=> ?_) fun w g a b e=> ?_
 ·obtain⟨y,_,rfl⟩:=NE.1 c;rfl
 ·obtain⟨y,_,rfl⟩:=NE.1 c;exact⟨rfl,fun u h=>by rw[NO.1 h];rfl⟩
 have b:Holds id w g 0 (l.map encStr).toArray:=by rw[<-d9];exact b
 have:=Any.slices_Sort_string Tryz.sortS g 0 a l w (Hd b) e f;rw[NQ];refine(show Calls prog 88 #[.slice (some ⟨g,0,none⟩) l.length a] w _ from this).mono ?_;rintro j k ⟨rfl,n,i,rfl⟩;refine⟨rfl,n,i,?_⟩;rw[j4,show ((gg l).map Ev).flatten=(gg l).map encStr from d9 encStr _];simp[gg]
def EG(l:List (List UInt8))(J:l.length<=9223372036854775807):TD prog 89 9 1 (l.map Ev) ((Lib.compact l).map Ev):=by
 refine⟨Tryz.compEnter,fun x M=> ?_,fun w o v e=> ?_⟩
 ·obtain⟨y,_,rfl⟩:=NE.1 M;exact⟨rfl,fun u L=>by rw[NO.1 L];rfl⟩
 rw[show (l.map Ev).flatten=l.map encStr from d9 encStr _,NQ]at e;rw[show ((Lib.compact l).map Ev).flatten=(Lib.compact l).map encStr from d9 encStr _,NQ];by_cases z:l=[]
 ·subst z
  obtain⟨p,a,rfl⟩: ∃p a,v= .slice p 0 a:=by
   rcases e.2 with⟨rfl,_⟩|⟨g,a,b,rfl,_⟩
   ·exact⟨_,_,rfl⟩
   exact⟨_,_,rfl⟩
  refine(show Calls prog 89 #[.slice p 0 a] w _ from Any.slices_Compact_string_empty Tryz.compS p a w).mono ?_;rintro E N ⟨rfl,rfl⟩;exact⟨_,rfl,rfl,⟨rfl,rfl,rfl,NC _,fun _ _ _=>rfl⟩,fun _ h=>h,e⟩
 rcases e.2 with⟨_,h⟩|⟨g,a,b,rfl,c,d,A,G,B,H⟩
 ·exact absurd (Np h) z
 have O:g<w.heap.size:=(N2.1 d).1
 have I:Holds encStr w g 0 l.toArray:=fun j D=>by
  have m:j<l.length:=by simpa using D
  have r:(b.toList.take (l.length*1))[j]? =(l.map encStr)[j]? :=by rw[H]
  rw[PV (by omega),NB,Mq m]at r;refine⟨?_,by simp[World.frozen?,d]⟩;simp only[World.cell?,d,OM,Rk,NU,OA];rw[<-Ph,r,Pj _ j D];rfl
 have i:(Lib.compact l).length<=l.length:=by
  unfold Lib.compact Lib.compactUpTo;rw[NQ];exact NK (NS ..) (by simp)
 refine(show Calls prog 89 #[.slice (some ⟨g,0,none⟩) l.length a] w _ from Any.slices_Compact_string Tryz.compS g 0 a l w I J A).mono ?_;rintro E N ⟨rfl,q,rfl⟩;rw[j4];generalize C:((Lib.compact l++List.replicate (l.length-(Lib.compact l).length) []).toArray.map encStr)=F;have f:F.size=l.length:=by rw[<-C];simp;omega
 have k: ∀W:World,grow W #[]=W:=fun W=>by simp[grow]
 have s:=RT (n:=q) (os:= #[]) F d;have t:=kw (w:=w) (g:=g) (n:=q) (os:= #[]) F;rw[k]at s t;refine⟨_,rfl,rfl,t,fun _ h=>h,⟨by rw[NQ,Q7], .inr ⟨g,a,_,rfl,c,s,NK i A,G,by simp[putCells,B],?_⟩⟩⟩;have K:=uZ b F (by rw[f,B];omega);rw[Q7]
 have:((putCells id 0 F b).toList.take (Lib.compact l).length)=(F.toList).take (Lib.compact l).length:=by
  rw[<-K,Ri,P4 (by omega)]
 rw[this, <-C];simp
end Go.Proofs.YtfhkmjbjafeckaaGreatDoor
namespace Go.Proofs.YtfhkmjbjafeckaaGreatDoor
open Go.Proofs.Tryz
open Go.RowKit
structure Right(c:aq):Prop where
 Z6:c.Z9.length<=32
 par: ∀(k:Nat)(s:nr),c.Z9[k]? =some s-> -1<=s.parent/\s.parent<k
 top: ∃(m:Nat) (q:nr),c.initial=m/\c.Z9[m]? =some q/\q.parent= -1
def cj{p:Nat->Bool}{n:Nat}(h:bF p n=none)(j:Nat)(a:j<n):p j=true:=by
 unfold bF at h;rw[Pv]at h;simpa using h j (by simpa using a)
def BP{c:aq}(h:(n5 c).1=0):Right c:=by
 unfold n5 at h;split at h
 ·simp at h
 rename_i l;split at h
 ·simp at h
 split at h
 ·simp at h
 split at h
 ·simp at h
 rename_i e;split at h
 ·simp at h
 rename_i f;refine⟨by omega,fun k s d=> ?_,?_⟩
 ·have g:k<c.Z9.length:=(Mr.1 d).1;have:=cj e k g;unfold lw at this;rw[d]at this
  have i:dF c k s=true:=by
   simp only[cN,Mu]at this;exact this.1.1.1.2
  simp only[dF,OQ,Mu,NF,Nz]at i;omega
 have a:mi c=true:=by simpa using f
 unfold mi at a;split at a
 ·rename_i q b;simp only[Mu,Nz]at a;unfold at_ at b;split at b
  ·rename_i j;exact⟨c.initial.toNat,q,by omega,b,a.1⟩
  cases b
 cases a
def low(c:aq)(n:Nat)(k:Nat):Bool:=match c.Z9[k]? with
 |some s=>decide (s.parent+1<n)&& !aU s
 |none=>false
def zh{c:aq}{i:Int}{k:Nat}(h:k∈av c i true): ∃s,c.Z9[k]? =some s/\s.parent=i/\aU s=false/\k<c.Z9.length:=by
 obtain⟨b,a⟩:=pz h;obtain⟨s,d,_⟩:=aS b;unfold dM at a;rw[d]at a;simp at a;exact⟨s,d,a.1,a.2,b⟩
def Ed{c:aq}{i:Int}{k:Nat}{s:nr}(a:c.Z9[k]? =some s)(e:s.parent=i)(d:aU s=false):k∈av c i true:=by
 have b:k<c.Z9.length:=(Mr.1 a).1;unfold av bj;rw[ND];refine⟨by simpa using b,?_⟩;unfold dM;rw[a];simp[e,d]
end Go.Proofs.YtfhkmjbjafeckaaGreatDoor
