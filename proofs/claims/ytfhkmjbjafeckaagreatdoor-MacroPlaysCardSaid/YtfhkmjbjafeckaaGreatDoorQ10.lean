/- The plain law of charts' trees: in a right chart parents are ahead; what is counted. No program is named here. -/
import Derived.Test.YtfhkmjbjafeckaaGreatDoorQ9
import Derived.Test.YtfhkmjbjafeckaaGreatDoorQ6
import Derived.Test.YtfhkmjbjafeckaaGreatDoorRows
import Derived.LaidMore
import Derived.Stop.Joined
import Derived.Shelf.Sort.Plain
import Derived.Shelf.Slices.CompactS
set_option linter.unusedSimpArgs false
set_option linter.defProp false
namespace Go.Proofs.YtfhkmjbjafeckaaGreatDoor
open Go.Proofs.Tryz
open Go.RowKit
def I8(n:Nat)(f:Nat->Bool):Bool:=(List.range n).all f
def yI{n:Nat}{f:Nat->Bool}(h: ∀j,j<n->f j=true):I8 n f=true:=by
 simp only[I8,NB,NZ];exact h
def EY{n k:Nat}{f:Nat->Bool}(b:k<n)(h:f k=false):I8 n f=false:=by
 rw[<-Bool.not_eq_true,I8,NB];intro a;have:=a k (by simpa using b);rw[h]at this;cases this
def Lc{n:Nat}{f:Nat->Bool}(h:I8 n f=true)(j:Nat)(a:j<n):f j=true:=by
 simp only[I8,NB,NZ]at h;exact h j a
structure Rc where
 chart:Int
 born:Int
 steps:Int
 Z0:List Int
 vars:List Int
 mem:List (Int×List Int)
 timers:List (List UInt8×Int)
 over:Bool
def I7(n:Int):Bool:=decide (0<=n/\n<=1099511627776)
def wU(l:List (List UInt8×Int))(j:Nat):Bool:=
 bp (l.getD j ([],0)).1&&I7 (l.getD j ([],0)).2&&(decide (j=0)||Op.bytesLess (l.getD (j-1) ([],0)).1 (l.getD j ([],0)).1)
def eG(l:List (List UInt8×Int)):Bool:=I8 l.length (wU l)&&decide (l.length<=8)
/-! How bytes are read -/
def RC(b:List UInt8)(at_ a:Nat):Option (Nat×Nat):=if at_+a<=b.length/\zg (T3 b at_ a)<=4611686018427387904 then some (zg (T3 b at_ a),at_+a) else none
def T7(a:List UInt8)(at_:Nat):Option (List UInt8×Nat):=
 if at_+2<=a.length/\at_+2+zg (T3 a at_ 2)<=a.length then some (T3 a (at_+2) (zg (T3 a at_ 2)),at_+2+zg (T3 a at_ 2)) else none
def Ki(n:Nat):Int:=if n%2=1 then -(((n+1)/2:Nat):Int) else((n/2:Nat):Int)
def TN{d:Type}(c:List UInt8)(K:List Int->Nat->Option d):Nat->Nat->List Int->Option d
 |0,a,b=>K b a
 |n+1,a,b=>(RC c a 4).bind fun x=>TN c K n x.2 (b++[Ki x.1])
def TM{d:Type}(c:List UInt8)(K:List (Int×List Int)->Nat->Option d):Nat->Nat->List (Int×List Int)->Option d
 |0,a,b=>K b a
 |n+1,a,b=>(RC c a 1).bind fun x=>(RC c x.2 4).bind fun y=>TM c K n y.2 (b++[((x.1:Int),sw y.1)])
def T8{d:Type}(c:List UInt8)(K:List (List UInt8×Int)->Nat->Option d):Nat->Nat->List (List UInt8×Int)->Option d
 |0,a,b=>K b a
 |n+1,a,b=>(T7 c a).bind fun x=>(RC c x.2 8).bind fun y=>T8 c K n y.2 (b++[(x.1,(y.1:Int))])
def p9(d:List UInt8)(c b s:Int)(o:Bool)(e vs:List Int)(f:List (Int×List Int))(a:Nat):Option Rc:=
 (RC d a 1).bind fun x=>T8 d (fun g _=>some ⟨c,b,s,e,vs,f,g,o⟩) x.1 x.2 []
def p8(d:List UInt8)(c b s:Int)(o:Bool)(f vs:List Int)(a:Nat):Option Rc:=
 (RC d a 1).bind fun x=>TM d (fun g e=>p9 d c b s o f vs g e) x.1 x.2 []
def p7(d:List UInt8)(c b s:Int)(o:Bool)(f:List Int)(a:Nat):Option Rc:=
 (RC d a 1).bind fun x=>TN d (fun g e=>p8 d c b s o f g e) x.1 x.2 []
def p6(d:List UInt8)(c b s:Int)(o:Bool)(a:Nat):Option Rc:=(RC d a 4).bind fun x=>p7 d c b s o (sw x.1) x.2
def p5(d:List UInt8)(c b s:Int)(a:Nat):Option Rc:=(RC d a 1).bind fun x=>p6 d c b s (decide (x.1=1)) x.2
def p4(d:List UInt8)(c b:Int)(a:Nat):Option Rc:=(RC d a 8).bind fun x=>p5 d c b x.1 x.2
def p3(b:List UInt8)(c:Int)(a:Nat):Option Rc:=(RC b a 8).bind fun x=>p4 b c x.1 x.2
end Go.Proofs.YtfhkmjbjafeckaaGreatDoor
namespace Go.Proofs.YtfhkmjbjafeckaaGreatDoor
open Go.Proofs.Tryz
open Go.RowKit Go.ChangeShapes
section
variable {P:Program} {W:World} {nm:String} {ti tp te ts:TypeId} {ms:Array (String×TypeId)} {f:Field}
theorem xJ(hi:P.underlying ti=some (.interface ms))(m: ∀u,P.typeName? 3 u=some nm->u=tp)
 (L:P.underlying tp=some (.pointer te))(K:P.underlying te=some (.struct #[f]))(z:f.type=ts)(y:f.offset=0)(M:P.underlying ts=some .string)(J:P.cellsOf te=1)(w:P.cellsOf ts=1):
 ∀(l:List (String×List UInt8))(j:List Nat)(ps:List MemPlace),DataW.LaidVars P W (l.map fun x=>(x.1, .iface nm (.ptr (.agg [.lit (.string x.2)])))) ps->
  l.map (fun x=>P.globalNamed x.1)=j.map some->(∀g∈j,(P.globals[g]?).map (·.type)=some ti)->
  (∀b off,MemPlace.cell b off∈ps->(∃c t,W.heap[b]? =some (.cells c t (0,0)))/\ ∀u v,W.cell? ⟨b,off,none⟩=some (.iface u v)->Value.okWide P W .any 0 u v)->
  ∃k:List Addr,k.length=j.length/\(∀(i:Nat)(g:Nat)(a:Addr),j[i]? =some g->k[i]? =some a->W.cell? ⟨g,0,none⟩=some (.iface tp (.pointer (some a)))/\ ∃R Z,W.heap[a.block]? =some (.cells R Z (0,0)))/\
   (k.map fun a=>MemPlace.cell a.block a.off).Sublist ps
 | [],j,ps,_,B,_,_=>by
   obtain rfl:j=[]:=by cases j<;>simp_all
   exact⟨[],rfl,by simp,by simp⟩
 |(n,O)::l,j,ps,V,B,N,d=>by
   obtain⟨g,j,rfl⟩: ∃g E,j=g::E:=by cases j<;>simp_all
   simp only[Nh,PZ]at B;obtain⟨g0,t0,C,f0,p0,Y,q,H,A,G,r,rfl⟩:=V;obtain rfl:=OV (B.1.symm.trans q);obtain rfl:=OV ((N g (by simp)).symm.trans H);obtain⟨X⟩:=C
   have I: ∀u v,X=[.iface u v]->Value.okWide P W .any 0 u v:=fun u v e=>by
    subst e;exact(d g 0 (by simp[MemPlace.row])).2 u v (by simpa using R6 q A 0)
   obtain⟨s,s0,rfl,_,_,_,rfl⟩:=errorString_of_trod hi m L K z y M J w G I;obtain⟨k,S,T,U⟩:=xJ hi m L K z y M J w l j Y r B.2 (fun D h=>N D (by simp[h])) (fun b off h=>d b off (Ov _ h));refine⟨s::k,by simp[S],?_,?_⟩
   ·intro i D Q p o;cases i with
    | zero=>
      simp at p o;subst p o;exact⟨by simpa using R6 q A 0,(d s.block s.off (by simp[MemPlace.row])).1⟩
    |succ i=>exact T i D Q (by simpa using p) (by simpa using o)
   simp only[Nh,MemPlace.row];exact List.Sublist.trans (List.Sublist.append (by simp:[MemPlace.cell s.block s.off].Sublist _) U) (List.Sublist.append (List.sublist_append_right _ _) (List.Sublist.refl _))
end
def Tryz.row160: ∀u,prog.typeName? 3 u=some "*errors.errorString" ->u=369:=
 fun u a=>typeName_ptr_named (nm:= "errors.errorString") (by kernel_rfl) (by kernel_rfl) (by decide) u a
section
open Go.WideShapes
variable {H:Type} {enc:TypeId×Value->H} {P:Program}
theorem oD(g:laidOutB P=true){W e:World}(f:Below W.heap.size W e): ∀(ts:List TypeId)(vs:List Value)(a:List (DataW H))(ps:List MemPlace),
 (∀t∈ts,P.readableRec t=true/\t<P.types.size)->(∀x∈ps,x.block<W.heap.size)->DataW.TrodAll enc P W 0 (fun _=>true) true ts vs a ps->DataW.TrodAll enc P e 0 (fun b=>decide (b<W.heap.size)) true ts vs a ps
 |[],[],[],_,_,_,h=>h
 | t::ts,v::vs,d::a,ps,j,i,h=>by
   obtain⟨p,q,l,m,rfl⟩:=h;have r:=j t (by simp);exact⟨p,q,Below.trod g r.1 r.2 l f (fun x c=>i x (Ns _ c)),oD g f ts vs a q (fun n k=>j n (by simp[k])) (fun x c=>i x (Ov _ c)) m,rfl⟩
 |[],_::_,_,_,_,_,h=>by cases h
 |[],[],_::_,_,_,_,h=>by cases h
 |_::_,[],_,_,_,_,h=>by cases h
 |_::_,_::_,[],_,_,_,h=>by cases h
theorem Bt(y:laidOutB P=true){f:Func}{s:ChangeSpec}{v:TypeId}{W m:World}{args:Array Value}{e g:List (DataW H)}{a:List MemPlace}
 (c: ∀t∈f.params.toList,P.readableRec t=true/\t<P.types.size)(k:f.resultTypes= #[v])(l:P.underlying v=some .bool)
 (i:DataW.Whole enc P f.params.toList s.vars false W args.toList e g a)(r:s.vars=[])
 (d:g=[]->s.fn H (e++g)={ results:=[.lit (.bool true)],args:=e })(o:Below W.heap.size W m):s.post enc P f false true false false W args (.bool true) m:=by
 have b: ∀p∈a,p.block<W.heap.size:=fun p z=>i.lt p z;have j:=i;obtain⟨p,q,w,n,rfl,_,_⟩:=i;rw[r]at n;obtain⟨rfl,rfl⟩:=trodVars_none n;have d:=d rfl;rw[OM]at b;refine⟨e,[],p++[],[],p,[],j,?_,?_,?_,?_,fun h=>by cases h⟩
 ·rw[d,k];exact trodAll_mk1 (shut_bool l true)
 ·rw[d];exact oD y o _ _ _ _ c b w
 ·rw[d,r];rfl
 exact World.keptBut_mono (fun x u=>⟨u, .inr (.inl (by simpa using u))⟩) (o.frame (· ∈p++[]))
end
section
open Go.WideShapes
variable {H:Type} {enc:TypeId×Value->H} {P:Program} {w:World} {base:Nat} {spare:Nat->Bool} {held:Bool}
end
def mG{W:World}(h:laidMetH prog [("scrinium/api.ErrForm",Rows.laid_scrinium_api_ErrForm),("scrinium/api.ErrRange",Rows.laid_scrinium_api_ErrRange),("scrinium/api.ErrFull",Rows.laid_scrinium_api_ErrFull),("scrinium/api.ErrNone",Rows.laid_scrinium_api_ErrNone),("scrinium/api.ErrCorrupt",Rows.laid_scrinium_api_ErrCorrupt),("scrinium/api.ErrFuel",Rows.laid_scrinium_api_ErrFuel),("scrinium/api.ErrState",Rows.laid_scrinium_api_ErrState),("scrinium/api.ErrLong",Rows.laid_scrinium_api_ErrLong),("scrinium/api.ErrTwice",Rows.laid_scrinium_api_ErrTwice)] W): ∃z,ql W z:=by
 rw[Px _ _ _ (by kernel_rfl)]at h;obtain⟨J,I,u,c⟩:=h
 obtain⟨t,C,b,D⟩:=xJ (nm:= "*errors.errorString") Tryz.underlying40 Tryz.row160 Tryz.underlying369 Tryz.underlying389 rfl rfl Tryz.underlying9 (by kernel_rfl) (by kernel_rfl)
  [("scrinium/api.ErrForm",[102,111,114,109]),("scrinium/api.ErrRange",[114,97,110,103,101]),("scrinium/api.ErrFull",[102,117,108,108]),("scrinium/api.ErrNone",[110,111,110,101]),("scrinium/api.ErrCorrupt",[99,111,114,114,117,112,116]),("scrinium/api.ErrFuel",[102,117,101,108]),("scrinium/api.ErrState",[115,116,97,116,101]),("scrinium/api.ErrLong",[108,111,110,103]),("scrinium/api.ErrTwice",[116,119,105,99,101])] [0,1,2,3,4,5,6,7,8] J I (by kernel_rfl) (by
    intro g v;simp at v
    rcases v with rfl|rfl|rfl|rfl|rfl|rfl|rfl|rfl|rfl<;>kernel_rfl) c
 have f:=Qn D u
 match t,C with
 | [a,k,m,n,o,p,q,r,s],_=>
   refine⟨fun i=>[a,k,m,n,o,p,q,r,s].getD (i-1) a,b 0 _ _ rfl rfl,b 1 _ _ rfl rfl,b 2 _ _ rfl rfl,b 3 _ _ rfl rfl,b 4 _ _ rfl rfl,b 5 _ _ rfl rfl,b 6 _ _ rfl rfl,b 7 _ _ rfl rfl,b 8 _ _ rfl rfl,?_⟩;intro i j K E L G e
   have d: ∀x y,x<9->y<9->[a,k,m,n,o,p,q,r,s].getD x a=[a,k,m,n,o,p,q,r,s].getD y a->x=y:=by
    intro x y M N e;generalize H:[a,k,m,n,o,p,q,r,s]=l at*;have w:l.length=9:=by rw[<-H];rfl
    have A:l.getD x a=l[x]'(by omega):=by simp[List.getD,Ms (show x<l.length by omega)]
    have B:l.getD y a=l[y]'(by omega):=by simp[List.getD,Ms (show y<l.length by omega)]
    rw[A,B]at e;have:=(List.getElem_inj f (i:=x) (j:=y) (h₀:=by simp;omega) (h₁:=by simp;omega)).1 (by simp only[List.getElem_map];rw[e]);exact this
   have:=d (i-1) (j-1) (by omega) (by omega) e;omega
end Go.Proofs.YtfhkmjbjafeckaaGreatDoor
namespace Go.Proofs.YtfhkmjbjafeckaaGreatDoor
open Go.Proofs.Tryz
open Go.RowKit Go.ChangeShapes Go.WideShapes Go.Deep
section
variable {H:Type} {enc:TypeId×Value->H} {P:Program} {w:World} {base:Nat} {spare:Nat->Bool} {held:Bool}
theorem dO{a:Array Field}{cs:List Value}{n:Nat}{xs:List (DataW H×List MemPlace)}(m:xs.length=a.size)(j: ∀(i:Nat)(f:Field),a[i]? =some f->DataW.trod enc P w base spare held n f.type ((cs.drop f.offset).take (P.cellsOf f.type))=xs[i]?)
 (i:Nat)(f:Field)(c:a[i]? =some f)(b off k:Nat)(d:f.type=b)(e:f.offset=off)(g:P.cellsOf b=k): ∃y,DataW.trod enc P w base spare held n b ((cs.drop off).take k)=some y:=by
 have h:=j i f c;rw[d,e,g]at h;have l:i<a.size:=(N5.1 c).1;rw[Ms (by omega)]at h;exact⟨_,h⟩
def RE{d:Type}(w:World)(e:d->List AV)(c:d->Prop)(cs:List Value)(a:d):Prop:=SY (fun b _=>b<w.heap.size) w cs (e a)/\c a
theorem da{p:Type}{t e:TypeId}{size fuel:Nat}{cs:List Value}{x:DataW H×List MemPlace}(f:p->List AV)(d:p->Prop)(n: ∀a,(f a).length=size)(I:P.underlying t=some (.slice e))(z:P.cellsOf e=size)(g:0<size)
 (B: ∀(m:Nat)(cs:List Value)(y:DataW H×List MemPlace),DataW.trod enc P w base spare held m e cs=some y-> ∃a,RE w f d cs a)
 (h:DataW.trod enc P w base spare held fuel t cs=some x): ∃(v:Value) (l:List p),cs=[v]/\(v.oneCell'=true/\RV (fun b _=>b<w.heap.size) w v (.seq size (l.map f)))/\l.length<=maxLen/\ ∀a∈l,d a:=by
 obtain⟨v,l,r,q⟩:=Th (R:=RE w f d) I z g B h;have o:=LC f n q fun cs a _ G j u c J D=>G.1.at_.2 j u c J D;obtain⟨A,c,K,rfl,_,s,_,k⟩:=q;refine⟨_,l,r,⟨rfl,o⟩,s,fun a C=> ?_⟩;obtain⟨i,E,rfl⟩:=O1 C;exact(k.2 i E).2
theorem IY{l:List Value}(h:l.length=2): ∃a b,l=[a,b]:=by
 match l,h with
 |[a,b],_=>exact⟨a,b,rfl⟩
theorem Mc{l:List Value}(h:l.length=4): ∃a b c d,l=[a,b,c,d]:=by
 match l,h with
 |[a,b,c,d],_=>exact⟨a,b,c,d,rfl⟩
theorem Lo{l:List Value}(h:l.length=5): ∃a b c d e,l=[a,b,c,d,e]:=by
 match l,h with
 |[a,b,c,d,e],_=>exact⟨a,b,c,d,e,rfl⟩
theorem Mb{l:List Value}(h:l.length=6): ∃a b c d e f,l=[a,b,c,d,e,f]:=by
 match l,h with
 |[a,b,c,d,e,f],_=>exact⟨a,b,c,d,e,f,rfl⟩
end
def kl:prog.cellsOf 3=1:=by kernel_rfl
def jk:prog.cellsOf 9=1:=by kernel_rfl
def Lr:prog.cellsOf 79=1:=by kernel_rfl
def Eo:prog.cellsOf 73=1:=by kernel_rfl
def Mh:prog.cellsOf 23=1:=by kernel_rfl
def Mg:prog.cellsOf 24=1:=by kernel_rfl
def MS:prog.cellsOf 22=1:=by kernel_rfl
def TT:prog.cellsOf 78=2:=by kernel_rfl
def S4:prog.cellsOf 81=4:=by kernel_rfl
def T4:prog.cellsOf 75=6:=by kernel_rfl
def T5:prog.cellsOf 83=5:=by kernel_rfl
def TK:prog.cellsOf 140=2:=by kernel_rfl
def Mr:prog.cellsOf 26=5:=by kernel_rfl
section
variable {H:Type} {enc:TypeId×Value->H} {w:World} {base:Nat} {spare:Nat->Bool} {held:Bool}
set_option maxRecDepth 100000 in
theorem S9(m:Nat)(cs:List Value)(y:DataW H×List MemPlace)(h:DataW.trod enc prog w base spare held m 78 cs=some y): ∃a:mu,RE w bW rh cs a:=by
 obtain⟨r,n,_,_,d,b,c⟩:=Po Tryz.underlying78 h;rw[TT]at d;obtain⟨e,f,rfl⟩:=IY d;obtain⟨p,j⟩:=dO b c 0 _ rfl 3 0 1 rfl rfl kl;obtain⟨l,g, -, -⟩:=Ou Tryz.underlying3 (show DataW.trod enc prog w base spare held n 3 [e]=some p from j);cases g;obtain⟨q,k⟩:=dO b c 1 _ rfl 3 1 1 rfl rfl kl;obtain⟨o,i, -, -⟩:=Ou Tryz.underlying3 (show DataW.trod enc prog w base spare held n 3 [f]=some q from k);cases i;exact⟨⟨l,o⟩,⟨⟨rfl, .lit _⟩,⟨rfl, .lit _⟩,trivial⟩,trivial⟩
set_option maxRecDepth 100000 in
theorem Rg(m:Nat)(cs:List Value)(y:DataW H×List MemPlace)(h:DataW.trod enc prog w base spare held m 81 cs=some y): ∃a:la,RE w bB iU cs a:=by
 obtain⟨J,n,_,_,d,b,c⟩:=Po Tryz.underlying81 h;rw[S4]at d;obtain⟨e,f,g,i,rfl⟩:=Mc d;obtain⟨C,p⟩:=dO b c 0 _ rfl 3 0 1 rfl rfl kl;obtain⟨z,j, -, -⟩:=Ou Tryz.underlying3 (show DataW.trod enc prog w base spare held n 3 [e]=some C from p);cases j;obtain⟨D,q⟩:=dO b c 1 _ rfl 3 1 1 rfl rfl kl;obtain⟨A,k, -, -⟩:=Ou Tryz.underlying3 (show DataW.trod enc prog w base spare held n 3 [f]=some D from q);cases k;obtain⟨E,r⟩:=dO b c 2 _ rfl 9 2 1 rfl rfl jk;obtain⟨B,l, -,x⟩:=QB Tryz.underlying9 (show DataW.trod enc prog w base spare held n 9 [g]=some E from r);cases l;obtain⟨⟨t2⟩⟩:=B;obtain⟨G,s⟩:=dO b c 3 _ rfl 79 3 1 rfl rfl Lr;obtain⟨I,t,o,v,u,p3⟩:=da (size:=2) bW rh (fun _=>rfl) Tryz.underlying79 TT (by decide) S9 (show DataW.trod enc prog w base spare held n 79 [i]=some G from s);cases o;exact⟨⟨z,A,t2,t⟩,⟨⟨rfl, .lit _⟩,⟨rfl, .lit _⟩,⟨rfl, .lit _⟩,v,trivial⟩,(by simpa[ByteArray.size]using x),⟨u,p3⟩⟩
set_option maxRecDepth 100000 in
theorem TF(m:Nat)(cs:List Value)(y:DataW H×List MemPlace)(h:DataW.trod enc prog w base spare held m 75 cs=some y): ∃a:n4,RE w aL vr cs a:=by
 obtain⟨W,n,_,_,d,b,c⟩:=Po Tryz.underlying75 h;rw[T4]at d;obtain⟨e,f,g,i,j,k,rfl⟩:=Mb d;obtain⟨O,t⟩:=dO b c 0 _ rfl 9 0 1 rfl rfl jk;obtain⟨K,l, -,J⟩:=QB Tryz.underlying9 (show DataW.trod enc prog w base spare held n 9 [e]=some O from t);cases l;obtain⟨⟨t0⟩⟩:=K;obtain⟨P,u⟩:=dO b c 1 _ rfl 3 1 1 rfl rfl kl;obtain⟨L,o, -, -⟩:=Ou Tryz.underlying3 (show DataW.trod enc prog w base spare held n 3 [f]=some P from u);cases o;obtain⟨Q,v⟩:=dO b c 2 _ rfl 3 2 1 rfl rfl kl;obtain⟨M,p, -, -⟩:=Ou Tryz.underlying3 (show DataW.trod enc prog w base spare held n 3 [g]=some Q from v);cases p;obtain⟨R,x⟩:=dO b c 3 _ rfl 3 3 1 rfl rfl kl;obtain⟨N,q, -, -⟩:=Ou Tryz.underlying3 (show DataW.trod enc prog w base spare held n 3 [i]=some R from x);cases q;obtain⟨S,z⟩:=dO b c 4 _ rfl 73 4 1 rfl rfl Eo;obtain⟨U,B,r,G,D,p4⟩:=da (size:=4) bB iU (fun _=>rfl) Tryz.underlying73 S4 (by decide) Rg (show DataW.trod enc prog w base spare held n 73 [j]=some S from z);cases r;obtain⟨T,A⟩:=dO b c 5 _ rfl 73 5 1 rfl rfl Eo;obtain⟨V,C,s,I,E,p5⟩:=da (size:=4) bB iU (fun _=>rfl) Tryz.underlying73 S4 (by decide) Rg (show DataW.trod enc prog w base spare held n 73 [k]=some T from A);cases s;exact⟨⟨t0,L,M,N,B,C⟩,⟨⟨rfl, .lit _⟩,⟨rfl, .lit _⟩,⟨rfl, .lit _⟩,⟨rfl, .lit _⟩,G,I,trivial⟩,(by simpa[ByteArray.size]using J),⟨D,p4⟩,⟨E,p5⟩⟩
set_option maxRecDepth 100000 in
theorem TG(m:Nat)(cs:List Value)(y:DataW H×List MemPlace)(h:DataW.trod enc prog w base spare held m 83 cs=some y): ∃a:tS,RE w ax vp cs a:=by
 obtain⟨S,n,_,_,d,b,c⟩:=Po Tryz.underlying83 h;rw[T5]at d;obtain⟨e,f,g,i,j,rfl⟩:=Lo d;obtain⟨L,r⟩:=dO b c 0 _ rfl 3 0 1 rfl rfl kl;obtain⟨I,k, -, -⟩:=Ou Tryz.underlying3 (show DataW.trod enc prog w base spare held n 3 [e]=some L from r);cases k;obtain⟨M,s⟩:=dO b c 1 _ rfl 9 1 1 rfl rfl jk;obtain⟨J,l, -,G⟩:=QB Tryz.underlying9 (show DataW.trod enc prog w base spare held n 9 [f]=some M from s);cases l;obtain⟨⟨t1⟩⟩:=J;obtain⟨N,t⟩:=dO b c 2 _ rfl 79 2 1 rfl rfl Lr;obtain⟨Q,x,o,D,A,C⟩:=da (size:=2) bW rh (fun _=>rfl) Tryz.underlying79 TT (by decide) S9 (show DataW.trod enc prog w base spare held n 79 [g]=some N from t);cases o;obtain⟨O,u⟩:=dO b c 3 _ rfl 73 3 1 rfl rfl Eo;obtain⟨R,z,p,E,B,p3⟩:=da (size:=4) bB iU (fun _=>rfl) Tryz.underlying73 S4 (by decide) Rg (show DataW.trod enc prog w base spare held n 73 [i]=some O from u);cases p;obtain⟨P,v⟩:=dO b c 4 _ rfl 3 4 1 rfl rfl kl;obtain⟨K,q, -, -⟩:=Ou Tryz.underlying3 (show DataW.trod enc prog w base spare held n 3 [j]=some P from v);cases q;exact⟨⟨I,t1,x,z,K⟩,⟨⟨rfl, .lit _⟩,⟨rfl, .lit _⟩,D,E,⟨rfl, .lit _⟩,trivial⟩,(by simpa[ByteArray.size]using G),⟨A,C⟩,⟨B,p3⟩⟩
set_option maxRecDepth 100000 in
theorem Tu(m:Nat)(cs:List Value)(y:DataW H×List MemPlace)(h:DataW.trod enc prog w base spare held m 140 cs=some y): ∃a:No,RE w ga pa cs a:=by
 obtain⟨s,n,_,_,d,b,c⟩:=Po Tryz.underlying140 h;rw[TK]at d;obtain⟨e,f,rfl⟩:=IY d;obtain⟨q,j⟩:=dO b c 0 _ rfl 9 0 1 rfl rfl jk;obtain⟨o,g, -,l⟩:=QB Tryz.underlying9 (show DataW.trod enc prog w base spare held n 9 [e]=some q from j);cases g;obtain⟨⟨t0⟩⟩:=o;obtain⟨r,k⟩:=dO b c 1 _ rfl 3 1 1 rfl rfl kl;obtain⟨p,i, -, -⟩:=Ou Tryz.underlying3 (show DataW.trod enc prog w base spare held n 3 [f]=some r from k);cases i;exact⟨⟨t0,p⟩,⟨⟨rfl, .lit _⟩,⟨rfl, .lit _⟩,trivial⟩,(by simpa[pa,ByteArray.size]using l)⟩
set_option maxRecDepth 100000 in
theorem Ku(m:Nat)(cs:List Value)(y:DataW H×List MemPlace)(h:DataW.trod enc prog w base spare held m 26 cs=some y): ∃a:aq,RE w aA jL cs a:=by
 obtain⟨V,n,_,_,d,b,c⟩:=Po Tryz.underlying26 h;rw[Mr]at d;obtain⟨e,f,g,i,j,rfl⟩:=Lo d;obtain⟨N,r⟩:=dO b c 0 _ rfl 9 0 1 rfl rfl jk;obtain⟨L,k, -,K⟩:=QB Tryz.underlying9 (show DataW.trod enc prog w base spare held n 9 [e]=some N from r);cases k;obtain⟨⟨t0⟩⟩:=L;obtain⟨O,s⟩:=dO b c 1 _ rfl 3 1 1 rfl rfl kl;obtain⟨M,l, -, -⟩:=Ou Tryz.underlying3 (show DataW.trod enc prog w base spare held n 3 [f]=some O from s);cases l;obtain⟨P,t⟩:=dO b c 2 _ rfl 22 2 1 rfl rfl MS;obtain⟨S,x,o,G,B,E⟩:=da (size:=2) ga pa (fun _=>rfl) Tryz.underlying22 TK (by decide) Tu (show DataW.trod enc prog w base spare held n 22 [g]=some P from t);cases o;obtain⟨Q,u⟩:=dO b c 3 _ rfl 23 3 1 rfl rfl Mh;obtain⟨T,z,p,I,C,p3⟩:=da (size:=6) aL vr (fun _=>rfl) Tryz.underlying23 T4 (by decide) TF (show DataW.trod enc prog w base spare held n 23 [i]=some Q from u);cases p;obtain⟨R,v⟩:=dO b c 4 _ rfl 24 4 1 rfl rfl Mg;obtain⟨U,A,q,J,D,p4⟩:=da (size:=5) ax vp (fun _=>rfl) Tryz.underlying24 T5 (by decide) TG (show DataW.trod enc prog w base spare held n 24 [j]=some R from v);cases q;exact⟨⟨t0,M,x,z,A⟩,⟨⟨rfl, .lit _⟩,⟨rfl, .lit _⟩,G,I,J,trivial⟩,(by simpa[ByteArray.size]using K),⟨B,E⟩,⟨C,p3⟩,⟨D,p4⟩⟩
set_option maxRecDepth 100000 in
theorem su{n:Reach}{e:Nat}{v:Value}{d:DataW H}{p:List MemPlace}(m:Value.okWide prog w n e 26 v)(h:DataW.Trod enc prog w base spare held 26 v d p):
 ∃c:aq,jL c/\RV (fun b _=>b<w.heap.size) w v (.agg (aA c)):=by
 obtain⟨f,rfl,k⟩:=okWide_struct Tryz.underlying26 m;obtain⟨l⟩:=f;obtain⟨a,j⟩:=h;obtain⟨c,g,i⟩:=Ku _ _ _ j;exact⟨c,i,SY.agg g⟩
end
end Go.Proofs.YtfhkmjbjafeckaaGreatDoor
namespace Go.Proofs.YtfhkmjbjafeckaaGreatDoor
open Go.Proofs.Tryz
open Go.RowKit
structure TA(P:Program)(f:FuncId)(e:TypeId)(sz:Nat)(ls ls':List (List Value)):Prop where
 enter: ∀(args:Array Value)(w:World),(callFunc f args).run P w= .ok (.enter f args) w
 ZS: ∀l∈ls',l.length=sz/\ ∀u∈l,u.oneCell'=true
 calls: ∀(w:World)(base:Nat)(v:Value),w.ownsRow base e sz v ls.length ls.flatten->
  Calls P f #[v] w fun ex w'=> ∃v',ex= .returned v'/\v'.oneCell'=true/\w.grownBy w' v.ownBlock/\(∀g,v'.ownBlock=some g->v.ownBlock=some g)/\w'.ownsRow base e sz v' ls'.length ls'.flatten
def HW{S:Nat->Nat->Prop}{w:World}{row:Row}{a:List (List Value)}{xs:List Value}(b: ∀l∈a,l.length=row.sz)(e:0<row.sz)(r:xs.length=a.length*row.sz)(m:row.es=bM a)
 (s: ∀(i j:Nat)(c:AV),bx row.es i j=some c-> ∃u,xs[i*row.sz+j]? =some u/\RV S w u c):xs=a.flatten:=by
 apply Nv;intro p;have o:=eD a b;by_cases q:p<a.length*row.sz
 ·have f:p/row.sz<a.length:=Q5 (by rw[Ph];exact q);have t:p%row.sz<row.sz:=Qm _ e;have g:p/row.sz*row.sz+p%row.sz=p:=Q8 p row.sz;have v:=b _ (Oo f);have d:(a[p/row.sz])[p%row.sz]? =some ((a[p/row.sz])[p%row.sz]'(by omega)):=Ms _;have h:=fo a b _ _ _ _ (Ms f) d
  obtain⟨u,k,n⟩:=s (p/row.sz) (p%row.sz) (.lit ((a[p/row.sz])[p%row.sz]'(by omega))) (by
   rw[m];unfold bx bM;rw[NE,Ms f]
   simp only[NU,OD,NE,d])
  rw[g]at h k;have:u=(a[p/row.sz])[p%row.sz]'(by omega):=by cases n;rfl
  rw[h,k,this]
 rw[NL (by omega),NL (by omega)]
def KA{P:Program}{env:cf}{f:FuncId}{r A:Nat}{row:Row}{rows:Nat->Option Row}{vsv:Nat->Nat}{J d:List (List Value)}(L:TA P f row.e row.sz J d)(hr:rows r=some row)(hv:vsv r=A)(hrz:row.sz≠0)(hp:row.pure=true)(T:row.es=bM J):
 Tm P env f [.row r A] [r] rows vsv ⟨.row r (A+1),[.renew r { row with es:=bM d }]⟩:=by
 refine⟨L.enter,fun x s a w m vs hx p hro y hvs=> ?_⟩;obtain⟨H,q2,q3⟩:=hro r (by simp);rw[hr]at H;rw[hv]at q2
 match vs,y with
 |[u],_=>
 have hu:u=m.ρ r:=(hvs 0 u _ rfl rfl).row_.2 q2 row H;subst hu;have k:=(p.rows r row H).cells hrz;obtain⟨xs,S,k2,k3⟩:=k.own;have hn:row.es.length=J.length:=by rw[T];simp[bM]
 have Z: ∀l∈J,l.length=row.sz:=fun l y=>by
  obtain⟨i,hi,rfl⟩:=O1 y;have:=k.len i ((J[i]).map .lit) (by rw[T];simp[bM,hi]);simpa using this
 have hxx:xs=J.flatten:=HW Z k.pos (by rw[<-hn];exact S.1) T fun i j c hc=>by
  obtain⟨u,K,R⟩:=k3 i j c hc;rw[Mw hp]at R;exact⟨u,K,R⟩
 rw[hxx,hn]at S;refine(L.calls w x.w.heap.size (m.ρ r) S).mono ?_;rintro ex O ⟨I,rfl,K,B,h,ho⟩
 have hb:Below x.w.heap.size w O:=⟨B.os,B.tape,B.output,B.size,fun q N=>B.block q (Oa N p.Z4.size) fun e=>by
  have:=(be S e.symm).1
  omega⟩
 have E: ∀g,(m.ρ r).ownBlock=some g-> ∀o,¬m.S g o:=k.fresh q3;have C: ∀b o,m.S b o->l5 w O b o:=fun b o n=> .block (B.block b (p.low b o n) fun e=>E b e.symm o n);have hlow: ∀b o,m.S b o->b<O.heap.size:=fun b o n=>Oa (p.low b o n) B.size
 have U:dT x (s.renew r { row with es:=bM d } false) a O ⟨m.S,m6 m.ρ r I⟩:=by
  refine p.renew r _ false I m.S hb (fun b o n=>⟨n,C b o n⟩) (fun b o n=> .inl n) (fun q z M N Q D=>⟨?_,fun e=> ?_,fun _ n=>n⟩) ?_ fun b X=>⟨B.block b (p.fxlt X) fun e=>p.Z5 r row H b e.symm X,fun _ n=>n,fun e=>p.Z5 r row H b (h b e) X⟩
  ·exact B.block Q ((p.rows q z N).blk D).2 fun e=>p.inj r q row z H N (Oq M) Q e.symm D
  ·exact p.inj r q row z H N (Oq M) Q (h Q e) D
  have W: ∀(i:Nat)(e:List AV),(bM d)[i]? =some e->e.length=row.sz:=fun i e t=>by
   unfold bM at t;rw[NE]at t;cases y:d[i]? with
   |none=>rw[y]at t;cases t
   | some l=>
     rw[y]at t;cases t;simpa using (L.ZS l (My y)).1
  have Y:(bM d).length=d.length:=by unfold bM;rw[NT]
  have G:(⟨m.S,m6 m.ρ r I⟩:lP).ρ r=I:=aw ..;refine .inl ⟨k.pos,W,⟨d.flatten,by rw[G];show O.ownsRow _ _ _ _ (bM d).length _;rw[Y];exact ho,?_,?_⟩,fun t=> ?_,fun g v o _=> ?_,fun _ g v o=> ?_⟩
  ·intro u hu;obtain⟨l,y,hul⟩:=Rw.1 hu;exact(L.ZS l y).2 u hul
  ·intro i j c V;obtain⟨l,u,K,R,rfl⟩:=Bp V;refine⟨u,fo d (fun l y=>(L.ZS l y).1) i j l u K R,?_⟩;show if row.pure=true then _ else _
   rw[Mw hp];exact .lit u
  ·have t:m6 s.esc r false r=true:=t;rw[aw]at t;cases t
  ·rw[G]at v;exact E g (h g v) o
  rw[G]at v;exact E g (h g v) o
 refine⟨I,_,rfl,U, .row r (A+1) K ?_ fun _ row' _=> ?_⟩
 ·show A+1<=m6 s.vs r (s.vs r+1) r;rw[aw,q2];exact ND _
 show I=m6 m.ρ r I r;rw[aw]
section
variable {P:Program} {env:cf} {s:St}
theorem vX{o:Oper}{f:FuncId}{args:List AV}{a:List C'}{i:St}{row:Row}{h b:List (List Value)}{e:fU}{K:St->List fU->Prop}(r:Nat)(p:bJ env s.f o=some (f,args))(m:TA P f row.e row.sz h b)(d:row.sz≠0)(u:row.pure=true)(j:row.es=bM h)
 (n:Is args [.row r (s.vs r)])(w:Is (s.rows r) (some row))(t:Is (s.esc r) false)(l:Is ((⟨.row r (s.vs r+1),[.renew r { row with es:=bM b }]⟩:Out).app o.dst s) i)(g:Is (⟨[r],[r],[r],[]⟩:fU) e)(k:jt P env a i fun x c=>K x (e::c)):jt P env (⟨o, .always⟩::a) s K:=by
 unfold Is at g;subst g;exact qP p n (KA m w rfl d u j) (fun q v=>by rw[NP.1 v];exact t) l k
theorem oc{o:Oper}{f:FuncId}{args:List AV}{a:List C'}{g:St}{row:Row}{e b:List (List Value)}{K:St->List fU->Prop}(r:Nat)(m:bJ env s.f o=some (f,args))(j:A' P f [] row.e row.sz e b)(d:row.sz≠0)(p:row.pure=true)(h:row.es=bM e)
 (l:Is args [.row r (s.vs r)])(q:Is (s.rows r) (some row))(n:Is (s.esc r) false)(i:Is ((s.setRow r { row with es:=bM b }).put o.dst .any) g)(k:jt P env a g fun t c=>K t (⟨[r],[r],[r],[]⟩::c)):jt P env (⟨o, .always⟩::a) s K:=
 yG (rs:=[]) r m (show args=_ from l) q n j h p d i k
end
end Go.Proofs.YtfhkmjbjafeckaaGreatDoor
namespace Go.Proofs.YtfhkmjbjafeckaaGreatDoor
open Go.Proofs.Tryz
open Go.RowKit Go.Sort Go.Shelf Go.Lib
def PL{w:World}{g n:Nat}{os:Array Obj}{a:Array Value}{e:TypeId}{b:Nat×Nat}(F:Array Value)(c:w.heap[g]? =some (.cells a e b)):
 (grow (putRow id (Sort.ahead w n) g 0 F) os).heap[g]? =some (.cells (putCells id 0 F a) e b):=by
 have d:g<w.heap.size:=(N5.1 c).1;rw[heap_grow_old _ _ (by simpa[putRow,mapBlock,Sort.ahead]using d)];simp[putRow,mapBlock,Sort.ahead,Oe,c,onCells]
def lC{w:World}{g n:Nat}{os:Array Obj}(F:Array Value):w.grownBy (grow (putRow id (Sort.ahead w n) g 0 F) os) (some g):=by
 refine⟨rfl,rfl,rfl,by simp[putRow,mapBlock,Sort.ahead],fun k b a=> ?_⟩;rw[heap_grow_old _ _ (by simpa[putRow,mapBlock,Sort.ahead]using b)];have:g≠k:=fun e=>a (by rw[e]);simp[putRow,mapBlock,Sort.ahead,Oe,this]
def ub(a F:Array Value)(h:F.size<=a.size):(putCells id 0 F a).toList.take F.size=F.toList:=by
 apply Nv;intro j;by_cases b:j<F.size
 ·rw[PV b,Pg];simp[putCells,b,show j<a.size by omega]
 rw[Q4 (by omega),NL (by simp;omega)]
def kG{P:Program}{f:FuncId}{d:List Value}{e:TypeId}{sz:Nat}{b a:List (List Value)}(I:0<b.length)(c: ∀(args:Array Value)(w:World),(callFunc f args).run P w= .ok (.enter f args) w)
 (o:a.length=b.length)(s: ∀l∈b,l.length=sz)(p: ∀l∈a,l.length=sz/\ ∀u∈l,u.oneCell'=true)
 (h: ∀(w:World)(g cap:Nat),Holds id w g 0 b.flatten.toArray->g<w.heap.size->Calls P f (.slice (some ⟨g,0,none⟩) b.length cap::d).toArray w fun z D=>z= .returned (.tuple #[])/\ ∃n os,D=grow (putRow id (Sort.ahead w n) g 0 a.flatten.toArray) os):
 A' P f d e sz b a:=by
 refine⟨c,o,p,fun w x v J=> ?_⟩;have L:=eD b s;have m:=eD a fun l o=>(p l o).1;rcases J.2 with⟨_,K⟩|⟨g,cap,i,rfl,k,q,A,E,B,G⟩
 ·omega
 have t:b.length*sz<=i.size:=by rw[B];exact Ni _ A
 have H:g<w.heap.size:=(N5.1 q).1;refine(h w g cap (fun j C=>⟨?_,by simp[World.frozen?,q]⟩) H).mono ?_
 ·have r:j<b.flatten.length:=by simpa using C
  have y:(i.toList.take (b.length*sz))[j]? =b.flatten[j]? :=by rw[G]
  rw[PV (by omega)]at y;simp only[World.cell?,q,OI];simp only[Rk,NW,OB];rw[<-Pg,y,Pi _ j C,Ms r];rfl
 rintro z D ⟨rfl,n,os,rfl⟩;refine⟨rfl,lC _,by rw[m,o], .inr ⟨g,cap,_,rfl,k,PL _ q,A,E,by simp[putCells,B],?_⟩⟩;have:=ub i a.flatten.toArray (by simp[m,o];exact t);rw[show a.flatten.toArray.size=b.length*sz by simp[m,o]]at this;exact this
def nB{P:Program}{f:FuncId}{b:List Value}{e:TypeId}{sz:Nat}(a: ∀(args:Array Value)(w:World),(callFunc f args).run P w= .ok (.enter f args) w)
 (h: ∀(p:Option Addr)(cap:Nat)(w:World),Calls P f (.slice p 0 cap::b).toArray w fun i k=>i= .returned (.tuple #[])/\k=w):A' P f b e sz [] []:=by
 refine⟨a,rfl,fun l n=>by simp at n,fun w d v j=> ?_⟩
 have c: ∃p cap,v= .slice p 0 cap:=by
  rcases j.2 with⟨rfl,_⟩|⟨g,cap,m,rfl,_⟩
  ·exact⟨_,_,rfl⟩
  exact⟨_,_,rfl⟩
 obtain⟨p,cap,rfl⟩:=c;refine(h p cap w).mono ?_;rintro i k ⟨rfl,rfl⟩;exact⟨rfl,⟨rfl,rfl,rfl,ND _,fun _ _ _=>rfl⟩,j⟩
section
variable {α:Type} [Inhabited α]
theorem jZ(enc:α->Value)(w:World)(g:Nat)(d:Array α):putRow enc w g 0 d=putRow id w g 0 (d.map enc):=by
 unfold putRow;refine mapBlock_congr _ _ _ _ fun c _ _ _=> ?_;apply Array.ext_getElem?;intro k;simp only[putCells,Array.getElem?_mapIdx,Array.size_map];cases c[k]? with
 |none=>rfl
 | some y=>
   simp only[NU,P9,OI];by_cases a:0<=k/\k<d.size
   ·rw[Mw a,Mw a];simp[a.2]
   rw[Mv a,Mv a]
end
end Go.Proofs.YtfhkmjbjafeckaaGreatDoor
namespace Go.Proofs
open Go.Shelf
def Tryz.sortS_ren:Go.Shelf.Ren:=⟨fun|190=>88|125=>152|258=>151|128=>216|129=>217|302=>208|303=>209|304=>210|305=>211|306=>212|307=>213|308=>153|309=>214|310=>215|333=>246|329=>247|330=>248|334=>249|335=>250|336=>218|344=>281|n=>n,fun|31=>119|9=>9|3=>3|46=>231|0=>0|51=>168|53=>288|4=>4|183=>282|182=>281|131=>179|5=>5|218=>309|222=>313|228=>332|229=>71|n=>n,fun|n=>n⟩
def Tryz.sortS:Go.Proofs.Lays.n190 prog Tryz.sortS_ren:={
 mixed:=by kernel_rfl
 f125:=func152.trans (congrArg some (by kernel_rfl))
 f128:=func216.trans (congrArg some (by kernel_rfl))
 f129:=func217.trans (congrArg some (by kernel_rfl))
 f190:=func88.trans (congrArg some (by kernel_rfl))
 f258:=func151.trans (congrArg some (by kernel_rfl))
 f302:=func208.trans (congrArg some (by kernel_rfl))
 f303:=func209.trans (congrArg some (by kernel_rfl))
 f304:=func210.trans (congrArg some (by kernel_rfl))
 f305:=func211.trans (congrArg some (by kernel_rfl))
 f306:=func212.trans (congrArg some (by kernel_rfl))
 f307:=func213.trans (congrArg some (by kernel_rfl))
 f308:=func153.trans (congrArg some (by kernel_rfl))
 f309:=func214.trans (congrArg some (by kernel_rfl))
 f310:=func215.trans (congrArg some (by kernel_rfl))
 f329:=func247.trans (congrArg some (by kernel_rfl))
 f330:=func248.trans (congrArg some (by kernel_rfl))
 f333:=func246.trans (congrArg some (by kernel_rfl))
 f334:=func249.trans (congrArg some (by kernel_rfl))
 f335:=func250.trans (congrArg some (by kernel_rfl))
 f336:=func218.trans (congrArg some (by kernel_rfl))
 f344:=func281.trans (congrArg some (by kernel_rfl))
 t0:=Tryz.underlying0
 a0:=Tryz.isAgg0
 z0:=Tryz.sizeOf0
 v0:=Tryz.zeroValue0
 t3:=Tryz.underlying3
 a3:=Tryz.isAgg3
 z3:=Tryz.sizeOf3
 v3:=Tryz.zeroValue3
 t4:=Tryz.underlying4
 a4:=Tryz.isAgg4
 z4:=Tryz.sizeOf4
 v4:=Tryz.zeroValue4
 t5:=Tryz.underlying5
 a5:=Tryz.isAgg5
 z5:=Tryz.sizeOf5
 v5:=Tryz.zeroValue5
 t9:=Tryz.underlying9
 a9:=Tryz.isAgg9
 z9:=Tryz.sizeOf9
 v9:=Tryz.zeroValue9
 t31:=Tryz.underlying119
 a31:=Tryz.isAgg119
 z31:=Tryz.sizeOf119
 v31:=Tryz.zeroValue119
 t46:=Tryz.underlying231
 a46:=Tryz.isAgg231
 z46:=Tryz.sizeOf231
 v46:=Tryz.zeroValue231
 t51:=Tryz.underlying168
 a51:=Tryz.isAgg168
 z51:=Tryz.sizeOf168
 v51:=Tryz.zeroValue168
 t53:=Tryz.underlying288
 a53:=Tryz.isAgg288
 z53:=Tryz.sizeOf288
 v53:=Tryz.zeroValue288
 t131:=Tryz.underlying179
 a131:=Tryz.isAgg179
 z131:=Tryz.sizeOf179
 v131:=Tryz.zeroValue179
 t182:=Tryz.underlying281
 a182:=Tryz.isAgg281
 z182:=Tryz.sizeOf281
 v182:=Tryz.zeroValue281
 t183:=Tryz.underlying282
 a183:=Tryz.isAgg282
 z183:=Tryz.sizeOf282
 v183:=Tryz.zeroValue282
 t218:=Tryz.underlying309
 a218:=Tryz.isAgg309
 z218:=Tryz.sizeOf309
 v218:=Tryz.zeroValue309
 t222:=Tryz.underlying313
 a222:=Tryz.isAgg313
 z222:=Tryz.sizeOf313
 v222:=Tryz.zeroValue313
 t228:=Tryz.underlying332
 a228:=Tryz.isAgg332
 z228:=Tryz.sizeOf332
 v228:=Tryz.zeroValue332
 t229:=Tryz.underlying71
 a229:=Tryz.isAgg71
 z229:=Tryz.sizeOf71
 v229:=Tryz.zeroValue71 }
def Tryz.sortI_ren:Go.Shelf.Ren:=⟨fun|189=>174|125=>152|257=>226|128=>216|129=>217|294=>252|295=>253|296=>254|297=>255|298=>256|299=>257|216=>258|300=>259|301=>260|328=>285|329=>247|330=>248|331=>286|332=>287|215=>288|343=>301|n=>n,fun|28=>33|3=>3|46=>231|0=>0|51=>168|53=>288|4=>4|183=>282|182=>281|131=>179|5=>5|9=>9|218=>309|222=>313|228=>332|229=>71|n=>n,fun|n=>n⟩
def Tryz.sortI:Go.Proofs.Lays.n189 prog Tryz.sortI_ren:={
 mixed:=by kernel_rfl
 f125:=func152.trans (congrArg some (by kernel_rfl))
 f128:=func216.trans (congrArg some (by kernel_rfl))
 f129:=func217.trans (congrArg some (by kernel_rfl))
 f189:=func174.trans (congrArg some (by kernel_rfl))
 f215:=func288.trans (congrArg some (by kernel_rfl))
 f216:=func258.trans (congrArg some (by kernel_rfl))
 f257:=func226.trans (congrArg some (by kernel_rfl))
 f294:=func252.trans (congrArg some (by kernel_rfl))
 f295:=func253.trans (congrArg some (by kernel_rfl))
 f296:=func254.trans (congrArg some (by kernel_rfl))
 f297:=func255.trans (congrArg some (by kernel_rfl))
 f298:=func256.trans (congrArg some (by kernel_rfl))
 f299:=func257.trans (congrArg some (by kernel_rfl))
 f300:=func259.trans (congrArg some (by kernel_rfl))
 f301:=func260.trans (congrArg some (by kernel_rfl))
 f328:=func285.trans (congrArg some (by kernel_rfl))
 f329:=func247.trans (congrArg some (by kernel_rfl))
 f330:=func248.trans (congrArg some (by kernel_rfl))
 f331:=func286.trans (congrArg some (by kernel_rfl))
 f332:=func287.trans (congrArg some (by kernel_rfl))
 f343:=func301.trans (congrArg some (by kernel_rfl))
 t0:=Tryz.underlying0
 a0:=Tryz.isAgg0
 z0:=Tryz.sizeOf0
 v0:=Tryz.zeroValue0
 t3:=Tryz.underlying3
 a3:=Tryz.isAgg3
 z3:=Tryz.sizeOf3
 v3:=Tryz.zeroValue3
 t4:=Tryz.underlying4
 a4:=Tryz.isAgg4
 z4:=Tryz.sizeOf4
 v4:=Tryz.zeroValue4
 t5:=Tryz.underlying5
 a5:=Tryz.isAgg5
 z5:=Tryz.sizeOf5
 v5:=Tryz.zeroValue5
 t9:=Tryz.underlying9
 a9:=Tryz.isAgg9
 z9:=Tryz.sizeOf9
 v9:=Tryz.zeroValue9
 t28:=Tryz.underlying33
 a28:=Tryz.isAgg33
 z28:=Tryz.sizeOf33
 v28:=Tryz.zeroValue33
 t46:=Tryz.underlying231
 a46:=Tryz.isAgg231
 z46:=Tryz.sizeOf231
 v46:=Tryz.zeroValue231
 t51:=Tryz.underlying168
 a51:=Tryz.isAgg168
 z51:=Tryz.sizeOf168
 v51:=Tryz.zeroValue168
 t53:=Tryz.underlying288
 a53:=Tryz.isAgg288
 z53:=Tryz.sizeOf288
 v53:=Tryz.zeroValue288
 t131:=Tryz.underlying179
 a131:=Tryz.isAgg179
 z131:=Tryz.sizeOf179
 v131:=Tryz.zeroValue179
 t182:=Tryz.underlying281
 a182:=Tryz.isAgg281
 z182:=Tryz.sizeOf281
 v182:=Tryz.zeroValue281
 t183:=Tryz.underlying282
 a183:=Tryz.isAgg282
 z183:=Tryz.sizeOf282
 v183:=Tryz.zeroValue282
 t218:=Tryz.underlying309
 a218:=Tryz.isAgg309
 z218:=Tryz.sizeOf309
 v218:=Tryz.zeroValue309
 t222:=Tryz.underlying313
 a222:=Tryz.isAgg313
 z222:=Tryz.sizeOf313
 v222:=Tryz.zeroValue313
 t228:=Tryz.underlying332
 a228:=Tryz.isAgg332
 z228:=Tryz.sizeOf332
 v228:=Tryz.zeroValue332
 t229:=Tryz.underlying71
 a229:=Tryz.isAgg71
 z229:=Tryz.sizeOf71
 v229:=Tryz.zeroValue71 }
def Tryz.compS_ren:Go.Shelf.Ren:=⟨fun|194=>89|n=>n,fun|31=>119|9=>9|3=>3|4=>4|0=>0|n=>n,fun|n=>n⟩
def Tryz.compS:Go.Proofs.Lays.n194 prog Tryz.compS_ren:={
 mixed:=by kernel_rfl
 f194:=func89.trans (congrArg some (by kernel_rfl))
 t0:=Tryz.underlying0
 a0:=Tryz.isAgg0
 z0:=Tryz.sizeOf0
 v0:=Tryz.zeroValue0
 t3:=Tryz.underlying3
 a3:=Tryz.isAgg3
 z3:=Tryz.sizeOf3
 v3:=Tryz.zeroValue3
 t4:=Tryz.underlying4
 a4:=Tryz.isAgg4
 z4:=Tryz.sizeOf4
 v4:=Tryz.zeroValue4
 t9:=Tryz.underlying9
 a9:=Tryz.isAgg9
 z9:=Tryz.sizeOf9
 v9:=Tryz.zeroValue9
 t31:=Tryz.underlying119
 a31:=Tryz.isAgg119
 z31:=Tryz.sizeOf119
 v31:=Tryz.zeroValue119 }
end Go.Proofs
namespace Go.Proofs.YtfhkmjbjafeckaaGreatDoor
open Go.Proofs.Tryz
open Go.RowKit Go.Sort Go.Shelf Go.Lib
set_option maxHeartbeats 4000000 in
set_option maxRecDepth 100000 in
theorem Cy(p:Option Addr)(cap:Nat)(w:World):Calls prog 88 #[.slice p 0 cap] w fun ex w'=>ex= .returned (.tuple #[])/\w'=w:=by
 go_enter func88,ntmps88
 go_wp2_with (first|go_in)
 refine Pk 1 ?_;simp only[Code.rounds]
 go_wp2_with (first|go_in)
 refine Pk 1 ?_;simp only[Code.rounds]
 go_wp2_with (first|go_in)
 go_end0
 exact⟨rfl,rfl⟩
def Ez(s:List UInt8):List Value:=[encStr s]
def d8{a:Type}(f:a->Value): ∀l:List a,(l.map fun s=>[f s]).flatten=l.map f
 |[]=>rfl
 |x::l=>by simp[d8 f l]
def Hj{w:World}{g:Nat}{l:List (List UInt8)}(h:Holds id w g 0 (l.map encStr).toArray):Holds encStr w g 0 l.toArray:=fun j b=>by
 have a:j<l.length:=by simpa using b
 have:=h j (by simpa using a);rw[Pi _ j (by simpa using a)]at this;rw[Pi _ j b];simpa using this
def Tryz.sortEnter: ∀(args:Array Value)(w:World),(callFunc 88 args).run prog w= .ok (.enter 88 args) w:=Ra func88 (by kernel_rfl) rfl
def Tryz.compEnter: ∀(args:Array Value)(w:World),(callFunc 89 args).run prog w= .ok (.enter 89 args) w:=Ra func89 (by kernel_rfl) rfl
def ge(l:List (List UInt8)):List (List UInt8):=l.mergeSort fun x y=>decide (x<=y)
def A4(l:List (List UInt8))(f:l.length<4611686018427387904):A' prog 88 [] 9 1 (l.map Ez) ((ge l).map Ez):=by
 by_cases d:l=[]
 ·subst d;rw[show ge []=[] by simp[ge]];exact nB Tryz.sortEnter fun p a w=>Cy p a w
 refine kG (by rw[NT];exact Oi.2 d) Tryz.sortEnter (by simp[ge]) (fun x c=> ?_) (fun x c=> ?_) fun w g a b e=> ?_
 ·obtain⟨y,_,rfl⟩:=NG.1 c;rfl
 ·obtain⟨y,_,rfl⟩:=NG.1 c;exact⟨rfl,fun u h=>by rw[NP.1 h];rfl⟩
 have b:Holds id w g 0 (l.map encStr).toArray:=by rw[<-d8];exact b
 have:=Any.slices_Sort_string Tryz.sortS g 0 a l w (Hj b) e f;rw[NT];refine(show Calls prog 88 #[.slice (some ⟨g,0,none⟩) l.length a] w _ from this).mono ?_;rintro j k ⟨rfl,n,i,rfl⟩;refine⟨rfl,n,i,?_⟩;rw[jZ,show ((ge l).map Ez).flatten=(ge l).map encStr from d8 encStr _];simp[ge]
def EI(l:List (List UInt8))(J:l.length<=9223372036854775807):TA prog 89 9 1 (l.map Ez) ((Lib.compact l).map Ez):=by
 refine⟨Tryz.compEnter,fun x M=> ?_,fun w o v e=> ?_⟩
 ·obtain⟨y,_,rfl⟩:=NG.1 M;exact⟨rfl,fun u L=>by rw[NP.1 L];rfl⟩
 rw[show (l.map Ez).flatten=l.map encStr from d8 encStr _,NT]at e;rw[show ((Lib.compact l).map Ez).flatten=(Lib.compact l).map encStr from d8 encStr _,NT];by_cases z:l=[]
 ·subst z
  obtain⟨p,a,rfl⟩: ∃p a,v= .slice p 0 a:=by
   rcases e.2 with⟨rfl,_⟩|⟨g,a,b,rfl,_⟩
   ·exact⟨_,_,rfl⟩
   exact⟨_,_,rfl⟩
  refine(show Calls prog 89 #[.slice p 0 a] w _ from Any.slices_Compact_string_empty Tryz.compS p a w).mono ?_;rintro E N ⟨rfl,rfl⟩;exact⟨_,rfl,rfl,⟨rfl,rfl,rfl,ND _,fun _ _ _=>rfl⟩,fun _ h=>h,e⟩
 rcases e.2 with⟨_,h⟩|⟨g,a,b,rfl,c,d,A,G,B,H⟩
 ·exact absurd (Nl h) z
 have O:g<w.heap.size:=(N5.1 d).1
 have I:Holds encStr w g 0 l.toArray:=fun j D=>by
  have m:j<l.length:=by simpa using D
  have r:(b.toList.take (l.length*1))[j]? =(l.map encStr)[j]? :=by rw[H]
  rw[PV (by omega),NE,Ms m]at r;refine⟨?_,by simp[World.frozen?,d]⟩;simp only[World.cell?,d,OI,Rk,NW,OB];rw[<-Pg,r,Pi _ j D];rfl
 have i:(Lib.compact l).length<=l.length:=by
  unfold Lib.compact Lib.compactUpTo;rw[NT];exact NN (NV ..) (by simp)
 refine(show Calls prog 89 #[.slice (some ⟨g,0,none⟩) l.length a] w _ from Any.slices_Compact_string Tryz.compS g 0 a l w I J A).mono ?_;rintro E N ⟨rfl,q,rfl⟩;rw[jZ];generalize C:((Lib.compact l++List.replicate (l.length-(Lib.compact l).length) []).toArray.map encStr)=F;have f:F.size=l.length:=by rw[<-C];simp;omega
 have k: ∀W:World,grow W #[]=W:=fun W=>by simp[grow]
 have s:=PL (n:=q) (os:= #[]) F d;have t:=lC (w:=w) (g:=g) (n:=q) (os:= #[]) F;rw[k]at s t;refine⟨_,rfl,rfl,t,fun _ h=>h,⟨by rw[NT,Q7], .inr ⟨g,a,_,rfl,c,s,NN i A,G,by simp[putCells,B],?_⟩⟩⟩;have K:=ub b F (by rw[f,B];omega);rw[Q7]
 have:((putCells id 0 F b).toList.take (Lib.compact l).length)=(F.toList).take (Lib.compact l).length:=by
  rw[<-K,Ri,P3 (by omega)]
 rw[this, <-C];simp
end Go.Proofs.YtfhkmjbjafeckaaGreatDoor
namespace Go.Proofs.YtfhkmjbjafeckaaGreatDoor
open Go.Proofs.Tryz
open Go.RowKit
structure Right(c:aq):Prop where
 Z6:c.Z9.length<=32
 par: ∀(k:Nat)(s:n4),c.Z9[k]? =some s-> -1<=s.parent/\s.parent<k
 top: ∃(m:Nat) (q:n4),c.initial=m/\c.Z9[m]? =some q/\q.parent= -1
def cg{p:Nat->Bool}{n:Nat}(h:bE p n=none)(j:Nat)(a:j<n):p j=true:=by
 unfold bE at h;rw[Pt]at h;simpa using h j (by simpa using a)
def B6{c:aq}(h:(n9 c).1=0):Right c:=by
 unfold n9 at h;split at h
 ·simp at h
 rename_i l;split at h
 ·simp at h
 split at h
 ·simp at h
 split at h
 ·simp at h
 rename_i e;split at h
 ·simp at h
 rename_i f;refine⟨by omega,fun k s d=> ?_,?_⟩
 ·have g:k<c.Z9.length:=(Mt.1 d).1;have:=cg e k g;unfold lz at this;rw[d]at this
  have i:dE c k s=true:=by
   simp only[cL,Mx]at this;exact this.1.1.1.2
  simp only[dE,OO,Mx,NI,OQ]at i;omega
 have a:nD c=true:=by simpa using f
 unfold nD at a;split at a
 ·rename_i q b;simp only[Mx,OQ]at a;unfold at_ at b;split at b
  ·rename_i j;exact⟨c.initial.toNat,q,by omega,b,a.1⟩
  cases b
 cases a
def low(c:aq)(n:Nat)(k:Nat):Bool:=match c.Z9[k]? with
 |some s=>decide (s.parent+1<n)&& !aU s
 |none=>false
def zr{c:aq}{i:Int}{k:Nat}(h:k∈av c i true): ∃s,c.Z9[k]? =some s/\s.parent=i/\aU s=false/\k<c.Z9.length:=by
 obtain⟨b,a⟩:=qD h;obtain⟨s,d,_⟩:=aS b;unfold dM at a;rw[d]at a;simp at a;exact⟨s,d,a.1,a.2,b⟩
def Ei{c:aq}{i:Int}{k:Nat}{s:n4}(a:c.Z9[k]? =some s)(e:s.parent=i)(d:aU s=false):k∈av c i true:=by
 have b:k<c.Z9.length:=(Mt.1 a).1;unfold av bg;rw[NF];refine⟨by simpa using b,?_⟩;unfold dM;rw[a];simp[e,d]
end Go.Proofs.YtfhkmjbjafeckaaGreatDoor
