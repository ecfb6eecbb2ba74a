/- The plain law of charts' trees: in a right chart parents are ahead; what is counted. No program is named here. -/
import Derived.Test.YtdpjgflalmnkdaaGreatDoorT9
import Derived.Test.YtdpjgflalmnkdaaGreatDoorT6
import Derived.Test.YtdpjgflalmnkdaaGreatDoorRows
import Derived.LaidMore
import Derived.Stop.Joined
import Derived.Shelf.Sort.Plain
import Derived.Shelf.Slices.CompactS
set_option linter.unusedSimpArgs false
namespace Go.Proofs.YtdpjgflalmnkdaaGreatDoor
open Go.Proofs.Tryz
open Go.RowKit
def CL (n:Nat) (f:Nat->Bool):Bool:=(List.range n).all f
theorem pC {n:Nat} {f:Nat->Bool} (h: ∀j,j<n->f j=true):CL n f=true:=by
 simp only[CL,K7,Kw];exact h
theorem sR {n k:Nat} {f:Nat->Bool} (hk:k<n) (h:f k=false):CL n f=false:=by
 rw[<-Bool.not_eq_true,CL,K7];intro hh;have:=hh k (by simpa using hk);rw[h]at this;cases this
theorem JO {n:Nat} {f:Nat->Bool} (h:CL n f=true) (j:Nat) (hj:j<n):f j=true:=by
 simp only[CL,K7,Kw]at h;exact h j hj
structure Rc where
 chart:Int
 born:Int
 steps:Int
 active:List Int
 vars:List Int
 mem:List (Int×List Int)
 timers:List (List UInt8×Int)
 over:Bool
def AJ (n:Int):Bool:=decide (0<=n/\n<=1099511627776)
def kC (l:List (List UInt8×Int)) (j:Nat):Bool:=
 bd (l.getD j ([],0)).1&&AJ (l.getD j ([],0)).2&&(decide (j=0)||Op.bytesLess (l.getD (j-1) ([],0)).1 (l.getD j ([],0)).1)
def dF (l:List (List UInt8×Int)):Bool:=CL l.length (kC l)&&decide (l.length<=8)
/-! How bytes are read -/
def pnum (bs:List UInt8) (at_ wd:Nat):Option (Nat×Nat):=if at_+wd<=bs.length/\xX (cut bs at_ wd)<=4611686018427387904 then some (xX (cut bs at_ wd),at_+wd) else none
def ptext (bs:List UInt8) (at_:Nat):Option (List UInt8×Nat):=
 if at_+2<=bs.length/\at_+2+xX (cut bs at_ 2)<=bs.length then some (cut bs (at_+2) (xX (cut bs at_ 2)),at_+2+xX (cut bs at_ 2)) else none
def I1 (n:Nat):Int:=if n%2=1 then -(((n+1)/2:Nat):Int) else((n/2:Nat):Int)
def pvars {α:Type} (bs:List UInt8) (K:List Int->Nat->Option α):Nat->Nat->List Int->Option α
 |0,a,acc=>K acc a
 |n+1,a,acc=>(pnum bs a 4).bind fun x=>pvars bs K n x.2 (acc++[I1 x.1])
def pmems {α:Type} (bs:List UInt8) (K:List (Int×List Int)->Nat->Option α):Nat->Nat->List (Int×List Int)->Option α
 |0,a,acc=>K acc a
 |n+1,a,acc=>(pnum bs a 1).bind fun x=>(pnum bs x.2 4).bind fun y=>pmems bs K n y.2 (acc++[((x.1:Int),setOf y.1)])
def ptms {α:Type} (bs:List UInt8) (K:List (List UInt8×Int)->Nat->Option α):Nat->Nat->List (List UInt8×Int)->Option α
 |0,a,acc=>K acc a
 |n+1,a,acc=>(ptext bs a).bind fun x=>(pnum bs x.2 8).bind fun y=>ptms bs K n y.2 (acc++[(x.1,(y.1:Int))])
def p9 (bs:List UInt8) (c b s:Int) (o:Bool) (ac vs:List Int) (ms:List (Int×List Int)) (a:Nat):Option Rc:=
 (pnum bs a 1).bind fun x=>ptms bs (fun ts _=>some ⟨c,b,s,ac,vs,ms,ts,o⟩) x.1 x.2 []
def p8 (bs:List UInt8) (c b s:Int) (o:Bool) (ac vs:List Int) (a:Nat):Option Rc:=
 (pnum bs a 1).bind fun x=>pmems bs (fun ms a'=>p9 bs c b s o ac vs ms a') x.1 x.2 []
def p7 (bs:List UInt8) (c b s:Int) (o:Bool) (ac:List Int) (a:Nat):Option Rc:=
 (pnum bs a 1).bind fun x=>pvars bs (fun vs a'=>p8 bs c b s o ac vs a') x.1 x.2 []
def p6 (bs:List UInt8) (c b s:Int) (o:Bool) (a:Nat):Option Rc:=(pnum bs a 4).bind fun x=>p7 bs c b s o (setOf x.1) x.2
def p5 (bs:List UInt8) (c b s:Int) (a:Nat):Option Rc:=(pnum bs a 1).bind fun x=>p6 bs c b s (decide (x.1=1)) x.2
def p4 (bs:List UInt8) (c b:Int) (a:Nat):Option Rc:=(pnum bs a 8).bind fun x=>p5 bs c b x.1 x.2
def p3 (bs:List UInt8) (c:Int) (a:Nat):Option Rc:=(pnum bs a 8).bind fun x=>p4 bs c x.1 x.2
end Go.Proofs.YtdpjgflalmnkdaaGreatDoor
namespace Go.Proofs.YtdpjgflalmnkdaaGreatDoor
open Go.Proofs.Tryz
open Go.RowKit Go.ChangeShapes
section
variable {P:Program} {W:World} {nm:String} {ti tp te ts:TypeId} {ms:Array (String×TypeId)} {f:Field}
theorem vD (hi:P.underlying ti=some (.interface ms)) (hrow: ∀u,P.typeName? 3 u=some nm->u=tp)
 (hp:P.underlying tp=some (.pointer te)) (he:P.underlying te=some (.struct #[f])) (hft:f.type=ts) (hfo:f.offset=0) (hs:P.underlying ts=some .string) (hc:P.cellsOf te=1) (hcs:P.cellsOf ts=1):
 ∀(l:List (String×List UInt8)) (gs:List Nat) (ps:List MemPlace),DataW.LaidVars P W (l.map fun x=>(x.1, .iface nm (.ptr (.agg [.lit (.string x.2)])))) ps->
  l.map (fun x=>P.globalNamed x.1)=gs.map some->(∀g∈gs,(P.globals[g]?).map (·.type)=some ti)->
  (∀b off,MemPlace.cell b off∈ps->(∃c t,W.heap[b]? =some (.cells c t (0,0)))/\ ∀u v,W.cell? ⟨b,off,none⟩=some (.iface u v)->Value.okWide P W .any 0 u v)->
  ∃adl:List Addr,adl.length=gs.length/\(∀(i:Nat) (g:Nat) (a:Addr),gs[i]? =some g->adl[i]? =some a->W.cell? ⟨g,0,none⟩=some (.iface tp (.pointer (some a)))/\ ∃ca ta,W.heap[a.block]? =some (.cells ca ta (0,0)))/\
   (adl.map fun a=>MemPlace.cell a.block a.off).Sublist ps
 | [],gs,ps,_,hg,_,_=>by
   obtain rfl:gs=[]:=by cases gs<;>simp_all
   exact⟨[],rfl,by simp,by simp⟩
 |(n,text)::l,gs,ps,hv,hg,ht,hrows=>by
   obtain⟨g,gs,rfl⟩: ∃g gs',gs=g::gs':=by cases gs<;>simp_all
   simp only[LR,Ml]at hg;obtain⟨g0,t0,cs0,f0,p0,q0,hg0,ht0,hv0,hd0,hrest,rfl⟩:=hv;obtain rfl:=MF (hg.1.symm.trans hg0);obtain rfl:=MF ((ht g (by simp)).symm.trans ht0);obtain⟨l0⟩:=cs0
   have ok0: ∀u v,l0=[.iface u v]->Value.okWide P W .any 0 u v:=fun u v e=>by
    subst e;exact(hrows g 0 (by simp[MemPlace.row])).2 u v (by simpa using PH hg0 hv0 0)
   obtain⟨a0,s0,rfl,_,_,_,rfl⟩:=errorString_of_trod hi hrow hp he hft hfo hs hc hcs hd0 ok0;obtain⟨adl,h1,h2,h3⟩:=vD hi hrow hp he hft hfo hs hc hcs l gs q0 hrest hg.2 (fun g' h=>ht g' (by simp[h])) (fun b off h=>hrows b off (M6 _ h));refine⟨a0::adl,by simp[h1],?_,?_⟩
   ·intro i g' a' hg' ha';cases i with
    | zero=>
      simp at hg' ha';subst hg' ha';exact⟨by simpa using PH hg0 hv0 0,(hrows a0.block a0.off (by simp[MemPlace.row])).1⟩
    |succ i=>exact h2 i g' a' (by simpa using hg') (by simpa using ha')
   ·simp only[LR,MemPlace.row];exact List.Sublist.trans (List.Sublist.append (by simp:[MemPlace.cell a0.block a0.off].Sublist _) h3) (List.Sublist.append (List.sublist_append_right _ _) (List.Sublist.refl _))
end
theorem Tryz.row160: ∀u,prog.typeName? 3 u=some "*errors.errorString" ->u=307:=
 fun u hu=>typeName_ptr_named (nm:= "errors.errorString") (by kernel_rfl) (by kernel_rfl) (by decide) u hu
section
open Go.WideShapes
variable {H:Type} {enc:TypeId×Value->H} {P:Program}
theorem mb (hl:laidOutB P=true) {W W':World} (hb:Below W.heap.size W W'): ∀(ts:List TypeId) (vs:List Value) (ds:List (DataW H)) (ps:List MemPlace),
 (∀t∈ts,P.readableRec t=true/\t<P.types.size)->(∀x∈ps,x.block<W.heap.size)->DataW.TrodAll enc P W 0 (fun _=>true) true ts vs ds ps->DataW.TrodAll enc P W' 0 (fun b=>decide (b<W.heap.size)) true ts vs ds ps
 |[],[],[],_,_,_,h=>h
 | t::ts,v::vs,d::ds,ps,ht,hp,h=>by
   obtain⟨p,q,h1,h2,rfl⟩:=h;have r:=ht t (by simp);exact⟨p,q,Below.trod hl r.1 r.2 h1 hb (fun x hx=>hp x (LW _ hx)),mb hl hb ts vs ds q (fun t' h'=>ht t' (by simp[h'])) (fun x hx=>hp x (M6 _ hx)) h2,rfl⟩
 |[],_::_,_,_,_,_,h=>by cases h
 |[],[],_::_,_,_,_,h=>by cases h
 |_::_,[],_,_,_,_,h=>by cases h
 |_::_,_::_,[],_,_,_,h=>by cases h
theorem Gk (hl:laidOutB P=true) {f:Func} {s:ChangeSpec} {tb:TypeId} {W W':World} {args:Array Value} {ds gs:List (DataW H)} {before:List MemPlace}
 (hpar: ∀t∈f.params.toList,P.readableRec t=true/\t<P.types.size) (hrt:f.resultTypes= #[tb]) (htb:P.underlying tb=some .bool)
 (hW:DataW.Whole enc P f.params.toList s.vars false W args.toList ds gs before) (hv:s.vars=[])
 (hs:gs=[]->s.fn H (ds++gs)={ results:=[.lit (.bool true)],args:=ds }) (hb:Below W.heap.size W W'):s.post enc P f false true false false W args (.bool true) W':=by
 have hlt: ∀p∈before,p.block<W.heap.size:=fun p hp=>hW.lt p hp;have hW':=hW;obtain⟨p,q,hA,hV,rfl,_,_⟩:=hW;rw[hv]at hV;obtain⟨rfl,rfl⟩:=trodVars_none hV;have hs:=hs rfl;rw[Lo]at hlt;refine⟨ds,[],p++[],[],p,[],hW',?_,?_,?_,?_,fun h=>by cases h⟩
 ·rw[hs,hrt];exact trodAll_mk1 (shut_bool htb true)
 ·rw[hs];exact mb hl hb _ _ _ _ hpar hlt hA
 ·rw[hs,hv];rfl
 ·exact World.keptBut_mono (fun x hx=>⟨hx, .inr (.inl (by simpa using hx))⟩) (hb.frame (· ∈p++[]))
end
section
open Go.WideShapes
variable {H:Type} {enc:TypeId×Value->H} {P:Program} {w:World} {base:Nat} {spare:Nat->Bool} {held:Bool}
end
theorem tc {W:World} (h:laidMetH prog [("scrinium/api.ErrForm",Rows.laid_scrinium_api_ErrForm),("scrinium/api.ErrRange",Rows.laid_scrinium_api_ErrRange),("scrinium/api.ErrFull",Rows.laid_scrinium_api_ErrFull),("scrinium/api.ErrNone",Rows.laid_scrinium_api_ErrNone),("scrinium/api.ErrCorrupt",Rows.laid_scrinium_api_ErrCorrupt),("scrinium/api.ErrFuel",Rows.laid_scrinium_api_ErrFuel),("scrinium/api.ErrState",Rows.laid_scrinium_api_ErrState),("scrinium/api.ErrLong",Rows.laid_scrinium_api_ErrLong),("scrinium/api.ErrTwice",Rows.laid_scrinium_api_ErrTwice)] W): ∃ad,Sents W ad:=by
 rw[Nu _ _ _ (by kernel_rfl)]at h;obtain⟨ps,hv,hnd,hrows⟩:=h
 obtain⟨adl,h1,h2,h3⟩:=vD (nm:= "*errors.errorString") Tryz.underlying40 Tryz.row160 Tryz.underlying307 Tryz.underlying331 rfl rfl Tryz.underlying9 (by kernel_rfl) (by kernel_rfl)
  [("scrinium/api.ErrForm",[102,111,114,109]),("scrinium/api.ErrRange",[114,97,110,103,101]),("scrinium/api.ErrFull",[102,117,108,108]),("scrinium/api.ErrNone",[110,111,110,101]),("scrinium/api.ErrCorrupt",[99,111,114,114,117,112,116]),("scrinium/api.ErrFuel",[102,117,101,108]),("scrinium/api.ErrState",[115,116,97,116,101]),("scrinium/api.ErrLong",[108,111,110,103]),("scrinium/api.ErrTwice",[116,119,105,99,101])] [1,2,3,4,5,6,0,7,8] ps hv (by kernel_rfl) (by
    intro g hg;simp at hg
    rcases hg with rfl|rfl|rfl|rfl|rfl|rfl|rfl|rfl|rfl<;>kernel_rfl) hrows
 have hnd':=OI h3 hnd
 match adl,h1 with
 | [a1,a2,a3,a4,a5,a6,a7,a8,a9],_=>
   refine⟨fun i=>[a1,a2,a3,a4,a5,a6,a7,a8,a9].getD (i-1) a1,h2 0 _ _ rfl rfl,h2 1 _ _ rfl rfl,h2 2 _ _ rfl rfl,h2 3 _ _ rfl rfl,h2 4 _ _ rfl rfl,h2 5 _ _ rfl rfl,h2 6 _ _ rfl rfl,h2 7 _ _ rfl rfl,h2 8 _ _ rfl rfl,?_⟩;intro i j hi hi' hj hj' e
   have hinj: ∀x y,x<9->y<9->[a1,a2,a3,a4,a5,a6,a7,a8,a9].getD x a1=[a1,a2,a3,a4,a5,a6,a7,a8,a9].getD y a1->x=y:=by
    intro x y hx hy e;generalize hl:[a1,a2,a3,a4,a5,a6,a7,a8,a9]=l at*;have hlen:l.length=9:=by rw[<-hl];rfl
    have ex:l.getD x a1=l[x]'(by omega):=by simp[List.getD,KZ (show x<l.length by omega)]
    have ey:l.getD y a1=l[y]'(by omega):=by simp[List.getD,KZ (show y<l.length by omega)]
    rw[ex,ey]at e;have:=(List.getElem_inj hnd' (i:=x) (j:=y) (h₀:=by simp;omega) (h₁:=by simp;omega)).1 (by simp only[List.getElem_map];rw[e]);exact this
   have:=hinj (i-1) (j-1) (by omega) (by omega) e;omega
end Go.Proofs.YtdpjgflalmnkdaaGreatDoor
namespace Go.Proofs.YtdpjgflalmnkdaaGreatDoor
open Go.Proofs.Tryz
open Go.RowKit Go.ChangeShapes Go.WideShapes Go.Deep
section
variable {H:Type} {enc:TypeId×Value->H} {P:Program} {w:World} {base:Nat} {spare:Nat->Bool} {held:Bool}
theorem bZ {fs:Array Field} {cs:List Value} {n:Nat} {xs:List (DataW H×List MemPlace)} (hx:xs.length=fs.size) (hg: ∀(i:Nat) (f:Field),fs[i]? =some f->DataW.trod enc P w base spare held n f.type ((cs.drop f.offset).take (P.cellsOf f.type))=xs[i]?)
 (i:Nat) (f:Field) (hf:fs[i]? =some f) (ty off k:Nat) (h1:f.type=ty) (h2:f.offset=off) (h3:P.cellsOf ty=k): ∃y,DataW.trod enc P w base spare held n ty ((cs.drop off).take k)=some y:=by
 have h:=hg i f hf;rw[h1,h2,h3]at h;have hi:i<fs.size:=(Kz.1 hf).1;rw[KZ (by omega)]at h;exact⟨_,h⟩
def RE {α:Type} (w:World) (en:α->List AV) (few:α->Prop) (cs:List Value) (a:α):Prop:=RVs (fun b _=>b<w.heap.size) w cs (en a)/\few a
theorem cu {α:Type} {t e:TypeId} {size fuel:Nat} {cs:List Value} {x:DataW H×List MemPlace} (en:α->List AV) (few:α->Prop) (hen: ∀a,(en a).length=size) (ht:P.underlying t=some (.slice e)) (hC:P.cellsOf e=size) (hpos:0<size)
 (hR: ∀(m:Nat) (cs:List Value) (y:DataW H×List MemPlace),DataW.trod enc P w base spare held m e cs=some y-> ∃a,RE w en few cs a)
 (h:DataW.trod enc P w base spare held fuel t cs=some x): ∃(v:Value) (l:List α),cs=[v]/\(v.oneCell'=true/\RV (fun b _=>b<w.heap.size) w v (.seq size (l.map en)))/\l.length<=maxLen/\ ∀a∈l,few a:=by
 obtain⟨v,l,e1,hl⟩:=open_list (R:=RE w en few) ht hC hpos hR h;have hrv:=Cy en hen hl fun cs a _ hr j u c hu hc=>hr.1.at_.2 j u c hu hc;obtain⟨A,c,xs,rfl,_,h2,_,hrow⟩:=hl;refine⟨_,l,e1,⟨rfl,hrv⟩,h2,fun a ha=> ?_⟩;obtain⟨i,hi,rfl⟩:=Lr ha;exact(hrow.2 i hi).2
theorem GB {l:List Value} (h:l.length=2): ∃a b,l=[a,b]:=by
 match l,h with
 |[a,b],_=>exact⟨a,b,rfl⟩
theorem KJ {l:List Value} (h:l.length=4): ∃a b c d,l=[a,b,c,d]:=by
 match l,h with
 |[a,b,c,d],_=>exact⟨a,b,c,d,rfl⟩
theorem IU {l:List Value} (h:l.length=5): ∃a b c d e,l=[a,b,c,d,e]:=by
 match l,h with
 |[a,b,c,d,e],_=>exact⟨a,b,c,d,e,rfl⟩
theorem KI {l:List Value} (h:l.length=6): ∃a b c d e f,l=[a,b,c,d,e,f]:=by
 match l,h with
 |[a,b,c,d,e,f],_=>exact⟨a,b,c,d,e,f,rfl⟩
end
theorem c_int:prog.cellsOf 3=1:=by kernel_rfl
theorem iN:prog.cellsOf 9=1:=by kernel_rfl
theorem J0:prog.cellsOf 63=1:=by kernel_rfl
theorem C7:prog.cellsOf 59=1:=by kernel_rfl
theorem KO:prog.cellsOf 23=1:=by kernel_rfl
theorem KN:prog.cellsOf 24=1:=by kernel_rfl
theorem Jp:prog.cellsOf 22=1:=by kernel_rfl
theorem c_op:prog.cellsOf 168=2:=by kernel_rfl
theorem c_act:prog.cellsOf 148=4:=by kernel_rfl
theorem c_st:prog.cellsOf 61=6:=by kernel_rfl
theorem c_tr:prog.cellsOf 65=5:=by kernel_rfl
theorem c_var:prog.cellsOf 117=2:=by kernel_rfl
theorem KU:prog.cellsOf 26=5:=by kernel_rfl
section
variable {H:Type} {enc:TypeId×Value->H} {w:World} {base:Nat} {spare:Nat->Bool} {held:Bool}
set_option maxRecDepth 100000 in
theorem open_op (m:Nat) (cs:List Value) (y:DataW H×List MemPlace) (h:DataW.trod enc prog w base spare held m 168 cs=some y): ∃a:OpD,RE w bR uG cs a:=by
 obtain⟨xs,n,_,_,hl,hxl,hg⟩:=M9 Tryz.underlying168 h;rw[c_op]at hl;obtain⟨c0,c1,rfl⟩:=GB hl;obtain⟨y0,h0⟩:=bZ hxl hg 0 _ rfl 3 0 1 rfl rfl c_int;obtain⟨x0,e0, -, -⟩:=MC Tryz.underlying3 (show DataW.trod enc prog w base spare held n 3 [c0]=some y0 from h0);cases e0;obtain⟨y1,h1⟩:=bZ hxl hg 1 _ rfl 3 1 1 rfl rfl c_int;obtain⟨x1,e1, -, -⟩:=MC Tryz.underlying3 (show DataW.trod enc prog w base spare held n 3 [c1]=some y1 from h1);cases e1;exact⟨⟨x0,x1⟩,⟨⟨rfl, .lit _⟩,⟨rfl, .lit _⟩,trivial⟩,trivial⟩
set_option maxRecDepth 100000 in
theorem open_act (m:Nat) (cs:List Value) (y:DataW H×List MemPlace) (h:DataW.trod enc prog w base spare held m 148 cs=some y): ∃a:ActD,RE w au iw cs a:=by
 obtain⟨xs,n,_,_,hl,hxl,hg⟩:=M9 Tryz.underlying148 h;rw[c_act]at hl;obtain⟨c0,c1,c2,c3,rfl⟩:=KJ hl;obtain⟨y0,h0⟩:=bZ hxl hg 0 _ rfl 3 0 1 rfl rfl c_int;obtain⟨x0,e0, -, -⟩:=MC Tryz.underlying3 (show DataW.trod enc prog w base spare held n 3 [c0]=some y0 from h0);cases e0;obtain⟨y1,h1⟩:=bZ hxl hg 1 _ rfl 3 1 1 rfl rfl c_int;obtain⟨x1,e1, -, -⟩:=MC Tryz.underlying3 (show DataW.trod enc prog w base spare held n 3 [c1]=some y1 from h1);cases e1;obtain⟨y2,h2⟩:=bZ hxl hg 2 _ rfl 9 2 1 rfl rfl iN;obtain⟨x2,e2, -,s2⟩:=NE Tryz.underlying9 (show DataW.trod enc prog w base spare held n 9 [c2]=some y2 from h2);cases e2;obtain⟨⟨t2⟩⟩:=x2;obtain⟨y3,h3⟩:=bZ hxl hg 3 _ rfl 63 3 1 rfl rfl J0;obtain⟨x3,l3,e3,r3,n3,p3⟩:=cu (size:=2) bR uG (fun _=>rfl) Tryz.underlying63 c_op (by decide) open_op (show DataW.trod enc prog w base spare held n 63 [c3]=some y3 from h3);cases e3;exact⟨⟨x0,x1,t2,l3⟩,⟨⟨rfl, .lit _⟩,⟨rfl, .lit _⟩,⟨rfl, .lit _⟩,r3,trivial⟩,(by simpa[ByteArray.size]using s2),⟨n3,p3⟩⟩
set_option maxRecDepth 100000 in
theorem open_st (m:Nat) (cs:List Value) (y:DataW H×List MemPlace) (h:DataW.trod enc prog w base spare held m 61 cs=some y): ∃a:StD,RE w aK uF cs a:=by
 obtain⟨xs,n,_,_,hl,hxl,hg⟩:=M9 Tryz.underlying61 h;rw[c_st]at hl;obtain⟨c0,c1,c2,c3,c4,c5,rfl⟩:=KI hl;obtain⟨y0,h0⟩:=bZ hxl hg 0 _ rfl 9 0 1 rfl rfl iN;obtain⟨x0,e0, -,s0⟩:=NE Tryz.underlying9 (show DataW.trod enc prog w base spare held n 9 [c0]=some y0 from h0);cases e0;obtain⟨⟨t0⟩⟩:=x0;obtain⟨y1,h1⟩:=bZ hxl hg 1 _ rfl 3 1 1 rfl rfl c_int;obtain⟨x1,e1, -, -⟩:=MC Tryz.underlying3 (show DataW.trod enc prog w base spare held n 3 [c1]=some y1 from h1);cases e1;obtain⟨y2,h2⟩:=bZ hxl hg 2 _ rfl 3 2 1 rfl rfl c_int;obtain⟨x2,e2, -, -⟩:=MC Tryz.underlying3 (show DataW.trod enc prog w base spare held n 3 [c2]=some y2 from h2);cases e2;obtain⟨y3,h3⟩:=bZ hxl hg 3 _ rfl 3 3 1 rfl rfl c_int;obtain⟨x3,e3, -, -⟩:=MC Tryz.underlying3 (show DataW.trod enc prog w base spare held n 3 [c3]=some y3 from h3);cases e3;obtain⟨y4,h4⟩:=bZ hxl hg 4 _ rfl 59 4 1 rfl rfl C7;obtain⟨x4,l4,e4,r4,n4,p4⟩:=cu (size:=4) au iw (fun _=>rfl) Tryz.underlying59 c_act (by decide) open_act (show DataW.trod enc prog w base spare held n 59 [c4]=some y4 from h4);cases e4;obtain⟨y5,h5⟩:=bZ hxl hg 5 _ rfl 59 5 1 rfl rfl C7;obtain⟨x5,l5,e5,r5,n5,p5⟩:=cu (size:=4) au iw (fun _=>rfl) Tryz.underlying59 c_act (by decide) open_act (show DataW.trod enc prog w base spare held n 59 [c5]=some y5 from h5);cases e5;exact⟨⟨t0,x1,x2,x3,l4,l5⟩,⟨⟨rfl, .lit _⟩,⟨rfl, .lit _⟩,⟨rfl, .lit _⟩,⟨rfl, .lit _⟩,r4,r5,trivial⟩,(by simpa[ByteArray.size]using s0),⟨n4,p4⟩,⟨n5,p5⟩⟩
set_option maxRecDepth 100000 in
theorem open_tr (m:Nat) (cs:List Value) (y:DataW H×List MemPlace) (h:DataW.trod enc prog w base spare held m 65 cs=some y): ∃a:TrD,RE w az uC cs a:=by
 obtain⟨xs,n,_,_,hl,hxl,hg⟩:=M9 Tryz.underlying65 h;rw[c_tr]at hl;obtain⟨c0,c1,c2,c3,c4,rfl⟩:=IU hl;obtain⟨y0,h0⟩:=bZ hxl hg 0 _ rfl 3 0 1 rfl rfl c_int;obtain⟨x0,e0, -, -⟩:=MC Tryz.underlying3 (show DataW.trod enc prog w base spare held n 3 [c0]=some y0 from h0);cases e0;obtain⟨y1,h1⟩:=bZ hxl hg 1 _ rfl 9 1 1 rfl rfl iN;obtain⟨x1,e1, -,s1⟩:=NE Tryz.underlying9 (show DataW.trod enc prog w base spare held n 9 [c1]=some y1 from h1);cases e1;obtain⟨⟨t1⟩⟩:=x1;obtain⟨y2,h2⟩:=bZ hxl hg 2 _ rfl 63 2 1 rfl rfl J0;obtain⟨x2,l2,e2,r2,n2,p2⟩:=cu (size:=2) bR uG (fun _=>rfl) Tryz.underlying63 c_op (by decide) open_op (show DataW.trod enc prog w base spare held n 63 [c2]=some y2 from h2);cases e2;obtain⟨y3,h3⟩:=bZ hxl hg 3 _ rfl 59 3 1 rfl rfl C7;obtain⟨x3,l3,e3,r3,n3,p3⟩:=cu (size:=4) au iw (fun _=>rfl) Tryz.underlying59 c_act (by decide) open_act (show DataW.trod enc prog w base spare held n 59 [c3]=some y3 from h3);cases e3;obtain⟨y4,h4⟩:=bZ hxl hg 4 _ rfl 3 4 1 rfl rfl c_int;obtain⟨x4,e4, -, -⟩:=MC Tryz.underlying3 (show DataW.trod enc prog w base spare held n 3 [c4]=some y4 from h4);cases e4;exact⟨⟨x0,t1,l2,l3,x4⟩,⟨⟨rfl, .lit _⟩,⟨rfl, .lit _⟩,r2,r3,⟨rfl, .lit _⟩,trivial⟩,(by simpa[ByteArray.size]using s1),⟨n2,p2⟩,⟨n3,p3⟩⟩
set_option maxRecDepth 100000 in
theorem open_var (m:Nat) (cs:List Value) (y:DataW H×List MemPlace) (h:DataW.trod enc prog w base spare held m 117 cs=some y): ∃a:VarD,RE w gh oV cs a:=by
 obtain⟨xs,n,_,_,hl,hxl,hg⟩:=M9 Tryz.underlying117 h;rw[c_var]at hl;obtain⟨c0,c1,rfl⟩:=GB hl;obtain⟨y0,h0⟩:=bZ hxl hg 0 _ rfl 9 0 1 rfl rfl iN;obtain⟨x0,e0, -,s0⟩:=NE Tryz.underlying9 (show DataW.trod enc prog w base spare held n 9 [c0]=some y0 from h0);cases e0;obtain⟨⟨t0⟩⟩:=x0;obtain⟨y1,h1⟩:=bZ hxl hg 1 _ rfl 3 1 1 rfl rfl c_int;obtain⟨x1,e1, -, -⟩:=MC Tryz.underlying3 (show DataW.trod enc prog w base spare held n 3 [c1]=some y1 from h1);cases e1;exact⟨⟨t0,x1⟩,⟨⟨rfl, .lit _⟩,⟨rfl, .lit _⟩,trivial⟩,(by simpa[oV,ByteArray.size]using s0)⟩
set_option maxRecDepth 100000 in
theorem Ih (m:Nat) (cs:List Value) (y:DataW H×List MemPlace) (h:DataW.trod enc prog w base spare held m 26 cs=some y): ∃a:ChD,RE w aA jS cs a:=by
 obtain⟨xs,n,_,_,hl,hxl,hg⟩:=M9 Tryz.underlying26 h;rw[KU]at hl;obtain⟨c0,c1,c2,c3,c4,rfl⟩:=IU hl;obtain⟨y0,h0⟩:=bZ hxl hg 0 _ rfl 9 0 1 rfl rfl iN;obtain⟨x0,e0, -,s0⟩:=NE Tryz.underlying9 (show DataW.trod enc prog w base spare held n 9 [c0]=some y0 from h0);cases e0;obtain⟨⟨t0⟩⟩:=x0;obtain⟨y1,h1⟩:=bZ hxl hg 1 _ rfl 3 1 1 rfl rfl c_int;obtain⟨x1,e1, -, -⟩:=MC Tryz.underlying3 (show DataW.trod enc prog w base spare held n 3 [c1]=some y1 from h1);cases e1;obtain⟨y2,h2⟩:=bZ hxl hg 2 _ rfl 22 2 1 rfl rfl Jp;obtain⟨x2,l2,e2,r2,n2,p2⟩:=cu (size:=2) gh oV (fun _=>rfl) Tryz.underlying22 c_var (by decide) open_var (show DataW.trod enc prog w base spare held n 22 [c2]=some y2 from h2);cases e2;obtain⟨y3,h3⟩:=bZ hxl hg 3 _ rfl 23 3 1 rfl rfl KO;obtain⟨x3,l3,e3,r3,n3,p3⟩:=cu (size:=6) aK uF (fun _=>rfl) Tryz.underlying23 c_st (by decide) open_st (show DataW.trod enc prog w base spare held n 23 [c3]=some y3 from h3);cases e3;obtain⟨y4,h4⟩:=bZ hxl hg 4 _ rfl 24 4 1 rfl rfl KN;obtain⟨x4,l4,e4,r4,n4,p4⟩:=cu (size:=5) az uC (fun _=>rfl) Tryz.underlying24 c_tr (by decide) open_tr (show DataW.trod enc prog w base spare held n 24 [c4]=some y4 from h4);cases e4;exact⟨⟨t0,x1,l2,l3,l4⟩,⟨⟨rfl, .lit _⟩,⟨rfl, .lit _⟩,r2,r3,r4,trivial⟩,(by simpa[ByteArray.size]using s0),⟨n2,p2⟩,⟨n3,p3⟩,⟨n4,p4⟩⟩
end
end Go.Proofs.YtdpjgflalmnkdaaGreatDoor
namespace Go.Proofs.YtdpjgflalmnkdaaGreatDoor
open Go.Proofs.Tryz
open Go.RowKit
structure Cuts (P:Program) (f:FuncId) (e:TypeId) (sz:Nat) (ls ls':List (List Value)):Prop where
 enter: ∀(args:Array Value) (w:World),(callFunc f args).run P w= .ok (.enter f args) w
 els: ∀l∈ls',l.length=sz/\ ∀u∈l,u.oneCell'=true
 calls: ∀(w:World) (base:Nat) (v:Value),w.ownsRow base e sz v ls.length ls.flatten->
  Calls P f #[v] w fun ex w'=> ∃v',ex= .returned v'/\v'.oneCell'=true/\w.grownBy w' v.ownBlock/\(∀g,v'.ownBlock=some g->v.ownBlock=some g)/\w'.ownsRow base e sz v' ls'.length ls'.flatten
theorem Et {S:Nat->Nat->Prop} {w:World} {row:Row} {ls:List (List Value)} {xs:List Value} (hls: ∀l∈ls,l.length=row.sz) (hpos:0<row.sz) (hxl:xs.length=ls.length*row.sz) (e5:row.es=bJ ls)
 (k3: ∀(i j:Nat) (c:AV),cellAt row.es i j=some c-> ∃u,xs[i*row.sz+j]? =some u/\RV S w u c):xs=ls.flatten:=by
 apply LY;intro p;have hfl:=dr ls hls;by_cases hp:p<ls.length*row.sz
 ·have hi:p/row.sz<ls.length:=NQ (by rw[Mm];exact hp);have hj:p%row.sz<row.sz:=Nk _ hpos;have hpq:p/row.sz*row.sz+p%row.sz=p:=Nq p row.sz;have hl:=hls _ (MS hi);have hju:(ls[p/row.sz])[p%row.sz]? =some ((ls[p/row.sz])[p%row.sz]'(by omega)):=KZ _;have h1:=fN ls hls _ _ _ _ (KZ hi) hju
  obtain⟨u,h2,h3⟩:=k3 (p/row.sz) (p%row.sz) (.lit ((ls[p/row.sz])[p%row.sz]'(by omega))) (by
   rw[e5];unfold cellAt bJ;rw[K9,KZ hi]
   simp only[Kp,L9,K9,hju])
  rw[hpq]at h1 h2;have:u=(ls[p/row.sz])[p%row.sz]'(by omega):=by cases h3;rfl
  rw[h1,h2,this]
 ·rw[Kf (by omega),Kf (by omega)]
theorem Hj {P:Program} {env:Env} {f:FuncId} {r ver:Nat} {row:Row} {rows:Nat->Option Row} {vsv:Nat->Nat} {ls ls':List (List Value)} (hC:Cuts P f row.e row.sz ls ls') (hr:rows r=some row) (hv:vsv r=ver) (hrz:row.sz≠0) (hp:row.pure=true) (e5:row.es=bJ ls):
 Acts P env f [.row r ver] [r] rows vsv ⟨.row r (ver+1),[.renew r { row with es:=bJ ls' }]⟩:=by
 refine⟨hC.enter,fun x s a w m vs hx hS hro hl hvs=> ?_⟩;obtain⟨q1,q2,q3⟩:=hro r (by simp);rw[hr]at q1;rw[hv]at q2
 match vs,hl with
 |[u],_=>
 have hu:u=m.ρ r:=(hvs 0 u _ rfl rfl).row_.2 q2 row q1;subst hu;have k:=(hS.rows r row q1).cells hrz;obtain⟨xs,k1,k2,k3⟩:=k.own;have hn:row.es.length=ls.length:=by rw[e5];simp[bJ]
 have hls: ∀l∈ls,l.length=row.sz:=fun l hl=>by
  obtain⟨i,hi,rfl⟩:=Lr hl;have:=k.len i ((ls[i]).map .lit) (by rw[e5];simp[bJ,hi]);simpa using this
 have hxx:xs=ls.flatten:=Et hls k.pos (by rw[<-hn];exact k1.1) e5 fun i j c hc=>by
  obtain⟨u,h1,h2⟩:=k3 i j c hc;rw[K5 hp]at h2;exact⟨u,h1,h2⟩
 rw[hxx,hn]at k1;refine(hC.calls w x.w.heap.size (m.ρ r) k1).mono ?_;rintro ex w' ⟨v',rfl,h1,hg,hsub,ho⟩
 have hb:Below x.w.heap.size w w':=⟨hg.os,hg.tape,hg.output,hg.size,fun q hq=>hg.block q (MH hq hS.bel.size) fun e=>by
  have:=(bX k1 e.symm).1
  omega⟩
 have hnS: ∀g,(m.ρ r).ownBlock=some g-> ∀o,¬m.S g o:=k.fresh q3;have hcell: ∀b o,m.S b o->Stay w w' b o:=fun b o hh=> .block (hg.block b (hS.low b o hh) fun e=>hnS b e.symm o hh);have hlow: ∀b o,m.S b o->b<w'.heap.size:=fun b o hh=>MH (hS.low b o hh) hg.size
 have hS2:Sim x (s.renew r { row with es:=bJ ls' } false) a w' ⟨m.S,upd m.ρ r v'⟩:=by
  refine hS.renew r _ false v' m.S hb (fun b o hh=>⟨hh,hcell b o hh⟩) (fun b o hh=> .inl hh) (fun q row1 hne hq gq hgq=>⟨?_,fun e=> ?_,fun _ hh=>hh⟩) ?_ fun b hf=>⟨hg.block b (hS.fxlt hf) fun e=>hS.nofx r row q1 b e.symm hf,fun _ hh=>hh,fun e=>hS.nofx r row q1 b (hsub b e) hf⟩
  ·exact hg.block gq ((hS.rows q row1 hq).blk hgq).2 fun e=>hS.inj r q row row1 q1 hq (MU hne) gq e.symm hgq
  ·exact hS.inj r q row row1 q1 hq (MU hne) gq (hsub gq e) hgq
  ·have hel: ∀(i:Nat) (e:List AV),(bJ ls')[i]? =some e->e.length=row.sz:=fun i e he=>by
    unfold bJ at he;rw[K9]at he;cases hl:ls'[i]? with
    |none=>rw[hl]at he;cases he
    | some l=>
      rw[hl]at he;cases he;simpa using (hC.els l (K4 hl)).1
   have hll:(bJ ls').length=ls'.length:=by unfold bJ;rw[Ko]
   have hρ:(⟨m.S,upd m.ρ r v'⟩:Mem).ρ r=v':=upd_same ..;refine .inl ⟨k.pos,hel,⟨ls'.flatten,by rw[hρ];show w'.ownsRow _ _ _ _ (bJ ls').length _;rw[hll];exact ho,?_,?_⟩,fun he=> ?_,fun g hg' o _=> ?_,fun _ g hg' o=> ?_⟩
   ·intro u hu;obtain⟨l,hl,hul⟩:=Ox.1 hu;exact(hC.els l hl).2 u hul
   ·intro i j c hcc;obtain⟨l,u,h1,h2,rfl⟩:=zb hcc;refine⟨u,fN ls' (fun l hl=>(hC.els l hl).1) i j l u h1 h2,?_⟩;show if row.pure=true then _ else _
    rw[K5 hp];exact .lit u
   ·have he:upd s.esc r false r=true:=he;rw[upd_same]at he;cases he
   ·rw[hρ]at hg';exact hnS g (hsub g hg') o
   ·rw[hρ]at hg';exact hnS g (hsub g hg') o
 refine⟨v',_,rfl,hS2, .row r (ver+1) h1 ?_ fun _ row' _=> ?_⟩
 ·show ver+1<=upd s.vs r (s.vs r+1) r;rw[upd_same,q2];exact Kc _
 ·show v'=upd m.ρ r v' r;rw[upd_same]
section
variable {P:Program} {env:Env} {s:St}
theorem tX {o:Oper} {f:FuncId} {args:List AV} {rest:List Stp} {s1:St} {row:Row} {ls ls':List (List Value)} {ft:Foot} {K:St->List Foot->Prop} (r:Nat) (hc:bH env s.f o=some (f,args)) (hC:Cuts P f row.e row.sz ls ls') (hrz:row.sz≠0) (hp:row.pure=true) (e5:row.es=bJ ls)
 (ha:Is args [.row r (s.vs r)]) (hr:Is (s.rows r) (some row)) (he:Is (s.esc r) false) (h1:Is ((⟨.row r (s.vs r+1),[.renew r { row with es:=bJ ls' }]⟩:Out).app o.dst s) s1) (h2:Is (⟨[r],[r],[r],[]⟩:Foot) ft) (k:aops P env rest s1 fun s2 fts=>K s2 (ft::fts)):aops P env (⟨o, .always⟩::rest) s K:=by
 unfold Is at h2;subst h2;exact pB hc ha (Hj hC hr rfl hrz hp e5) (fun q hq=>by rw[Kl.1 hq];exact he) h1 k
theorem nL {o:Oper} {f:FuncId} {args:List AV} {rest:List Stp} {s1:St} {row:Row} {ls ls':List (List Value)} {K:St->List Foot->Prop} (r:Nat) (hc:bH env s.f o=some (f,args)) (hT:Turns P f [] row.e row.sz ls ls') (hrz:row.sz≠0) (hp:row.pure=true) (e5:row.es=bJ ls)
 (ha:Is args [.row r (s.vs r)]) (hr:Is (s.rows r) (some row)) (he:Is (s.esc r) false) (h1:Is ((s.setRow r { row with es:=bJ ls' }).put o.dst .any) s1) (k:aops P env rest s1 fun s2 fts=>K s2 (⟨[r],[r],[r],[]⟩::fts)):aops P env (⟨o, .always⟩::rest) s K:=
 vv (rs:=[]) r hc (show args=_ from ha) hr he hT e5 hp hrz h1 k
end
end Go.Proofs.YtdpjgflalmnkdaaGreatDoor
namespace Go.Proofs.YtdpjgflalmnkdaaGreatDoor
open Go.Proofs.Tryz
open Go.RowKit Go.Sort Go.Shelf Go.Lib
theorem heap_put {w:World} {g n:Nat} {os:Array Obj} {cur:Array Value} {e:TypeId} {fr:Nat×Nat} (F:Array Value) (hb:w.heap[g]? =some (.cells cur e fr)):
 (grow (putRow id (Sort.ahead w n) g 0 F) os).heap[g]? =some (.cells (putCells id 0 F cur) e fr):=by
 have hg:g<w.heap.size:=(Kz.1 hb).1;rw[heap_grow_old _ _ (by simpa[putRow,mapBlock,Sort.ahead]using hg)];simp[putRow,mapBlock,Sort.ahead,MK,hb,onCells]
theorem kK {w:World} {g n:Nat} {os:Array Obj} (F:Array Value):w.grownBy (grow (putRow id (Sort.ahead w n) g 0 F) os) (some g):=by
 refine⟨rfl,rfl,rfl,by simp[putRow,mapBlock,Sort.ahead],fun k hk hne=> ?_⟩;rw[heap_grow_old _ _ (by simpa[putRow,mapBlock,Sort.ahead]using hk)];have:g≠k:=fun e=>hne (by rw[e]);simp[putRow,mapBlock,Sort.ahead,MK,this]
theorem sZ (cur F:Array Value) (h:F.size<=cur.size):(putCells id 0 F cur).toList.take F.size=F.toList:=by
 apply LY;intro j;by_cases hj:j<F.size
 ·rw[Mi hj,Mx];simp[putCells,hj,show j<cur.size by omega]
 ·rw[Nm (by omega),Kf (by simp;omega)]
theorem jc {P:Program} {f:FuncId} {rest:List Value} {e:TypeId} {sz:Nat} {ls ls':List (List Value)} (hne:0<ls.length) (henter: ∀(args:Array Value) (w:World),(callFunc f args).run P w= .ok (.enter f args) w)
 (hl:ls'.length=ls.length) (hls: ∀l∈ls,l.length=sz) (hel: ∀l∈ls',l.length=sz/\ ∀u∈l,u.oneCell'=true)
 (h: ∀(w:World) (g cap:Nat),Holds id w g 0 ls.flatten.toArray->g<w.heap.size->Calls P f (.slice (some ⟨g,0,none⟩) ls.length cap::rest).toArray w fun ex w'=>ex= .returned (.tuple #[])/\ ∃n os,w'=grow (putRow id (Sort.ahead w n) g 0 ls'.flatten.toArray) os):
 Turns P f rest e sz ls ls':=by
 refine⟨henter,hl,hel,fun w base v ho=> ?_⟩;have hf:=dr ls hls;have hf':=dr ls' fun l hl=>(hel l hl).1;rcases ho.2 with⟨_,h0⟩|⟨g,cap,cur,rfl,hbase,hb,h1,h2,h3,h4⟩
 ·omega
 have hsz:ls.length*sz<=cur.size:=by rw[h3];exact LP _ h1
 have hg:g<w.heap.size:=(Kz.1 hb).1;refine(h w g cap (fun j hj=>⟨?_,by simp[World.frozen?,hb]⟩) hg).mono ?_
 ·have hj':j<ls.flatten.length:=by simpa using hj
  have e1:(cur.toList.take (ls.length*sz))[j]? =ls.flatten[j]? :=by rw[h4]
  rw[Mi (by omega)]at e1;simp only[World.cell?,hb,Li];simp only[Oj,Ku,Ld];rw[<-Mx,e1,NA _ j hj,KZ hj'];rfl
 ·rintro ex w' ⟨rfl,n,os,rfl⟩;refine⟨rfl,kK _,by rw[hf',hl], .inr ⟨g,cap,_,rfl,hbase,heap_put _ hb,h1,h2,by simp[putCells,h3],?_⟩⟩;have:=sZ cur ls'.flatten.toArray (by simp[hf',hl];exact hsz);rw[show ls'.flatten.toArray.size=ls.length*sz by simp[hf',hl]]at this;exact this
theorem lv {P:Program} {f:FuncId} {rest:List Value} {e:TypeId} {sz:Nat} (henter: ∀(args:Array Value) (w:World),(callFunc f args).run P w= .ok (.enter f args) w)
 (h: ∀(p:Option Addr) (cap:Nat) (w:World),Calls P f (.slice p 0 cap::rest).toArray w fun ex w'=>ex= .returned (.tuple #[])/\w'=w):Turns P f rest e sz [] []:=by
 refine⟨henter,rfl,fun l hl=>by simp at hl,fun w base v ho=> ?_⟩
 have key: ∃p cap,v= .slice p 0 cap:=by
  rcases ho.2 with⟨rfl,_⟩|⟨g,cap,cur,rfl,_⟩
  ·exact⟨_,_,rfl⟩
  ·exact⟨_,_,rfl⟩
 obtain⟨p,cap,rfl⟩:=key;refine(h p cap w).mono ?_;rintro ex w' ⟨rfl,rfl⟩;exact⟨rfl,⟨rfl,rfl,rfl,Kc _,fun _ _ _=>rfl⟩,ho⟩
section
variable {α:Type} [Inhabited α]
theorem jF (enc:α->Value) (w:World) (g:Nat) (d:Array α):putRow enc w g 0 d=putRow id w g 0 (d.map enc):=by
 unfold putRow;refine mapBlock_congr _ _ _ _ fun c _ _ _=> ?_;apply Array.ext_getElem?;intro k;simp only[putCells,Array.getElem?_mapIdx,Array.size_map];cases c[k]? with
 |none=>rfl
 | some y=>
   simp only[Kp,Mq,Li];by_cases hk:0<=k/\k<d.size
   ·rw[K5 hk,K5 hk];simp[hk.2]
   ·rw[K2 hk,K2 hk]
end
end Go.Proofs.YtdpjgflalmnkdaaGreatDoor
namespace Go.Proofs
open Go.Shelf
def Tryz.sortS_ren:Go.Shelf.Ren:=⟨fun|190=>108|125=>171|258=>170|128=>213|129=>214|302=>205|303=>206|304=>207|305=>208|306=>209|307=>210|308=>172|309=>211|310=>212|333=>239|329=>240|330=>241|334=>242|335=>243|336=>215|344=>265|n=>n,fun|31=>106|9=>9|3=>3|46=>219|0=>0|51=>158|53=>256|4=>4|183=>250|182=>249|131=>171|5=>5|218=>276|222=>280|228=>292|229=>100|n=>n,fun|n=>n⟩
theorem Tryz.sortS:Go.Proofs.Lays.n190 prog Tryz.sortS_ren:={
 mixed:=by kernel_rfl
 f125:=func171.trans (congrArg some (by kernel_rfl))
 f128:=func213.trans (congrArg some (by kernel_rfl))
 f129:=func214.trans (congrArg some (by kernel_rfl))
 f190:=func108.trans (congrArg some (by kernel_rfl))
 f258:=func170.trans (congrArg some (by kernel_rfl))
 f302:=func205.trans (congrArg some (by kernel_rfl))
 f303:=func206.trans (congrArg some (by kernel_rfl))
 f304:=func207.trans (congrArg some (by kernel_rfl))
 f305:=func208.trans (congrArg some (by kernel_rfl))
 f306:=func209.trans (congrArg some (by kernel_rfl))
 f307:=func210.trans (congrArg some (by kernel_rfl))
 f308:=func172.trans (congrArg some (by kernel_rfl))
 f309:=func211.trans (congrArg some (by kernel_rfl))
 f310:=func212.trans (congrArg some (by kernel_rfl))
 f329:=func240.trans (congrArg some (by kernel_rfl))
 f330:=func241.trans (congrArg some (by kernel_rfl))
 f333:=func239.trans (congrArg some (by kernel_rfl))
 f334:=func242.trans (congrArg some (by kernel_rfl))
 f335:=func243.trans (congrArg some (by kernel_rfl))
 f336:=func215.trans (congrArg some (by kernel_rfl))
 f344:=func265.trans (congrArg some (by kernel_rfl))
 t0:=Tryz.underlying0
 a0:=Tryz.isAgg0
 z0:=Tryz.sizeOf0
 v0:=Tryz.zeroValue0
 t3:=Tryz.underlying3
 a3:=Tryz.isAgg3
 z3:=Tryz.sizeOf3
 v3:=Tryz.zeroValue3
 t4:=Tryz.underlying4
 a4:=Tryz.isAgg4
 z4:=Tryz.sizeOf4
 v4:=Tryz.zeroValue4
 t5:=Tryz.underlying5
 a5:=Tryz.isAgg5
 z5:=Tryz.sizeOf5
 v5:=Tryz.zeroValue5
 t9:=Tryz.underlying9
 a9:=Tryz.isAgg9
 z9:=Tryz.sizeOf9
 v9:=Tryz.zeroValue9
 t31:=Tryz.underlying106
 a31:=Tryz.isAgg106
 z31:=Tryz.sizeOf106
 v31:=Tryz.zeroValue106
 t46:=Tryz.underlying219
 a46:=Tryz.isAgg219
 z46:=Tryz.sizeOf219
 v46:=Tryz.zeroValue219
 t51:=Tryz.underlying158
 a51:=Tryz.isAgg158
 z51:=Tryz.sizeOf158
 v51:=Tryz.zeroValue158
 t53:=Tryz.underlying256
 a53:=Tryz.isAgg256
 z53:=Tryz.sizeOf256
 v53:=Tryz.zeroValue256
 t131:=Tryz.underlying171
 a131:=Tryz.isAgg171
 z131:=Tryz.sizeOf171
 v131:=Tryz.zeroValue171
 t182:=Tryz.underlying249
 a182:=Tryz.isAgg249
 z182:=Tryz.sizeOf249
 v182:=Tryz.zeroValue249
 t183:=Tryz.underlying250
 a183:=Tryz.isAgg250
 z183:=Tryz.sizeOf250
 v183:=Tryz.zeroValue250
 t218:=Tryz.underlying276
 a218:=Tryz.isAgg276
 z218:=Tryz.sizeOf276
 v218:=Tryz.zeroValue276
 t222:=Tryz.underlying280
 a222:=Tryz.isAgg280
 z222:=Tryz.sizeOf280
 v222:=Tryz.zeroValue280
 t228:=Tryz.underlying292
 a228:=Tryz.isAgg292
 z228:=Tryz.sizeOf292
 v228:=Tryz.zeroValue292
 t229:=Tryz.underlying100
 a229:=Tryz.isAgg100
 z229:=Tryz.sizeOf100
 v229:=Tryz.zeroValue100 }
def Tryz.sortI_ren:Go.Shelf.Ren:=⟨fun|189=>175|125=>171|257=>216|128=>213|129=>214|294=>244|295=>245|296=>246|297=>247|298=>248|299=>249|216=>250|300=>251|301=>252|328=>266|329=>240|330=>241|331=>267|332=>268|215=>269|343=>282|n=>n,fun|28=>27|3=>3|46=>219|0=>0|51=>158|53=>256|4=>4|183=>250|182=>249|131=>171|5=>5|9=>9|218=>276|222=>280|228=>292|229=>100|n=>n,fun|n=>n⟩
theorem Tryz.sortI:Go.Proofs.Lays.n189 prog Tryz.sortI_ren:={
 mixed:=by kernel_rfl
 f125:=func171.trans (congrArg some (by kernel_rfl))
 f128:=func213.trans (congrArg some (by kernel_rfl))
 f129:=func214.trans (congrArg some (by kernel_rfl))
 f189:=func175.trans (congrArg some (by kernel_rfl))
 f215:=func269.trans (congrArg some (by kernel_rfl))
 f216:=func250.trans (congrArg some (by kernel_rfl))
 f257:=func216.trans (congrArg some (by kernel_rfl))
 f294:=func244.trans (congrArg some (by kernel_rfl))
 f295:=func245.trans (congrArg some (by kernel_rfl))
 f296:=func246.trans (congrArg some (by kernel_rfl))
 f297:=func247.trans (congrArg some (by kernel_rfl))
 f298:=func248.trans (congrArg some (by kernel_rfl))
 f299:=func249.trans (congrArg some (by kernel_rfl))
 f300:=func251.trans (congrArg some (by kernel_rfl))
 f301:=func252.trans (congrArg some (by kernel_rfl))
 f328:=func266.trans (congrArg some (by kernel_rfl))
 f329:=func240.trans (congrArg some (by kernel_rfl))
 f330:=func241.trans (congrArg some (by kernel_rfl))
 f331:=func267.trans (congrArg some (by kernel_rfl))
 f332:=func268.trans (congrArg some (by kernel_rfl))
 f343:=func282.trans (congrArg some (by kernel_rfl))
 t0:=Tryz.underlying0
 a0:=Tryz.isAgg0
 z0:=Tryz.sizeOf0
 v0:=Tryz.zeroValue0
 t3:=Tryz.underlying3
 a3:=Tryz.isAgg3
 z3:=Tryz.sizeOf3
 v3:=Tryz.zeroValue3
 t4:=Tryz.underlying4
 a4:=Tryz.isAgg4
 z4:=Tryz.sizeOf4
 v4:=Tryz.zeroValue4
 t5:=Tryz.underlying5
 a5:=Tryz.isAgg5
 z5:=Tryz.sizeOf5
 v5:=Tryz.zeroValue5
 t9:=Tryz.underlying9
 a9:=Tryz.isAgg9
 z9:=Tryz.sizeOf9
 v9:=Tryz.zeroValue9
 t28:=Tryz.underlying27
 a28:=Tryz.isAgg27
 z28:=Tryz.sizeOf27
 v28:=Tryz.zeroValue27
 t46:=Tryz.underlying219
 a46:=Tryz.isAgg219
 z46:=Tryz.sizeOf219
 v46:=Tryz.zeroValue219
 t51:=Tryz.underlying158
 a51:=Tryz.isAgg158
 z51:=Tryz.sizeOf158
 v51:=Tryz.zeroValue158
 t53:=Tryz.underlying256
 a53:=Tryz.isAgg256
 z53:=Tryz.sizeOf256
 v53:=Tryz.zeroValue256
 t131:=Tryz.underlying171
 a131:=Tryz.isAgg171
 z131:=Tryz.sizeOf171
 v131:=Tryz.zeroValue171
 t182:=Tryz.underlying249
 a182:=Tryz.isAgg249
 z182:=Tryz.sizeOf249
 v182:=Tryz.zeroValue249
 t183:=Tryz.underlying250
 a183:=Tryz.isAgg250
 z183:=Tryz.sizeOf250
 v183:=Tryz.zeroValue250
 t218:=Tryz.underlying276
 a218:=Tryz.isAgg276
 z218:=Tryz.sizeOf276
 v218:=Tryz.zeroValue276
 t222:=Tryz.underlying280
 a222:=Tryz.isAgg280
 z222:=Tryz.sizeOf280
 v222:=Tryz.zeroValue280
 t228:=Tryz.underlying292
 a228:=Tryz.isAgg292
 z228:=Tryz.sizeOf292
 v228:=Tryz.zeroValue292
 t229:=Tryz.underlying100
 a229:=Tryz.isAgg100
 z229:=Tryz.sizeOf100
 v229:=Tryz.zeroValue100 }
def Tryz.compS_ren:Go.Shelf.Ren:=⟨fun|194=>109|n=>n,fun|31=>106|9=>9|3=>3|4=>4|0=>0|n=>n,fun|n=>n⟩
theorem Tryz.compS:Go.Proofs.Lays.n194 prog Tryz.compS_ren:={
 mixed:=by kernel_rfl
 f194:=func109.trans (congrArg some (by kernel_rfl))
 t0:=Tryz.underlying0
 a0:=Tryz.isAgg0
 z0:=Tryz.sizeOf0
 v0:=Tryz.zeroValue0
 t3:=Tryz.underlying3
 a3:=Tryz.isAgg3
 z3:=Tryz.sizeOf3
 v3:=Tryz.zeroValue3
 t4:=Tryz.underlying4
 a4:=Tryz.isAgg4
 z4:=Tryz.sizeOf4
 v4:=Tryz.zeroValue4
 t9:=Tryz.underlying9
 a9:=Tryz.isAgg9
 z9:=Tryz.sizeOf9
 v9:=Tryz.zeroValue9
 t31:=Tryz.underlying106
 a31:=Tryz.isAgg106
 z31:=Tryz.sizeOf106
 v31:=Tryz.zeroValue106 }
end Go.Proofs
namespace Go.Proofs.YtdpjgflalmnkdaaGreatDoor
open Go.Proofs.Tryz
open Go.RowKit Go.Sort Go.Shelf Go.Lib
set_option maxHeartbeats 4000000 in
set_option maxRecDepth 100000 in
theorem Ai (p:Option Addr) (cap:Nat) (w:World):Calls prog 108 #[.slice p 0 cap] w fun ex w'=>ex= .returned (.tuple #[])/\w'=w:=by
 go_enter func108,ntmps108
 go_wp2_with (first|go_in)
 refine wp_loop_rounds 1 ?_;simp only[Code.rounds]
 go_wp2_with (first|go_in)
 refine wp_loop_rounds 1 ?_;simp only[Code.rounds]
 go_wp2_with (first|go_in)
 go_end0
 exact⟨rfl,rfl⟩
def Ch (s:List UInt8):List Value:=[encStr s]
theorem dR {α:Type} (f:α->Value): ∀l:List α,(l.map fun s=>[f s]).flatten=l.map f
 |[]=>rfl
 |x::l=>by simp[dR f l]
theorem FR {w:World} {g:Nat} {l:List (List UInt8)} (h:Holds id w g 0 (l.map encStr).toArray):Holds encStr w g 0 l.toArray:=fun j hj=>by
 have hj':j<l.length:=by simpa using hj
 have:=h j (by simpa using hj');rw[NA _ j (by simpa using hj')]at this;rw[NA _ j hj];simpa using this
theorem Tryz.sortEnter: ∀(args:Array Value) (w:World),(callFunc 108 args).run prog w= .ok (.enter 108 args) w:=Od func108 (by kernel_rfl) rfl
theorem Tryz.compEnter: ∀(args:Array Value) (w:World),(callFunc 109 args).run prog w= .ok (.enter 109 args) w:=Od func109 (by kernel_rfl) rfl
def gL (l:List (List UInt8)):List (List UInt8):=l.mergeSort fun x y=>decide (x<=y)
theorem yI (l:List (List UInt8)) (hl:l.length<4611686018427387904):Turns prog 108 [] 9 1 (l.map Ch) ((gL l).map Ch):=by
 by_cases h0:l=[]
 ·subst h0;rw[show gL []=[] by simp[gL]];exact lv Tryz.sortEnter fun p cap w=>Ai p cap w
 ·refine jc (by rw[Ko];exact Lw.2 h0) Tryz.sortEnter (by simp[gL]) (fun x hx=> ?_) (fun x hx=> ?_) fun w g cap hH hg=> ?_
  ·obtain⟨y,_,rfl⟩:=Kb.1 hx;rfl
  ·obtain⟨y,_,rfl⟩:=Kb.1 hx;exact⟨rfl,fun u hu=>by rw[Kl.1 hu];rfl⟩
  ·have hH:Holds id w g 0 (l.map encStr).toArray:=by rw[<-dR];exact hH
   have:=Any.slices_Sort_string Tryz.sortS g 0 cap l w (FR hH) hg hl;rw[Ko];refine(show Calls prog 108 #[.slice (some ⟨g,0,none⟩) l.length cap] w _ from this).mono ?_;rintro ex w' ⟨rfl,n,os,rfl⟩;refine⟨rfl,n,os,?_⟩;rw[jF,show ((gL l).map Ch).flatten=(gL l).map encStr from dR encStr _];simp[gL]
theorem Bq (l:List (List UInt8)) (hl:l.length<=9223372036854775807):Cuts prog 109 9 1 (l.map Ch) ((Lib.compact l).map Ch):=by
 refine⟨Tryz.compEnter,fun x hx=> ?_,fun w base v ho=> ?_⟩
 ·obtain⟨y,_,rfl⟩:=Kb.1 hx;exact⟨rfl,fun u hu=>by rw[Kl.1 hu];rfl⟩
 rw[show (l.map Ch).flatten=l.map encStr from dR encStr _,Ko]at ho;rw[show ((Lib.compact l).map Ch).flatten=(Lib.compact l).map encStr from dR encStr _,Ko];by_cases h0:l=[]
 ·subst h0
  obtain⟨p,cap,rfl⟩: ∃p cap,v= .slice p 0 cap:=by
   rcases ho.2 with⟨rfl,_⟩|⟨g,cap,cur,rfl,_⟩
   ·exact⟨_,_,rfl⟩
   ·exact⟨_,_,rfl⟩
  refine(show Calls prog 109 #[.slice p 0 cap] w _ from Any.slices_Compact_string_empty Tryz.compS p cap w).mono ?_;rintro ex w' ⟨rfl,rfl⟩;exact⟨_,rfl,rfl,⟨rfl,rfl,rfl,Kc _,fun _ _ _=>rfl⟩,fun _ h=>h,ho⟩
 ·rcases ho.2 with⟨_,h⟩|⟨g,cap,cur,rfl,hbase,hb,h1,h2,h3,h4⟩
  ·exact absurd (LS h) h0
  have hg:g<w.heap.size:=(Kz.1 hb).1
  have hH:Holds encStr w g 0 l.toArray:=fun j hj=>by
   have hj':j<l.length:=by simpa using hj
   have e1:(cur.toList.take (l.length*1))[j]? =(l.map encStr)[j]? :=by rw[h4]
   rw[Mi (by omega),K9,KZ hj']at e1;refine⟨?_,by simp[World.frozen?,hb]⟩;simp only[World.cell?,hb,Li,Oj,Ku,Ld];rw[<-Mx,e1,NA _ j hj];rfl
  have hcl:(Lib.compact l).length<=l.length:=by
   unfold Lib.compact Lib.compactUpTo;rw[Ko];exact Km (Kq ..) (by simp)
  refine(show Calls prog 109 #[.slice (some ⟨g,0,none⟩) l.length cap] w _ from Any.slices_Compact_string Tryz.compS g 0 cap l w hH hl h1).mono ?_;rintro ex w' ⟨rfl,q,rfl⟩;rw[jF];generalize hF:((Lib.compact l++List.replicate (l.length-(Lib.compact l).length) []).toArray.map encStr)=F;have hFs:F.size=l.length:=by rw[<-hF];simp;omega
  have hgr: ∀W:World,grow W #[]=W:=fun W=>by simp[grow]
  have e2:=heap_put (n:=q) (os:= #[]) F hb;have e3:=kK (w:=w) (g:=g) (n:=q) (os:= #[]) F;rw[hgr]at e2 e3;refine⟨_,rfl,rfl,e3,fun _ h=>h,⟨by rw[Ko,Nn], .inr ⟨g,cap,_,rfl,hbase,e2,Km hcl h1,h2,by simp[putCells,h3],?_⟩⟩⟩;have ht:=sZ cur F (by rw[hFs,h3];omega);rw[Nn]
  have:((putCells id 0 F cur).toList.take (Lib.compact l).length)=(F.toList).take (Lib.compact l).length:=by
   rw[<-ht,Oh,Mn (by omega)]
  rw[this, <-hF];simp
end Go.Proofs.YtdpjgflalmnkdaaGreatDoor
namespace Go.Proofs.YtdpjgflalmnkdaaGreatDoor
open Go.Proofs.Tryz
open Go.RowKit
structure Right (c:ChD):Prop where
 few:c.states.length<=32
 par: ∀(k:Nat) (s:StD),c.states[k]? =some s-> -1<=s.parent/\s.parent<k
 top: ∃(m:Nat) (q:StD),c.initial=m/\c.states[m]? =some q/\q.parent= -1
theorem cP {p:Nat->Bool} {n:Nat} (h:ay p n=none) (j:Nat) (hj:j<n):p j=true:=by
 unfold ay at h;rw[NM]at h;simpa using h j (by simpa using hj)
theorem zK {c:ChD} (h:(chk c).1=0):Right c:=by
 unfold chk at h;split at h
 ·simp at h
 rename_i h1;split at h
 ·simp at h
 split at h
 ·simp at h
 split at h
 ·simp at h
 rename_i h3;split at h
 ·simp at h
 rename_i h4;refine⟨by omega,fun k s hs=> ?_,?_⟩
 ·have hk:k<c.states.length:=(K0.1 hs).1;have:=cP h3 k hk;unfold lH at this;rw[hs]at this
  have hp:cm c k s=true:=by
   simp only[bz,K3]at this;exact this.1.1.1.2
  simp only[cm,Ll,K3,Kh,L5]at hp;omega
 ·have ht:lw c=true:=by simpa using h4
  unfold lw at ht;split at ht
  ·rename_i q hq;simp only[K3,L5]at ht;unfold at_ at hq;split at hq
   ·rename_i h0;exact⟨c.initial.toNat,q,by omega,hq,ht.1⟩
   ·cases hq
  ·cases ht
def low (c:ChD) (n:Nat) (k:Nat):Bool:=match c.states[k]? with
 |some s=>decide (s.parent+1<n)&& !aT s
 |none=>false
theorem xe {c:ChD} {i:Int} {k:Nat} (h:k∈kidsL c i true): ∃s,c.states[k]? =some s/\s.parent=i/\aT s=false/\k<c.states.length:=by
 obtain⟨h1,h2⟩:=oo h;obtain⟨s,hs,_⟩:=aQ h1;unfold dB at h2;rw[hs]at h2;simp at h2;exact⟨s,hs,h2.1,h2.2,h1⟩
theorem C0 {c:ChD} {i:Int} {k:Nat} {s:StD} (hs:c.states[k]? =some s) (hp:s.parent=i) (hm:aT s=false):k∈kidsL c i true:=by
 have hk:k<c.states.length:=(K0.1 hs).1;unfold kidsL bY;rw[Ke];refine⟨by simpa using hk,?_⟩;unfold dB;rw[hs];simp[hp,hm]
end Go.Proofs.YtdpjgflalmnkdaaGreatDoor
