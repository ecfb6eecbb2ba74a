/- The plain law of charts' trees: in a right chart parents are ahead; what is counted. No program is named here. -/
import Derived.Test.YtbpmkofnfgdegaaGreatDoorQ9
import Derived.Test.YtbpmkofnfgdegaaGreatDoorQ6
import Derived.Test.YtbpmkofnfgdegaaGreatDoorQ5
import Derived.Test.YtbpmkofnfgdegaaGreatDoorRows
import Derived.ProofKit
import Derived.LaidMore
import Derived.OpenShut
import Derived.LaidLaws
import Derived.Stop.Joined
import Derived.Test.YtbpmkofnfgdegaaGreatDoorQ4
import Derived.Shelf.Sort.Plain
import Derived.Shelf.Slices.CompactS
import Derived.Ground.NamesProg
import Derived.Test.YtbpmkofnfgdegaaGreatDoorProg
import Derived.LoopN
import Derived.Shelf.Abstract
namespace Go.Proofs.YtbpmkofnfgdegaaGreatDoor
open Go.Proofs.Tryz
open Go.RowKit
def allB (n:Nat) (f:Nat->Bool):Bool:=(List.range n).all f
theorem zh5 {n:Nat} {f:Nat->Bool} (h: ∀j,j<n->f j=true):allB n f=true:=by
 simp only[allB,List.all_eq_true,List.mem_range];exact h
theorem zi6 {n k:Nat} {f:Nat->Bool} (hk:k<n) (h:f k=false):allB n f=false:=by
 rw[<-Bool.not_eq_true,allB,List.all_eq_true];intro hh;have:=hh k (by simpa using hk);rw[h]at this;cases this
theorem zwm {n:Nat} {f:Nat->Bool} (h:allB n f=true) (j:Nat) (hj:j<n):f j=true:=by
 simp only[allB,List.all_eq_true,List.mem_range]at h;exact h j hj
structure Rc where
 chart:Int
 born:Int
 steps:Int
 active:List Int
 vars:List Int
 mem:List (Int×List Int)
 timers:List (List UInt8×Int)
 over:Bool
def clkB (n:Int):Bool:=decide (0<=n/\n<=1099511627776)
def tmAt (l:List (List UInt8×Int)) (j:Nat):Bool:=
 zbi (l.getD j ([],0)).1&&clkB (l.getD j ([],0)).2&&(decide (j=0)||Op.bytesLess (l.getD (j-1) ([],0)).1 (l.getD j ([],0)).1)
def zbS (l:List (List UInt8×Int)):Bool:=allB l.length (tmAt l)&&decide (l.length<=8)
/-! How bytes are read -/
def pnum (bs:List UInt8) (at_ wd:Nat):Option (Nat×Nat):=if at_+wd<=bs.length/\zoX (cut bs at_ wd)<=4611686018427387904 then some (zoX (cut bs at_ wd),at_+wd) else none
def ptext (bs:List UInt8) (at_:Nat):Option (List UInt8×Nat):=
 if at_+2<=bs.length/\at_+2+zoX (cut bs at_ 2)<=bs.length then some (cut bs (at_+2) (zoX (cut bs at_ 2)),at_+2+zoX (cut bs at_ 2)) else none
def zvC (n:Nat):Int:=if n%2=1 then -(((n+1)/2:Nat):Int) else((n/2:Nat):Int)
def pvars {α:Type} (bs:List UInt8) (K:List Int->Nat->Option α):Nat->Nat->List Int->Option α
 |0,a,acc=>K acc a
 |n+1,a,acc=>(pnum bs a 4).bind fun x=>pvars bs K n x.2 (acc++[zvC x.1])
def pmems {α:Type} (bs:List UInt8) (K:List (Int×List Int)->Nat->Option α):Nat->Nat->List (Int×List Int)->Option α
 |0,a,acc=>K acc a
 |n+1,a,acc=>(pnum bs a 1).bind fun x=>(pnum bs x.2 4).bind fun y=>pmems bs K n y.2 (acc++[((x.1:Int),setOf y.1)])
def ptms {α:Type} (bs:List UInt8) (K:List (List UInt8×Int)->Nat->Option α):Nat->Nat->List (List UInt8×Int)->Option α
 |0,a,acc=>K acc a
 |n+1,a,acc=>(ptext bs a).bind fun x=>(pnum bs x.2 8).bind fun y=>ptms bs K n y.2 (acc++[(x.1,(y.1:Int))])
def p9 (bs:List UInt8) (c b s:Int) (o:Bool) (ac vs:List Int) (ms:List (Int×List Int)) (a:Nat):Option Rc:=
 (pnum bs a 1).bind fun x=>ptms bs (fun ts _=>some ⟨c,b,s,ac,vs,ms,ts,o⟩) x.1 x.2 []
def p8 (bs:List UInt8) (c b s:Int) (o:Bool) (ac vs:List Int) (a:Nat):Option Rc:=
 (pnum bs a 1).bind fun x=>pmems bs (fun ms a'=>p9 bs c b s o ac vs ms a') x.1 x.2 []
def p7 (bs:List UInt8) (c b s:Int) (o:Bool) (ac:List Int) (a:Nat):Option Rc:=
 (pnum bs a 1).bind fun x=>pvars bs (fun vs a'=>p8 bs c b s o ac vs a') x.1 x.2 []
def p6 (bs:List UInt8) (c b s:Int) (o:Bool) (a:Nat):Option Rc:=(pnum bs a 4).bind fun x=>p7 bs c b s o (setOf x.1) x.2
def p5 (bs:List UInt8) (c b s:Int) (a:Nat):Option Rc:=(pnum bs a 1).bind fun x=>p6 bs c b s (decide (x.1=1)) x.2
def p4 (bs:List UInt8) (c b:Int) (a:Nat):Option Rc:=(pnum bs a 8).bind fun x=>p5 bs c b x.1 x.2
def p3 (bs:List UInt8) (c:Int) (a:Nat):Option Rc:=(pnum bs a 8).bind fun x=>p4 bs c x.1 x.2
end Go.Proofs.YtbpmkofnfgdegaaGreatDoor
namespace Go.Proofs.YtbpmkofnfgdegaaGreatDoor
open Go.Proofs.Tryz
open Go.RowKit Go.ChangeShapes
section
variable {P:Program} {W:World} {nm:String} {ti tp te ts:TypeId} {ms:Array (String×TypeId)} {f:Field}
theorem zk7 (hi:P.underlying ti=some (.interface ms)) (hrow: ∀u,P.typeName? 3 u=some nm->u=tp)
 (hp:P.underlying tp=some (.pointer te)) (he:P.underlying te=some (.struct #[f])) (hft:f.type=ts) (hfo:f.offset=0) (hs:P.underlying ts=some .string) (hc:P.cellsOf te=1) (hcs:P.cellsOf ts=1):
 ∀(l:List (String×List UInt8)) (gs:List Nat) (ps:List MemPlace),DataW.LaidVars P W (l.map fun x=>(x.1, .iface nm (.ptr (.agg [.lit (.string x.2)])))) ps->
  l.map (fun x=>P.globalNamed x.1)=gs.map some->(∀g∈gs,(P.globals[g]?).map (·.type)=some ti)->
  (∀b off,MemPlace.cell b off∈ps->(∃c t,W.heap[b]? =some (.cells c t (0,0)))/\ ∀u v,W.cell? ⟨b,off,none⟩=some (.iface u v)->Value.okWide P W .any 0 u v)->
  ∃adl:List Addr,adl.length=gs.length/\(∀(i:Nat) (g:Nat) (a:Addr),gs[i]? =some g->adl[i]? =some a->W.cell? ⟨g,0,none⟩=some (.iface tp (.pointer (some a)))/\ ∃ca ta,W.heap[a.block]? =some (.cells ca ta (0,0)))/\
   (adl.map fun a=>MemPlace.cell a.block a.off).Sublist ps
 | [],gs,ps,_,hg,_,_=>by
   obtain rfl:gs=[]:=by cases gs<;>simp_all
   exact⟨[],rfl,by simp,by simp⟩
 |(n,text)::l,gs,ps,hv,hg,ht,hrows=>by
   obtain⟨g,gs,rfl⟩: ∃g gs',gs=g::gs':=by cases gs<;>simp_all
   simp only[List.map_cons,List.cons.injEq]at hg;obtain⟨g0,t0,cs0,f0,p0,q0,hg0,ht0,hv0,hd0,hrest,rfl⟩:=hv;obtain rfl:=Option.some.inj (hg.1.symm.trans hg0);obtain rfl:=Option.some.inj ((ht g (by simp)).symm.trans ht0);obtain⟨l0⟩:=cs0
   have ok0: ∀u v,l0=[.iface u v]->Value.okWide P W .any 0 u v:=fun u v e=>by
    subst e;exact(hrows g 0 (by simp[MemPlace.row])).2 u v (by simpa using World.var?_cell hg0 hv0 0)
   obtain⟨a0,s0,rfl,_,_,_,rfl⟩:=errorString_of_trod hi hrow hp he hft hfo hs hc hcs hd0 ok0;obtain⟨adl,h1,h2,h3⟩:=zk7 hi hrow hp he hft hfo hs hc hcs l gs q0 hrest hg.2 (fun g' h=>ht g' (by simp[h])) (fun b off h=>hrows b off (List.mem_append_right _ h));refine⟨a0::adl,by simp[h1],?_,?_⟩
   ·intro i g' a' hg' ha';cases i with
    | zero=>
      simp at hg' ha';subst hg' ha';exact⟨by simpa using World.var?_cell hg0 hv0 0,(hrows a0.block a0.off (by simp[MemPlace.row])).1⟩
    |succ i=>exact h2 i g' a' (by simpa using hg') (by simpa using ha')
   ·simp only[List.map_cons,MemPlace.row];exact List.Sublist.trans (List.Sublist.append (by simp:[MemPlace.cell a0.block a0.off].Sublist _) h3) (List.Sublist.append (List.sublist_append_right _ _) (List.Sublist.refl _))
end
theorem Tryz.row160: ∀u,prog.typeName? 3 u=some "*errors.errorString" ->u=309:=
 fun u hu=>typeName_ptr_named (nm:= "errors.errorString") (by kernel_rfl) (by kernel_rfl) (by decide) u hu
section
open Go.WideShapes
variable {H:Type} {enc:TypeId×Value->H} {P:Program}
theorem zgb (hl:laidOutB P=true) {W W':World} (hb:Below W.heap.size W W'): ∀(ts:List TypeId) (vs:List Value) (ds:List (DataW H)) (ps:List MemPlace),
 (∀t∈ts,P.readableRec t=true/\t<P.types.size)->(∀x∈ps,x.block<W.heap.size)->DataW.TrodAll enc P W 0 (fun _=>true) true ts vs ds ps->DataW.TrodAll enc P W' 0 (fun b=>decide (b<W.heap.size)) true ts vs ds ps
 |[],[],[],_,_,_,h=>h
 | t::ts,v::vs,d::ds,ps,ht,hp,h=>by
   obtain⟨p,q,h1,h2,rfl⟩:=h;have r:=ht t (by simp);exact⟨p,q,Below.trod hl r.1 r.2 h1 hb (fun x hx=>hp x (List.mem_append_left _ hx)),zgb hl hb ts vs ds q (fun t' h'=>ht t' (by simp[h'])) (fun x hx=>hp x (List.mem_append_right _ hx)) h2,rfl⟩
 |[],_::_,_,_,_,_,h=>by cases h
 |[],[],_::_,_,_,_,h=>by cases h
 |_::_,[],_,_,_,_,h=>by cases h
 |_::_,_::_,[],_,_,_,h=>by cases h
theorem zui (hl:laidOutB P=true) {f:Func} {s:ChangeSpec} {tb:TypeId} {W W':World} {args:Array Value} {ds gs:List (DataW H)} {before:List MemPlace}
 (hpar: ∀t∈f.params.toList,P.readableRec t=true/\t<P.types.size) (hrt:f.resultTypes= #[tb]) (htb:P.underlying tb=some .bool)
 (hW:DataW.Whole enc P f.params.toList s.vars false W args.toList ds gs before) (hv:s.vars=[])
 (hs:gs=[]->s.fn H (ds++gs)={ results:=[.lit (.bool true)],args:=ds }) (hb:Below W.heap.size W W'):s.post enc P f false true false false W args (.bool true) W':=by
 have hlt: ∀p∈before,p.block<W.heap.size:=fun p hp=>hW.lt p hp;have hW':=hW;obtain⟨p,q,hA,hV,rfl,_,_⟩:=hW;rw[hv]at hV;obtain⟨rfl,rfl⟩:=trodVars_none hV;have hs:=hs rfl;rw[List.append_nil]at hlt;refine⟨ds,[],p++[],[],p,[],hW',?_,?_,?_,?_,fun h=>by cases h⟩
 ·rw[hs,hrt];exact trodAll_mk1 (shut_bool htb true)
 ·rw[hs];exact zgb hl hb _ _ _ _ hpar hlt hA
 ·rw[hs,hv];rfl
 ·exact World.keptBut_mono (fun x hx=>⟨hx, .inr (.inl (by simpa using hx))⟩) (hb.frame (· ∈p++[]))
end
section
open Go.WideShapes
variable {H:Type} {enc:TypeId×Value->H} {P:Program} {w:World} {base:Nat} {spare:Nat->Bool} {held:Bool}
end
end Go.Proofs.YtbpmkofnfgdegaaGreatDoor
namespace Go.Proofs.YtbpmkofnfgdegaaGreatDoor
open Go.Proofs.Tryz
open Go.RowKit Go.ChangeShapes Go.WideShapes Go.Deep
section
variable {H:Type} {enc:TypeId×Value->H} {P:Program} {w:World} {base:Nat} {spare:Nat->Bool} {held:Bool}
theorem zba {fs:Array Field} {cs:List Value} {n:Nat} {xs:List (DataW H×List MemPlace)} (hx:xs.length=fs.size) (hg: ∀(i:Nat) (f:Field),fs[i]? =some f->DataW.trod enc P w base spare held n f.type ((cs.drop f.offset).take (P.cellsOf f.type))=xs[i]?)
 (i:Nat) (f:Field) (hf:fs[i]? =some f) (ty off k:Nat) (h1:f.type=ty) (h2:f.offset=off) (h3:P.cellsOf ty=k): ∃y,DataW.trod enc P w base spare held n ty ((cs.drop off).take k)=some y:=by
 have h:=hg i f hf;rw[h1,h2,h3]at h;have hi:i<fs.size:=(Array.getElem?_eq_some_iff.1 hf).1;rw[List.getElem?_eq_getElem (by omega)]at h;exact⟨_,h⟩
def RE {α:Type} (w:World) (en:α->List AV) (few:α->Prop) (cs:List Value) (a:α):Prop:=RVs (fun b _=>b<w.heap.size) w cs (en a)/\few a
theorem zbt {α:Type} {t e:TypeId} {size fuel:Nat} {cs:List Value} {x:DataW H×List MemPlace} (en:α->List AV) (few:α->Prop) (hen: ∀a,(en a).length=size) (ht:P.underlying t=some (.slice e)) (hC:P.cellsOf e=size) (hpos:0<size)
 (hR: ∀(m:Nat) (cs:List Value) (y:DataW H×List MemPlace),DataW.trod enc P w base spare held m e cs=some y-> ∃a,RE w en few cs a)
 (h:DataW.trod enc P w base spare held fuel t cs=some x): ∃(v:Value) (l:List α),cs=[v]/\(v.oneCell'=true/\RV (fun b _=>b<w.heap.size) w v (.seq size (l.map en)))/\l.length<=maxLen/\ ∀a∈l,few a:=by
 obtain⟨v,l,e1,hl⟩:=open_list (R:=RE w en few) ht hC hpos hR h;have hrv:=zrP en hen hl fun cs a _ hr j u c hu hc=>hr.1.at_.2 j u c hu hc;obtain⟨A,c,xs,rfl,_,h2,_,hrow⟩:=hl;refine⟨_,l,e1,⟨rfl,hrv⟩,h2,fun a ha=> ?_⟩;obtain⟨i,hi,rfl⟩:=List.getElem_of_mem ha;exact(hrow.2 i hi).2
theorem zuh {l:List Value} (h:l.length=2): ∃a b,l=[a,b]:=by
 match l,h with
 |[a,b],_=>exact⟨a,b,rfl⟩
theorem zw6 {l:List Value} (h:l.length=4): ∃a b c d,l=[a,b,c,d]:=by
 match l,h with
 |[a,b,c,d],_=>exact⟨a,b,c,d,rfl⟩
theorem zvX {l:List Value} (h:l.length=5): ∃a b c d e,l=[a,b,c,d,e]:=by
 match l,h with
 |[a,b,c,d,e],_=>exact⟨a,b,c,d,e,rfl⟩
theorem zw5 {l:List Value} (h:l.length=6): ∃a b c d e f,l=[a,b,c,d,e,f]:=by
 match l,h with
 |[a,b,c,d,e,f],_=>exact⟨a,b,c,d,e,f,rfl⟩
end
theorem c_int:prog.cellsOf 3=1:=by kernel_rfl
theorem zdM:prog.cellsOf 9=1:=by kernel_rfl
theorem zwP:prog.cellsOf 49=1:=by kernel_rfl
theorem zs9:prog.cellsOf 50=1:=by kernel_rfl
theorem zw8:prog.cellsOf 23=1:=by kernel_rfl
theorem zw7:prog.cellsOf 24=1:=by kernel_rfl
theorem zwO:prog.cellsOf 22=1:=by kernel_rfl
theorem c_op:prog.cellsOf 165=2:=by kernel_rfl
theorem c_act:prog.cellsOf 156=4:=by kernel_rfl
theorem c_st:prog.cellsOf 72=6:=by kernel_rfl
theorem c_tr:prog.cellsOf 52=5:=by kernel_rfl
theorem c_var:prog.cellsOf 110=2:=by kernel_rfl
theorem c_ch:prog.cellsOf 26=5:=by kernel_rfl
section
variable {H:Type} {enc:TypeId×Value->H} {w:World} {base:Nat} {spare:Nat->Bool} {held:Bool}
set_option maxRecDepth 100000 in
theorem open_op (m:Nat) (cs:List Value) (y:DataW H×List MemPlace) (h:DataW.trod enc prog w base spare held m 165 cs=some y): ∃a:OpD,RE w opAV zlx cs a:=by
 obtain⟨xs,n,_,_,hl,hxl,hg⟩:=DataW.trod_struct Tryz.underlying165 h;rw[c_op]at hl;obtain⟨c0,c1,rfl⟩:=zuh hl;obtain⟨y0,h0⟩:=zba hxl hg 0 _ rfl 3 0 1 rfl rfl c_int;obtain⟨x0,e0, -, -⟩:=DataW.trod_int Tryz.underlying3 (show DataW.trod enc prog w base spare held n 3 [c0]=some y0 from h0);cases e0;obtain⟨y1,h1⟩:=zba hxl hg 1 _ rfl 3 1 1 rfl rfl c_int;obtain⟨x1,e1, -, -⟩:=DataW.trod_int Tryz.underlying3 (show DataW.trod enc prog w base spare held n 3 [c1]=some y1 from h1);cases e1;exact⟨⟨x0,x1⟩,⟨⟨rfl, .lit _⟩,⟨rfl, .lit _⟩,trivial⟩,trivial⟩
set_option maxRecDepth 100000 in
theorem open_act (m:Nat) (cs:List Value) (y:DataW H×List MemPlace) (h:DataW.trod enc prog w base spare held m 156 cs=some y): ∃a:ActD,RE w zbl zel cs a:=by
 obtain⟨xs,n,_,_,hl,hxl,hg⟩:=DataW.trod_struct Tryz.underlying156 h;rw[c_act]at hl;obtain⟨c0,c1,c2,c3,rfl⟩:=zw6 hl;obtain⟨y0,h0⟩:=zba hxl hg 0 _ rfl 3 0 1 rfl rfl c_int;obtain⟨x0,e0, -, -⟩:=DataW.trod_int Tryz.underlying3 (show DataW.trod enc prog w base spare held n 3 [c0]=some y0 from h0);cases e0;obtain⟨y1,h1⟩:=zba hxl hg 1 _ rfl 3 1 1 rfl rfl c_int;obtain⟨x1,e1, -, -⟩:=DataW.trod_int Tryz.underlying3 (show DataW.trod enc prog w base spare held n 3 [c1]=some y1 from h1);cases e1;obtain⟨y2,h2⟩:=zba hxl hg 2 _ rfl 9 2 1 rfl rfl zdM;obtain⟨x2,e2, -,s2⟩:=DataW.trod_string Tryz.underlying9 (show DataW.trod enc prog w base spare held n 9 [c2]=some y2 from h2);cases e2;obtain⟨⟨t2⟩⟩:=x2;obtain⟨y3,h3⟩:=zba hxl hg 3 _ rfl 49 3 1 rfl rfl zwP;obtain⟨x3,l3,e3,r3,n3,p3⟩:=zbt (size:=2) opAV zlx (fun _=>rfl) Tryz.underlying49 c_op (by decide) open_op (show DataW.trod enc prog w base spare held n 49 [c3]=some y3 from h3);cases e3;exact⟨⟨x0,x1,t2,l3⟩,⟨⟨rfl, .lit _⟩,⟨rfl, .lit _⟩,⟨rfl, .lit _⟩,r3,trivial⟩,(by simpa[ByteArray.size]using s2),⟨n3,p3⟩⟩
set_option maxRecDepth 100000 in
theorem open_st (m:Nat) (cs:List Value) (y:DataW H×List MemPlace) (h:DataW.trod enc prog w base spare held m 72 cs=some y): ∃a:StD,RE w stAV zlw cs a:=by
 obtain⟨xs,n,_,_,hl,hxl,hg⟩:=DataW.trod_struct Tryz.underlying72 h;rw[c_st]at hl;obtain⟨c0,c1,c2,c3,c4,c5,rfl⟩:=zw5 hl;obtain⟨y0,h0⟩:=zba hxl hg 0 _ rfl 9 0 1 rfl rfl zdM;obtain⟨x0,e0, -,s0⟩:=DataW.trod_string Tryz.underlying9 (show DataW.trod enc prog w base spare held n 9 [c0]=some y0 from h0);cases e0;obtain⟨⟨t0⟩⟩:=x0;obtain⟨y1,h1⟩:=zba hxl hg 1 _ rfl 3 1 1 rfl rfl c_int;obtain⟨x1,e1, -, -⟩:=DataW.trod_int Tryz.underlying3 (show DataW.trod enc prog w base spare held n 3 [c1]=some y1 from h1);cases e1;obtain⟨y2,h2⟩:=zba hxl hg 2 _ rfl 3 2 1 rfl rfl c_int;obtain⟨x2,e2, -, -⟩:=DataW.trod_int Tryz.underlying3 (show DataW.trod enc prog w base spare held n 3 [c2]=some y2 from h2);cases e2;obtain⟨y3,h3⟩:=zba hxl hg 3 _ rfl 3 3 1 rfl rfl c_int;obtain⟨x3,e3, -, -⟩:=DataW.trod_int Tryz.underlying3 (show DataW.trod enc prog w base spare held n 3 [c3]=some y3 from h3);cases e3;obtain⟨y4,h4⟩:=zba hxl hg 4 _ rfl 50 4 1 rfl rfl zs9;obtain⟨x4,l4,e4,r4,n4,p4⟩:=zbt (size:=4) zbl zel (fun _=>rfl) Tryz.underlying50 c_act (by decide) open_act (show DataW.trod enc prog w base spare held n 50 [c4]=some y4 from h4);cases e4;obtain⟨y5,h5⟩:=zba hxl hg 5 _ rfl 50 5 1 rfl rfl zs9;obtain⟨x5,l5,e5,r5,n5,p5⟩:=zbt (size:=4) zbl zel (fun _=>rfl) Tryz.underlying50 c_act (by decide) open_act (show DataW.trod enc prog w base spare held n 50 [c5]=some y5 from h5);cases e5;exact⟨⟨t0,x1,x2,x3,l4,l5⟩,⟨⟨rfl, .lit _⟩,⟨rfl, .lit _⟩,⟨rfl, .lit _⟩,⟨rfl, .lit _⟩,r4,r5,trivial⟩,(by simpa[ByteArray.size]using s0),⟨n4,p4⟩,⟨n5,p5⟩⟩
set_option maxRecDepth 100000 in
theorem open_tr (m:Nat) (cs:List Value) (y:DataW H×List MemPlace) (h:DataW.trod enc prog w base spare held m 52 cs=some y): ∃a:TrD,RE w trAV zlv cs a:=by
 obtain⟨xs,n,_,_,hl,hxl,hg⟩:=DataW.trod_struct Tryz.underlying52 h;rw[c_tr]at hl;obtain⟨c0,c1,c2,c3,c4,rfl⟩:=zvX hl;obtain⟨y0,h0⟩:=zba hxl hg 0 _ rfl 3 0 1 rfl rfl c_int;obtain⟨x0,e0, -, -⟩:=DataW.trod_int Tryz.underlying3 (show DataW.trod enc prog w base spare held n 3 [c0]=some y0 from h0);cases e0;obtain⟨y1,h1⟩:=zba hxl hg 1 _ rfl 9 1 1 rfl rfl zdM;obtain⟨x1,e1, -,s1⟩:=DataW.trod_string Tryz.underlying9 (show DataW.trod enc prog w base spare held n 9 [c1]=some y1 from h1);cases e1;obtain⟨⟨t1⟩⟩:=x1;obtain⟨y2,h2⟩:=zba hxl hg 2 _ rfl 49 2 1 rfl rfl zwP;obtain⟨x2,l2,e2,r2,n2,p2⟩:=zbt (size:=2) opAV zlx (fun _=>rfl) Tryz.underlying49 c_op (by decide) open_op (show DataW.trod enc prog w base spare held n 49 [c2]=some y2 from h2);cases e2;obtain⟨y3,h3⟩:=zba hxl hg 3 _ rfl 50 3 1 rfl rfl zs9;obtain⟨x3,l3,e3,r3,n3,p3⟩:=zbt (size:=4) zbl zel (fun _=>rfl) Tryz.underlying50 c_act (by decide) open_act (show DataW.trod enc prog w base spare held n 50 [c3]=some y3 from h3);cases e3;obtain⟨y4,h4⟩:=zba hxl hg 4 _ rfl 3 4 1 rfl rfl c_int;obtain⟨x4,e4, -, -⟩:=DataW.trod_int Tryz.underlying3 (show DataW.trod enc prog w base spare held n 3 [c4]=some y4 from h4);cases e4;exact⟨⟨x0,t1,l2,l3,x4⟩,⟨⟨rfl, .lit _⟩,⟨rfl, .lit _⟩,r2,r3,⟨rfl, .lit _⟩,trivial⟩,(by simpa[ByteArray.size]using s1),⟨n2,p2⟩,⟨n3,p3⟩⟩
set_option maxRecDepth 100000 in
theorem open_var (m:Nat) (cs:List Value) (y:DataW H×List MemPlace) (h:DataW.trod enc prog w base spare held m 110 cs=some y): ∃a:VarD,RE w zdW zhQ cs a:=by
 obtain⟨xs,n,_,_,hl,hxl,hg⟩:=DataW.trod_struct Tryz.underlying110 h;rw[c_var]at hl;obtain⟨c0,c1,rfl⟩:=zuh hl;obtain⟨y0,h0⟩:=zba hxl hg 0 _ rfl 9 0 1 rfl rfl zdM;obtain⟨x0,e0, -,s0⟩:=DataW.trod_string Tryz.underlying9 (show DataW.trod enc prog w base spare held n 9 [c0]=some y0 from h0);cases e0;obtain⟨⟨t0⟩⟩:=x0;obtain⟨y1,h1⟩:=zba hxl hg 1 _ rfl 3 1 1 rfl rfl c_int;obtain⟨x1,e1, -, -⟩:=DataW.trod_int Tryz.underlying3 (show DataW.trod enc prog w base spare held n 3 [c1]=some y1 from h1);cases e1;exact⟨⟨t0,x1⟩,⟨⟨rfl, .lit _⟩,⟨rfl, .lit _⟩,trivial⟩,(by simpa[zhQ,ByteArray.size]using s0)⟩
set_option maxRecDepth 100000 in
theorem zvO (m:Nat) (cs:List Value) (y:DataW H×List MemPlace) (h:DataW.trod enc prog w base spare held m 26 cs=some y): ∃a:ChD,RE w chAV zeP cs a:=by
 obtain⟨xs,n,_,_,hl,hxl,hg⟩:=DataW.trod_struct Tryz.underlying26 h;rw[c_ch]at hl;obtain⟨c0,c1,c2,c3,c4,rfl⟩:=zvX hl;obtain⟨y0,h0⟩:=zba hxl hg 0 _ rfl 9 0 1 rfl rfl zdM;obtain⟨x0,e0, -,s0⟩:=DataW.trod_string Tryz.underlying9 (show DataW.trod enc prog w base spare held n 9 [c0]=some y0 from h0);cases e0;obtain⟨⟨t0⟩⟩:=x0;obtain⟨y1,h1⟩:=zba hxl hg 1 _ rfl 3 1 1 rfl rfl c_int;obtain⟨x1,e1, -, -⟩:=DataW.trod_int Tryz.underlying3 (show DataW.trod enc prog w base spare held n 3 [c1]=some y1 from h1);cases e1;obtain⟨y2,h2⟩:=zba hxl hg 2 _ rfl 22 2 1 rfl rfl zwO;obtain⟨x2,l2,e2,r2,n2,p2⟩:=zbt (size:=2) zdW zhQ (fun _=>rfl) Tryz.underlying22 c_var (by decide) open_var (show DataW.trod enc prog w base spare held n 22 [c2]=some y2 from h2);cases e2;obtain⟨y3,h3⟩:=zba hxl hg 3 _ rfl 23 3 1 rfl rfl zw8;obtain⟨x3,l3,e3,r3,n3,p3⟩:=zbt (size:=6) stAV zlw (fun _=>rfl) Tryz.underlying23 c_st (by decide) open_st (show DataW.trod enc prog w base spare held n 23 [c3]=some y3 from h3);cases e3;obtain⟨y4,h4⟩:=zba hxl hg 4 _ rfl 24 4 1 rfl rfl zw7;obtain⟨x4,l4,e4,r4,n4,p4⟩:=zbt (size:=5) trAV zlv (fun _=>rfl) Tryz.underlying24 c_tr (by decide) open_tr (show DataW.trod enc prog w base spare held n 24 [c4]=some y4 from h4);cases e4;exact⟨⟨t0,x1,l2,l3,l4⟩,⟨⟨rfl, .lit _⟩,⟨rfl, .lit _⟩,r2,r3,r4,trivial⟩,(by simpa[ByteArray.size]using s0),⟨n2,p2⟩,⟨n3,p3⟩,⟨n4,p4⟩⟩
end
end Go.Proofs.YtbpmkofnfgdegaaGreatDoor
namespace Go.Proofs.YtbpmkofnfgdegaaGreatDoor
open Go.Proofs.Tryz
open Go.RowKit
structure Cuts (P:Program) (f:FuncId) (e:TypeId) (sz:Nat) (ls ls':List (List Value)):Prop where
 enter: ∀(args:Array Value) (w:World),(callFunc f args).run P w= .ok (.enter f args) w
 els: ∀l∈ls',l.length=sz/\ ∀u∈l,u.oneCell'=true
 calls: ∀(w:World) (base:Nat) (v:Value),w.ownsRow base e sz v ls.length ls.flatten->
  Calls P f #[v] w fun ex w'=> ∃v',ex= .returned v'/\v'.oneCell'=true/\w.grownBy w' v.ownBlock/\(∀g,v'.ownBlock=some g->v.ownBlock=some g)/\w'.ownsRow base e sz v' ls'.length ls'.flatten
theorem zrO {S:Nat->Nat->Prop} {w:World} {row:Row} {ls:List (List Value)} {xs:List Value} (hls: ∀l∈ls,l.length=row.sz) (hpos:0<row.sz) (hxl:xs.length=ls.length*row.sz) (e5:row.es=zaL ls)
 (k3: ∀(i j:Nat) (c:AV),cellAt row.es i j=some c-> ∃u,xs[i*row.sz+j]? =some u/\RV S w u c):xs=ls.flatten:=by
 apply List.ext_getElem?;intro p;have hfl:=zb7 ls hls;by_cases hp:p<ls.length*row.sz
 ·have hi:p/row.sz<ls.length:=Nat.div_lt_of_lt_mul (by rw[Nat.mul_comm];exact hp);have hj:p%row.sz<row.sz:=Nat.mod_lt _ hpos;have hpq:p/row.sz*row.sz+p%row.sz=p:=Nat.div_add_mod' p row.sz;have hl:=hls _ (List.getElem_mem hi);have hju:(ls[p/row.sz])[p%row.sz]? =some ((ls[p/row.sz])[p%row.sz]'(by omega)):=List.getElem?_eq_getElem _;have h1:=zcD ls hls _ _ _ _ (List.getElem?_eq_getElem hi) hju
  obtain⟨u,h2,h3⟩:=k3 (p/row.sz) (p%row.sz) (.lit ((ls[p/row.sz])[p%row.sz]'(by omega))) (by
   rw[e5];unfold cellAt zaL;rw[List.getElem?_map,List.getElem?_eq_getElem hi]
   simp only[Option.map_some,Option.bind_some,List.getElem?_map,hju])
  rw[hpq]at h1 h2;have:u=(ls[p/row.sz])[p%row.sz]'(by omega):=by cases h3;rfl
  rw[h1,h2,this]
 ·rw[List.getElem?_eq_none (by omega),List.getElem?_eq_none (by omega)]
theorem zu5 {P:Program} {env:Env} {f:FuncId} {r ver:Nat} {row:Row} {rows:Nat->Option Row} {vsv:Nat->Nat} {ls ls':List (List Value)} (hC:Cuts P f row.e row.sz ls ls') (hr:rows r=some row) (hv:vsv r=ver) (hrz:row.sz≠0) (hp:row.pure=true) (e5:row.es=zaL ls):
 Acts P env f [.row r ver] [r] rows vsv ⟨.row r (ver+1),[.renew r { row with es:=zaL ls' }]⟩:=by
 refine⟨hC.enter,fun x s a w m vs hx hS hro hl hvs=> ?_⟩;obtain⟨q1,q2,q3⟩:=hro r (by simp);rw[hr]at q1;rw[hv]at q2
 match vs,hl with
 |[u],_=>
 have hu:u=m.ρ r:=(hvs 0 u _ rfl rfl).row_.2 q2 row q1;subst hu;have k:=(hS.rows r row q1).cells hrz;obtain⟨xs,k1,k2,k3⟩:=k.own;have hn:row.es.length=ls.length:=by rw[e5];simp[zaL]
 have hls: ∀l∈ls,l.length=row.sz:=fun l hl=>by
  obtain⟨i,hi,rfl⟩:=List.getElem_of_mem hl;have:=k.len i ((ls[i]).map .lit) (by rw[e5];simp[zaL,hi]);simpa using this
 have hxx:xs=ls.flatten:=zrO hls k.pos (by rw[<-hn];exact k1.1) e5 fun i j c hc=>by
  obtain⟨u,h1,h2⟩:=k3 i j c hc;rw[if_pos hp]at h2;exact⟨u,h1,h2⟩
 rw[hxx,hn]at k1;refine(hC.calls w x.w.heap.size (m.ρ r) k1).mono ?_;rintro ex w' ⟨v',rfl,h1,hg,hsub,ho⟩
 have hb:Below x.w.heap.size w w':=⟨hg.os,hg.tape,hg.output,hg.size,fun q hq=>hg.block q (Nat.lt_of_lt_of_le hq hS.bel.size) fun e=>by
  have:=(zaP k1 e.symm).1
  omega⟩
 have hnS: ∀g,(m.ρ r).ownBlock=some g-> ∀o,¬m.S g o:=k.fresh q3;have hcell: ∀b o,m.S b o->Stay w w' b o:=fun b o hh=> .block (hg.block b (hS.low b o hh) fun e=>hnS b e.symm o hh);have hlow: ∀b o,m.S b o->b<w'.heap.size:=fun b o hh=>Nat.lt_of_lt_of_le (hS.low b o hh) hg.size
 have hS2:Sim x (s.renew r { row with es:=zaL ls' } false) a w' ⟨m.S,upd m.ρ r v'⟩:=by
  refine hS.renew r _ false v' m.S hb (fun b o hh=>⟨hh,hcell b o hh⟩) (fun b o hh=> .inl hh) (fun q row1 hne hq gq hgq=>⟨?_,fun e=> ?_,fun _ hh=>hh⟩) ?_ fun b hf=>⟨hg.block b (hS.fxlt hf) fun e=>hS.nofx r row q1 b e.symm hf,fun _ hh=>hh,fun e=>hS.nofx r row q1 b (hsub b e) hf⟩
  ·exact hg.block gq ((hS.rows q row1 hq).blk hgq).2 fun e=>hS.inj r q row row1 q1 hq (Ne.symm hne) gq e.symm hgq
  ·exact hS.inj r q row row1 q1 hq (Ne.symm hne) gq (hsub gq e) hgq
  ·have hel: ∀(i:Nat) (e:List AV),(zaL ls')[i]? =some e->e.length=row.sz:=fun i e he=>by
    unfold zaL at he;rw[List.getElem?_map]at he;cases hl:ls'[i]? with
    |none=>rw[hl]at he;cases he
    | some l=>
      rw[hl]at he;cases he;simpa using (hC.els l (List.mem_of_getElem? hl)).1
   have hll:(zaL ls').length=ls'.length:=by unfold zaL;rw[List.length_map]
   have hρ:(⟨m.S,upd m.ρ r v'⟩:Mem).ρ r=v':=upd_same ..;refine .inl ⟨k.pos,hel,⟨ls'.flatten,by rw[hρ];show w'.ownsRow _ _ _ _ (zaL ls').length _;rw[hll];exact ho,?_,?_⟩,fun he=> ?_,fun g hg' o _=> ?_,fun _ g hg' o=> ?_⟩
   ·intro u hu;obtain⟨l,hl,hul⟩:=List.mem_flatten.1 hu;exact(hC.els l hl).2 u hul
   ·intro i j c hcc;obtain⟨l,u,h1,h2,rfl⟩:=zoa hcc;refine⟨u,zcD ls' (fun l hl=>(hC.els l hl).1) i j l u h1 h2,?_⟩;show if row.pure=true then _ else _
    rw[if_pos hp];exact .lit u
   ·have he:upd s.esc r false r=true:=he;rw[upd_same]at he;cases he
   ·rw[hρ]at hg';exact hnS g (hsub g hg') o
   ·rw[hρ]at hg';exact hnS g (hsub g hg') o
 refine⟨v',_,rfl,hS2, .row r (ver+1) h1 ?_ fun _ row' _=> ?_⟩
 ·show ver+1<=upd s.vs r (s.vs r+1) r;rw[upd_same,q2];exact Nat.le_refl _
 ·show v'=upd m.ρ r v' r;rw[upd_same]
section
variable {P:Program} {env:Env} {s:St}
theorem zkj {o:Oper} {f:FuncId} {args:List AV} {rest:List Stp} {s1:St} {row:Row} {ls ls':List (List Value)} {ft:Foot} {K:St->List Foot->Prop} (r:Nat) (hc:zaH env s.f o=some (f,args)) (hC:Cuts P f row.e row.sz ls ls') (hrz:row.sz≠0) (hp:row.pure=true) (e5:row.es=zaL ls)
 (ha:Is args [.row r (s.vs r)]) (hr:Is (s.rows r) (some row)) (he:Is (s.esc r) false) (h1:Is ((⟨.row r (s.vs r+1),[.renew r { row with es:=zaL ls' }]⟩:Out).app o.dst s) s1) (h2:Is (⟨[r],[r],[r],[]⟩:Foot) ft) (k:aops P env rest s1 fun s2 fts=>K s2 (ft::fts)):aops P env (⟨o, .always⟩::rest) s K:=by
 unfold Is at h2;subst h2;exact zh4 hc ha (zu5 hC hr rfl hrz hp e5) (fun q hq=>by rw[List.mem_singleton.1 hq];exact he) h1 k
theorem zhL {o:Oper} {f:FuncId} {args:List AV} {rest:List Stp} {s1:St} {row:Row} {ls ls':List (List Value)} {K:St->List Foot->Prop} (r:Nat) (hc:zaH env s.f o=some (f,args)) (hT:Turns P f [] row.e row.sz ls ls') (hrz:row.sz≠0) (hp:row.pure=true) (e5:row.es=zaL ls)
 (ha:Is args [.row r (s.vs r)]) (hr:Is (s.rows r) (some row)) (he:Is (s.esc r) false) (h1:Is ((s.setRow r { row with es:=zaL ls' }).put o.dst .any) s1) (k:aops P env rest s1 fun s2 fts=>K s2 (⟨[r],[r],[r],[]⟩::fts)):aops P env (⟨o, .always⟩::rest) s K:=
 zl2 (rs:=[]) r hc (show args=_ from ha) hr he hT e5 hp hrz h1 k
end
end Go.Proofs.YtbpmkofnfgdegaaGreatDoor
namespace Go.Proofs.YtbpmkofnfgdegaaGreatDoor
open Go.Proofs.Tryz
open Go.RowKit Go.Sort Go.Shelf Go.Lib
theorem heap_put {w:World} {g n:Nat} {os:Array Obj} {cur:Array Value} {e:TypeId} {fr:Nat×Nat} (F:Array Value) (hb:w.heap[g]? =some (.cells cur e fr)):
 (grow (putRow id (Sort.ahead w n) g 0 F) os).heap[g]? =some (.cells (putCells id 0 F cur) e fr):=by
 have hg:g<w.heap.size:=(Array.getElem?_eq_some_iff.1 hb).1;rw[heap_grow_old _ _ (by simpa[putRow,mapBlock,Sort.ahead]using hg)];simp[putRow,mapBlock,Sort.ahead,Array.getElem?_modify,hb,onCells]
theorem ze0 {w:World} {g n:Nat} {os:Array Obj} (F:Array Value):w.grownBy (grow (putRow id (Sort.ahead w n) g 0 F) os) (some g):=by
 refine⟨rfl,rfl,rfl,by simp[putRow,mapBlock,Sort.ahead],fun k hk hne=> ?_⟩;rw[heap_grow_old _ _ (by simpa[putRow,mapBlock,Sort.ahead]using hk)];have:g≠k:=fun e=>hne (by rw[e]);simp[putRow,mapBlock,Sort.ahead,Array.getElem?_modify,this]
theorem zjh (cur F:Array Value) (h:F.size<=cur.size):(putCells id 0 F cur).toList.take F.size=F.toList:=by
 apply List.ext_getElem?;intro j;by_cases hj:j<F.size
 ·rw[List.getElem?_take_of_lt hj,Array.getElem?_toList];simp[putCells,hj,show j<cur.size by omega]
 ·rw[List.getElem?_take_eq_none (by omega),List.getElem?_eq_none (by simp;omega)]
theorem zex {P:Program} {f:FuncId} {rest:List Value} {e:TypeId} {sz:Nat} {ls ls':List (List Value)} (hne:0<ls.length) (henter: ∀(args:Array Value) (w:World),(callFunc f args).run P w= .ok (.enter f args) w)
 (hl:ls'.length=ls.length) (hls: ∀l∈ls,l.length=sz) (hel: ∀l∈ls',l.length=sz/\ ∀u∈l,u.oneCell'=true)
 (h: ∀(w:World) (g cap:Nat),Holds id w g 0 ls.flatten.toArray->g<w.heap.size->Calls P f (.slice (some ⟨g,0,none⟩) ls.length cap::rest).toArray w fun ex w'=>ex= .returned (.tuple #[])/\ ∃n os,w'=grow (putRow id (Sort.ahead w n) g 0 ls'.flatten.toArray) os):
 Turns P f rest e sz ls ls':=by
 refine⟨henter,hl,hel,fun w base v ho=> ?_⟩;have hf:=zb7 ls hls;have hf':=zb7 ls' fun l hl=>(hel l hl).1;rcases ho.2 with⟨_,h0⟩|⟨g,cap,cur,rfl,hbase,hb,h1,h2,h3,h4⟩
 ·omega
 have hsz:ls.length*sz<=cur.size:=by rw[h3];exact Nat.mul_le_mul_right _ h1
 have hg:g<w.heap.size:=(Array.getElem?_eq_some_iff.1 hb).1;refine(h w g cap (fun j hj=>⟨?_,by simp[World.frozen?,hb]⟩) hg).mono ?_
 ·have hj':j<ls.flatten.length:=by simpa using hj
  have e1:(cur.toList.take (ls.length*sz))[j]? =ls.flatten[j]? :=by rw[h4]
  rw[List.getElem?_take_of_lt (by omega)]at e1;simp only[World.cell?,hb,Nat.zero_add];simp only[Option.isSome_none,Bool.false_eq_true,if_false];rw[<-Array.getElem?_toList,e1,getElem!_pos _ j hj,List.getElem?_eq_getElem hj'];rfl
 ·rintro ex w' ⟨rfl,n,os,rfl⟩;refine⟨rfl,ze0 _,by rw[hf',hl], .inr ⟨g,cap,_,rfl,hbase,heap_put _ hb,h1,h2,by simp[putCells,h3],?_⟩⟩;have:=zjh cur ls'.flatten.toArray (by simp[hf',hl];exact hsz);rw[show ls'.flatten.toArray.size=ls.length*sz by simp[hf',hl]]at this;exact this
theorem zfF {P:Program} {f:FuncId} {rest:List Value} {e:TypeId} {sz:Nat} (henter: ∀(args:Array Value) (w:World),(callFunc f args).run P w= .ok (.enter f args) w)
 (h: ∀(p:Option Addr) (cap:Nat) (w:World),Calls P f (.slice p 0 cap::rest).toArray w fun ex w'=>ex= .returned (.tuple #[])/\w'=w):Turns P f rest e sz [] []:=by
 refine⟨henter,rfl,fun l hl=>by simp at hl,fun w base v ho=> ?_⟩
 have key: ∃p cap,v= .slice p 0 cap:=by
  rcases ho.2 with⟨rfl,_⟩|⟨g,cap,cur,rfl,_⟩
  ·exact⟨_,_,rfl⟩
  ·exact⟨_,_,rfl⟩
 obtain⟨p,cap,rfl⟩:=key;refine(h p cap w).mono ?_;rintro ex w' ⟨rfl,rfl⟩;exact⟨rfl,⟨rfl,rfl,rfl,Nat.le_refl _,fun _ _ _=>rfl⟩,ho⟩
section
variable {α:Type} [Inhabited α]
theorem zea (enc:α->Value) (w:World) (g:Nat) (d:Array α):putRow enc w g 0 d=putRow id w g 0 (d.map enc):=by
 unfold putRow;refine mapBlock_congr _ _ _ _ fun c _ _ _=> ?_;apply Array.ext_getElem?;intro k;simp only[putCells,Array.getElem?_mapIdx,Array.size_map];cases c[k]? with
 |none=>rfl
 | some y=>
   simp only[Option.map_some,Nat.sub_zero,Nat.zero_add];by_cases hk:0<=k/\k<d.size
   ·rw[if_pos hk,if_pos hk];simp[hk.2]
   ·rw[if_neg hk,if_neg hk]
end
end Go.Proofs.YtbpmkofnfgdegaaGreatDoor
namespace Go.Proofs
open Go.Shelf
def Tryz.sortS_ren:Go.Shelf.Ren:=⟨fun|190=>121|125=>180|258=>179|128=>221|129=>222|302=>213|303=>214|304=>215|305=>216|306=>217|307=>218|308=>181|309=>219|310=>220|333=>254|329=>255|330=>256|334=>257|335=>258|336=>223|344=>275|n=>n,fun|31=>118|9=>9|3=>3|46=>223|0=>0|51=>170|53=>259|4=>4|183=>253|182=>252|131=>178|5=>5|218=>283|222=>287|228=>296|229=>92|n=>n,fun|n=>n⟩
theorem Tryz.sortS:Go.Proofs.Lays.n190 prog Tryz.sortS_ren:={
 mixed:=by kernel_rfl
 f125:=func180.trans (congrArg some (by kernel_rfl))
 f128:=func221.trans (congrArg some (by kernel_rfl))
 f129:=func222.trans (congrArg some (by kernel_rfl))
 f190:=func121.trans (congrArg some (by kernel_rfl))
 f258:=func179.trans (congrArg some (by kernel_rfl))
 f302:=func213.trans (congrArg some (by kernel_rfl))
 f303:=func214.trans (congrArg some (by kernel_rfl))
 f304:=func215.trans (congrArg some (by kernel_rfl))
 f305:=func216.trans (congrArg some (by kernel_rfl))
 f306:=func217.trans (congrArg some (by kernel_rfl))
 f307:=func218.trans (congrArg some (by kernel_rfl))
 f308:=func181.trans (congrArg some (by kernel_rfl))
 f309:=func219.trans (congrArg some (by kernel_rfl))
 f310:=func220.trans (congrArg some (by kernel_rfl))
 f329:=func255.trans (congrArg some (by kernel_rfl))
 f330:=func256.trans (congrArg some (by kernel_rfl))
 f333:=func254.trans (congrArg some (by kernel_rfl))
 f334:=func257.trans (congrArg some (by kernel_rfl))
 f335:=func258.trans (congrArg some (by kernel_rfl))
 f336:=func223.trans (congrArg some (by kernel_rfl))
 f344:=func275.trans (congrArg some (by kernel_rfl))
 t0:=Tryz.underlying0
 a0:=Tryz.isAgg0
 z0:=Tryz.sizeOf0
 v0:=Tryz.zeroValue0
 t3:=Tryz.underlying3
 a3:=Tryz.isAgg3
 z3:=Tryz.sizeOf3
 v3:=Tryz.zeroValue3
 t4:=Tryz.underlying4
 a4:=Tryz.isAgg4
 z4:=Tryz.sizeOf4
 v4:=Tryz.zeroValue4
 t5:=Tryz.underlying5
 a5:=Tryz.isAgg5
 z5:=Tryz.sizeOf5
 v5:=Tryz.zeroValue5
 t9:=Tryz.underlying9
 a9:=Tryz.isAgg9
 z9:=Tryz.sizeOf9
 v9:=Tryz.zeroValue9
 t31:=Tryz.underlying118
 a31:=Tryz.isAgg118
 z31:=Tryz.sizeOf118
 v31:=Tryz.zeroValue118
 t46:=Tryz.underlying223
 a46:=Tryz.isAgg223
 z46:=Tryz.sizeOf223
 v46:=Tryz.zeroValue223
 t51:=Tryz.underlying170
 a51:=Tryz.isAgg170
 z51:=Tryz.sizeOf170
 v51:=Tryz.zeroValue170
 t53:=Tryz.underlying259
 a53:=Tryz.isAgg259
 z53:=Tryz.sizeOf259
 v53:=Tryz.zeroValue259
 t131:=Tryz.underlying178
 a131:=Tryz.isAgg178
 z131:=Tryz.sizeOf178
 v131:=Tryz.zeroValue178
 t182:=Tryz.underlying252
 a182:=Tryz.isAgg252
 z182:=Tryz.sizeOf252
 v182:=Tryz.zeroValue252
 t183:=Tryz.underlying253
 a183:=Tryz.isAgg253
 z183:=Tryz.sizeOf253
 v183:=Tryz.zeroValue253
 t218:=Tryz.underlying283
 a218:=Tryz.isAgg283
 z218:=Tryz.sizeOf283
 v218:=Tryz.zeroValue283
 t222:=Tryz.underlying287
 a222:=Tryz.isAgg287
 z222:=Tryz.sizeOf287
 v222:=Tryz.zeroValue287
 t228:=Tryz.underlying296
 a228:=Tryz.isAgg296
 z228:=Tryz.sizeOf296
 v228:=Tryz.zeroValue296
 t229:=Tryz.underlying92
 a229:=Tryz.isAgg92
 z229:=Tryz.sizeOf92
 v229:=Tryz.zeroValue92 }
def Tryz.sortI_ren:Go.Shelf.Ren:=⟨fun|189=>161|125=>180|257=>202|128=>221|129=>222|294=>242|295=>243|296=>244|297=>245|298=>246|299=>247|216=>248|300=>249|301=>250|328=>271|329=>255|330=>256|331=>272|332=>273|215=>274|343=>288|n=>n,fun|28=>27|3=>3|46=>223|0=>0|51=>170|53=>259|4=>4|183=>253|182=>252|131=>178|5=>5|9=>9|218=>283|222=>287|228=>296|229=>92|n=>n,fun|n=>n⟩
theorem Tryz.sortI:Go.Proofs.Lays.n189 prog Tryz.sortI_ren:={
 mixed:=by kernel_rfl
 f125:=func180.trans (congrArg some (by kernel_rfl))
 f128:=func221.trans (congrArg some (by kernel_rfl))
 f129:=func222.trans (congrArg some (by kernel_rfl))
 f189:=func161.trans (congrArg some (by kernel_rfl))
 f215:=func274.trans (congrArg some (by kernel_rfl))
 f216:=func248.trans (congrArg some (by kernel_rfl))
 f257:=func202.trans (congrArg some (by kernel_rfl))
 f294:=func242.trans (congrArg some (by kernel_rfl))
 f295:=func243.trans (congrArg some (by kernel_rfl))
 f296:=func244.trans (congrArg some (by kernel_rfl))
 f297:=func245.trans (congrArg some (by kernel_rfl))
 f298:=func246.trans (congrArg some (by kernel_rfl))
 f299:=func247.trans (congrArg some (by kernel_rfl))
 f300:=func249.trans (congrArg some (by kernel_rfl))
 f301:=func250.trans (congrArg some (by kernel_rfl))
 f328:=func271.trans (congrArg some (by kernel_rfl))
 f329:=func255.trans (congrArg some (by kernel_rfl))
 f330:=func256.trans (congrArg some (by kernel_rfl))
 f331:=func272.trans (congrArg some (by kernel_rfl))
 f332:=func273.trans (congrArg some (by kernel_rfl))
 f343:=func288.trans (congrArg some (by kernel_rfl))
 t0:=Tryz.underlying0
 a0:=Tryz.isAgg0
 z0:=Tryz.sizeOf0
 v0:=Tryz.zeroValue0
 t3:=Tryz.underlying3
 a3:=Tryz.isAgg3
 z3:=Tryz.sizeOf3
 v3:=Tryz.zeroValue3
 t4:=Tryz.underlying4
 a4:=Tryz.isAgg4
 z4:=Tryz.sizeOf4
 v4:=Tryz.zeroValue4
 t5:=Tryz.underlying5
 a5:=Tryz.isAgg5
 z5:=Tryz.sizeOf5
 v5:=Tryz.zeroValue5
 t9:=Tryz.underlying9
 a9:=Tryz.isAgg9
 z9:=Tryz.sizeOf9
 v9:=Tryz.zeroValue9
 t28:=Tryz.underlying27
 a28:=Tryz.isAgg27
 z28:=Tryz.sizeOf27
 v28:=Tryz.zeroValue27
 t46:=Tryz.underlying223
 a46:=Tryz.isAgg223
 z46:=Tryz.sizeOf223
 v46:=Tryz.zeroValue223
 t51:=Tryz.underlying170
 a51:=Tryz.isAgg170
 z51:=Tryz.sizeOf170
 v51:=Tryz.zeroValue170
 t53:=Tryz.underlying259
 a53:=Tryz.isAgg259
 z53:=Tryz.sizeOf259
 v53:=Tryz.zeroValue259
 t131:=Tryz.underlying178
 a131:=Tryz.isAgg178
 z131:=Tryz.sizeOf178
 v131:=Tryz.zeroValue178
 t182:=Tryz.underlying252
 a182:=Tryz.isAgg252
 z182:=Tryz.sizeOf252
 v182:=Tryz.zeroValue252
 t183:=Tryz.underlying253
 a183:=Tryz.isAgg253
 z183:=Tryz.sizeOf253
 v183:=Tryz.zeroValue253
 t218:=Tryz.underlying283
 a218:=Tryz.isAgg283
 z218:=Tryz.sizeOf283
 v218:=Tryz.zeroValue283
 t222:=Tryz.underlying287
 a222:=Tryz.isAgg287
 z222:=Tryz.sizeOf287
 v222:=Tryz.zeroValue287
 t228:=Tryz.underlying296
 a228:=Tryz.isAgg296
 z228:=Tryz.sizeOf296
 v228:=Tryz.zeroValue296
 t229:=Tryz.underlying92
 a229:=Tryz.isAgg92
 z229:=Tryz.sizeOf92
 v229:=Tryz.zeroValue92 }
def Tryz.compS_ren:Go.Shelf.Ren:=⟨fun|194=>122|n=>n,fun|31=>118|9=>9|3=>3|4=>4|0=>0|n=>n,fun|n=>n⟩
theorem Tryz.compS:Go.Proofs.Lays.n194 prog Tryz.compS_ren:={
 mixed:=by kernel_rfl
 f194:=func122.trans (congrArg some (by kernel_rfl))
 t0:=Tryz.underlying0
 a0:=Tryz.isAgg0
 z0:=Tryz.sizeOf0
 v0:=Tryz.zeroValue0
 t3:=Tryz.underlying3
 a3:=Tryz.isAgg3
 z3:=Tryz.sizeOf3
 v3:=Tryz.zeroValue3
 t4:=Tryz.underlying4
 a4:=Tryz.isAgg4
 z4:=Tryz.sizeOf4
 v4:=Tryz.zeroValue4
 t9:=Tryz.underlying9
 a9:=Tryz.isAgg9
 z9:=Tryz.sizeOf9
 v9:=Tryz.zeroValue9
 t31:=Tryz.underlying118
 a31:=Tryz.isAgg118
 z31:=Tryz.sizeOf118
 v31:=Tryz.zeroValue118 }
end Go.Proofs
namespace Go.Proofs.YtbpmkofnfgdegaaGreatDoor
open Go.Proofs.Tryz
open Go.RowKit Go.Sort Go.Shelf Go.Lib
set_option maxHeartbeats 4000000 in
set_option maxRecDepth 100000 in
theorem zpe (p:Option Addr) (cap:Nat) (w:World):Calls prog 121 #[.slice p 0 cap] w fun ex w'=>ex= .returned (.tuple #[])/\w'=w:=by
 go_enter func121,ntmps121
 go_wp2_with (first|go_in)
 refine wp_loop_rounds 1 ?_;simp only[Code.rounds]
 go_wp2_with (first|go_in)
 refine wp_loop_rounds 1 ?_;simp only[Code.rounds]
 go_wp2_with (first|go_in)
 go_end0
 exact⟨rfl,rfl⟩
def strC (s:List UInt8):List Value:=[encStr s]
theorem zbW {α:Type} (f:α->Value): ∀l:List α,(l.map fun s=>[f s]).flatten=l.map f
 |[]=>rfl
 |x::l=>by simp[zbW f l]
theorem zsf {w:World} {g:Nat} {l:List (List UInt8)} (h:Holds id w g 0 (l.map encStr).toArray):Holds encStr w g 0 l.toArray:=fun j hj=>by
 have hj':j<l.length:=by simpa using hj
 have:=h j (by simpa using hj');rw[getElem!_pos _ j (by simpa using hj')]at this;rw[getElem!_pos _ j hj];simpa using this
theorem Tryz.sortEnter: ∀(args:Array Value) (w:World),(callFunc 121 args).run prog w= .ok (.enter 121 args) w:=enters_of func121 (by kernel_rfl) rfl
theorem Tryz.compEnter: ∀(args:Array Value) (w:World),(callFunc 122 args).run prog w= .ok (.enter 122 args) w:=enters_of func122 (by kernel_rfl) rfl
def zdU (l:List (List UInt8)):List (List UInt8):=l.mergeSort fun x y=>decide (x<=y)
theorem zmp (l:List (List UInt8)) (hl:l.length<4611686018427387904):Turns prog 121 [] 9 1 (l.map strC) ((zdU l).map strC):=by
 by_cases h0:l=[]
 ·subst h0;rw[show zdU []=[] by simp[zdU]];exact zfF Tryz.sortEnter fun p cap w=>zpe p cap w
 ·refine zex (by rw[List.length_map];exact List.length_pos_iff.2 h0) Tryz.sortEnter (by simp[zdU]) (fun x hx=> ?_) (fun x hx=> ?_) fun w g cap hH hg=> ?_
  ·obtain⟨y,_,rfl⟩:=List.mem_map.1 hx;rfl
  ·obtain⟨y,_,rfl⟩:=List.mem_map.1 hx;exact⟨rfl,fun u hu=>by rw[List.mem_singleton.1 hu];rfl⟩
  ·have hH:Holds id w g 0 (l.map encStr).toArray:=by rw[<-zbW];exact hH
   have:=Any.slices_Sort_string Tryz.sortS g 0 cap l w (zsf hH) hg hl;rw[List.length_map];refine(show Calls prog 121 #[.slice (some ⟨g,0,none⟩) l.length cap] w _ from this).mono ?_;rintro ex w' ⟨rfl,n,os,rfl⟩;refine⟨rfl,n,os,?_⟩;rw[zea,show ((zdU l).map strC).flatten=(zdU l).map encStr from zbW encStr _];simp[zdU]
theorem zp3 (l:List (List UInt8)) (hl:l.length<=9223372036854775807):Cuts prog 122 9 1 (l.map strC) ((Lib.compact l).map strC):=by
 refine⟨Tryz.compEnter,fun x hx=> ?_,fun w base v ho=> ?_⟩
 ·obtain⟨y,_,rfl⟩:=List.mem_map.1 hx;exact⟨rfl,fun u hu=>by rw[List.mem_singleton.1 hu];rfl⟩
 rw[show (l.map strC).flatten=l.map encStr from zbW encStr _,List.length_map]at ho;rw[show ((Lib.compact l).map strC).flatten=(Lib.compact l).map encStr from zbW encStr _,List.length_map];by_cases h0:l=[]
 ·subst h0
  obtain⟨p,cap,rfl⟩: ∃p cap,v= .slice p 0 cap:=by
   rcases ho.2 with⟨rfl,_⟩|⟨g,cap,cur,rfl,_⟩
   ·exact⟨_,_,rfl⟩
   ·exact⟨_,_,rfl⟩
  refine(show Calls prog 122 #[.slice p 0 cap] w _ from Any.slices_Compact_string_empty Tryz.compS p cap w).mono ?_;rintro ex w' ⟨rfl,rfl⟩;exact⟨_,rfl,rfl,⟨rfl,rfl,rfl,Nat.le_refl _,fun _ _ _=>rfl⟩,fun _ h=>h,ho⟩
 ·rcases ho.2 with⟨_,h⟩|⟨g,cap,cur,rfl,hbase,hb,h1,h2,h3,h4⟩
  ·exact absurd (List.eq_nil_of_length_eq_zero h) h0
  have hg:g<w.heap.size:=(Array.getElem?_eq_some_iff.1 hb).1
  have hH:Holds encStr w g 0 l.toArray:=fun j hj=>by
   have hj':j<l.length:=by simpa using hj
   have e1:(cur.toList.take (l.length*1))[j]? =(l.map encStr)[j]? :=by rw[h4]
   rw[List.getElem?_take_of_lt (by omega),List.getElem?_map,List.getElem?_eq_getElem hj']at e1;refine⟨?_,by simp[World.frozen?,hb]⟩;simp only[World.cell?,hb,Nat.zero_add,Option.isSome_none,Bool.false_eq_true,if_false];rw[<-Array.getElem?_toList,e1,getElem!_pos _ j hj];rfl
  have hcl:(Lib.compact l).length<=l.length:=by
   unfold Lib.compact Lib.compactUpTo;rw[List.length_map];exact Nat.le_trans (List.length_filter_le ..) (by simp)
  refine(show Calls prog 122 #[.slice (some ⟨g,0,none⟩) l.length cap] w _ from Any.slices_Compact_string Tryz.compS g 0 cap l w hH hl h1).mono ?_;rintro ex w' ⟨rfl,q,rfl⟩;rw[zea];generalize hF:((Lib.compact l++List.replicate (l.length-(Lib.compact l).length) []).toArray.map encStr)=F;have hFs:F.size=l.length:=by rw[<-hF];simp;omega
  have hgr: ∀W:World,grow W #[]=W:=fun W=>by simp[grow]
  have e2:=heap_put (n:=q) (os:= #[]) F hb;have e3:=ze0 (w:=w) (g:=g) (n:=q) (os:= #[]) F;rw[hgr]at e2 e3;refine⟨_,rfl,rfl,e3,fun _ h=>h,⟨by rw[List.length_map,Nat.mul_one], .inr ⟨g,cap,_,rfl,hbase,e2,Nat.le_trans hcl h1,h2,by simp[putCells,h3],?_⟩⟩⟩;have ht:=zjh cur F (by rw[hFs,h3];omega);rw[Nat.mul_one]
  have:((putCells id 0 F cur).toList.take (Lib.compact l).length)=(F.toList).take (Lib.compact l).length:=by
   rw[<-ht,List.take_take,Nat.min_eq_left (by omega)]
  rw[this, <-hF];simp
end Go.Proofs.YtbpmkofnfgdegaaGreatDoor
namespace Go.Proofs.YtbpmkofnfgdegaaGreatDoor
open Go.Proofs.Tryz
open Go.RowKit
structure Right (c:ChD):Prop where
 few:c.states.length<=32
 par: ∀(k:Nat) (s:StD),c.states[k]? =some s-> -1<=s.parent/\s.parent<k
 top: ∃(m:Nat) (q:StD),c.initial=m/\c.states[m]? =some q/\q.parent= -1
theorem zbf {p:Nat->Bool} {n:Nat} (h:zaA p n=none) (j:Nat) (hj:j<n):p j=true:=by
 unfold zaA at h;rw[List.find?_eq_none]at h;simpa using h j (by simpa using hj)
theorem znP {c:ChD} (h:(chk c).1=0):Right c:=by
 unfold chk at h;split at h
 ·simp at h
 rename_i h1;split at h
 ·simp at h
 split at h
 ·simp at h
 split at h
 ·simp at h
 rename_i h3;split at h
 ·simp at h
 rename_i h4;refine⟨by omega,fun k s hs=> ?_,?_⟩
 ·have hk:k<c.states.length:=(List.getElem?_eq_some_iff.1 hs).1;have:=zbf h3 k hk;unfold zgx at this;rw[hs]at this
  have hp:zbz c k s=true:=by
   simp only[zbm,Bool.and_eq_true]at this;exact this.1.1.1.2
  simp only[zbz,Bool.or_eq_true,Bool.and_eq_true,decide_eq_true_eq,beq_iff_eq]at hp;omega
 ·have ht:topB c=true:=by simpa using h4
  unfold topB at ht;split at ht
  ·rename_i q hq;simp only[Bool.and_eq_true,beq_iff_eq]at ht;unfold at_ at hq;split at hq
   ·rename_i h0;exact⟨c.initial.toNat,q,by omega,hq,ht.1⟩
   ·cases hq
  ·cases ht
def low (c:ChD) (n:Nat) (k:Nat):Bool:=match c.states[k]? with
 |some s=>decide (s.parent+1<n)&& !zaq s
 |none=>false
theorem zog {c:ChD} {i:Int} {k:Nat} (h:k∈kidsL c i true): ∃s,c.states[k]? =some s/\s.parent=i/\zaq s=false/\k<c.states.length:=by
 obtain⟨h1,h2⟩:=zhx h;obtain⟨s,hs,_⟩:=zak h1;unfold zb6 at h2;rw[hs]at h2;simp at h2;exact⟨s,hs,h2.1,h2.2,h1⟩
theorem zrZ {c:ChD} {i:Int} {k:Nat} {s:StD} (hs:c.states[k]? =some s) (hp:s.parent=i) (hm:zaq s=false):k∈kidsL c i true:=by
 have hk:k<c.states.length:=(List.getElem?_eq_some_iff.1 hs).1;unfold kidsL zaX;rw[List.mem_filter];refine⟨by simpa using hk,?_⟩;unfold zb6;rw[hs];simp[hp,hm]
end Go.Proofs.YtbpmkofnfgdegaaGreatDoor
