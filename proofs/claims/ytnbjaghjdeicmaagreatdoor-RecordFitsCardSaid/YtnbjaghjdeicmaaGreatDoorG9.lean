/- The plain law of charts' trees: in a right chart parents are ahead; what is counted. No program is named here. -/
import Derived.Test.YtnbjaghjdeicmaaGreatDoorG8
import Derived.Test.YtnbjaghjdeicmaaGreatDoorRows
import Derived.ProofKit
import Derived.LaidMore
import Derived.OpenShut
import Derived.LaidLaws
import Derived.Stop.Joined
import Derived.Test.YtnbjaghjdeicmaaGreatDoorG5
import Derived.Test.YtnbjaghjdeicmaaGreatDoorG7
import Derived.Test.YtnbjaghjdeicmaaGreatDoorG4
import Derived.Shelf.Sort.Plain
import Derived.Shelf.Slices.CompactS
import Derived.Ground.NamesProg
import Derived.Test.YtnbjaghjdeicmaaGreatDoorProg
import Derived.LoopN
import Derived.Shelf.Abstract
namespace Go.Proofs.YtnbjaghjdeicmaaGreatDoor
open Go.RowKit Go.ChangeShapes
section
variable {P:Program} {W:World} {nm:String} {ti tp te ts:TypeId} {ms:Array (String×TypeId)} {f:Field}
theorem zjV (hi:P.underlying ti=some (.interface ms)) (hrow: ∀u,P.typeName? 3 u=some nm->u=tp)
 (hp:P.underlying tp=some (.pointer te)) (he:P.underlying te=some (.struct #[f])) (hft:f.type=ts) (hfo:f.offset=0) (hs:P.underlying ts=some .string) (hc:P.cellsOf te=1) (hcs:P.cellsOf ts=1):
 ∀(l:List (String×List UInt8)) (gs:List Nat) (ps:List MemPlace),DataW.LaidVars P W (l.map fun x=>(x.1, .iface nm (.ptr (.agg [.lit (.string x.2)])))) ps->
  l.map (fun x=>P.globalNamed x.1)=gs.map some->(∀g∈gs,(P.globals[g]?).map (·.type)=some ti)->
  (∀b off,MemPlace.cell b off∈ps->(∃c t,W.heap[b]? =some (.cells c t (0,0)))/\ ∀u v,W.cell? ⟨b,off,none⟩=some (.iface u v)->Value.okWide P W .any 0 u v)->
  ∃adl:List Addr,adl.length=gs.length/\(∀(i:Nat) (g:Nat) (a:Addr),gs[i]? =some g->adl[i]? =some a->W.cell? ⟨g,0,none⟩=some (.iface tp (.pointer (some a)))/\ ∃ca ta,W.heap[a.block]? =some (.cells ca ta (0,0)))/\
   (adl.map fun a=>MemPlace.cell a.block a.off).Sublist ps
 | [],gs,ps,_,hg,_,_=>by
   obtain rfl:gs=[]:=by cases gs<;>simp_all
   exact⟨[],rfl,by simp,by simp⟩
 |(n,text)::l,gs,ps,hv,hg,ht,hrows=>by
   obtain⟨g,gs,rfl⟩: ∃g gs',gs=g::gs':=by cases gs<;>simp_all
   simp only [List.map_cons,List.cons.injEq] at hg
   obtain⟨g0,t0,cs0,f0,p0,q0,hg0,ht0,hv0,hd0,hrest,rfl⟩:=hv
   obtain rfl:=Option.some.inj (hg.1.symm.trans hg0)
   obtain rfl:=Option.some.inj ((ht g (by simp)).symm.trans ht0)
   obtain⟨l0⟩:=cs0
   have ok0: ∀u v,l0=[.iface u v]->Value.okWide P W .any 0 u v:=fun u v e=>by
    subst e
    exact(hrows g 0 (by simp [MemPlace.row])).2 u v (by simpa using World.var?_cell hg0 hv0 0)
   obtain⟨a0,s0,rfl,_,_,_,rfl⟩:=errorString_of_trod hi hrow hp he hft hfo hs hc hcs hd0 ok0
   obtain⟨adl,h1,h2,h3⟩:=zjV hi hrow hp he hft hfo hs hc hcs l gs q0 hrest hg.2 (fun g' h=>ht g' (by simp [h])) (fun b off h=>hrows b off (List.mem_append_right _ h))
   refine⟨a0::adl,by simp [h1], ?_, ?_⟩
   ·intro i g' a' hg' ha'
    cases i with
    | zero=>
      simp at hg' ha'
      subst hg' ha'
      exact⟨by simpa using World.var?_cell hg0 hv0 0,(hrows a0.block a0.off (by simp [MemPlace.row])).1⟩
    | succ i=>exact h2 i g' a' (by simpa using hg') (by simpa using ha')
   ·simp only [List.map_cons,MemPlace.row]
    exact List.Sublist.trans (List.Sublist.append (by simp:[MemPlace.cell a0.block a0.off].Sublist _) h3) (List.Sublist.append (List.sublist_append_right _ _) (List.Sublist.refl _))
end
theorem Tryz.row160: ∀u,Tryz.prog.typeName? 3 u=some "*errors.errorString" ->u=379:=
 fun u hu=>typeName_ptr_named (nm:= "errors.errorString") (by kernel_rfl) (by kernel_rfl) (by decide) u hu
section
open Go.WideShapes
variable {H:Type} {enc:TypeId×Value->H} {P:Program}
theorem zfM (hl:laidOutB P=true) {W W':World} (hb:Below W.heap.size W W'): ∀(ts:List TypeId) (vs:List Value) (ds:List (DataW H)) (ps:List MemPlace),
 (∀t∈ts,P.readableRec t=true/\t<P.types.size)->(∀x∈ps,x.block<W.heap.size)->DataW.TrodAll enc P W 0 (fun _=>true) true ts vs ds ps->DataW.TrodAll enc P W' 0 (fun b=>decide (b<W.heap.size)) true ts vs ds ps
 | [],[],[],_,_,_,h=>h
 | t::ts,v::vs,d::ds,ps,ht,hp,h=>by
   obtain⟨p,q,h1,h2,rfl⟩:=h
   have r:=ht t (by simp)
   exact⟨p,q,Below.trod hl r.1 r.2 h1 hb (fun x hx=>hp x (List.mem_append_left _ hx)),zfM hl hb ts vs ds q (fun t' h'=>ht t' (by simp [h'])) (fun x hx=>hp x (List.mem_append_right _ hx)) h2,rfl⟩
 | [],_::_,_,_,_,_,h=>by cases h
 | [],[],_::_,_,_,_,h=>by cases h
 | _::_,[],_,_,_,_,h=>by cases h
 | _::_,_::_,[],_,_,_,h=>by cases h
theorem zq3 (hl:laidOutB P=true) {f:Func} {s:ChangeSpec} {tb:TypeId} {W W':World} {args:Array Value} {ds gs:List (DataW H)} {before:List MemPlace}
 (hpar: ∀t∈f.params.toList,P.readableRec t=true/\t<P.types.size) (hrt:f.resultTypes= #[tb]) (htb:P.underlying tb=some .bool)
 (hW:DataW.Whole enc P f.params.toList s.vars false W args.toList ds gs before) (hv:s.vars=[])
 (hs:gs=[]->s.fn H (ds++gs)={ results:=[.lit (.bool true)],args:=ds }) (hb:Below W.heap.size W W'):s.post enc P f false true false false W args (.bool true) W':=by
 have hlt: ∀p∈before,p.block<W.heap.size:=fun p hp=>hW.lt p hp
 have hW':=hW
 obtain⟨p,q,hA,hV,rfl,_,_⟩:=hW
 rw [hv] at hV
 obtain⟨rfl,rfl⟩:=trodVars_none hV
 have hs:=hs rfl
 rw [List.append_nil] at hlt
 refine⟨ds,[],p++[],[],p,[],hW', ?_, ?_, ?_, ?_,fun h=>by cases h⟩
 ·rw [hs,hrt]
  exact trodAll_mk1 (shut_bool htb true)
 ·rw [hs]
  exact zfM hl hb _ _ _ _ hpar hlt hA
 ·rw [hs,hv]
  rfl
 ·exact World.keptBut_mono (fun x hx=>⟨hx, .inr (.inl (by simpa using hx))⟩) (hb.frame (· ∈p++[]))
end
section
open Go.WideShapes
variable {H:Type} {enc:TypeId×Value->H} {P:Program} {w:World} {base:Nat} {spare:Nat->Bool} {held:Bool}
end
theorem ziC {W:World} (h:laidMetH Tryz.prog [("scrinium/api.ErrForm",Rows.laid_scrinium_api_ErrForm),("scrinium/api.ErrRange",Rows.laid_scrinium_api_ErrRange),("scrinium/api.ErrFull",Rows.laid_scrinium_api_ErrFull),("scrinium/api.ErrNone",Rows.laid_scrinium_api_ErrNone),("scrinium/api.ErrCorrupt",Rows.laid_scrinium_api_ErrCorrupt),("scrinium/api.ErrFuel",Rows.laid_scrinium_api_ErrFuel),("scrinium/api.ErrState",Rows.laid_scrinium_api_ErrState),("scrinium/api.ErrLong",Rows.laid_scrinium_api_ErrLong),("scrinium/api.ErrTwice",Rows.laid_scrinium_api_ErrTwice)] W): ∃ad,Sents W ad:=by
 rw [MakeChecks.laidMetH_plain _ _ _ (by kernel_rfl)] at h
 obtain⟨ps,hv,hnd,hrows⟩:=h
 obtain⟨adl,h1,h2,h3⟩:=zjV (nm:= "*errors.errorString") Tryz.underlying37 Tryz.row160 Tryz.underlying379 Tryz.underlying398 rfl rfl Tryz.underlying9 (by kernel_rfl) (by kernel_rfl)
  [("scrinium/api.ErrForm",[102,111,114,109]),("scrinium/api.ErrRange",[114,97,110,103,101]),("scrinium/api.ErrFull",[102,117,108,108]),("scrinium/api.ErrNone",[110,111,110,101]),("scrinium/api.ErrCorrupt",[99,111,114,114,117,112,116]),("scrinium/api.ErrFuel",[102,117,101,108]),("scrinium/api.ErrState",[115,116,97,116,101]),("scrinium/api.ErrLong",[108,111,110,103]),("scrinium/api.ErrTwice",[116,119,105,99,101])] [1,2,3,4,5,6,0,7,8] ps hv (by kernel_rfl) (by
    intro g hg
    simp at hg
    rcases hg with rfl | rfl | rfl | rfl | rfl | rfl | rfl | rfl | rfl<;>kernel_rfl) hrows
 have hnd':=List.Nodup.sublist h3 hnd
 match adl,h1 with
 | [a1,a2,a3,a4,a5,a6,a7,a8,a9],_=>
   refine⟨fun i=>[a1,a2,a3,a4,a5,a6,a7,a8,a9].getD (i-1) a1,h2 0 _ _ rfl rfl,h2 1 _ _ rfl rfl,h2 2 _ _ rfl rfl,h2 3 _ _ rfl rfl,h2 4 _ _ rfl rfl,h2 5 _ _ rfl rfl,h2 6 _ _ rfl rfl,h2 7 _ _ rfl rfl,h2 8 _ _ rfl rfl, ?_⟩
   intro i j hi hi' hj hj' e
   have hinj: ∀x y,x<9->y<9->[a1,a2,a3,a4,a5,a6,a7,a8,a9].getD x a1=[a1,a2,a3,a4,a5,a6,a7,a8,a9].getD y a1->x=y:=by
    intro x y hx hy e
    generalize hl:[a1,a2,a3,a4,a5,a6,a7,a8,a9]=l at*
    have hlen:l.length=9:=by rw [<-hl]; rfl
    have ex:l.getD x a1=l[x]'(by omega):=by simp [List.getD,List.getElem?_eq_getElem (show x<l.length by omega)]
    have ey:l.getD y a1=l[y]'(by omega):=by simp [List.getD,List.getElem?_eq_getElem (show y<l.length by omega)]
    rw [ex,ey] at e
    have:=(List.getElem_inj hnd' (i:=x) (j:=y) (h₀:=by simp; omega) (h₁:=by simp; omega)).1 (by simp only [List.getElem_map]; rw [e])
    exact this
   have:=hinj (i-1) (j-1) (by omega) (by omega) e
   omega
end Go.Proofs.YtnbjaghjdeicmaaGreatDoor
namespace Go.Proofs.YtnbjaghjdeicmaaGreatDoor
open Go.RowKit Go.ChangeShapes Go.WideShapes Go.Deep
section
variable {H:Type} {enc:TypeId×Value->H} {P:Program} {w:World} {base:Nat} {spare:Nat->Bool} {held:Bool}
theorem zbf {fs:Array Field} {cs:List Value} {n:Nat} {xs:List (DataW H×List MemPlace)} (hx:xs.length=fs.size) (hg: ∀(i:Nat) (f:Field),fs[i]? =some f->DataW.trod enc P w base spare held n f.type ((cs.drop f.offset).take (P.cellsOf f.type))=xs[i]?)
 (i:Nat) (f:Field) (hf:fs[i]? =some f) (ty off k:Nat) (h1:f.type=ty) (h2:f.offset=off) (h3:P.cellsOf ty=k): ∃y,DataW.trod enc P w base spare held n ty ((cs.drop off).take k)=some y:=by
 have h:=hg i f hf
 rw [h1,h2,h3] at h
 have hi:i<fs.size:=(Array.getElem?_eq_some_iff.1 hf).1
 rw [List.getElem?_eq_getElem (by omega)] at h
 exact⟨_,h⟩
def RE {α:Type} (w:World) (en:α->List AV) (few:α->Prop) (cs:List Value) (a:α):Prop:=RVs (fun b _=>b<w.heap.size) w cs (en a)/\few a
theorem za2 {α:Type} {t e:TypeId} {size fuel:Nat} {cs:List Value} {x:DataW H×List MemPlace} (en:α->List AV) (few:α->Prop) (hen: ∀a,(en a).length=size) (ht:P.underlying t=some (.slice e)) (hC:P.cellsOf e=size) (hpos:0<size)
 (hR: ∀(m:Nat) (cs:List Value) (y:DataW H×List MemPlace),DataW.trod enc P w base spare held m e cs=some y-> ∃a,RE w en few cs a)
 (h:DataW.trod enc P w base spare held fuel t cs=some x): ∃(v:Value) (l:List α),cs=[v]/\(v.oneCell'=true/\RV (fun b _=>b<w.heap.size) w v (.seq size (l.map en)))/\l.length<=maxLen/\ ∀a∈l,few a:=by
 obtain⟨v,l,e1,hl⟩:=open_list (R:=RE w en few) ht hC hpos hR h
 have hrv:=zsm en hen hl fun cs a _ hr j u c hu hc=>hr.1.at_.2 j u c hu hc
 obtain⟨A,c,xs,rfl,_,h2,_,hrow⟩:=hl
 refine⟨_,l,e1,⟨rfl,hrv⟩,h2,fun a ha=> ?_⟩
 obtain⟨i,hi,rfl⟩:=List.getElem_of_mem ha
 exact(hrow.2 i hi).2
theorem zq2 {l:List Value} (h:l.length=2): ∃a b,l=[a,b]:=by
 match l,h with
 | [a,b],_=>exact⟨a,b,rfl⟩
theorem ztq {l:List Value} (h:l.length=4): ∃a b c d,l=[a,b,c,d]:=by
 match l,h with
 | [a,b,c,d],_=>exact⟨a,b,c,d,rfl⟩
theorem zso {l:List Value} (h:l.length=5): ∃a b c d e,l=[a,b,c,d,e]:=by
 match l,h with
 | [a,b,c,d,e],_=>exact⟨a,b,c,d,e,rfl⟩
theorem ztp {l:List Value} (h:l.length=6): ∃a b c d e f,l=[a,b,c,d,e,f]:=by
 match l,h with
 | [a,b,c,d,e,f],_=>exact⟨a,b,c,d,e,f,rfl⟩
end
theorem c_int:Tryz.prog.cellsOf 3=1:=by kernel_rfl
theorem zej:Tryz.prog.cellsOf 9=1:=by kernel_rfl
theorem zs9:Tryz.prog.cellsOf 62=1:=by kernel_rfl
theorem zp7:Tryz.prog.cellsOf 63=1:=by kernel_rfl
theorem ztt:Tryz.prog.cellsOf 23=1:=by kernel_rfl
theorem ztr:Tryz.prog.cellsOf 24=1:=by kernel_rfl
theorem zs8:Tryz.prog.cellsOf 22=1:=by kernel_rfl
theorem c_op:Tryz.prog.cellsOf 197=2:=by kernel_rfl
theorem c_act:Tryz.prog.cellsOf 224=4:=by kernel_rfl
theorem c_st:Tryz.prog.cellsOf 123=6:=by kernel_rfl
theorem c_tr:Tryz.prog.cellsOf 65=5:=by kernel_rfl
theorem c_var:Tryz.prog.cellsOf 145=2:=by kernel_rfl
theorem c_ch:Tryz.prog.cellsOf 26=5:=by kernel_rfl
section
variable {H:Type} {enc:TypeId×Value->H} {w:World} {base:Nat} {spare:Nat->Bool} {held:Bool}
set_option maxRecDepth 100000 in
theorem open_op (m:Nat) (cs:List Value) (y:DataW H×List MemPlace) (h:DataW.trod enc Tryz.prog w base spare held m 197 cs=some y): ∃a:OpD,RE w opAV zki cs a:=by
 obtain⟨xs,n,_,_,hl,hxl,hg⟩:=DataW.trod_struct Tryz.underlying197 h
 rw [c_op] at hl
 obtain⟨c0,c1,rfl⟩:=zq2 hl
 obtain⟨y0,h0⟩:=zbf hxl hg 0 _ rfl 3 0 1 rfl rfl c_int
 obtain⟨x0,e0, -, -⟩:=DataW.trod_int Tryz.underlying3 (show DataW.trod enc Tryz.prog w base spare held n 3 [c0]=some y0 from h0)
 cases e0
 obtain⟨y1,h1⟩:=zbf hxl hg 1 _ rfl 3 1 1 rfl rfl c_int
 obtain⟨x1,e1, -, -⟩:=DataW.trod_int Tryz.underlying3 (show DataW.trod enc Tryz.prog w base spare held n 3 [c1]=some y1 from h1)
 cases e1
 exact⟨⟨x0,x1⟩,⟨⟨rfl, .lit _⟩,⟨rfl, .lit _⟩,trivial⟩,trivial⟩
set_option maxRecDepth 100000 in
theorem open_act (m:Nat) (cs:List Value) (y:DataW H×List MemPlace) (h:DataW.trod enc Tryz.prog w base spare held m 224 cs=some y): ∃a:ActD,RE w zaO zdX cs a:=by
 obtain⟨xs,n,_,_,hl,hxl,hg⟩:=DataW.trod_struct Tryz.underlying224 h
 rw [c_act] at hl
 obtain⟨c0,c1,c2,c3,rfl⟩:=ztq hl
 obtain⟨y0,h0⟩:=zbf hxl hg 0 _ rfl 3 0 1 rfl rfl c_int
 obtain⟨x0,e0, -, -⟩:=DataW.trod_int Tryz.underlying3 (show DataW.trod enc Tryz.prog w base spare held n 3 [c0]=some y0 from h0)
 cases e0
 obtain⟨y1,h1⟩:=zbf hxl hg 1 _ rfl 3 1 1 rfl rfl c_int
 obtain⟨x1,e1, -, -⟩:=DataW.trod_int Tryz.underlying3 (show DataW.trod enc Tryz.prog w base spare held n 3 [c1]=some y1 from h1)
 cases e1
 obtain⟨y2,h2⟩:=zbf hxl hg 2 _ rfl 9 2 1 rfl rfl zej
 obtain⟨x2,e2, -,s2⟩:=DataW.trod_string Tryz.underlying9 (show DataW.trod enc Tryz.prog w base spare held n 9 [c2]=some y2 from h2)
 cases e2
 obtain⟨⟨t2⟩⟩:=x2
 obtain⟨y3,h3⟩:=zbf hxl hg 3 _ rfl 62 3 1 rfl rfl zs9
 obtain⟨x3,l3,e3,r3,n3,p3⟩:=za2 (size:=2) opAV zki (fun _=>rfl) Tryz.underlying62 c_op (by decide) open_op (show DataW.trod enc Tryz.prog w base spare held n 62 [c3]=some y3 from h3)
 cases e3
 exact⟨⟨x0,x1,t2,l3⟩,⟨⟨rfl, .lit _⟩,⟨rfl, .lit _⟩,⟨rfl, .lit _⟩,r3,trivial⟩,(by simpa [ByteArray.size] using s2),⟨n3,p3⟩⟩
set_option maxRecDepth 100000 in
theorem open_st (m:Nat) (cs:List Value) (y:DataW H×List MemPlace) (h:DataW.trod enc Tryz.prog w base spare held m 123 cs=some y): ∃a:StD,RE w stAV zmv cs a:=by
 obtain⟨xs,n,_,_,hl,hxl,hg⟩:=DataW.trod_struct Tryz.underlying123 h
 rw [c_st] at hl
 obtain⟨c0,c1,c2,c3,c4,c5,rfl⟩:=ztp hl
 obtain⟨y0,h0⟩:=zbf hxl hg 0 _ rfl 9 0 1 rfl rfl zej
 obtain⟨x0,e0, -,s0⟩:=DataW.trod_string Tryz.underlying9 (show DataW.trod enc Tryz.prog w base spare held n 9 [c0]=some y0 from h0)
 cases e0
 obtain⟨⟨t0⟩⟩:=x0
 obtain⟨y1,h1⟩:=zbf hxl hg 1 _ rfl 3 1 1 rfl rfl c_int
 obtain⟨x1,e1, -, -⟩:=DataW.trod_int Tryz.underlying3 (show DataW.trod enc Tryz.prog w base spare held n 3 [c1]=some y1 from h1)
 cases e1
 obtain⟨y2,h2⟩:=zbf hxl hg 2 _ rfl 3 2 1 rfl rfl c_int
 obtain⟨x2,e2, -, -⟩:=DataW.trod_int Tryz.underlying3 (show DataW.trod enc Tryz.prog w base spare held n 3 [c2]=some y2 from h2)
 cases e2
 obtain⟨y3,h3⟩:=zbf hxl hg 3 _ rfl 3 3 1 rfl rfl c_int
 obtain⟨x3,e3, -, -⟩:=DataW.trod_int Tryz.underlying3 (show DataW.trod enc Tryz.prog w base spare held n 3 [c3]=some y3 from h3)
 cases e3
 obtain⟨y4,h4⟩:=zbf hxl hg 4 _ rfl 63 4 1 rfl rfl zp7
 obtain⟨x4,l4,e4,r4,n4,p4⟩:=za2 (size:=4) zaO zdX (fun _=>rfl) Tryz.underlying63 c_act (by decide) open_act (show DataW.trod enc Tryz.prog w base spare held n 63 [c4]=some y4 from h4)
 cases e4
 obtain⟨y5,h5⟩:=zbf hxl hg 5 _ rfl 63 5 1 rfl rfl zp7
 obtain⟨x5,l5,e5,r5,n5,p5⟩:=za2 (size:=4) zaO zdX (fun _=>rfl) Tryz.underlying63 c_act (by decide) open_act (show DataW.trod enc Tryz.prog w base spare held n 63 [c5]=some y5 from h5)
 cases e5
 exact⟨⟨t0,x1,x2,x3,l4,l5⟩,⟨⟨rfl, .lit _⟩,⟨rfl, .lit _⟩,⟨rfl, .lit _⟩,⟨rfl, .lit _⟩,r4,r5,trivial⟩,(by simpa [ByteArray.size] using s0),⟨n4,p4⟩,⟨n5,p5⟩⟩
set_option maxRecDepth 100000 in
theorem open_tr (m:Nat) (cs:List Value) (y:DataW H×List MemPlace) (h:DataW.trod enc Tryz.prog w base spare held m 65 cs=some y): ∃a:TrD,RE w trAV zmt cs a:=by
 obtain⟨xs,n,_,_,hl,hxl,hg⟩:=DataW.trod_struct Tryz.underlying65 h
 rw [c_tr] at hl
 obtain⟨c0,c1,c2,c3,c4,rfl⟩:=zso hl
 obtain⟨y0,h0⟩:=zbf hxl hg 0 _ rfl 3 0 1 rfl rfl c_int
 obtain⟨x0,e0, -, -⟩:=DataW.trod_int Tryz.underlying3 (show DataW.trod enc Tryz.prog w base spare held n 3 [c0]=some y0 from h0)
 cases e0
 obtain⟨y1,h1⟩:=zbf hxl hg 1 _ rfl 9 1 1 rfl rfl zej
 obtain⟨x1,e1, -,s1⟩:=DataW.trod_string Tryz.underlying9 (show DataW.trod enc Tryz.prog w base spare held n 9 [c1]=some y1 from h1)
 cases e1
 obtain⟨⟨t1⟩⟩:=x1
 obtain⟨y2,h2⟩:=zbf hxl hg 2 _ rfl 62 2 1 rfl rfl zs9
 obtain⟨x2,l2,e2,r2,n2,p2⟩:=za2 (size:=2) opAV zki (fun _=>rfl) Tryz.underlying62 c_op (by decide) open_op (show DataW.trod enc Tryz.prog w base spare held n 62 [c2]=some y2 from h2)
 cases e2
 obtain⟨y3,h3⟩:=zbf hxl hg 3 _ rfl 63 3 1 rfl rfl zp7
 obtain⟨x3,l3,e3,r3,n3,p3⟩:=za2 (size:=4) zaO zdX (fun _=>rfl) Tryz.underlying63 c_act (by decide) open_act (show DataW.trod enc Tryz.prog w base spare held n 63 [c3]=some y3 from h3)
 cases e3
 obtain⟨y4,h4⟩:=zbf hxl hg 4 _ rfl 3 4 1 rfl rfl c_int
 obtain⟨x4,e4, -, -⟩:=DataW.trod_int Tryz.underlying3 (show DataW.trod enc Tryz.prog w base spare held n 3 [c4]=some y4 from h4)
 cases e4
 exact⟨⟨x0,t1,l2,l3,x4⟩,⟨⟨rfl, .lit _⟩,⟨rfl, .lit _⟩,r2,r3,⟨rfl, .lit _⟩,trivial⟩,(by simpa [ByteArray.size] using s1),⟨n2,p2⟩,⟨n3,p3⟩⟩
set_option maxRecDepth 100000 in
theorem open_var (m:Nat) (cs:List Value) (y:DataW H×List MemPlace) (h:DataW.trod enc Tryz.prog w base spare held m 145 cs=some y): ∃a:VarD,RE w zcL zhi cs a:=by
 obtain⟨xs,n,_,_,hl,hxl,hg⟩:=DataW.trod_struct Tryz.underlying145 h
 rw [c_var] at hl
 obtain⟨c0,c1,rfl⟩:=zq2 hl
 obtain⟨y0,h0⟩:=zbf hxl hg 0 _ rfl 9 0 1 rfl rfl zej
 obtain⟨x0,e0, -,s0⟩:=DataW.trod_string Tryz.underlying9 (show DataW.trod enc Tryz.prog w base spare held n 9 [c0]=some y0 from h0)
 cases e0
 obtain⟨⟨t0⟩⟩:=x0
 obtain⟨y1,h1⟩:=zbf hxl hg 1 _ rfl 3 1 1 rfl rfl c_int
 obtain⟨x1,e1, -, -⟩:=DataW.trod_int Tryz.underlying3 (show DataW.trod enc Tryz.prog w base spare held n 3 [c1]=some y1 from h1)
 cases e1
 exact⟨⟨t0,x1⟩,⟨⟨rfl, .lit _⟩,⟨rfl, .lit _⟩,trivial⟩,(by simpa [zhi,ByteArray.size] using s0)⟩
set_option maxRecDepth 100000 in
theorem zsi (m:Nat) (cs:List Value) (y:DataW H×List MemPlace) (h:DataW.trod enc Tryz.prog w base spare held m 26 cs=some y): ∃a:ChD,RE w chAV zhj cs a:=by
 obtain⟨xs,n,_,_,hl,hxl,hg⟩:=DataW.trod_struct Tryz.underlying26 h
 rw [c_ch] at hl
 obtain⟨c0,c1,c2,c3,c4,rfl⟩:=zso hl
 obtain⟨y0,h0⟩:=zbf hxl hg 0 _ rfl 9 0 1 rfl rfl zej
 obtain⟨x0,e0, -,s0⟩:=DataW.trod_string Tryz.underlying9 (show DataW.trod enc Tryz.prog w base spare held n 9 [c0]=some y0 from h0)
 cases e0
 obtain⟨⟨t0⟩⟩:=x0
 obtain⟨y1,h1⟩:=zbf hxl hg 1 _ rfl 3 1 1 rfl rfl c_int
 obtain⟨x1,e1, -, -⟩:=DataW.trod_int Tryz.underlying3 (show DataW.trod enc Tryz.prog w base spare held n 3 [c1]=some y1 from h1)
 cases e1
 obtain⟨y2,h2⟩:=zbf hxl hg 2 _ rfl 22 2 1 rfl rfl zs8
 obtain⟨x2,l2,e2,r2,n2,p2⟩:=za2 (size:=2) zcL zhi (fun _=>rfl) Tryz.underlying22 c_var (by decide) open_var (show DataW.trod enc Tryz.prog w base spare held n 22 [c2]=some y2 from h2)
 cases e2
 obtain⟨y3,h3⟩:=zbf hxl hg 3 _ rfl 23 3 1 rfl rfl ztt
 obtain⟨x3,l3,e3,r3,n3,p3⟩:=za2 (size:=6) stAV zmv (fun _=>rfl) Tryz.underlying23 c_st (by decide) open_st (show DataW.trod enc Tryz.prog w base spare held n 23 [c3]=some y3 from h3)
 cases e3
 obtain⟨y4,h4⟩:=zbf hxl hg 4 _ rfl 24 4 1 rfl rfl ztr
 obtain⟨x4,l4,e4,r4,n4,p4⟩:=za2 (size:=5) trAV zmt (fun _=>rfl) Tryz.underlying24 c_tr (by decide) open_tr (show DataW.trod enc Tryz.prog w base spare held n 24 [c4]=some y4 from h4)
 cases e4
 exact⟨⟨t0,x1,l2,l3,l4⟩,⟨⟨rfl, .lit _⟩,⟨rfl, .lit _⟩,r2,r3,r4,trivial⟩,(by simpa [ByteArray.size] using s0),⟨n2,p2⟩,⟨n3,p3⟩,⟨n4,p4⟩⟩
set_option maxRecDepth 100000 in
theorem znl {r0:Reach} {b0:Nat} {v:Value} {d:DataW H} {p:List MemPlace} (hv:Value.okWide Tryz.prog w r0 b0 26 v) (h:DataW.Trod enc Tryz.prog w base spare held 26 v d p):
 ∃c:ChD,zhj c/\RV (fun b _=>b<w.heap.size) w v (.agg (chAV c)):=by
 obtain⟨cs,rfl,hsz⟩:=okWide_struct Tryz.underlying26 hv
 obtain⟨l⟩:=cs
 obtain⟨fuel,hf⟩:=h
 obtain⟨c,h1,h2⟩:=zsi _ _ _ hf
 exact⟨c,h2,RVs.agg h1⟩
end
end Go.Proofs.YtnbjaghjdeicmaaGreatDoor
namespace Go.Proofs.YtnbjaghjdeicmaaGreatDoor
open Go.RowKit
structure Cuts (P:Program) (f:FuncId) (e:TypeId) (sz:Nat) (ls ls':List (List Value)):Prop where
 enter: ∀(args:Array Value) (w:World),(callFunc f args).run P w= .ok (.enter f args) w
 els: ∀l∈ls',l.length=sz/\ ∀u∈l,u.oneCell'=true
 calls: ∀(w:World) (base:Nat) (v:Value),w.ownsRow base e sz v ls.length ls.flatten->
  Calls P f #[v] w fun ex w'=> ∃v',ex= .returned v'/\v'.oneCell'=true/\w.grownBy w' v.ownBlock/\(∀g,v'.ownBlock=some g->v.ownBlock=some g)/\w'.ownsRow base e sz v' ls'.length ls'.flatten
theorem zo9 {S:Nat->Nat->Prop} {w:World} {row:Row} {ls:List (List Value)} {xs:List Value} (hls: ∀l∈ls,l.length=row.sz) (hpos:0<row.sz) (hxl:xs.length=ls.length*row.sz) (e5:row.es=za9 ls)
 (k3: ∀(i j:Nat) (c:AV),cellAt row.es i j=some c-> ∃u,xs[i*row.sz+j]? =some u/\RV S w u c):xs=ls.flatten:=by
 apply List.ext_getElem?
 intro p
 have hfl:=zcE ls hls
 by_cases hp:p<ls.length*row.sz
 ·have hi:p/row.sz<ls.length:=Nat.div_lt_of_lt_mul (by rw [Nat.mul_comm]; exact hp)
  have hj:p%row.sz<row.sz:=Nat.mod_lt _ hpos
  have hpq:p/row.sz*row.sz+p%row.sz=p:=Nat.div_add_mod' p row.sz
  have hl:=hls _ (List.getElem_mem hi)
  have hju:(ls[p/row.sz])[p%row.sz]? =some ((ls[p/row.sz])[p%row.sz]'(by omega)):=List.getElem?_eq_getElem _
  have h1:=zc7 ls hls _ _ _ _ (List.getElem?_eq_getElem hi) hju
  obtain⟨u,h2,h3⟩:=k3 (p/row.sz) (p%row.sz) (.lit ((ls[p/row.sz])[p%row.sz]'(by omega))) (by
   rw [e5]
   unfold cellAt za9
   rw [List.getElem?_map,List.getElem?_eq_getElem hi]
   simp only [Option.map_some,Option.bind_some,List.getElem?_map,hju])
  rw [hpq] at h1 h2
  have:u=(ls[p/row.sz])[p%row.sz]'(by omega):=by cases h3; rfl
  rw [h1,h2,this]
 ·rw [List.getElem?_eq_none (by omega),List.getElem?_eq_none (by omega)]
theorem zrJ {P:Program} {env:Env} {f:FuncId} {r ver:Nat} {row:Row} {rows:Nat->Option Row} {vsv:Nat->Nat} {ls ls':List (List Value)} (hC:Cuts P f row.e row.sz ls ls') (hr:rows r=some row) (hv:vsv r=ver) (hrz:row.sz≠0) (hp:row.pure=true) (e5:row.es=za9 ls):
 Acts P env f [.row r ver] [r] rows vsv ⟨.row r (ver+1),[.renew r { row with es:=za9 ls' }]⟩:=by
 refine⟨hC.enter,fun x s a w m vs hx hS hro hl hvs=> ?_⟩
 obtain⟨q1,q2,q3⟩:=hro r (by simp)
 rw [hr] at q1
 rw [hv] at q2
 match vs,hl with
 | [u],_=>
 have hu:u=m.ρ r:=(hvs 0 u _ rfl rfl).row_.2 q2 row q1
 subst hu
 have k:=(hS.rows r row q1).cells hrz
 obtain⟨xs,k1,k2,k3⟩:=k.own
 have hn:row.es.length=ls.length:=by rw [e5]; simp [za9]
 have hls: ∀l∈ls,l.length=row.sz:=fun l hl=>by
  obtain⟨i,hi,rfl⟩:=List.getElem_of_mem hl
  have:=k.len i ((ls[i]).map .lit) (by rw [e5]; simp [za9,hi])
  simpa using this
 have hxx:xs=ls.flatten:=zo9 hls k.pos (by rw [<-hn]; exact k1.1) e5 fun i j c hc=>by
  obtain⟨u,h1,h2⟩:=k3 i j c hc
  rw [if_pos hp] at h2
  exact⟨u,h1,h2⟩
 rw [hxx,hn] at k1
 refine(hC.calls w x.w.heap.size (m.ρ r) k1).mono ?_
 rintro ex w' ⟨v',rfl,h1,hg,hsub,ho⟩
 have hb:Below x.w.heap.size w w':=⟨hg.os,hg.tape,hg.output,hg.size,fun q hq=>hg.block q (Nat.lt_of_lt_of_le hq hS.bel.size) fun e=>by
  have:=(zbj k1 e.symm).1
  omega⟩
 have hnS: ∀g,(m.ρ r).ownBlock=some g-> ∀o,¬m.S g o:=k.fresh q3
 have hcell: ∀b o,m.S b o->Stay w w' b o:=fun b o hh=> .block (hg.block b (hS.low b o hh) fun e=>hnS b e.symm o hh)
 have hlow: ∀b o,m.S b o->b<w'.heap.size:=fun b o hh=>Nat.lt_of_lt_of_le (hS.low b o hh) hg.size
 have hS2:Sim x (s.renew r { row with es:=za9 ls' } false) a w' ⟨m.S,upd m.ρ r v'⟩:=by
  refine hS.renew r _ false v' m.S hb (fun b o hh=>⟨hh,hcell b o hh⟩) (fun b o hh=> .inl hh) (fun q row1 hne hq gq hgq=>⟨?_,fun e=> ?_,fun _ hh=>hh⟩) ?_ fun b hf=>⟨hg.block b (hS.fxlt hf) fun e=>hS.nofx r row q1 b e.symm hf,fun _ hh=>hh,fun e=>hS.nofx r row q1 b (hsub b e) hf⟩
  ·exact hg.block gq ((hS.rows q row1 hq).blk hgq).2 fun e=>hS.inj r q row row1 q1 hq (Ne.symm hne) gq e.symm hgq
  ·exact hS.inj r q row row1 q1 hq (Ne.symm hne) gq (hsub gq e) hgq
  ·have hel: ∀(i:Nat) (e:List AV),(za9 ls')[i]? =some e->e.length=row.sz:=fun i e he=>by
    unfold za9 at he
    rw [List.getElem?_map] at he
    cases hl:ls'[i]? with
    | none=>rw [hl] at he; cases he
    | some l=>
      rw [hl] at he
      cases he
      simpa using (hC.els l (List.mem_of_getElem? hl)).1
   have hll:(za9 ls').length=ls'.length:=by unfold za9; rw [List.length_map]
   have hρ:(⟨m.S,upd m.ρ r v'⟩:Mem).ρ r=v':=upd_same ..
   refine .inl ⟨k.pos,hel,⟨ls'.flatten,by rw [hρ]; show w'.ownsRow _ _ _ _ (za9 ls').length _; rw [hll]; exact ho, ?_, ?_⟩,fun he=> ?_,fun g hg' o _=> ?_,fun _ g hg' o=> ?_⟩
   ·intro u hu
    obtain⟨l,hl,hul⟩:=List.mem_flatten.1 hu
    exact(hC.els l hl).2 u hul
   ·intro i j c hcc
    obtain⟨l,u,h1,h2,rfl⟩:=zmi hcc
    refine⟨u,zc7 ls' (fun l hl=>(hC.els l hl).1) i j l u h1 h2, ?_⟩
    show if row.pure=true then _ else _
    rw [if_pos hp]
    exact .lit u
   ·have he:upd s.esc r false r=true:=he
    rw [upd_same] at he
    cases he
   ·rw [hρ] at hg'; exact hnS g (hsub g hg') o
   ·rw [hρ] at hg'; exact hnS g (hsub g hg') o
 refine⟨v',_,rfl,hS2, .row r (ver+1) h1 ?_ fun _ row' _=> ?_⟩
 ·show ver+1<=upd s.vs r (s.vs r+1) r
  rw [upd_same,q2]
  exact Nat.le_refl _
 ·show v'=upd m.ρ r v' r
  rw [upd_same]
section
variable {P:Program} {env:Env} {s:St}
theorem zjc {o:Oper} {f:FuncId} {args:List AV} {rest:List Stp} {s1:St} {row:Row} {ls ls':List (List Value)} {ft:Foot} {K:St->List Foot->Prop} (r:Nat) (hc:za4 env s.f o=some (f,args)) (hC:Cuts P f row.e row.sz ls ls') (hrz:row.sz≠0) (hp:row.pure=true) (e5:row.es=za9 ls)
 (ha:Is args [.row r (s.vs r)]) (hr:Is (s.rows r) (some row)) (he:Is (s.esc r) false) (h1:Is ((⟨.row r (s.vs r+1),[.renew r { row with es:=za9 ls' }]⟩:Out).app o.dst s) s1) (h2:Is (⟨[r],[r],[r],[]⟩:Foot) ft) (k:aops P env rest s1 fun s2 fts=>K s2 (ft::fts)):aops P env (⟨o, .always⟩::rest) s K:=by
 unfold Is at h2
 subst h2
 exact zkI hc ha (zrJ hC hr rfl hrz hp e5) (fun q hq=>by rw [List.mem_singleton.1 hq]; exact he) h1 k
theorem zsX {o:Oper} {f:FuncId} {args:List AV} {rest:List Stp} {s1:St} {row:Row} {ls ls':List (List Value)} {K:St->List Foot->Prop} (r:Nat) (hc:za4 env s.f o=some (f,args)) (hT:Turns P f [] row.e row.sz ls ls') (hrz:row.sz≠0) (hp:row.pure=true) (e5:row.es=za9 ls)
 (ha:Is args [.row r (s.vs r)]) (hr:Is (s.rows r) (some row)) (he:Is (s.esc r) false) (h1:Is ((s.setRow r { row with es:=za9 ls' }).put o.dst .any) s1) (k:aops P env rest s1 fun s2 fts=>K s2 (⟨[r],[r],[r],[]⟩::fts)):aops P env (⟨o, .always⟩::rest) s K:=
 zqk (rs:=[]) r hc (show args=_ from ha) hr he hT e5 hp hrz h1 k
end
end Go.Proofs.YtnbjaghjdeicmaaGreatDoor
namespace Go.Proofs.YtnbjaghjdeicmaaGreatDoor
open Go.RowKit Go.Sort Go.Shelf Go.Lib
theorem heap_put {w:World} {g n:Nat} {os:Array Obj} {cur:Array Value} {e:TypeId} {fr:Nat×Nat} (F:Array Value) (hb:w.heap[g]? =some (.cells cur e fr)):
 (grow (putRow id (Sort.ahead w n) g 0 F) os).heap[g]? =some (.cells (putCells id 0 F cur) e fr):=by
 have hg:g<w.heap.size:=(Array.getElem?_eq_some_iff.1 hb).1
 rw [heap_grow_old _ _ (by simpa [putRow,mapBlock,Sort.ahead] using hg)]
 simp [putRow,mapBlock,Sort.ahead,Array.getElem?_modify,hb,onCells]
theorem zeE {w:World} {g n:Nat} {os:Array Obj} (F:Array Value):w.grownBy (grow (putRow id (Sort.ahead w n) g 0 F) os) (some g):=by
 refine⟨rfl,rfl,rfl,by simp [putRow,mapBlock,Sort.ahead],fun k hk hne=> ?_⟩
 rw [heap_grow_old _ _ (by simpa [putRow,mapBlock,Sort.ahead] using hk)]
 have:g≠k:=fun e=>hne (by rw [e])
 simp [putRow,mapBlock,Sort.ahead,Array.getElem?_modify,this]
theorem ziv (cur F:Array Value) (h:F.size<=cur.size):(putCells id 0 F cur).toList.take F.size=F.toList:=by
 apply List.ext_getElem?
 intro j
 by_cases hj:j<F.size
 ·rw [List.getElem?_take_of_lt hj,Array.getElem?_toList]
  simp [putCells,hj,show j<cur.size by omega]
 ·rw [List.getElem?_take_eq_none (by omega),List.getElem?_eq_none (by simp; omega)]
theorem zmW {P:Program} {f:FuncId} {rest:List Value} {e:TypeId} {sz:Nat} {ls ls':List (List Value)} (hne:0<ls.length) (henter: ∀(args:Array Value) (w:World),(callFunc f args).run P w= .ok (.enter f args) w)
 (hl:ls'.length=ls.length) (hls: ∀l∈ls,l.length=sz) (hel: ∀l∈ls',l.length=sz/\ ∀u∈l,u.oneCell'=true)
 (h: ∀(w:World) (g cap:Nat),Holds id w g 0 ls.flatten.toArray->g<w.heap.size->Calls P f (.slice (some ⟨g,0,none⟩) ls.length cap::rest).toArray w fun ex w'=>ex= .returned (.tuple #[])/\ ∃n os,w'=grow (putRow id (Sort.ahead w n) g 0 ls'.flatten.toArray) os):
 Turns P f rest e sz ls ls':=by
 refine⟨henter,hl,hel,fun w base v ho=> ?_⟩
 have hf:=zcE ls hls
 have hf':=zcE ls' fun l hl=>(hel l hl).1
 rcases ho.2 with⟨_,h0⟩ | ⟨g,cap,cur,rfl,hbase,hb,h1,h2,h3,h4⟩
 ·omega
 have hsz:ls.length*sz<=cur.size:=by rw [h3]; exact Nat.mul_le_mul_right _ h1
 have hg:g<w.heap.size:=(Array.getElem?_eq_some_iff.1 hb).1
 refine(h w g cap (fun j hj=>⟨?_,by simp [World.frozen?,hb]⟩) hg).mono ?_
 ·have hj':j<ls.flatten.length:=by simpa using hj
  have e1:(cur.toList.take (ls.length*sz))[j]? =ls.flatten[j]? :=by rw [h4]
  rw [List.getElem?_take_of_lt (by omega)] at e1
  simp only [World.cell?,hb,Nat.zero_add]
  simp only [Option.isSome_none,Bool.false_eq_true,if_false]
  rw [<-Array.getElem?_toList,e1,getElem!_pos _ j hj,List.getElem?_eq_getElem hj']
  rfl
 ·rintro ex w' ⟨rfl,n,os,rfl⟩
  refine⟨rfl,zeE _,by rw [hf',hl], .inr ⟨g,cap,_,rfl,hbase,heap_put _ hb,h1,h2,by simp [putCells,h3], ?_⟩⟩
  have:=ziv cur ls'.flatten.toArray (by simp [hf',hl]; exact hsz)
  rw [show ls'.flatten.toArray.size=ls.length*sz by simp [hf',hl]] at this
  exact this
theorem zmV {P:Program} {f:FuncId} {rest:List Value} {e:TypeId} {sz:Nat} (henter: ∀(args:Array Value) (w:World),(callFunc f args).run P w= .ok (.enter f args) w)
 (h: ∀(p:Option Addr) (cap:Nat) (w:World),Calls P f (.slice p 0 cap::rest).toArray w fun ex w'=>ex= .returned (.tuple #[])/\w'=w):Turns P f rest e sz [] []:=by
 refine⟨henter,rfl,fun l hl=>by simp at hl,fun w base v ho=> ?_⟩
 have key: ∃p cap,v= .slice p 0 cap:=by
  rcases ho.2 with⟨rfl,_⟩ | ⟨g,cap,cur,rfl,_⟩
  ·exact⟨_,_,rfl⟩
  ·exact⟨_,_,rfl⟩
 obtain⟨p,cap,rfl⟩:=key
 refine(h p cap w).mono ?_
 rintro ex w' ⟨rfl,rfl⟩
 exact⟨rfl,⟨rfl,rfl,rfl,Nat.le_refl _,fun _ _ _=>rfl⟩,ho⟩
section
variable {α:Type} [Inhabited α]
theorem zg2 (enc:α->Value) (w:World) (g:Nat) (d:Array α):putRow enc w g 0 d=putRow id w g 0 (d.map enc):=by
 unfold putRow
 refine mapBlock_congr _ _ _ _ fun c _ _ _=> ?_
 apply Array.ext_getElem?
 intro k
 simp only [putCells,Array.getElem?_mapIdx,Array.size_map]
 cases c[k]? with
 | none=>rfl
 | some y=>
   simp only [Option.map_some,Nat.sub_zero,Nat.zero_add]
   by_cases hk:0<=k/\k<d.size
   ·rw [if_pos hk,if_pos hk]; simp [hk.2]
   ·rw [if_neg hk,if_neg hk]
end
end Go.Proofs.YtnbjaghjdeicmaaGreatDoor
namespace Go.Proofs
open Go.Shelf
def Tryz.sortS_ren:Go.Shelf.Ren:=⟨fun | 190=>130 | 125=>208 | 258=>207 | 128=>263 | 129=>264 | 302=>255 | 303=>256 | 304=>257 | 305=>258 | 306=>259 | 307=>260 | 308=>209 | 309=>261 | 310=>262 | 333=>293 | 329=>294 | 330=>295 | 334=>296 | 335=>297 | 336=>265 | 344=>323 | n=>n,fun | 31=>100 | 9=>9 | 3=>3 | 46=>266 | 0=>0 | 51=>187 | 53=>256 | 4=>4 | 183=>320 | 182=>319 | 131=>200 | 5=>5 | 218=>336 | 222=>340 | 228=>360 | 229=>88 | n=>n,fun | n=>n⟩
theorem Tryz.sortS:Go.Proofs.Lays.n190 Tryz.prog Tryz.sortS_ren:={
 mixed:=by kernel_rfl
 f125:=Tryz.func208.trans (congrArg some (by kernel_rfl))
 f128:=Tryz.func263.trans (congrArg some (by kernel_rfl))
 f129:=Tryz.func264.trans (congrArg some (by kernel_rfl))
 f190:=Tryz.func130.trans (congrArg some (by kernel_rfl))
 f258:=Tryz.func207.trans (congrArg some (by kernel_rfl))
 f302:=Tryz.func255.trans (congrArg some (by kernel_rfl))
 f303:=Tryz.func256.trans (congrArg some (by kernel_rfl))
 f304:=Tryz.func257.trans (congrArg some (by kernel_rfl))
 f305:=Tryz.func258.trans (congrArg some (by kernel_rfl))
 f306:=Tryz.func259.trans (congrArg some (by kernel_rfl))
 f307:=Tryz.func260.trans (congrArg some (by kernel_rfl))
 f308:=Tryz.func209.trans (congrArg some (by kernel_rfl))
 f309:=Tryz.func261.trans (congrArg some (by kernel_rfl))
 f310:=Tryz.func262.trans (congrArg some (by kernel_rfl))
 f329:=Tryz.func294.trans (congrArg some (by kernel_rfl))
 f330:=Tryz.func295.trans (congrArg some (by kernel_rfl))
 f333:=Tryz.func293.trans (congrArg some (by kernel_rfl))
 f334:=Tryz.func296.trans (congrArg some (by kernel_rfl))
 f335:=Tryz.func297.trans (congrArg some (by kernel_rfl))
 f336:=Tryz.func265.trans (congrArg some (by kernel_rfl))
 f344:=Tryz.func323.trans (congrArg some (by kernel_rfl))
 t0:=Tryz.underlying0
 a0:=Tryz.isAgg0
 z0:=Tryz.sizeOf0
 v0:=Tryz.zeroValue0
 t3:=Tryz.underlying3
 a3:=Tryz.isAgg3
 z3:=Tryz.sizeOf3
 v3:=Tryz.zeroValue3
 t4:=Tryz.underlying4
 a4:=Tryz.isAgg4
 z4:=Tryz.sizeOf4
 v4:=Tryz.zeroValue4
 t5:=Tryz.underlying5
 a5:=Tryz.isAgg5
 z5:=Tryz.sizeOf5
 v5:=Tryz.zeroValue5
 t9:=Tryz.underlying9
 a9:=Tryz.isAgg9
 z9:=Tryz.sizeOf9
 v9:=Tryz.zeroValue9
 t31:=Tryz.underlying100
 a31:=Tryz.isAgg100
 z31:=Tryz.sizeOf100
 v31:=Tryz.zeroValue100
 t46:=Tryz.underlying266
 a46:=Tryz.isAgg266
 z46:=Tryz.sizeOf266
 v46:=Tryz.zeroValue266
 t51:=Tryz.underlying187
 a51:=Tryz.isAgg187
 z51:=Tryz.sizeOf187
 v51:=Tryz.zeroValue187
 t53:=Tryz.underlying256
 a53:=Tryz.isAgg256
 z53:=Tryz.sizeOf256
 v53:=Tryz.zeroValue256
 t131:=Tryz.underlying200
 a131:=Tryz.isAgg200
 z131:=Tryz.sizeOf200
 v131:=Tryz.zeroValue200
 t182:=Tryz.underlying319
 a182:=Tryz.isAgg319
 z182:=Tryz.sizeOf319
 v182:=Tryz.zeroValue319
 t183:=Tryz.underlying320
 a183:=Tryz.isAgg320
 z183:=Tryz.sizeOf320
 v183:=Tryz.zeroValue320
 t218:=Tryz.underlying336
 a218:=Tryz.isAgg336
 z218:=Tryz.sizeOf336
 v218:=Tryz.zeroValue336
 t222:=Tryz.underlying340
 a222:=Tryz.isAgg340
 z222:=Tryz.sizeOf340
 v222:=Tryz.zeroValue340
 t228:=Tryz.underlying360
 a228:=Tryz.isAgg360
 z228:=Tryz.sizeOf360
 v228:=Tryz.zeroValue360
 t229:=Tryz.underlying88
 a229:=Tryz.isAgg88
 z229:=Tryz.sizeOf88
 v229:=Tryz.zeroValue88 }
def Tryz.compS_ren:Go.Shelf.Ren:=⟨fun | 194=>131 | n=>n,fun | 31=>100 | 9=>9 | 3=>3 | 4=>4 | 0=>0 | n=>n,fun | n=>n⟩
theorem Tryz.compS:Go.Proofs.Lays.n194 Tryz.prog Tryz.compS_ren:={
 mixed:=by kernel_rfl
 f194:=Tryz.func131.trans (congrArg some (by kernel_rfl))
 t0:=Tryz.underlying0
 a0:=Tryz.isAgg0
 z0:=Tryz.sizeOf0
 v0:=Tryz.zeroValue0
 t3:=Tryz.underlying3
 a3:=Tryz.isAgg3
 z3:=Tryz.sizeOf3
 v3:=Tryz.zeroValue3
 t4:=Tryz.underlying4
 a4:=Tryz.isAgg4
 z4:=Tryz.sizeOf4
 v4:=Tryz.zeroValue4
 t9:=Tryz.underlying9
 a9:=Tryz.isAgg9
 z9:=Tryz.sizeOf9
 v9:=Tryz.zeroValue9
 t31:=Tryz.underlying100
 a31:=Tryz.isAgg100
 z31:=Tryz.sizeOf100
 v31:=Tryz.zeroValue100 }
end Go.Proofs
namespace Go.Proofs.YtnbjaghjdeicmaaGreatDoor
open Go.RowKit Go.Sort Go.Shelf Go.Lib
set_option maxHeartbeats 4000000 in
set_option maxRecDepth 100000 in
theorem zm6 (p:Option Addr) (cap:Nat) (w:World):Calls Tryz.prog 130 #[.slice p 0 cap] w fun ex w'=>ex= .returned (.tuple #[])/\w'=w:=by
 go_enter Tryz.func130,Tryz.ntmps130
 go_wp2_with (first | go_in)
 refine wp_loop_rounds 1 ?_
 simp only [Code.rounds]
 go_wp2_with (first | go_in)
 refine wp_loop_rounds 1 ?_
 simp only [Code.rounds]
 go_wp2_with (first | go_in)
 go_end0
 exact⟨rfl,rfl⟩
def strC (s:List UInt8):List Value:=[encStr s]
theorem zdj {α:Type} (f:α->Value): ∀l:List α,(l.map fun s=>[f s]).flatten=l.map f
 | []=>rfl
 | x::l=>by simp [zdj f l]
theorem zpm {w:World} {g:Nat} {l:List (List UInt8)} (h:Holds id w g 0 (l.map encStr).toArray):Holds encStr w g 0 l.toArray:=fun j hj=>by
 have hj':j<l.length:=by simpa using hj
 have:=h j (by simpa using hj')
 rw [getElem!_pos _ j (by simpa using hj')] at this
 rw [getElem!_pos _ j hj]
 simpa using this
theorem Tryz.sortEnter: ∀(args:Array Value) (w:World),(callFunc 130 args).run Tryz.prog w= .ok (.enter 130 args) w:=enters_of Tryz.func130 (by kernel_rfl) rfl
theorem Tryz.compEnter: ∀(args:Array Value) (w:World),(callFunc 131 args).run Tryz.prog w= .ok (.enter 131 args) w:=enters_of Tryz.func131 (by kernel_rfl) rfl
def zdE (l:List (List UInt8)):List (List UInt8):=l.mergeSort fun x y=>decide (x<=y)
theorem zk4 (l:List (List UInt8)) (hl:l.length<4611686018427387904):Turns Tryz.prog 130 [] 9 1 (l.map strC) ((zdE l).map strC):=by
 by_cases h0:l=[]
 ·subst h0
  rw [show zdE []=[] by simp [zdE]]
  exact zmV Tryz.sortEnter fun p cap w=>zm6 p cap w
 ·refine zmW (by rw [List.length_map]; exact List.length_pos_iff.2 h0) Tryz.sortEnter (by simp [zdE]) (fun x hx=> ?_) (fun x hx=> ?_) fun w g cap hH hg=> ?_
  ·obtain⟨y,_,rfl⟩:=List.mem_map.1 hx; rfl
  ·obtain⟨y,_,rfl⟩:=List.mem_map.1 hx
   exact⟨rfl,fun u hu=>by rw [List.mem_singleton.1 hu]; rfl⟩
  ·have hH:Holds id w g 0 (l.map encStr).toArray:=by rw [<-zdj]; exact hH
   have:=Any.slices_Sort_string Tryz.sortS g 0 cap l w (zpm hH) hg hl
   rw [List.length_map]
   refine(show Calls Tryz.prog 130 #[.slice (some ⟨g,0,none⟩) l.length cap] w _ from this).mono ?_
   rintro ex w' ⟨rfl,n,os,rfl⟩
   refine⟨rfl,n,os, ?_⟩
   rw [zg2,show ((zdE l).map strC).flatten=(zdE l).map encStr from zdj encStr _]
   simp [zdE]
theorem znI (l:List (List UInt8)) (hl:l.length<=9223372036854775807):Cuts Tryz.prog 131 9 1 (l.map strC) ((Lib.compact l).map strC):=by
 refine⟨Tryz.compEnter,fun x hx=> ?_,fun w base v ho=> ?_⟩
 ·obtain⟨y,_,rfl⟩:=List.mem_map.1 hx
  exact⟨rfl,fun u hu=>by rw [List.mem_singleton.1 hu]; rfl⟩
 rw [show (l.map strC).flatten=l.map encStr from zdj encStr _,List.length_map] at ho
 rw [show ((Lib.compact l).map strC).flatten=(Lib.compact l).map encStr from zdj encStr _,List.length_map]
 by_cases h0:l=[]
 ·subst h0
  obtain⟨p,cap,rfl⟩: ∃p cap,v= .slice p 0 cap:=by
   rcases ho.2 with⟨rfl,_⟩ | ⟨g,cap,cur,rfl,_⟩
   ·exact⟨_,_,rfl⟩
   ·exact⟨_,_,rfl⟩
  refine(show Calls Tryz.prog 131 #[.slice p 0 cap] w _ from Any.slices_Compact_string_empty Tryz.compS p cap w).mono ?_
  rintro ex w' ⟨rfl,rfl⟩
  exact⟨_,rfl,rfl,⟨rfl,rfl,rfl,Nat.le_refl _,fun _ _ _=>rfl⟩,fun _ h=>h,ho⟩
 ·rcases ho.2 with⟨_,h⟩ | ⟨g,cap,cur,rfl,hbase,hb,h1,h2,h3,h4⟩
  ·exact absurd (List.eq_nil_of_length_eq_zero h) h0
  have hg:g<w.heap.size:=(Array.getElem?_eq_some_iff.1 hb).1
  have hH:Holds encStr w g 0 l.toArray:=fun j hj=>by
   have hj':j<l.length:=by simpa using hj
   have e1:(cur.toList.take (l.length*1))[j]? =(l.map encStr)[j]? :=by rw [h4]
   rw [List.getElem?_take_of_lt (by omega),List.getElem?_map,List.getElem?_eq_getElem hj'] at e1
   refine⟨?_,by simp [World.frozen?,hb]⟩
   simp only [World.cell?,hb,Nat.zero_add,Option.isSome_none,Bool.false_eq_true,if_false]
   rw [<-Array.getElem?_toList,e1,getElem!_pos _ j hj]
   rfl
  have hcl:(Lib.compact l).length<=l.length:=by
   unfold Lib.compact Lib.compactUpTo
   rw [List.length_map]
   exact Nat.le_trans (List.length_filter_le ..) (by simp)
  refine(show Calls Tryz.prog 131 #[.slice (some ⟨g,0,none⟩) l.length cap] w _ from Any.slices_Compact_string Tryz.compS g 0 cap l w hH hl h1).mono ?_
  rintro ex w' ⟨rfl,q,rfl⟩
  rw [zg2]
  generalize hF:((Lib.compact l++List.replicate (l.length-(Lib.compact l).length) []).toArray.map encStr)=F
  have hFs:F.size=l.length:=by rw [<-hF]; simp; omega
  have hgr: ∀W:World,grow W #[]=W:=fun W=>by simp [grow]
  have e2:=heap_put (n:=q) (os:= #[]) F hb
  have e3:=zeE (w:=w) (g:=g) (n:=q) (os:= #[]) F
  rw [hgr] at e2 e3
  refine⟨_,rfl,rfl,e3,fun _ h=>h,⟨by rw [List.length_map,Nat.mul_one], .inr ⟨g,cap,_,rfl,hbase,e2,Nat.le_trans hcl h1,h2,by simp [putCells,h3], ?_⟩⟩⟩
  have ht:=ziv cur F (by rw [hFs,h3]; omega)
  rw [Nat.mul_one]
  have:((putCells id 0 F cur).toList.take (Lib.compact l).length)=(F.toList).take (Lib.compact l).length:=by
   rw [<-ht,List.take_take,Nat.min_eq_left (by omega)]
  rw [this, <-hF]
  simp
end Go.Proofs.YtnbjaghjdeicmaaGreatDoor
namespace Go.Proofs.YtnbjaghjdeicmaaGreatDoor
open Go.RowKit
/-! Expressions -/
def zaf (k:Int):Int:=if 1<=k/\k<=4 then 0 else if k=5\/k=6 then 1 else if 7<=k/\k<=19 then 2 else -1
theorem zfS (k:Int): -1<=zaf k/\zaf k<=2:=by
 unfold zaf
 repeat' split
 all_goals omega
def numB (o:OpD) (vs ss:Int):Bool:=if o.kind=1 then decide (0<=o.n/\o.n<=2147483647) else if o.kind=2 then decide (0<=o.n/\o.n<vs) else if o.kind=4 then decide (0<=o.n/\o.n<ss) else decide (o.n=0)
def zeL (vs ss n:Int) (o:OpD):Bool:=decide (0<=zaf o.kind)&&decide (zaf o.kind<=n)&&numB o vs ss
def hgt (vs ss:Int):List OpD->Int->Option Int
 | [],n=>some n
 | o::l,n=>if zeL vs ss n o then hgt vs ss l (n-zaf o.kind+1) else none
def zfB (l:List OpD) (vs ss:Int):Int:=if 32<l.length then 8 else if hgt vs ss l 0=some 1 then 0 else 1
def za0 (l:List OpD) (vs ss:Int):Bool:=zfB l vs ss==0
theorem zmn {vs ss:Int} {l:List OpD} {k:Nat} {o:OpD} {n:Int} (h:l[k]? =some o) (hn:hgt vs ss l 0=hgt vs ss (l.drop k) n):(zeL vs ss n o=true->hgt vs ss l 0=hgt vs ss (l.drop (k+1)) (n-zaf o.kind+1))/\(zeL vs ss n o=false->hgt vs ss l 0=none):=by
 have hk:k<l.length:=(List.getElem?_eq_some_iff.1 h).1
 have he:l.drop k=o::l.drop (k+1):=by
  rw [List.drop_eq_getElem_cons hk]
  congr 1
  rw [List.getElem?_eq_getElem hk] at h
  exact Option.some.inj h
 rw [he] at hn
 simp only [hgt] at hn
 exact⟨fun e=>by rw [hn,if_pos e],fun e=>by rw [hn,if_neg (by rw [e]; simp)]⟩
theorem zpn {vs ss:Int} {l:List OpD} {k:Nat} {n:Int} (h:l.length<=k) (hn:hgt vs ss l 0=hgt vs ss (l.drop k) n):hgt vs ss l 0=some n:=by
 rw [hn,List.drop_eq_nil_of_le h]
 rfl
/-! Actions, states -/
def actB (nv ns:Int) (a:ActD):Bool:=
 if a.kind=1 then decide (0<=a.n/\a.n<nv)&&(a.name == [])&&za0 a.code nv ns
 else if a.kind=2\/a.kind=4 then(a.n==0)&&zaC a.name&&za0 a.code nv ns
 else if a.kind=3 then(a.n==0)&&(a.name == [])&&za0 a.code nv ns
 else if a.kind=5 then(a.n==0)&&zaC a.name&&(a.code == [])
 else false
def zbY (nv ns:Int) (l:List ActD):Bool:=decide (l.length<=32)&&l.all (actB nv ns)
def zcq (s:StD):Bool:=(s.kind==1)||(s.kind==2)
def zbh (s:StD):Bool:=(s.kind==4)||(s.kind==5)
def zcW (c:ChD) (i:Int) (real:Bool) (k:Nat):Bool:=match c.states[k]? with
 | some s=>(s.parent==i)&&(!real|| !zbh s)
 | none=>false
def zbl (c:ChD) (i:Int) (real:Bool) (n:Nat):List Nat:=(List.range n).filter (zcW c i real)
def kidsL (c:ChD) (i:Int) (real:Bool):List Nat:=zbl c i real c.states.length
theorem zg8 (c:ChD) (i:Int) (real:Bool) (k:Nat):zbl c i real (k+1)=zbl c i real k++if zcW c i real k then [k] else []:=by
 unfold zbl
 rw [List.range_succ,List.filter_append]
 congr 1
 simp only [List.filter_cons,List.filter_nil]
theorem zbd (c:ChD) (i:Int) (real:Bool) (k:Nat):(zbl c i real k).length<=k:=by
 have:=List.length_filter_le (zcW c i real) (List.range k)
 simpa [zbl] using this
theorem ze3 {c:ChD} {i:Int} {real:Bool} {k n:Nat} (h:k∈zbl c i real n):k<n/\zcW c i real k=true:=by
 simpa [zbl,List.mem_filter] using h
def zcF (c:ChD) (name:List UInt8):Nat->Int
 | 0=> -1
 | k+1=>if zcF c name k= -1 then(match c.states[k]? with
   | some s=>if s.name=name then(k:Int) else -1
   | none=> -1) else zcF c name k
def zhJ (c:ChD) (name:List UInt8):Int:=zcF c name c.states.length
theorem zly (c:ChD) (name:List UInt8) {k:Nat} (h:zcF c name k≠ -1): ∀n,k<=n->zcF c name n=zcF c name k:=by
 intro n hn
 induction n with
 | zero=>obtain rfl:k=0:=by omega
         rfl
 | succ n ih=>
   by_cases e:k=n+1
   ·rw [e]
   ·have:=ih (by omega)
    simp only [zcF]
    rw [this,if_neg h]
theorem zke (c:ChD) (name:List UInt8) {k:Nat} (hk:k<c.states.length) (hn:zcF c name k= -1) (s:StD) (hs:c.states[k]? =some s) (he:s.name=name):zhJ c name=k:=by
 have h1:zcF c name (k+1)=k:=by
  simp only [zcF,if_pos hn,hs,if_pos he]
 unfold zhJ
 rw [zly c name (k:=k+1) (by rw [h1]; omega) _ hk,h1]
theorem zhh (c:ChD) (name:List UInt8) {k:Nat} (hn:zcF c name k= -1) (s:StD) (hs:c.states[k]? =some s) (he:s.name≠name):zcF c name (k+1)= -1:=by
 simp only [zcF,if_pos hn,hs,if_neg he]
def zaJ (p:Nat->Bool) (n:Nat):Option Nat:=(List.range n).find? fun k=> !p k
theorem zaI {p:Nat->Bool} {n:Nat} (h: ∀j,j<n->p j=true):zaJ p n=none:=by
 unfold zaJ
 rw [List.find?_eq_none]
 intro x hx
 simp [h x (by simpa using hx)]
theorem zbG {p:Nat->Bool} {n k:Nat} (hk:k<n) (h: ∀j,j<k->p j=true) (hb:p k=false):zaJ p n=some k:=by
 unfold zaJ
 have e:List.range n=List.range k++(k::(List.range (n-k-1)).map (k+1+ ·)):=by
  have:n=k+(n-k):=by omega
  rw [this,List.range_add]
  congr 1
  have e2:k+(n-k)-k-1+1=n-k:=by omega
  have:n-k=(n-k-1)+1:=by omega
  rw [show k+(n-k)-k-1=n-k-1 by omega,this,List.range_succ_eq_map,List.map_cons,List.map_map]
  simp only [Nat.add_zero,Nat.add_sub_cancel,List.cons.injEq,true_and]
  apply List.map_congr_left
  intro a _
  simp only [Function.comp]
  omega
 rw [e,List.find?_append]
 have h1:(List.range k).find? (fun k=> !p k)=none:=zaI h
 rw [h1]
 simp [hb]
/-! What is right -/
def at_ (c:ChD) (i:Int):Option StD:=if 0<=i then c.states[i.toNat]? else none
def zaM (c:ChD) (i:Int):Bool:=match at_ c i with
 | some q=>zcq q
 | none=>false
def zaV (c:ChD) (i:Nat) (s:StD):Bool:=(s.parent == -1)||(decide (0<=s.parent)&&decide (s.parent<i)&&zaM c s.parent)
def zaW (c:ChD) (s:StD):Bool:=match at_ c s.parent with
 | some q=>q.kind==1
 | none=>false
def inL (l:List Nat) (n:Int):Bool:=l.any fun k=>(k:Int)==n
def zas (c:ChD) (i:Nat) (s:StD):Bool:=
 if s.kind=1 then(if kidsL c i true=[] then s.initial == -1 else inL (kidsL c i true) s.initial)
 else if s.kind=2 then((kidsL c i true).all fun k=>zaM c k)&&decide (0< (kidsL c i true).length)&&(s.initial == -1)
 else if s.kind=3 then(kidsL c i false == [])&&((s.parent == -1)||zaW c s)&&(s.initial == -1)&&(s.out == [])
 else if s.kind=4\/s.kind=5 then(kidsL c i false == [])&&zaW c s&&inL (kidsL c s.parent true) s.initial&&(s.inn == [])&&(s.out == [])
 else false
def zay (c:ChD) (i:Nat) (s:StD):Bool:=zaC s.name&&(zhJ c s.name==(i:Int))&&zaV c i s&&zas c i s&&zbY c.vars.length c.states.length s.inn&&zbY c.vars.length c.states.length s.out
def zgl (c:ChD) (i:Nat):Bool:=match c.states[i]? with
 | some s=>zay c i s
 | none=>false
def newVar (c:ChD) (name:List UInt8) (i:Nat):Bool:=(c.vars.take i).all fun x=> !(x.name==name)
def varB (c:ChD) (i:Nat) (v:VarD):Bool:=newVar c v.name i&&zaC v.name&& !(v.name == [100,97,116,97])&& !(v.name == [105,110])&&decide (-2147483647<=v.start)&&decide (v.start<=2147483647)
def zfe (c:ChD) (i:Nat):Bool:=match c.vars[i]? with
 | some v=>varB c i v
 | none=>false
def zcM (c:ChD) (t:TrD):Bool:=zaM c t.src&&((t.event == [])||zaC t.event)&&((t.guard == [])||za0 t.guard c.vars.length c.states.length)&&zbY c.vars.length c.states.length t.acts&&((t.target == -1)||(decide (0<=t.target)&&decide (t.target<c.states.length)))
def zi7 (c:ChD) (i:Nat):Bool:=match c.trans[i]? with
 | some t=>zcM c t
 | none=>false
def topB (c:ChD):Bool:=match at_ c c.initial with
 | some q=>(q.parent == -1)&&zcq q
 | none=>false
def chk (c:ChD):Int×Int:=
 if 32<c.states.length\/64<c.trans.length\/8<c.vars.length then(8, -1)
 else if c.states=[]\/zaC c.name=false then(1, -1)
 else match zaJ (zfe c) c.vars.length with
  | some i=>(1,2000+i)
  | none=>match zaJ (zgl c) c.states.length with
    | some i=>(1,i)
    | none=>if topB c=false then(1, -1) else match zaJ (zi7 c) c.trans.length with
      | some i=>(1,1000+i)
      | none=>(0, -1)
end Go.Proofs.YtnbjaghjdeicmaaGreatDoor
namespace Go.Proofs.YtnbjaghjdeicmaaGreatDoor
theorem zap {α:Type} {l:List α} {i:Nat} (h:i<l.length): ∃x,l[i]? =some x/\x∈l:=⟨l[i],List.getElem?_eq_getElem h,List.getElem_mem h⟩
end Go.Proofs.YtnbjaghjdeicmaaGreatDoor
namespace Go.Proofs.YtnbjaghjdeicmaaGreatDoor
open Go.RowKit
structure Right (c:ChD):Prop where
 few:c.states.length<=32
 par: ∀(k:Nat) (s:StD),c.states[k]? =some s-> -1<=s.parent/\s.parent<k
 top: ∃(m:Nat) (q:StD),c.initial=m/\c.states[m]? =some q/\q.parent= -1
theorem zbO {p:Nat->Bool} {n:Nat} (h:zaJ p n=none) (j:Nat) (hj:j<n):p j=true:=by
 unfold zaJ at h
 rw [List.find?_eq_none] at h
 simpa using h j (by simpa using hj)
theorem zl2 {c:ChD} (h:(chk c).1=0):Right c:=by
 unfold chk at h
 split at h
 ·simp at h
 rename_i h1
 split at h
 ·simp at h
 split at h
 ·simp at h
 split at h
 ·simp at h
 rename_i h3
 split at h
 ·simp at h
 rename_i h4
 refine⟨by omega,fun k s hs=> ?_, ?_⟩
 ·have hk:k<c.states.length:=(List.getElem?_eq_some_iff.1 hs).1
  have:=zbO h3 k hk
  unfold zgl at this
  rw [hs] at this
  have hp:zaV c k s=true:=by
   simp only [zay,Bool.and_eq_true] at this
   exact this.1.1.1.2
  simp only [zaV,Bool.or_eq_true,Bool.and_eq_true,decide_eq_true_eq,beq_iff_eq] at hp
  omega
 ·have ht:topB c=true:=by simpa using h4
  unfold topB at ht
  split at ht
  ·rename_i q hq
   simp only [Bool.and_eq_true,beq_iff_eq] at ht
   unfold at_ at hq
   split at hq
   ·rename_i h0
    exact⟨c.initial.toNat,q,by omega,hq,ht.1⟩
   ·cases hq
  ·cases ht
def low (c:ChD) (n:Nat) (k:Nat):Bool:=match c.states[k]? with
 | some s=>decide (s.parent+1<n)&& !zbh s
 | none=>false
theorem zsW {c:ChD} {i:Int} {k:Nat} (h:k∈kidsL c i true): ∃s,c.states[k]? =some s/\s.parent=i/\zbh s=false/\k<c.states.length:=by
 obtain⟨h1,h2⟩:=ze3 h
 obtain⟨s,hs,_⟩:=zap h1
 unfold zcW at h2
 rw [hs] at h2
 simp at h2
 exact⟨s,hs,h2.1,h2.2,h1⟩
end Go.Proofs.YtnbjaghjdeicmaaGreatDoor
