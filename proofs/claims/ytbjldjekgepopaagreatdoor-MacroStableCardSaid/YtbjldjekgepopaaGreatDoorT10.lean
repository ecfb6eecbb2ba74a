/- The plain law of charts' trees: in a right chart parents are ahead; what is counted. No program is named here. -/
import Derived.Test.YtbjldjekgepopaaGreatDoorT9
import Derived.Test.YtbjldjekgepopaaGreatDoorT6
import Derived.Test.YtbjldjekgepopaaGreatDoorRows
import Derived.LaidMore
import Derived.Stop.Joined
import Derived.Shelf.Sort.Plain
import Derived.Shelf.Slices.CompactS
set_option linter.unusedSimpArgs false
namespace Go.Proofs.YtbjldjekgepopaaGreatDoor
open Go.Proofs.Tryz
open Go.RowKit
def CR (n:Nat) (f:Nat->Bool):Bool:=(List.range n).all f
theorem om {n:Nat} {f:Nat->Bool} (h: ∀j,j<n->f j=true):CR n f=true:=by
 simp only[CR,K2,Kr];exact h
theorem sN {n k:Nat} {f:Nat->Bool} (hk:k<n) (h:f k=false):CR n f=false:=by
 rw[<-Ot,CR,K2];intro hh;have:=hh k (by simpa using hk);rw[h]at this;cases this
theorem JA {n:Nat} {f:Nat->Bool} (h:CR n f=true) (j:Nat) (hj:j<n):f j=true:=by
 simp only[CR,K2,Kr]at h;exact h j hj
structure Rc where
 chart:Int
 born:Int
 steps:Int
 active:List Int
 vars:List Int
 mem:List (Int×List Int)
 timers:List (List UInt8×Int)
 over:Bool
def AO (n:Int):Bool:=decide (0<=n/\n<=1099511627776)
def jq (l:List (List UInt8×Int)) (j:Nat):Bool:=
 bX (l.getD j ([],0)).1&&AO (l.getD j ([],0)).2&&(decide (j=0)||Op.bytesLess (l.getD (j-1) ([],0)).1 (l.getD j ([],0)).1)
def cx (l:List (List UInt8×Int)):Bool:=CR l.length (jq l)&&decide (l.length<=8)
/-! How bytes are read -/
def pnum (bs:List UInt8) (at_ wd:Nat):Option (Nat×Nat):=if at_+wd<=bs.length/\x6 (cut bs at_ wd)<=4611686018427387904 then some (x6 (cut bs at_ wd),at_+wd) else none
def ptext (bs:List UInt8) (at_:Nat):Option (List UInt8×Nat):=
 if at_+2<=bs.length/\at_+2+x6 (cut bs at_ 2)<=bs.length then some (cut bs (at_+2) (x6 (cut bs at_ 2)),at_+2+x6 (cut bs at_ 2)) else none
def IG (n:Nat):Int:=if n%2=1 then -(((n+1)/2:Nat):Int) else((n/2:Nat):Int)
def pvars {α:Type} (bs:List UInt8) (K:List Int->Nat->Option α):Nat->Nat->List Int->Option α
 |0,a,acc=>K acc a
 |n+1,a,acc=>(pnum bs a 4).bind fun x=>pvars bs K n x.2 (acc++[IG x.1])
def pmems {α:Type} (bs:List UInt8) (K:List (Int×List Int)->Nat->Option α):Nat->Nat->List (Int×List Int)->Option α
 |0,a,acc=>K acc a
 |n+1,a,acc=>(pnum bs a 1).bind fun x=>(pnum bs x.2 4).bind fun y=>pmems bs K n y.2 (acc++[((x.1:Int),setOf y.1)])
def ptms {α:Type} (bs:List UInt8) (K:List (List UInt8×Int)->Nat->Option α):Nat->Nat->List (List UInt8×Int)->Option α
 |0,a,acc=>K acc a
 |n+1,a,acc=>(ptext bs a).bind fun x=>(pnum bs x.2 8).bind fun y=>ptms bs K n y.2 (acc++[(x.1,(y.1:Int))])
def p9 (bs:List UInt8) (c b s:Int) (o:Bool) (ac vs:List Int) (ms:List (Int×List Int)) (a:Nat):Option Rc:=
 (pnum bs a 1).bind fun x=>ptms bs (fun ts _=>some ⟨c,b,s,ac,vs,ms,ts,o⟩) x.1 x.2 []
def p8 (bs:List UInt8) (c b s:Int) (o:Bool) (ac vs:List Int) (a:Nat):Option Rc:=
 (pnum bs a 1).bind fun x=>pmems bs (fun ms a'=>p9 bs c b s o ac vs ms a') x.1 x.2 []
def p7 (bs:List UInt8) (c b s:Int) (o:Bool) (ac:List Int) (a:Nat):Option Rc:=
 (pnum bs a 1).bind fun x=>pvars bs (fun vs a'=>p8 bs c b s o ac vs a') x.1 x.2 []
def p6 (bs:List UInt8) (c b s:Int) (o:Bool) (a:Nat):Option Rc:=(pnum bs a 4).bind fun x=>p7 bs c b s o (setOf x.1) x.2
def p5 (bs:List UInt8) (c b s:Int) (a:Nat):Option Rc:=(pnum bs a 1).bind fun x=>p6 bs c b s (decide (x.1=1)) x.2
def p4 (bs:List UInt8) (c b:Int) (a:Nat):Option Rc:=(pnum bs a 8).bind fun x=>p5 bs c b x.1 x.2
def p3 (bs:List UInt8) (c:Int) (a:Nat):Option Rc:=(pnum bs a 8).bind fun x=>p4 bs c x.1 x.2
end Go.Proofs.YtbjldjekgepopaaGreatDoor
namespace Go.Proofs.YtbjldjekgepopaaGreatDoor
open Go.Proofs.Tryz
open Go.RowKit Go.ChangeShapes
section
variable {P:Program} {W:World} {nm:String} {ti tp te ts:TypeId} {ms:Array (String×TypeId)} {f:Field}
theorem uu (hi:P.underlying ti=some (.interface ms)) (hrow: ∀u,P.typeName? 3 u=some nm->u=tp)
 (hp:P.underlying tp=some (.pointer te)) (he:P.underlying te=some (.struct #[f])) (hft:f.type=ts) (hfo:f.offset=0) (hs:P.underlying ts=some .string) (hc:P.cellsOf te=1) (hcs:P.cellsOf ts=1):
 ∀(l:List (String×List UInt8)) (gs:List Nat) (ps:List MemPlace),DataW.LaidVars P W (l.map fun x=>(x.1, .iface nm (.ptr (.agg [.lit (.string x.2)])))) ps->
  l.map (fun x=>P.globalNamed x.1)=gs.map some->(∀g∈gs,(P.globals[g]?).map (·.type)=some ti)->
  (∀b off,MemPlace.cell b off∈ps->(∃c t,W.heap[b]? =some (.cells c t (0,0)))/\ ∀u v,W.cell? ⟨b,off,none⟩=some (.iface u v)->Value.okWide P W .any 0 u v)->
  ∃adl:List Addr,adl.length=gs.length/\(∀(i:Nat) (g:Nat) (a:Addr),gs[i]? =some g->adl[i]? =some a->W.cell? ⟨g,0,none⟩=some (.iface tp (.pointer (some a)))/\ ∃ca ta,W.heap[a.block]? =some (.cells ca ta (0,0)))/\
   (adl.map fun a=>MemPlace.cell a.block a.off).Sublist ps
 | [],gs,ps,_,hg,_,_=>by
   obtain rfl:gs=[]:=by cases gs<;>simp_all
   exact⟨[],rfl,by simp,by simp⟩
 |(n,text)::l,gs,ps,hv,hg,ht,hrows=>by
   obtain⟨g,gs,rfl⟩: ∃g gs',gs=g::gs':=by cases gs<;>simp_all
   simp only[LI,Me]at hg;obtain⟨g0,t0,cs0,f0,p0,q0,hg0,ht0,hv0,hd0,hrest,rfl⟩:=hv;obtain rfl:=Lo (hg.1.symm.trans hg0);obtain rfl:=Lo ((ht g (by simp)).symm.trans ht0);obtain⟨l0⟩:=cs0
   have ok0: ∀u v,l0=[.iface u v]->Value.okWide P W .any 0 u v:=fun u v e=>by
    subst e;exact(hrows g 0 (by simp[MemPlace.row])).2 u v (by simpa using PD hg0 hv0 0)
   obtain⟨a0,s0,rfl,_,_,_,rfl⟩:=errorString_of_trod hi hrow hp he hft hfo hs hc hcs hd0 ok0;obtain⟨adl,h1,h2,h3⟩:=uu hi hrow hp he hft hfo hs hc hcs l gs q0 hrest hg.2 (fun g' h=>ht g' (by simp[h])) (fun b off h=>hrows b off (MW _ h));refine⟨a0::adl,by simp[h1],?_,?_⟩
   ·intro i g' a' hg' ha';cases i with
    | zero=>
      simp at hg' ha';subst hg' ha';exact⟨by simpa using PD hg0 hv0 0,(hrows a0.block a0.off (by simp[MemPlace.row])).1⟩
    |succ i=>exact h2 i g' a' (by simpa using hg') (by simpa using ha')
   ·simp only[LI,MemPlace.row];exact List.Sublist.trans (List.Sublist.append (by simp:[MemPlace.cell a0.block a0.off].Sublist _) h3) (List.Sublist.append (List.sublist_append_right _ _) (List.Sublist.refl _))
end
theorem Tryz.row160: ∀u,prog.typeName? 3 u=some "*errors.errorString" ->u=410:=
 fun u hu=>typeName_ptr_named (nm:= "errors.errorString") (by kernel_rfl) (by kernel_rfl) (by decide) u hu
section
open Go.WideShapes
variable {H:Type} {enc:TypeId×Value->H} {P:Program}
theorem mL (hl:laidOutB P=true) {W W':World} (hb:Below W.heap.size W W'): ∀(ts:List TypeId) (vs:List Value) (ds:List (DataW H)) (ps:List MemPlace),
 (∀t∈ts,P.readableRec t=true/\t<P.types.size)->(∀x∈ps,x.block<W.heap.size)->DataW.TrodAll enc P W 0 (fun _=>true) true ts vs ds ps->DataW.TrodAll enc P W' 0 (fun b=>decide (b<W.heap.size)) true ts vs ds ps
 |[],[],[],_,_,_,h=>h
 | t::ts,v::vs,d::ds,ps,ht,hp,h=>by
   obtain⟨p,q,h1,h2,rfl⟩:=h;have r:=ht t (by simp);exact⟨p,q,Below.trod hl r.1 r.2 h1 hb (fun x hx=>hp x (LR _ hx)),mL hl hb ts vs ds q (fun t' h'=>ht t' (by simp[h'])) (fun x hx=>hp x (MW _ hx)) h2,rfl⟩
 |[],_::_,_,_,_,_,h=>by cases h
 |[],[],_::_,_,_,_,h=>by cases h
 |_::_,[],_,_,_,_,h=>by cases h
 |_::_,_::_,[],_,_,_,h=>by cases h
theorem zd (hl:laidOutB P=true) {f:Func} {s:ChangeSpec} {tb:TypeId} {W W':World} {args:Array Value} {ds gs:List (DataW H)} {before:List MemPlace}
 (hpar: ∀t∈f.params.toList,P.readableRec t=true/\t<P.types.size) (hrt:f.resultTypes= #[tb]) (htb:P.underlying tb=some .bool)
 (hW:DataW.Whole enc P f.params.toList s.vars false W args.toList ds gs before) (hv:s.vars=[])
 (hs:gs=[]->s.fn H (ds++gs)={ results:=[.lit (.bool true)],args:=ds }) (hb:Below W.heap.size W W'):s.post enc P f false true false false W args (.bool true) W':=by
 have hlt: ∀p∈before,p.block<W.heap.size:=fun p hp=>hW.lt p hp;have hW':=hW;obtain⟨p,q,hA,hV,rfl,_,_⟩:=hW;rw[hv]at hV;obtain⟨rfl,rfl⟩:=trodVars_none hV;have hs:=hs rfl;rw[Lm]at hlt;refine⟨ds,[],p++[],[],p,[],hW',?_,?_,?_,?_,fun h=>by cases h⟩
 ·rw[hs,hrt];exact trodAll_mk1 (shut_bool htb true)
 ·rw[hs];exact mL hl hb _ _ _ _ hpar hlt hA
 ·rw[hs,hv];rfl
 ·exact World.keptBut_mono (fun x hx=>⟨hx, .inr (.inl (by simpa using hx))⟩) (hb.frame (· ∈p++[]))
end
section
open Go.WideShapes
variable {H:Type} {enc:TypeId×Value->H} {P:Program} {w:World} {base:Nat} {spare:Nat->Bool} {held:Bool}
end
theorem tX {W:World} (h:laidMetH prog [("scrinium/api.ErrForm",Rows.laid_scrinium_api_ErrForm),("scrinium/api.ErrRange",Rows.laid_scrinium_api_ErrRange),("scrinium/api.ErrFull",Rows.laid_scrinium_api_ErrFull),("scrinium/api.ErrNone",Rows.laid_scrinium_api_ErrNone),("scrinium/api.ErrCorrupt",Rows.laid_scrinium_api_ErrCorrupt),("scrinium/api.ErrFuel",Rows.laid_scrinium_api_ErrFuel),("scrinium/api.ErrState",Rows.laid_scrinium_api_ErrState),("scrinium/api.ErrLong",Rows.laid_scrinium_api_ErrLong),("scrinium/api.ErrTwice",Rows.laid_scrinium_api_ErrTwice)] W): ∃ad,Sents W ad:=by
 rw[Ni _ _ _ (by kernel_rfl)]at h;obtain⟨ps,hv,hnd,hrows⟩:=h
 obtain⟨adl,h1,h2,h3⟩:=uu (nm:= "*errors.errorString") Tryz.underlying47 Tryz.row160 Tryz.underlying410 Tryz.underlying429 rfl rfl Tryz.underlying9 (by kernel_rfl) (by kernel_rfl)
  [("scrinium/api.ErrForm",[102,111,114,109]),("scrinium/api.ErrRange",[114,97,110,103,101]),("scrinium/api.ErrFull",[102,117,108,108]),("scrinium/api.ErrNone",[110,111,110,101]),("scrinium/api.ErrCorrupt",[99,111,114,114,117,112,116]),("scrinium/api.ErrFuel",[102,117,101,108]),("scrinium/api.ErrState",[115,116,97,116,101]),("scrinium/api.ErrLong",[108,111,110,103]),("scrinium/api.ErrTwice",[116,119,105,99,101])] [0,2,3,4,5,6,1,7,8] ps hv (by kernel_rfl) (by
    intro g hg;simp at hg
    rcases hg with rfl|rfl|rfl|rfl|rfl|rfl|rfl|rfl|rfl<;>kernel_rfl) hrows
 have hnd':=Nw h3 hnd
 match adl,h1 with
 | [a1,a2,a3,a4,a5,a6,a7,a8,a9],_=>
   refine⟨fun i=>[a1,a2,a3,a4,a5,a6,a7,a8,a9].getD (i-1) a1,h2 0 _ _ rfl rfl,h2 1 _ _ rfl rfl,h2 2 _ _ rfl rfl,h2 3 _ _ rfl rfl,h2 4 _ _ rfl rfl,h2 5 _ _ rfl rfl,h2 6 _ _ rfl rfl,h2 7 _ _ rfl rfl,h2 8 _ _ rfl rfl,?_⟩;intro i j hi hi' hj hj' e
   have hinj: ∀x y,x<9->y<9->[a1,a2,a3,a4,a5,a6,a7,a8,a9].getD x a1=[a1,a2,a3,a4,a5,a6,a7,a8,a9].getD y a1->x=y:=by
    intro x y hx hy e;generalize hl:[a1,a2,a3,a4,a5,a6,a7,a8,a9]=l at*;have hlen:l.length=9:=by rw[<-hl];rfl
    have ex:l.getD x a1=l[x]'(by omega):=by simp[List.getD,KV (show x<l.length by omega)]
    have ey:l.getD y a1=l[y]'(by omega):=by simp[List.getD,KV (show y<l.length by omega)]
    rw[ex,ey]at e;have:=(List.getElem_inj hnd' (i:=x) (j:=y) (h₀:=by simp;omega) (h₁:=by simp;omega)).1 (by simp only[List.getElem_map];rw[e]);exact this
   have:=hinj (i-1) (j-1) (by omega) (by omega) e;omega
end Go.Proofs.YtbjldjekgepopaaGreatDoor
namespace Go.Proofs.YtbjldjekgepopaaGreatDoor
open Go.Proofs.Tryz
open Go.RowKit Go.ChangeShapes Go.WideShapes Go.Deep
section
variable {H:Type} {enc:TypeId×Value->H} {P:Program} {w:World} {base:Nat} {spare:Nat->Bool} {held:Bool}
theorem bL {fs:Array Field} {cs:List Value} {n:Nat} {xs:List (DataW H×List MemPlace)} (hx:xs.length=fs.size) (hg: ∀(i:Nat) (f:Field),fs[i]? =some f->DataW.trod enc P w base spare held n f.type ((cs.drop f.offset).take (P.cellsOf f.type))=xs[i]?)
 (i:Nat) (f:Field) (hf:fs[i]? =some f) (ty off k:Nat) (h1:f.type=ty) (h2:f.offset=off) (h3:P.cellsOf ty=k): ∃y,DataW.trod enc P w base spare held n ty ((cs.drop off).take k)=some y:=by
 have h:=hg i f hf;rw[h1,h2,h3]at h;have hi:i<fs.size:=(Kq.1 hf).1;rw[KV (by omega)]at h;exact⟨_,h⟩
def RE {α:Type} (w:World) (en:α->List AV) (few:α->Prop) (cs:List Value) (a:α):Prop:=RVs (fun b _=>b<w.heap.size) w cs (en a)/\few a
theorem cj {α:Type} {t e:TypeId} {size fuel:Nat} {cs:List Value} {x:DataW H×List MemPlace} (en:α->List AV) (few:α->Prop) (hen: ∀a,(en a).length=size) (ht:P.underlying t=some (.slice e)) (hC:P.cellsOf e=size) (hpos:0<size)
 (hR: ∀(m:Nat) (cs:List Value) (y:DataW H×List MemPlace),DataW.trod enc P w base spare held m e cs=some y-> ∃a,RE w en few cs a)
 (h:DataW.trod enc P w base spare held fuel t cs=some x): ∃(v:Value) (l:List α),cs=[v]/\(v.oneCell'=true/\RV (fun b _=>b<w.heap.size) w v (.seq size (l.map en)))/\l.length<=maxLen/\ ∀a∈l,few a:=by
 obtain⟨v,l,e1,hl⟩:=open_list (R:=RE w en few) ht hC hpos hR h;have hrv:=DI en hen hl fun cs a _ hr j u c hu hc=>hr.1.at_.2 j u c hu hc;obtain⟨A,c,xs,rfl,_,h2,_,hrow⟩:=hl;refine⟨_,l,e1,⟨rfl,hrv⟩,h2,fun a ha=> ?_⟩;obtain⟨i,hi,rfl⟩:=Lp ha;exact(hrow.2 i hi).2
theorem B6 {l:List Value} (h:l.length=2): ∃a b,l=[a,b]:=by
 match l,h with
 |[a,b],_=>exact⟨a,b,rfl⟩
theorem KF {l:List Value} (h:l.length=4): ∃a b c d,l=[a,b,c,d]:=by
 match l,h with
 |[a,b,c,d],_=>exact⟨a,b,c,d,rfl⟩
theorem IC {l:List Value} (h:l.length=5): ∃a b c d e,l=[a,b,c,d,e]:=by
 match l,h with
 |[a,b,c,d,e],_=>exact⟨a,b,c,d,e,rfl⟩
theorem KE {l:List Value} (h:l.length=6): ∃a b c d e f,l=[a,b,c,d,e,f]:=by
 match l,h with
 |[a,b,c,d,e,f],_=>exact⟨a,b,c,d,e,f,rfl⟩
end
theorem c_int:prog.cellsOf 3=1:=by kernel_rfl
theorem iA:prog.cellsOf 9=1:=by kernel_rfl
theorem JO:prog.cellsOf 50=1:=by kernel_rfl
theorem Cd:prog.cellsOf 51=1:=by kernel_rfl
theorem KJ:prog.cellsOf 23=1:=by kernel_rfl
theorem KI:prog.cellsOf 24=1:=by kernel_rfl
theorem Jj:prog.cellsOf 22=1:=by kernel_rfl
theorem c_op:prog.cellsOf 92=2:=by kernel_rfl
theorem c_act:prog.cellsOf 94=4:=by kernel_rfl
theorem c_st:prog.cellsOf 89=6:=by kernel_rfl
theorem c_tr:prog.cellsOf 53=5:=by kernel_rfl
theorem c_var:prog.cellsOf 199=2:=by kernel_rfl
theorem KR:prog.cellsOf 26=5:=by kernel_rfl
section
variable {H:Type} {enc:TypeId×Value->H} {w:World} {base:Nat} {spare:Nat->Bool} {held:Bool}
set_option maxRecDepth 100000 in
theorem open_op (m:Nat) (cs:List Value) (y:DataW H×List MemPlace) (h:DataW.trod enc prog w base spare held m 92 cs=some y): ∃a:OpD,RE w bp qG cs a:=by
 obtain⟨xs,n,_,_,hl,hxl,hg⟩:=MS Tryz.underlying92 h;rw[c_op]at hl;obtain⟨c0,c1,rfl⟩:=B6 hl;obtain⟨y0,h0⟩:=bL hxl hg 0 _ rfl 3 0 1 rfl rfl c_int;obtain⟨x0,e0, -, -⟩:=Lr Tryz.underlying3 (show DataW.trod enc prog w base spare held n 3 [c0]=some y0 from h0);cases e0;obtain⟨y1,h1⟩:=bL hxl hg 1 _ rfl 3 1 1 rfl rfl c_int;obtain⟨x1,e1, -, -⟩:=Lr Tryz.underlying3 (show DataW.trod enc prog w base spare held n 3 [c1]=some y1 from h1);cases e1;exact⟨⟨x0,x1⟩,⟨⟨rfl, .lit _⟩,⟨rfl, .lit _⟩,trivial⟩,trivial⟩
set_option maxRecDepth 100000 in
theorem open_act (m:Nat) (cs:List Value) (y:DataW H×List MemPlace) (h:DataW.trod enc prog w base spare held m 94 cs=some y): ∃a:ActD,RE w bP gZ cs a:=by
 obtain⟨xs,n,_,_,hl,hxl,hg⟩:=MS Tryz.underlying94 h;rw[c_act]at hl;obtain⟨c0,c1,c2,c3,rfl⟩:=KF hl;obtain⟨y0,h0⟩:=bL hxl hg 0 _ rfl 3 0 1 rfl rfl c_int;obtain⟨x0,e0, -, -⟩:=Lr Tryz.underlying3 (show DataW.trod enc prog w base spare held n 3 [c0]=some y0 from h0);cases e0;obtain⟨y1,h1⟩:=bL hxl hg 1 _ rfl 3 1 1 rfl rfl c_int;obtain⟨x1,e1, -, -⟩:=Lr Tryz.underlying3 (show DataW.trod enc prog w base spare held n 3 [c1]=some y1 from h1);cases e1;obtain⟨y2,h2⟩:=bL hxl hg 2 _ rfl 9 2 1 rfl rfl iA;obtain⟨x2,e2, -,s2⟩:=Mz Tryz.underlying9 (show DataW.trod enc prog w base spare held n 9 [c2]=some y2 from h2);cases e2;obtain⟨⟨t2⟩⟩:=x2;obtain⟨y3,h3⟩:=bL hxl hg 3 _ rfl 50 3 1 rfl rfl JO;obtain⟨x3,l3,e3,r3,n3,p3⟩:=cj (size:=2) bp qG (fun _=>rfl) Tryz.underlying50 c_op (by decide) open_op (show DataW.trod enc prog w base spare held n 50 [c3]=some y3 from h3);cases e3;exact⟨⟨x0,x1,t2,l3⟩,⟨⟨rfl, .lit _⟩,⟨rfl, .lit _⟩,⟨rfl, .lit _⟩,r3,trivial⟩,(by simpa[ByteArray.size]using s2),⟨n3,p3⟩⟩
set_option maxRecDepth 100000 in
theorem open_st (m:Nat) (cs:List Value) (y:DataW H×List MemPlace) (h:DataW.trod enc prog w base spare held m 89 cs=some y): ∃a:StD,RE w aL tu cs a:=by
 obtain⟨xs,n,_,_,hl,hxl,hg⟩:=MS Tryz.underlying89 h;rw[c_st]at hl;obtain⟨c0,c1,c2,c3,c4,c5,rfl⟩:=KE hl;obtain⟨y0,h0⟩:=bL hxl hg 0 _ rfl 9 0 1 rfl rfl iA;obtain⟨x0,e0, -,s0⟩:=Mz Tryz.underlying9 (show DataW.trod enc prog w base spare held n 9 [c0]=some y0 from h0);cases e0;obtain⟨⟨t0⟩⟩:=x0;obtain⟨y1,h1⟩:=bL hxl hg 1 _ rfl 3 1 1 rfl rfl c_int;obtain⟨x1,e1, -, -⟩:=Lr Tryz.underlying3 (show DataW.trod enc prog w base spare held n 3 [c1]=some y1 from h1);cases e1;obtain⟨y2,h2⟩:=bL hxl hg 2 _ rfl 3 2 1 rfl rfl c_int;obtain⟨x2,e2, -, -⟩:=Lr Tryz.underlying3 (show DataW.trod enc prog w base spare held n 3 [c2]=some y2 from h2);cases e2;obtain⟨y3,h3⟩:=bL hxl hg 3 _ rfl 3 3 1 rfl rfl c_int;obtain⟨x3,e3, -, -⟩:=Lr Tryz.underlying3 (show DataW.trod enc prog w base spare held n 3 [c3]=some y3 from h3);cases e3;obtain⟨y4,h4⟩:=bL hxl hg 4 _ rfl 51 4 1 rfl rfl Cd;obtain⟨x4,l4,e4,r4,n4,p4⟩:=cj (size:=4) bP gZ (fun _=>rfl) Tryz.underlying51 c_act (by decide) open_act (show DataW.trod enc prog w base spare held n 51 [c4]=some y4 from h4);cases e4;obtain⟨y5,h5⟩:=bL hxl hg 5 _ rfl 51 5 1 rfl rfl Cd;obtain⟨x5,l5,e5,r5,n5,p5⟩:=cj (size:=4) bP gZ (fun _=>rfl) Tryz.underlying51 c_act (by decide) open_act (show DataW.trod enc prog w base spare held n 51 [c5]=some y5 from h5);cases e5;exact⟨⟨t0,x1,x2,x3,l4,l5⟩,⟨⟨rfl, .lit _⟩,⟨rfl, .lit _⟩,⟨rfl, .lit _⟩,⟨rfl, .lit _⟩,r4,r5,trivial⟩,(by simpa[ByteArray.size]using s0),⟨n4,p4⟩,⟨n5,p5⟩⟩
set_option maxRecDepth 100000 in
theorem open_tr (m:Nat) (cs:List Value) (y:DataW H×List MemPlace) (h:DataW.trod enc prog w base spare held m 53 cs=some y): ∃a:TrD,RE w bi tt cs a:=by
 obtain⟨xs,n,_,_,hl,hxl,hg⟩:=MS Tryz.underlying53 h;rw[c_tr]at hl;obtain⟨c0,c1,c2,c3,c4,rfl⟩:=IC hl;obtain⟨y0,h0⟩:=bL hxl hg 0 _ rfl 3 0 1 rfl rfl c_int;obtain⟨x0,e0, -, -⟩:=Lr Tryz.underlying3 (show DataW.trod enc prog w base spare held n 3 [c0]=some y0 from h0);cases e0;obtain⟨y1,h1⟩:=bL hxl hg 1 _ rfl 9 1 1 rfl rfl iA;obtain⟨x1,e1, -,s1⟩:=Mz Tryz.underlying9 (show DataW.trod enc prog w base spare held n 9 [c1]=some y1 from h1);cases e1;obtain⟨⟨t1⟩⟩:=x1;obtain⟨y2,h2⟩:=bL hxl hg 2 _ rfl 50 2 1 rfl rfl JO;obtain⟨x2,l2,e2,r2,n2,p2⟩:=cj (size:=2) bp qG (fun _=>rfl) Tryz.underlying50 c_op (by decide) open_op (show DataW.trod enc prog w base spare held n 50 [c2]=some y2 from h2);cases e2;obtain⟨y3,h3⟩:=bL hxl hg 3 _ rfl 51 3 1 rfl rfl Cd;obtain⟨x3,l3,e3,r3,n3,p3⟩:=cj (size:=4) bP gZ (fun _=>rfl) Tryz.underlying51 c_act (by decide) open_act (show DataW.trod enc prog w base spare held n 51 [c3]=some y3 from h3);cases e3;obtain⟨y4,h4⟩:=bL hxl hg 4 _ rfl 3 4 1 rfl rfl c_int;obtain⟨x4,e4, -, -⟩:=Lr Tryz.underlying3 (show DataW.trod enc prog w base spare held n 3 [c4]=some y4 from h4);cases e4;exact⟨⟨x0,t1,l2,l3,x4⟩,⟨⟨rfl, .lit _⟩,⟨rfl, .lit _⟩,r2,r3,⟨rfl, .lit _⟩,trivial⟩,(by simpa[ByteArray.size]using s1),⟨n2,p2⟩,⟨n3,p3⟩⟩
set_option maxRecDepth 100000 in
theorem open_var (m:Nat) (cs:List Value) (y:DataW H×List MemPlace) (h:DataW.trod enc prog w base spare held m 199 cs=some y): ∃a:VarD,RE w gQ oA cs a:=by
 obtain⟨xs,n,_,_,hl,hxl,hg⟩:=MS Tryz.underlying199 h;rw[c_var]at hl;obtain⟨c0,c1,rfl⟩:=B6 hl;obtain⟨y0,h0⟩:=bL hxl hg 0 _ rfl 9 0 1 rfl rfl iA;obtain⟨x0,e0, -,s0⟩:=Mz Tryz.underlying9 (show DataW.trod enc prog w base spare held n 9 [c0]=some y0 from h0);cases e0;obtain⟨⟨t0⟩⟩:=x0;obtain⟨y1,h1⟩:=bL hxl hg 1 _ rfl 3 1 1 rfl rfl c_int;obtain⟨x1,e1, -, -⟩:=Lr Tryz.underlying3 (show DataW.trod enc prog w base spare held n 3 [c1]=some y1 from h1);cases e1;exact⟨⟨t0,x1⟩,⟨⟨rfl, .lit _⟩,⟨rfl, .lit _⟩,trivial⟩,(by simpa[oA,ByteArray.size]using s0)⟩
set_option maxRecDepth 100000 in
theorem IX (m:Nat) (cs:List Value) (y:DataW H×List MemPlace) (h:DataW.trod enc prog w base spare held m 26 cs=some y): ∃a:ChD,RE w aA i6 cs a:=by
 obtain⟨xs,n,_,_,hl,hxl,hg⟩:=MS Tryz.underlying26 h;rw[KR]at hl;obtain⟨c0,c1,c2,c3,c4,rfl⟩:=IC hl;obtain⟨y0,h0⟩:=bL hxl hg 0 _ rfl 9 0 1 rfl rfl iA;obtain⟨x0,e0, -,s0⟩:=Mz Tryz.underlying9 (show DataW.trod enc prog w base spare held n 9 [c0]=some y0 from h0);cases e0;obtain⟨⟨t0⟩⟩:=x0;obtain⟨y1,h1⟩:=bL hxl hg 1 _ rfl 3 1 1 rfl rfl c_int;obtain⟨x1,e1, -, -⟩:=Lr Tryz.underlying3 (show DataW.trod enc prog w base spare held n 3 [c1]=some y1 from h1);cases e1;obtain⟨y2,h2⟩:=bL hxl hg 2 _ rfl 22 2 1 rfl rfl Jj;obtain⟨x2,l2,e2,r2,n2,p2⟩:=cj (size:=2) gQ oA (fun _=>rfl) Tryz.underlying22 c_var (by decide) open_var (show DataW.trod enc prog w base spare held n 22 [c2]=some y2 from h2);cases e2;obtain⟨y3,h3⟩:=bL hxl hg 3 _ rfl 23 3 1 rfl rfl KJ;obtain⟨x3,l3,e3,r3,n3,p3⟩:=cj (size:=6) aL tu (fun _=>rfl) Tryz.underlying23 c_st (by decide) open_st (show DataW.trod enc prog w base spare held n 23 [c3]=some y3 from h3);cases e3;obtain⟨y4,h4⟩:=bL hxl hg 4 _ rfl 24 4 1 rfl rfl KI;obtain⟨x4,l4,e4,r4,n4,p4⟩:=cj (size:=5) bi tt (fun _=>rfl) Tryz.underlying24 c_tr (by decide) open_tr (show DataW.trod enc prog w base spare held n 24 [c4]=some y4 from h4);cases e4;exact⟨⟨t0,x1,l2,l3,l4⟩,⟨⟨rfl, .lit _⟩,⟨rfl, .lit _⟩,r2,r3,r4,trivial⟩,(by simpa[ByteArray.size]using s0),⟨n2,p2⟩,⟨n3,p3⟩,⟨n4,p4⟩⟩
end
end Go.Proofs.YtbjldjekgepopaaGreatDoor
namespace Go.Proofs.YtbjldjekgepopaaGreatDoor
open Go.Proofs.Tryz
open Go.RowKit
structure Cuts (P:Program) (f:FuncId) (e:TypeId) (sz:Nat) (ls ls':List (List Value)):Prop where
 enter: ∀(args:Array Value) (w:World),(callFunc f args).run P w= .ok (.enter f args) w
 els: ∀l∈ls',l.length=sz/\ ∀u∈l,u.oneCell'=true
 calls: ∀(w:World) (base:Nat) (v:Value),w.ownsRow base e sz v ls.length ls.flatten->
  Calls P f #[v] w fun ex w'=> ∃v',ex= .returned v'/\v'.oneCell'=true/\w.grownBy w' v.ownBlock/\(∀g,v'.ownBlock=some g->v.ownBlock=some g)/\w'.ownsRow base e sz v' ls'.length ls'.flatten
theorem Et {S:Nat->Nat->Prop} {w:World} {row:Row} {ls:List (List Value)} {xs:List Value} (hls: ∀l∈ls,l.length=row.sz) (hpos:0<row.sz) (hxl:xs.length=ls.length*row.sz) (e5:row.es=bC ls)
 (k3: ∀(i j:Nat) (c:AV),cellAt row.es i j=some c-> ∃u,xs[i*row.sz+j]? =some u/\RV S w u c):xs=ls.flatten:=by
 apply LQ;intro p;have hfl:=da ls hls;by_cases hp:p<ls.length*row.sz
 ·have hi:p/row.sz<ls.length:=NK (by rw[Mf];exact hp);have hj:p%row.sz<row.sz:=N9 _ hpos;have hpq:p/row.sz*row.sz+p%row.sz=p:=Nf p row.sz;have hl:=hls _ (MI hi);have hju:(ls[p/row.sz])[p%row.sz]? =some ((ls[p/row.sz])[p%row.sz]'(by omega)):=KV _;have h1:=eh ls hls _ _ _ _ (KV hi) hju
  obtain⟨u,h2,h3⟩:=k3 (p/row.sz) (p%row.sz) (.lit ((ls[p/row.sz])[p%row.sz]'(by omega))) (by
   rw[e5];unfold cellAt bC;rw[K5,KV hi]
   simp only[Kg,LX,K5,hju])
  rw[hpq]at h1 h2;have:u=(ls[p/row.sz])[p%row.sz]'(by omega):=by cases h3;rfl
  rw[h1,h2,this]
 ·rw[K7 (by omega),K7 (by omega)]
theorem H1 {P:Program} {env:Env} {f:FuncId} {r ver:Nat} {row:Row} {rows:Nat->Option Row} {vsv:Nat->Nat} {ls ls':List (List Value)} (hC:Cuts P f row.e row.sz ls ls') (hr:rows r=some row) (hv:vsv r=ver) (hrz:row.sz≠0) (hp:row.pure=true) (e5:row.es=bC ls):
 Acts P env f [.row r ver] [r] rows vsv ⟨.row r (ver+1),[.renew r { row with es:=bC ls' }]⟩:=by
 refine⟨hC.enter,fun x s a w m vs hx hS hro hl hvs=> ?_⟩;obtain⟨q1,q2,q3⟩:=hro r (by simp);rw[hr]at q1;rw[hv]at q2
 match vs,hl with
 |[u],_=>
 have hu:u=m.ρ r:=(hvs 0 u _ rfl rfl).row_.2 q2 row q1;subst hu;have k:=(hS.rows r row q1).cells hrz;obtain⟨xs,k1,k2,k3⟩:=k.own;have hn:row.es.length=ls.length:=by rw[e5];simp[bC]
 have hls: ∀l∈ls,l.length=row.sz:=fun l hl=>by
  obtain⟨i,hi,rfl⟩:=Lp hl;have:=k.len i ((ls[i]).map .lit) (by rw[e5];simp[bC,hi]);simpa using this
 have hxx:xs=ls.flatten:=Et hls k.pos (by rw[<-hn];exact k1.1) e5 fun i j c hc=>by
  obtain⟨u,h1,h2⟩:=k3 i j c hc;rw[K0 hp]at h2;exact⟨u,h1,h2⟩
 rw[hxx,hn]at k1;refine(hC.calls w x.w.heap.size (m.ρ r) k1).mono ?_;rintro ex w' ⟨v',rfl,h1,hg,hsub,ho⟩
 have hb:Below x.w.heap.size w w':=⟨hg.os,hg.tape,hg.output,hg.size,fun q hq=>hg.block q (Lz hq hS.bel.size) fun e=>by
  have:=(bQ k1 e.symm).1
  omega⟩
 have hnS: ∀g,(m.ρ r).ownBlock=some g-> ∀o,¬m.S g o:=k.fresh q3;have hcell: ∀b o,m.S b o->Stay w w' b o:=fun b o hh=> .block (hg.block b (hS.low b o hh) fun e=>hnS b e.symm o hh);have hlow: ∀b o,m.S b o->b<w'.heap.size:=fun b o hh=>Lz (hS.low b o hh) hg.size
 have hS2:Sim x (s.renew r { row with es:=bC ls' } false) a w' ⟨m.S,upd m.ρ r v'⟩:=by
  refine hS.renew r _ false v' m.S hb (fun b o hh=>⟨hh,hcell b o hh⟩) (fun b o hh=> .inl hh) (fun q row1 hne hq gq hgq=>⟨?_,fun e=> ?_,fun _ hh=>hh⟩) ?_ fun b hf=>⟨hg.block b (hS.fxlt hf) fun e=>hS.nofx r row q1 b e.symm hf,fun _ hh=>hh,fun e=>hS.nofx r row q1 b (hsub b e) hf⟩
  ·exact hg.block gq ((hS.rows q row1 hq).blk hgq).2 fun e=>hS.inj r q row row1 q1 hq (MJ hne) gq e.symm hgq
  ·exact hS.inj r q row row1 q1 hq (MJ hne) gq (hsub gq e) hgq
  ·have hel: ∀(i:Nat) (e:List AV),(bC ls')[i]? =some e->e.length=row.sz:=fun i e he=>by
    unfold bC at he;rw[K5]at he;cases hl:ls'[i]? with
    |none=>rw[hl]at he;cases he
    | some l=>
      rw[hl]at he;cases he;simpa using (hC.els l (K1 hl)).1
   have hll:(bC ls').length=ls'.length:=by unfold bC;rw[Kl]
   have hρ:(⟨m.S,upd m.ρ r v'⟩:Mem).ρ r=v':=upd_same ..;refine .inl ⟨k.pos,hel,⟨ls'.flatten,by rw[hρ];show w'.ownsRow _ _ _ _ (bC ls').length _;rw[hll];exact ho,?_,?_⟩,fun he=> ?_,fun g hg' o _=> ?_,fun _ g hg' o=> ?_⟩
   ·intro u hu;obtain⟨l,hl,hul⟩:=Oo.1 hu;exact(hC.els l hl).2 u hul
   ·intro i j c hcc;obtain⟨l,u,h1,h2,rfl⟩:=zZ hcc;refine⟨u,eh ls' (fun l hl=>(hC.els l hl).1) i j l u h1 h2,?_⟩;show if row.pure=true then _ else _
    rw[K0 hp];exact .lit u
   ·have he:upd s.esc r false r=true:=he;rw[upd_same]at he;cases he
   ·rw[hρ]at hg';exact hnS g (hsub g hg') o
   ·rw[hρ]at hg';exact hnS g (hsub g hg') o
 refine⟨v',_,rfl,hS2, .row r (ver+1) h1 ?_ fun _ row' _=> ?_⟩
 ·show ver+1<=upd s.vs r (s.vs r+1) r;rw[upd_same,q2];exact K8 _
 ·show v'=upd m.ρ r v' r;rw[upd_same]
section
variable {P:Program} {env:Env} {s:St}
theorem tN {o:Oper} {f:FuncId} {args:List AV} {rest:List Stp} {s1:St} {row:Row} {ls ls':List (List Value)} {ft:Foot} {K:St->List Foot->Prop} (r:Nat) (hc:bB env s.f o=some (f,args)) (hC:Cuts P f row.e row.sz ls ls') (hrz:row.sz≠0) (hp:row.pure=true) (e5:row.es=bC ls)
 (ha:Is args [.row r (s.vs r)]) (hr:Is (s.rows r) (some row)) (he:Is (s.esc r) false) (h1:Is ((⟨.row r (s.vs r+1),[.renew r { row with es:=bC ls' }]⟩:Out).app o.dst s) s1) (h2:Is (⟨[r],[r],[r],[]⟩:Foot) ft) (k:aops P env rest s1 fun s2 fts=>K s2 (ft::fts)):aops P env (⟨o, .always⟩::rest) s K:=by
 unfold Is at h2;subst h2;exact ol hc ha (H1 hC hr rfl hrz hp e5) (fun q hq=>by rw[Km.1 hq];exact he) h1 k
theorem mj {o:Oper} {f:FuncId} {args:List AV} {rest:List Stp} {s1:St} {row:Row} {ls ls':List (List Value)} {K:St->List Foot->Prop} (r:Nat) (hc:bB env s.f o=some (f,args)) (hT:Turns P f [] row.e row.sz ls ls') (hrz:row.sz≠0) (hp:row.pure=true) (e5:row.es=bC ls)
 (ha:Is args [.row r (s.vs r)]) (hr:Is (s.rows r) (some row)) (he:Is (s.esc r) false) (h1:Is ((s.setRow r { row with es:=bC ls' }).put o.dst .any) s1) (k:aops P env rest s1 fun s2 fts=>K s2 (⟨[r],[r],[r],[]⟩::fts)):aops P env (⟨o, .always⟩::rest) s K:=
 vn (rs:=[]) r hc (show args=_ from ha) hr he hT e5 hp hrz h1 k
end
end Go.Proofs.YtbjldjekgepopaaGreatDoor
namespace Go.Proofs.YtbjldjekgepopaaGreatDoor
open Go.Proofs.Tryz
open Go.RowKit Go.Sort Go.Shelf Go.Lib
theorem heap_put {w:World} {g n:Nat} {os:Array Obj} {cur:Array Value} {e:TypeId} {fr:Nat×Nat} (F:Array Value) (hb:w.heap[g]? =some (.cells cur e fr)):
 (grow (putRow id (Sort.ahead w n) g 0 F) os).heap[g]? =some (.cells (putCells id 0 F cur) e fr):=by
 have hg:g<w.heap.size:=(Kq.1 hb).1;rw[heap_grow_old _ _ (by simpa[putRow,mapBlock,Sort.ahead]using hg)];simp[putRow,mapBlock,Sort.ahead,MC,hb,onCells]
theorem jz {w:World} {g n:Nat} {os:Array Obj} (F:Array Value):w.grownBy (grow (putRow id (Sort.ahead w n) g 0 F) os) (some g):=by
 refine⟨rfl,rfl,rfl,by simp[putRow,mapBlock,Sort.ahead],fun k hk hne=> ?_⟩;rw[heap_grow_old _ _ (by simpa[putRow,mapBlock,Sort.ahead]using hk)];have:g≠k:=fun e=>hne (by rw[e]);simp[putRow,mapBlock,Sort.ahead,MC,this]
theorem sS (cur F:Array Value) (h:F.size<=cur.size):(putCells id 0 F cur).toList.take F.size=F.toList:=by
 apply LQ;intro j;by_cases hj:j<F.size
 ·rw[Ma hj,Mr];simp[putCells,hj,show j<cur.size by omega]
 ·rw[Nb (by omega),K7 (by simp;omega)]
theorem jY {P:Program} {f:FuncId} {rest:List Value} {e:TypeId} {sz:Nat} {ls ls':List (List Value)} (hne:0<ls.length) (henter: ∀(args:Array Value) (w:World),(callFunc f args).run P w= .ok (.enter f args) w)
 (hl:ls'.length=ls.length) (hls: ∀l∈ls,l.length=sz) (hel: ∀l∈ls',l.length=sz/\ ∀u∈l,u.oneCell'=true)
 (h: ∀(w:World) (g cap:Nat),Holds id w g 0 ls.flatten.toArray->g<w.heap.size->Calls P f (.slice (some ⟨g,0,none⟩) ls.length cap::rest).toArray w fun ex w'=>ex= .returned (.tuple #[])/\ ∃n os,w'=grow (putRow id (Sort.ahead w n) g 0 ls'.flatten.toArray) os):
 Turns P f rest e sz ls ls':=by
 refine⟨henter,hl,hel,fun w base v ho=> ?_⟩;have hf:=da ls hls;have hf':=da ls' fun l hl=>(hel l hl).1;rcases ho.2 with⟨_,h0⟩|⟨g,cap,cur,rfl,hbase,hb,h1,h2,h3,h4⟩
 ·omega
 have hsz:ls.length*sz<=cur.size:=by rw[h3];exact LE _ h1
 have hg:g<w.heap.size:=(Kq.1 hb).1;refine(h w g cap (fun j hj=>⟨?_,by simp[World.frozen?,hb]⟩) hg).mono ?_
 ·have hj':j<ls.flatten.length:=by simpa using hj
  have e1:(cur.toList.take (ls.length*sz))[j]? =ls.flatten[j]? :=by rw[h4]
  rw[Ma (by omega)]at e1;simp only[World.cell?,hb,Lc];simp only[Oc,LA,Lf];rw[<-Mr,e1,Mw _ j hj,KV hj'];rfl
 ·rintro ex w' ⟨rfl,n,os,rfl⟩;refine⟨rfl,jz _,by rw[hf',hl], .inr ⟨g,cap,_,rfl,hbase,heap_put _ hb,h1,h2,by simp[putCells,h3],?_⟩⟩;have:=sS cur ls'.flatten.toArray (by simp[hf',hl];exact hsz);rw[show ls'.flatten.toArray.size=ls.length*sz by simp[hf',hl]]at this;exact this
theorem l6 {P:Program} {f:FuncId} {rest:List Value} {e:TypeId} {sz:Nat} (henter: ∀(args:Array Value) (w:World),(callFunc f args).run P w= .ok (.enter f args) w)
 (h: ∀(p:Option Addr) (cap:Nat) (w:World),Calls P f (.slice p 0 cap::rest).toArray w fun ex w'=>ex= .returned (.tuple #[])/\w'=w):Turns P f rest e sz [] []:=by
 refine⟨henter,rfl,fun l hl=>by simp at hl,fun w base v ho=> ?_⟩
 have key: ∃p cap,v= .slice p 0 cap:=by
  rcases ho.2 with⟨rfl,_⟩|⟨g,cap,cur,rfl,_⟩
  ·exact⟨_,_,rfl⟩
  ·exact⟨_,_,rfl⟩
 obtain⟨p,cap,rfl⟩:=key;refine(h p cap w).mono ?_;rintro ex w' ⟨rfl,rfl⟩;exact⟨rfl,⟨rfl,rfl,rfl,K8 _,fun _ _ _=>rfl⟩,ho⟩
section
variable {α:Type} [Inhabited α]
theorem iz (enc:α->Value) (w:World) (g:Nat) (d:Array α):putRow enc w g 0 d=putRow id w g 0 (d.map enc):=by
 unfold putRow;refine mapBlock_congr _ _ _ _ fun c _ _ _=> ?_;apply Array.ext_getElem?;intro k;simp only[putCells,Array.getElem?_mapIdx,Array.size_map];cases c[k]? with
 |none=>rfl
 | some y=>
   simp only[Kg,OD,Lc];by_cases hk:0<=k/\k<d.size
   ·rw[K0 hk,K0 hk];simp[hk.2]
   ·rw[KZ hk,KZ hk]
end
end Go.Proofs.YtbjldjekgepopaaGreatDoor
namespace Go.Proofs
open Go.Shelf
def Tryz.sortS_ren:Go.Shelf.Ren:=⟨fun|190=>123|125=>207|258=>206|128=>265|129=>266|302=>257|303=>258|304=>259|305=>260|306=>261|307=>262|308=>208|309=>263|310=>264|333=>297|329=>298|330=>299|334=>300|335=>301|336=>267|344=>323|n=>n,fun|31=>142|9=>9|3=>3|46=>286|0=>0|51=>209|53=>227|4=>4|183=>334|182=>333|131=>220|5=>5|218=>359|222=>363|228=>378|229=>122|n=>n,fun|n=>n⟩
theorem Tryz.sortS:Go.Proofs.Lays.n190 prog Tryz.sortS_ren:={
 mixed:=by kernel_rfl
 f125:=func207.trans (congrArg some (by kernel_rfl))
 f128:=func265.trans (congrArg some (by kernel_rfl))
 f129:=func266.trans (congrArg some (by kernel_rfl))
 f190:=func123.trans (congrArg some (by kernel_rfl))
 f258:=func206.trans (congrArg some (by kernel_rfl))
 f302:=func257.trans (congrArg some (by kernel_rfl))
 f303:=func258.trans (congrArg some (by kernel_rfl))
 f304:=func259.trans (congrArg some (by kernel_rfl))
 f305:=func260.trans (congrArg some (by kernel_rfl))
 f306:=func261.trans (congrArg some (by kernel_rfl))
 f307:=func262.trans (congrArg some (by kernel_rfl))
 f308:=func208.trans (congrArg some (by kernel_rfl))
 f309:=func263.trans (congrArg some (by kernel_rfl))
 f310:=func264.trans (congrArg some (by kernel_rfl))
 f329:=func298.trans (congrArg some (by kernel_rfl))
 f330:=func299.trans (congrArg some (by kernel_rfl))
 f333:=func297.trans (congrArg some (by kernel_rfl))
 f334:=func300.trans (congrArg some (by kernel_rfl))
 f335:=func301.trans (congrArg some (by kernel_rfl))
 f336:=func267.trans (congrArg some (by kernel_rfl))
 f344:=func323.trans (congrArg some (by kernel_rfl))
 t0:=Tryz.underlying0
 a0:=Tryz.isAgg0
 z0:=Tryz.sizeOf0
 v0:=Tryz.zeroValue0
 t3:=Tryz.underlying3
 a3:=Tryz.isAgg3
 z3:=Tryz.sizeOf3
 v3:=Tryz.zeroValue3
 t4:=Tryz.underlying4
 a4:=Tryz.isAgg4
 z4:=Tryz.sizeOf4
 v4:=Tryz.zeroValue4
 t5:=Tryz.underlying5
 a5:=Tryz.isAgg5
 z5:=Tryz.sizeOf5
 v5:=Tryz.zeroValue5
 t9:=Tryz.underlying9
 a9:=Tryz.isAgg9
 z9:=Tryz.sizeOf9
 v9:=Tryz.zeroValue9
 t31:=Tryz.underlying142
 a31:=Tryz.isAgg142
 z31:=Tryz.sizeOf142
 v31:=Tryz.zeroValue142
 t46:=Tryz.underlying286
 a46:=Tryz.isAgg286
 z46:=Tryz.sizeOf286
 v46:=Tryz.zeroValue286
 t51:=Tryz.underlying209
 a51:=Tryz.isAgg209
 z51:=Tryz.sizeOf209
 v51:=Tryz.zeroValue209
 t53:=Tryz.underlying227
 a53:=Tryz.isAgg227
 z53:=Tryz.sizeOf227
 v53:=Tryz.zeroValue227
 t131:=Tryz.underlying220
 a131:=Tryz.isAgg220
 z131:=Tryz.sizeOf220
 v131:=Tryz.zeroValue220
 t182:=Tryz.underlying333
 a182:=Tryz.isAgg333
 z182:=Tryz.sizeOf333
 v182:=Tryz.zeroValue333
 t183:=Tryz.underlying334
 a183:=Tryz.isAgg334
 z183:=Tryz.sizeOf334
 v183:=Tryz.zeroValue334
 t218:=Tryz.underlying359
 a218:=Tryz.isAgg359
 z218:=Tryz.sizeOf359
 v218:=Tryz.zeroValue359
 t222:=Tryz.underlying363
 a222:=Tryz.isAgg363
 z222:=Tryz.sizeOf363
 v222:=Tryz.zeroValue363
 t228:=Tryz.underlying378
 a228:=Tryz.isAgg378
 z228:=Tryz.sizeOf378
 v228:=Tryz.zeroValue378
 t229:=Tryz.underlying122
 a229:=Tryz.isAgg122
 z229:=Tryz.sizeOf122
 v229:=Tryz.zeroValue122 }
def Tryz.sortI_ren:Go.Shelf.Ren:=⟨fun|189=>246|125=>207|257=>290|128=>265|129=>266|294=>311|295=>312|296=>313|297=>314|298=>315|299=>316|216=>307|300=>317|301=>318|328=>337|329=>298|330=>299|331=>338|332=>339|215=>330|343=>352|n=>n,fun|28=>27|3=>3|46=>286|0=>0|51=>209|53=>227|4=>4|183=>334|182=>333|131=>220|5=>5|9=>9|218=>359|222=>363|228=>378|229=>122|n=>n,fun|n=>n⟩
theorem Tryz.sortI:Go.Proofs.Lays.n189 prog Tryz.sortI_ren:={
 mixed:=by kernel_rfl
 f125:=func207.trans (congrArg some (by kernel_rfl))
 f128:=func265.trans (congrArg some (by kernel_rfl))
 f129:=func266.trans (congrArg some (by kernel_rfl))
 f189:=func246.trans (congrArg some (by kernel_rfl))
 f215:=func330.trans (congrArg some (by kernel_rfl))
 f216:=func307.trans (congrArg some (by kernel_rfl))
 f257:=func290.trans (congrArg some (by kernel_rfl))
 f294:=func311.trans (congrArg some (by kernel_rfl))
 f295:=func312.trans (congrArg some (by kernel_rfl))
 f296:=func313.trans (congrArg some (by kernel_rfl))
 f297:=func314.trans (congrArg some (by kernel_rfl))
 f298:=func315.trans (congrArg some (by kernel_rfl))
 f299:=func316.trans (congrArg some (by kernel_rfl))
 f300:=func317.trans (congrArg some (by kernel_rfl))
 f301:=func318.trans (congrArg some (by kernel_rfl))
 f328:=func337.trans (congrArg some (by kernel_rfl))
 f329:=func298.trans (congrArg some (by kernel_rfl))
 f330:=func299.trans (congrArg some (by kernel_rfl))
 f331:=func338.trans (congrArg some (by kernel_rfl))
 f332:=func339.trans (congrArg some (by kernel_rfl))
 f343:=func352.trans (congrArg some (by kernel_rfl))
 t0:=Tryz.underlying0
 a0:=Tryz.isAgg0
 z0:=Tryz.sizeOf0
 v0:=Tryz.zeroValue0
 t3:=Tryz.underlying3
 a3:=Tryz.isAgg3
 z3:=Tryz.sizeOf3
 v3:=Tryz.zeroValue3
 t4:=Tryz.underlying4
 a4:=Tryz.isAgg4
 z4:=Tryz.sizeOf4
 v4:=Tryz.zeroValue4
 t5:=Tryz.underlying5
 a5:=Tryz.isAgg5
 z5:=Tryz.sizeOf5
 v5:=Tryz.zeroValue5
 t9:=Tryz.underlying9
 a9:=Tryz.isAgg9
 z9:=Tryz.sizeOf9
 v9:=Tryz.zeroValue9
 t28:=Tryz.underlying27
 a28:=Tryz.isAgg27
 z28:=Tryz.sizeOf27
 v28:=Tryz.zeroValue27
 t46:=Tryz.underlying286
 a46:=Tryz.isAgg286
 z46:=Tryz.sizeOf286
 v46:=Tryz.zeroValue286
 t51:=Tryz.underlying209
 a51:=Tryz.isAgg209
 z51:=Tryz.sizeOf209
 v51:=Tryz.zeroValue209
 t53:=Tryz.underlying227
 a53:=Tryz.isAgg227
 z53:=Tryz.sizeOf227
 v53:=Tryz.zeroValue227
 t131:=Tryz.underlying220
 a131:=Tryz.isAgg220
 z131:=Tryz.sizeOf220
 v131:=Tryz.zeroValue220
 t182:=Tryz.underlying333
 a182:=Tryz.isAgg333
 z182:=Tryz.sizeOf333
 v182:=Tryz.zeroValue333
 t183:=Tryz.underlying334
 a183:=Tryz.isAgg334
 z183:=Tryz.sizeOf334
 v183:=Tryz.zeroValue334
 t218:=Tryz.underlying359
 a218:=Tryz.isAgg359
 z218:=Tryz.sizeOf359
 v218:=Tryz.zeroValue359
 t222:=Tryz.underlying363
 a222:=Tryz.isAgg363
 z222:=Tryz.sizeOf363
 v222:=Tryz.zeroValue363
 t228:=Tryz.underlying378
 a228:=Tryz.isAgg378
 z228:=Tryz.sizeOf378
 v228:=Tryz.zeroValue378
 t229:=Tryz.underlying122
 a229:=Tryz.isAgg122
 z229:=Tryz.sizeOf122
 v229:=Tryz.zeroValue122 }
def Tryz.compS_ren:Go.Shelf.Ren:=⟨fun|194=>124|n=>n,fun|31=>142|9=>9|3=>3|4=>4|0=>0|n=>n,fun|n=>n⟩
theorem Tryz.compS:Go.Proofs.Lays.n194 prog Tryz.compS_ren:={
 mixed:=by kernel_rfl
 f194:=func124.trans (congrArg some (by kernel_rfl))
 t0:=Tryz.underlying0
 a0:=Tryz.isAgg0
 z0:=Tryz.sizeOf0
 v0:=Tryz.zeroValue0
 t3:=Tryz.underlying3
 a3:=Tryz.isAgg3
 z3:=Tryz.sizeOf3
 v3:=Tryz.zeroValue3
 t4:=Tryz.underlying4
 a4:=Tryz.isAgg4
 z4:=Tryz.sizeOf4
 v4:=Tryz.zeroValue4
 t9:=Tryz.underlying9
 a9:=Tryz.isAgg9
 z9:=Tryz.sizeOf9
 v9:=Tryz.zeroValue9
 t31:=Tryz.underlying142
 a31:=Tryz.isAgg142
 z31:=Tryz.sizeOf142
 v31:=Tryz.zeroValue142 }
end Go.Proofs
namespace Go.Proofs.YtbjldjekgepopaaGreatDoor
open Go.Proofs.Tryz
open Go.RowKit Go.Sort Go.Shelf Go.Lib
set_option maxHeartbeats 4000000 in
set_option maxRecDepth 100000 in
theorem Aq (p:Option Addr) (cap:Nat) (w:World):Calls prog 123 #[.slice p 0 cap] w fun ex w'=>ex= .returned (.tuple #[])/\w'=w:=by
 go_enter func123,ntmps123
 go_wp2_with (first|go_in)
 refine wp_loop_rounds 1 ?_;simp only[Code.rounds]
 go_wp2_with (first|go_in)
 refine wp_loop_rounds 1 ?_;simp only[Code.rounds]
 go_wp2_with (first|go_in)
 go_end0
 exact⟨rfl,rfl⟩
def Cr (s:List UInt8):List Value:=[encStr s]
theorem dN {α:Type} (f:α->Value): ∀l:List α,(l.map fun s=>[f s]).flatten=l.map f
 |[]=>rfl
 |x::l=>by simp[dN f l]
theorem FJ {w:World} {g:Nat} {l:List (List UInt8)} (h:Holds id w g 0 (l.map encStr).toArray):Holds encStr w g 0 l.toArray:=fun j hj=>by
 have hj':j<l.length:=by simpa using hj
 have:=h j (by simpa using hj');rw[Mw _ j (by simpa using hj')]at this;rw[Mw _ j hj];simpa using this
theorem Tryz.sortEnter: ∀(args:Array Value) (w:World),(callFunc 123 args).run prog w= .ok (.enter 123 args) w:=O7 func123 (by kernel_rfl) rfl
theorem Tryz.compEnter: ∀(args:Array Value) (w:World),(callFunc 124 args).run prog w= .ok (.enter 124 args) w:=O7 func124 (by kernel_rfl) rfl
def fq (l:List (List UInt8)):List (List UInt8):=l.mergeSort fun x y=>decide (x<=y)
theorem yI (l:List (List UInt8)) (hl:l.length<4611686018427387904):Turns prog 123 [] 9 1 (l.map Cr) ((fq l).map Cr):=by
 by_cases h0:l=[]
 ·subst h0;rw[show fq []=[] by simp[fq]];exact l6 Tryz.sortEnter fun p cap w=>Aq p cap w
 ·refine jY (by rw[Kl];exact MG.2 h0) Tryz.sortEnter (by simp[fq]) (fun x hx=> ?_) (fun x hx=> ?_) fun w g cap hH hg=> ?_
  ·obtain⟨y,_,rfl⟩:=K9.1 hx;rfl
  ·obtain⟨y,_,rfl⟩:=K9.1 hx;exact⟨rfl,fun u hu=>by rw[Km.1 hu];rfl⟩
  ·have hH:Holds id w g 0 (l.map encStr).toArray:=by rw[<-dN];exact hH
   have:=Any.slices_Sort_string Tryz.sortS g 0 cap l w (FJ hH) hg hl;rw[Kl];refine(show Calls prog 123 #[.slice (some ⟨g,0,none⟩) l.length cap] w _ from this).mono ?_;rintro ex w' ⟨rfl,n,os,rfl⟩;refine⟨rfl,n,os,?_⟩;rw[iz,show ((fq l).map Cr).flatten=(fq l).map encStr from dN encStr _];simp[fq]
theorem Bz (l:List (List UInt8)) (hl:l.length<=9223372036854775807):Cuts prog 124 9 1 (l.map Cr) ((Lib.compact l).map Cr):=by
 refine⟨Tryz.compEnter,fun x hx=> ?_,fun w base v ho=> ?_⟩
 ·obtain⟨y,_,rfl⟩:=K9.1 hx;exact⟨rfl,fun u hu=>by rw[Km.1 hu];rfl⟩
 rw[show (l.map Cr).flatten=l.map encStr from dN encStr _,Kl]at ho;rw[show ((Lib.compact l).map Cr).flatten=(Lib.compact l).map encStr from dN encStr _,Kl];by_cases h0:l=[]
 ·subst h0
  obtain⟨p,cap,rfl⟩: ∃p cap,v= .slice p 0 cap:=by
   rcases ho.2 with⟨rfl,_⟩|⟨g,cap,cur,rfl,_⟩
   ·exact⟨_,_,rfl⟩
   ·exact⟨_,_,rfl⟩
  refine(show Calls prog 124 #[.slice p 0 cap] w _ from Any.slices_Compact_string_empty Tryz.compS p cap w).mono ?_;rintro ex w' ⟨rfl,rfl⟩;exact⟨_,rfl,rfl,⟨rfl,rfl,rfl,K8 _,fun _ _ _=>rfl⟩,fun _ h=>h,ho⟩
 ·rcases ho.2 with⟨_,h⟩|⟨g,cap,cur,rfl,hbase,hb,h1,h2,h3,h4⟩
  ·exact absurd (LJ h) h0
  have hg:g<w.heap.size:=(Kq.1 hb).1
  have hH:Holds encStr w g 0 l.toArray:=fun j hj=>by
   have hj':j<l.length:=by simpa using hj
   have e1:(cur.toList.take (l.length*1))[j]? =(l.map encStr)[j]? :=by rw[h4]
   rw[Ma (by omega),K5,KV hj']at e1;refine⟨?_,by simp[World.frozen?,hb]⟩;simp only[World.cell?,hb,Lc,Oc,LA,Lf];rw[<-Mr,e1,Mw _ j hj];rfl
  have hcl:(Lib.compact l).length<=l.length:=by
   unfold Lib.compact Lib.compactUpTo;rw[Kl];exact Kh (Kw ..) (by simp)
  refine(show Calls prog 124 #[.slice (some ⟨g,0,none⟩) l.length cap] w _ from Any.slices_Compact_string Tryz.compS g 0 cap l w hH hl h1).mono ?_;rintro ex w' ⟨rfl,q,rfl⟩;rw[iz];generalize hF:((Lib.compact l++List.replicate (l.length-(Lib.compact l).length) []).toArray.map encStr)=F;have hFs:F.size=l.length:=by rw[<-hF];simp;omega
  have hgr: ∀W:World,grow W #[]=W:=fun W=>by simp[grow]
  have e2:=heap_put (n:=q) (os:= #[]) F hb;have e3:=jz (w:=w) (g:=g) (n:=q) (os:= #[]) F;rw[hgr]at e2 e3;refine⟨_,rfl,rfl,e3,fun _ h=>h,⟨by rw[Kl,Nc], .inr ⟨g,cap,_,rfl,hbase,e2,Kh hcl h1,h2,by simp[putCells,h3],?_⟩⟩⟩;have ht:=sS cur F (by rw[hFs,h3];omega);rw[Nc]
  have:((putCells id 0 F cur).toList.take (Lib.compact l).length)=(F.toList).take (Lib.compact l).length:=by
   rw[<-ht,Ob,Mg (by omega)]
  rw[this, <-hF];simp
end Go.Proofs.YtbjldjekgepopaaGreatDoor
namespace Go.Proofs.YtbjldjekgepopaaGreatDoor
open Go.Proofs.Tryz
open Go.RowKit
structure Right (c:ChD):Prop where
 few:c.states.length<=32
 par: ∀(k:Nat) (s:StD),c.states[k]? =some s-> -1<=s.parent/\s.parent<k
 top: ∃(m:Nat) (q:StD),c.initial=m/\c.states[m]? =some q/\q.parent= -1
theorem dK {p:Nat->Bool} {n:Nat} (h:au p n=none) (j:Nat) (hj:j<n):p j=true:=by
 unfold au at h;rw[Nv]at h;simpa using h j (by simpa using hj)
theorem zF {c:ChD} (h:(chk c).1=0):Right c:=by
 unfold chk at h;split at h
 ·simp at h
 rename_i h1;split at h
 ·simp at h
 split at h
 ·simp at h
 split at h
 ·simp at h
 rename_i h3;split at h
 ·simp at h
 rename_i h4;refine⟨by omega,fun k s hs=> ?_,?_⟩
 ·have hk:k<c.states.length:=(KW.1 hs).1;have:=dK h3 k hk;unfold km at this;rw[hs]at this
  have hp:cc c k s=true:=by
   simp only[bq,KY]at this;exact this.1.1.1.2
  simp only[cc,Lb,KY,K6,LW]at hp;omega
 ·have ht:l7 c=true:=by simpa using h4
  unfold l7 at ht;split at ht
  ·rename_i q hq;simp only[KY,LW]at ht;unfold at_ at hq;split at hq
   ·rename_i h0;exact⟨c.initial.toNat,q,by omega,hq,ht.1⟩
   ·cases hq
  ·cases ht
def low (c:ChD) (n:Nat) (k:Nat):Bool:=match c.states[k]? with
 |some s=>decide (s.parent+1<n)&& !aS s
 |none=>false
theorem xg {c:ChD} {i:Int} {k:Nat} (h:k∈kidsL c i true): ∃s,c.states[k]? =some s/\s.parent=i/\aS s=false/\k<c.states.length:=by
 obtain⟨h1,h2⟩:=o7 h;obtain⟨s,hs,_⟩:=aQ h1;unfold cn at h2;rw[hs]at h2;simp at h2;exact⟨s,hs,h2.1,h2.2,h1⟩
theorem C7 {c:ChD} {i:Int} {k:Nat} {s:StD} (hs:c.states[k]? =some s) (hp:s.parent=i) (hm:aS s=false):k∈kidsL c i true:=by
 have hk:k<c.states.length:=(KW.1 hs).1;unfold kidsL bR;rw[Kb];refine⟨by simpa using hk,?_⟩;unfold cn;rw[hs];simp[hp,hm]
end Go.Proofs.YtbjldjekgepopaaGreatDoor
