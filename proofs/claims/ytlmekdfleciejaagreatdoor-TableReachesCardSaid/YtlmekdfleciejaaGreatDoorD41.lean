/- A case that came in: a chart, active states, a transition, memories. -/
import Derived.Test.YtlmekdfleciejaaGreatDoorD5
import Derived.Test.YtlmekdfleciejaaGreatDoorD16
import Derived.Test.YtlmekdfleciejaaGreatDoorD23
import Derived.Test.YtlmekdfleciejaaGreatDoorD34
import Derived.Test.YtlmekdfleciejaaGreatDoorD36
set_option maxRecDepth 100000
set_option linter.unusedSimpArgs false
namespace Go.Proofs.YtlmekdfleciejaaGreatDoor
section
open Go.RowKit Go.ChangeShapes Go.WideShapes Go.Deep
section
variable {H:Type} {enc:TypeId×Value->H} {P:Program} {w:World} {base:Nat} {spare:Nat->Bool} {held:Bool}
theorem zbs {fs:Array Field} {cs:List Value} {n:Nat} {xs:List (DataW H×List MemPlace)} (hx:xs.length=fs.size) (hg: ∀(i:Nat) (f:Field),fs[i]? =some f->DataW.trod enc P w base spare held n f.type ((cs.drop f.offset).take (P.cellsOf f.type))=xs[i]?)
 (i:Nat) (f:Field) (hf:fs[i]? =some f) (ty off k:Nat) (h1:f.type=ty) (h2:f.offset=off) (h3:P.cellsOf ty=k): ∃y,DataW.trod enc P w base spare held n ty ((cs.drop off).take k)=some y:=by
 have h:=hg i f hf
 rw [h1,h2,h3] at h
 have hi:i<fs.size:=(Array.getElem?_eq_some_iff.1 hf).1
 rw [List.getElem?_eq_getElem (by omega)] at h
 exact⟨_,h⟩
def RE {α:Type} (w:World) (en:α->List AV) (few:α->Prop) (cs:List Value) (a:α):Prop:=RVs (fun b _=>b<w.heap.size) w cs (en a)/\few a
theorem zbx {α:Type} {t e:TypeId} {size fuel:Nat} {cs:List Value} {x:DataW H×List MemPlace} (en:α->List AV) (few:α->Prop) (hen: ∀a,(en a).length=size) (ht:P.underlying t=some (.slice e)) (hC:P.cellsOf e=size) (hpos:0<size)
 (hR: ∀(m:Nat) (cs:List Value) (y:DataW H×List MemPlace),DataW.trod enc P w base spare held m e cs=some y-> ∃a,RE w en few cs a)
 (h:DataW.trod enc P w base spare held fuel t cs=some x): ∃(v:Value) (l:List α),cs=[v]/\(v.oneCell'=true/\RV (fun b _=>b<w.heap.size) w v (.seq size (l.map en)))/\l.length<=maxLen/\ ∀a∈l,few a:=by
 obtain⟨v,l,e1,hl⟩:=open_list (R:=RE w en few) ht hC hpos hR h
 have hrv:=znJ en hen hl fun cs a _ hr j u c hu hc=>hr.1.at_.2 j u c hu hc
 obtain⟨A,c,xs,rfl,_,h2,_,hrow⟩:=hl
 refine⟨_,l,e1,⟨rfl,hrv⟩,h2,fun a ha=> ?_⟩
 obtain⟨i,hi,rfl⟩:=List.getElem_of_mem ha
 exact(hrow.2 i hi).2
theorem zqu {l:List Value} (h:l.length=2): ∃a b,l=[a,b]:=by
 match l,h with
 | [a,b],_=>exact⟨a,b,rfl⟩
theorem zrm {l:List Value} (h:l.length=4): ∃a b c d,l=[a,b,c,d]:=by
 match l,h with
 | [a,b,c,d],_=>exact⟨a,b,c,d,rfl⟩
theorem zqT {l:List Value} (h:l.length=5): ∃a b c d e,l=[a,b,c,d,e]:=by
 match l,h with
 | [a,b,c,d,e],_=>exact⟨a,b,c,d,e,rfl⟩
theorem zrl {l:List Value} (h:l.length=6): ∃a b c d e f,l=[a,b,c,d,e,f]:=by
 match l,h with
 | [a,b,c,d,e,f],_=>exact⟨a,b,c,d,e,f,rfl⟩
end
theorem c_int:Tryz.prog.cellsOf 3=1:=by kernel_rfl
theorem zey:Tryz.prog.cellsOf 9=1:=by kernel_rfl
theorem zq8:Tryz.prog.cellsOf 74=1:=by kernel_rfl
theorem zoG:Tryz.prog.cellsOf 32=1:=by kernel_rfl
theorem zrp:Tryz.prog.cellsOf 23=1:=by kernel_rfl
theorem zro:Tryz.prog.cellsOf 24=1:=by kernel_rfl
theorem zq7:Tryz.prog.cellsOf 22=1:=by kernel_rfl
theorem c_op:Tryz.prog.cellsOf 152=2:=by kernel_rfl
theorem c_act:Tryz.prog.cellsOf 154=4:=by kernel_rfl
theorem c_st:Tryz.prog.cellsOf 34=6:=by kernel_rfl
theorem c_tr:Tryz.prog.cellsOf 76=5:=by kernel_rfl
theorem c_var:Tryz.prog.cellsOf 108=2:=by kernel_rfl
theorem c_ch:Tryz.prog.cellsOf 26=5:=by kernel_rfl
section
variable {H:Type} {enc:TypeId×Value->H} {w:World} {base:Nat} {spare:Nat->Bool} {held:Bool}
theorem open_op (m:Nat) (cs:List Value) (y:DataW H×List MemPlace) (h:DataW.trod enc Tryz.prog w base spare held m 152 cs=some y): ∃a:OpD,RE w opAV zjj cs a:=by
 obtain⟨xs,n,_,_,hl,hxl,hg⟩:=DataW.trod_struct Tryz.underlying152 h
 rw [c_op] at hl
 obtain⟨c0,c1,rfl⟩:=zqu hl
 obtain⟨y0,h0⟩:=zbs hxl hg 0 _ rfl 3 0 1 rfl rfl c_int
 obtain⟨x0,e0, -, -⟩:=DataW.trod_int Tryz.underlying3 (show DataW.trod enc Tryz.prog w base spare held n 3 [c0]=some y0 from h0)
 cases e0
 obtain⟨y1,h1⟩:=zbs hxl hg 1 _ rfl 3 1 1 rfl rfl c_int
 obtain⟨x1,e1, -, -⟩:=DataW.trod_int Tryz.underlying3 (show DataW.trod enc Tryz.prog w base spare held n 3 [c1]=some y1 from h1)
 cases e1
 exact⟨⟨x0,x1⟩,⟨⟨rfl, .lit _⟩,⟨rfl, .lit _⟩,trivial⟩,trivial⟩
theorem open_act (m:Nat) (cs:List Value) (y:DataW H×List MemPlace) (h:DataW.trod enc Tryz.prog w base spare held m 154 cs=some y): ∃a:ActD,RE w zaw zdr cs a:=by
 obtain⟨xs,n,_,_,hl,hxl,hg⟩:=DataW.trod_struct Tryz.underlying154 h
 rw [c_act] at hl
 obtain⟨c0,c1,c2,c3,rfl⟩:=zrm hl
 obtain⟨y0,h0⟩:=zbs hxl hg 0 _ rfl 3 0 1 rfl rfl c_int
 obtain⟨x0,e0, -, -⟩:=DataW.trod_int Tryz.underlying3 (show DataW.trod enc Tryz.prog w base spare held n 3 [c0]=some y0 from h0)
 cases e0
 obtain⟨y1,h1⟩:=zbs hxl hg 1 _ rfl 3 1 1 rfl rfl c_int
 obtain⟨x1,e1, -, -⟩:=DataW.trod_int Tryz.underlying3 (show DataW.trod enc Tryz.prog w base spare held n 3 [c1]=some y1 from h1)
 cases e1
 obtain⟨y2,h2⟩:=zbs hxl hg 2 _ rfl 9 2 1 rfl rfl zey
 obtain⟨x2,e2, -,s2⟩:=DataW.trod_string Tryz.underlying9 (show DataW.trod enc Tryz.prog w base spare held n 9 [c2]=some y2 from h2)
 cases e2
 obtain⟨⟨t2⟩⟩:=x2
 obtain⟨y3,h3⟩:=zbs hxl hg 3 _ rfl 74 3 1 rfl rfl zq8
 obtain⟨x3,l3,e3,r3,n3,p3⟩:=zbx (size:=2) opAV zjj (fun _=>rfl) Tryz.underlying74 c_op (by decide) open_op (show DataW.trod enc Tryz.prog w base spare held n 74 [c3]=some y3 from h3)
 cases e3
 exact⟨⟨x0,x1,t2,l3⟩,⟨⟨rfl, .lit _⟩,⟨rfl, .lit _⟩,⟨rfl, .lit _⟩,r3,trivial⟩,(by simpa [ByteArray.size] using s2),⟨n3,p3⟩⟩
theorem open_st (m:Nat) (cs:List Value) (y:DataW H×List MemPlace) (h:DataW.trod enc Tryz.prog w base spare held m 34 cs=some y): ∃a:StD,RE w stAV zji cs a:=by
 obtain⟨xs,n,_,_,hl,hxl,hg⟩:=DataW.trod_struct Tryz.underlying34 h
 rw [c_st] at hl
 obtain⟨c0,c1,c2,c3,c4,c5,rfl⟩:=zrl hl
 obtain⟨y0,h0⟩:=zbs hxl hg 0 _ rfl 9 0 1 rfl rfl zey
 obtain⟨x0,e0, -,s0⟩:=DataW.trod_string Tryz.underlying9 (show DataW.trod enc Tryz.prog w base spare held n 9 [c0]=some y0 from h0)
 cases e0
 obtain⟨⟨t0⟩⟩:=x0
 obtain⟨y1,h1⟩:=zbs hxl hg 1 _ rfl 3 1 1 rfl rfl c_int
 obtain⟨x1,e1, -, -⟩:=DataW.trod_int Tryz.underlying3 (show DataW.trod enc Tryz.prog w base spare held n 3 [c1]=some y1 from h1)
 cases e1
 obtain⟨y2,h2⟩:=zbs hxl hg 2 _ rfl 3 2 1 rfl rfl c_int
 obtain⟨x2,e2, -, -⟩:=DataW.trod_int Tryz.underlying3 (show DataW.trod enc Tryz.prog w base spare held n 3 [c2]=some y2 from h2)
 cases e2
 obtain⟨y3,h3⟩:=zbs hxl hg 3 _ rfl 3 3 1 rfl rfl c_int
 obtain⟨x3,e3, -, -⟩:=DataW.trod_int Tryz.underlying3 (show DataW.trod enc Tryz.prog w base spare held n 3 [c3]=some y3 from h3)
 cases e3
 obtain⟨y4,h4⟩:=zbs hxl hg 4 _ rfl 32 4 1 rfl rfl zoG
 obtain⟨x4,l4,e4,r4,n4,p4⟩:=zbx (size:=4) zaw zdr (fun _=>rfl) Tryz.underlying32 c_act (by decide) open_act (show DataW.trod enc Tryz.prog w base spare held n 32 [c4]=some y4 from h4)
 cases e4
 obtain⟨y5,h5⟩:=zbs hxl hg 5 _ rfl 32 5 1 rfl rfl zoG
 obtain⟨x5,l5,e5,r5,n5,p5⟩:=zbx (size:=4) zaw zdr (fun _=>rfl) Tryz.underlying32 c_act (by decide) open_act (show DataW.trod enc Tryz.prog w base spare held n 32 [c5]=some y5 from h5)
 cases e5
 exact⟨⟨t0,x1,x2,x3,l4,l5⟩,⟨⟨rfl, .lit _⟩,⟨rfl, .lit _⟩,⟨rfl, .lit _⟩,⟨rfl, .lit _⟩,r4,r5,trivial⟩,(by simpa [ByteArray.size] using s0),⟨n4,p4⟩,⟨n5,p5⟩⟩
theorem open_tr (m:Nat) (cs:List Value) (y:DataW H×List MemPlace) (h:DataW.trod enc Tryz.prog w base spare held m 76 cs=some y): ∃a:TrD,RE w trAV zjh cs a:=by
 obtain⟨xs,n,_,_,hl,hxl,hg⟩:=DataW.trod_struct Tryz.underlying76 h
 rw [c_tr] at hl
 obtain⟨c0,c1,c2,c3,c4,rfl⟩:=zqT hl
 obtain⟨y0,h0⟩:=zbs hxl hg 0 _ rfl 3 0 1 rfl rfl c_int
 obtain⟨x0,e0, -, -⟩:=DataW.trod_int Tryz.underlying3 (show DataW.trod enc Tryz.prog w base spare held n 3 [c0]=some y0 from h0)
 cases e0
 obtain⟨y1,h1⟩:=zbs hxl hg 1 _ rfl 9 1 1 rfl rfl zey
 obtain⟨x1,e1, -,s1⟩:=DataW.trod_string Tryz.underlying9 (show DataW.trod enc Tryz.prog w base spare held n 9 [c1]=some y1 from h1)
 cases e1
 obtain⟨⟨t1⟩⟩:=x1
 obtain⟨y2,h2⟩:=zbs hxl hg 2 _ rfl 74 2 1 rfl rfl zq8
 obtain⟨x2,l2,e2,r2,n2,p2⟩:=zbx (size:=2) opAV zjj (fun _=>rfl) Tryz.underlying74 c_op (by decide) open_op (show DataW.trod enc Tryz.prog w base spare held n 74 [c2]=some y2 from h2)
 cases e2
 obtain⟨y3,h3⟩:=zbs hxl hg 3 _ rfl 32 3 1 rfl rfl zoG
 obtain⟨x3,l3,e3,r3,n3,p3⟩:=zbx (size:=4) zaw zdr (fun _=>rfl) Tryz.underlying32 c_act (by decide) open_act (show DataW.trod enc Tryz.prog w base spare held n 32 [c3]=some y3 from h3)
 cases e3
 obtain⟨y4,h4⟩:=zbs hxl hg 4 _ rfl 3 4 1 rfl rfl c_int
 obtain⟨x4,e4, -, -⟩:=DataW.trod_int Tryz.underlying3 (show DataW.trod enc Tryz.prog w base spare held n 3 [c4]=some y4 from h4)
 cases e4
 exact⟨⟨x0,t1,l2,l3,x4⟩,⟨⟨rfl, .lit _⟩,⟨rfl, .lit _⟩,r2,r3,⟨rfl, .lit _⟩,trivial⟩,(by simpa [ByteArray.size] using s1),⟨n2,p2⟩,⟨n3,p3⟩⟩
theorem open_var (m:Nat) (cs:List Value) (y:DataW H×List MemPlace) (h:DataW.trod enc Tryz.prog w base spare held m 108 cs=some y): ∃a:VarD,RE w zcp zgp cs a:=by
 obtain⟨xs,n,_,_,hl,hxl,hg⟩:=DataW.trod_struct Tryz.underlying108 h
 rw [c_var] at hl
 obtain⟨c0,c1,rfl⟩:=zqu hl
 obtain⟨y0,h0⟩:=zbs hxl hg 0 _ rfl 9 0 1 rfl rfl zey
 obtain⟨x0,e0, -,s0⟩:=DataW.trod_string Tryz.underlying9 (show DataW.trod enc Tryz.prog w base spare held n 9 [c0]=some y0 from h0)
 cases e0
 obtain⟨⟨t0⟩⟩:=x0
 obtain⟨y1,h1⟩:=zbs hxl hg 1 _ rfl 3 1 1 rfl rfl c_int
 obtain⟨x1,e1, -, -⟩:=DataW.trod_int Tryz.underlying3 (show DataW.trod enc Tryz.prog w base spare held n 3 [c1]=some y1 from h1)
 cases e1
 exact⟨⟨t0,x1⟩,⟨⟨rfl, .lit _⟩,⟨rfl, .lit _⟩,trivial⟩,(by simpa [zgp,ByteArray.size] using s0)⟩
theorem zqq (m:Nat) (cs:List Value) (y:DataW H×List MemPlace) (h:DataW.trod enc Tryz.prog w base spare held m 26 cs=some y): ∃a:ChD,RE w chAV zdq cs a:=by
 obtain⟨xs,n,_,_,hl,hxl,hg⟩:=DataW.trod_struct Tryz.underlying26 h
 rw [c_ch] at hl
 obtain⟨c0,c1,c2,c3,c4,rfl⟩:=zqT hl
 obtain⟨y0,h0⟩:=zbs hxl hg 0 _ rfl 9 0 1 rfl rfl zey
 obtain⟨x0,e0, -,s0⟩:=DataW.trod_string Tryz.underlying9 (show DataW.trod enc Tryz.prog w base spare held n 9 [c0]=some y0 from h0)
 cases e0
 obtain⟨⟨t0⟩⟩:=x0
 obtain⟨y1,h1⟩:=zbs hxl hg 1 _ rfl 3 1 1 rfl rfl c_int
 obtain⟨x1,e1, -, -⟩:=DataW.trod_int Tryz.underlying3 (show DataW.trod enc Tryz.prog w base spare held n 3 [c1]=some y1 from h1)
 cases e1
 obtain⟨y2,h2⟩:=zbs hxl hg 2 _ rfl 22 2 1 rfl rfl zq7
 obtain⟨x2,l2,e2,r2,n2,p2⟩:=zbx (size:=2) zcp zgp (fun _=>rfl) Tryz.underlying22 c_var (by decide) open_var (show DataW.trod enc Tryz.prog w base spare held n 22 [c2]=some y2 from h2)
 cases e2
 obtain⟨y3,h3⟩:=zbs hxl hg 3 _ rfl 23 3 1 rfl rfl zrp
 obtain⟨x3,l3,e3,r3,n3,p3⟩:=zbx (size:=6) stAV zji (fun _=>rfl) Tryz.underlying23 c_st (by decide) open_st (show DataW.trod enc Tryz.prog w base spare held n 23 [c3]=some y3 from h3)
 cases e3
 obtain⟨y4,h4⟩:=zbs hxl hg 4 _ rfl 24 4 1 rfl rfl zro
 obtain⟨x4,l4,e4,r4,n4,p4⟩:=zbx (size:=5) trAV zjh (fun _=>rfl) Tryz.underlying24 c_tr (by decide) open_tr (show DataW.trod enc Tryz.prog w base spare held n 24 [c4]=some y4 from h4)
 cases e4
 exact⟨⟨t0,x1,l2,l3,l4⟩,⟨⟨rfl, .lit _⟩,⟨rfl, .lit _⟩,r2,r3,r4,trivial⟩,(by simpa [ByteArray.size] using s0),⟨n2,p2⟩,⟨n3,p3⟩,⟨n4,p4⟩⟩
end
end
section
open Go.RowKit Go.ChangeShapes Go.WideShapes Go.ChangeAt
def mmAV (m:MemD):List AV:=[I m.1, .seq 1 (m.2.map intAV)]
def zbG (c:ChD) (act:List Int) (n:Int) (mem:List MemD):List AV:=[Sg c.name,I c.initial,varsAV c.vars,stsAV c.states,trsAV c.trans, .seq 1 (act.map intAV),I n, .seq 2 (mem.map mmAV)]
theorem zqc:Tryz.prog.cellsOf 35=1:=by kernel_rfl
theorem zq9:Tryz.prog.cellsOf 133=2:=by kernel_rfl
theorem zra:Tryz.prog.cellsOf 65=8:=by kernel_rfl
section
variable {H:Type} {enc:TypeId×Value->H} {w:World} {base:Nat} {spare:Nat->Bool} {held:Bool}
theorem open_int1 (m:Nat) (cs:List Value) (y:DataW H×List MemPlace) (h:DataW.trod enc Tryz.prog w base spare held m 3 cs=some y): ∃a:Int,RE w intAV (fun _=>True) cs a:=by
 obtain⟨n,rfl, -, -⟩:=DataW.trod_int Tryz.underlying3 h
 exact⟨n,⟨⟨rfl, .lit _⟩,trivial⟩,trivial⟩
theorem zrk {l:List Value} (h:l.length=8): ∃a b c d e f g i,l=[a,b,c,d,e,f,g,i]:=by
 match l,h with
 | [a,b,c,d,e,f,g,i],_=>exact⟨a,b,c,d,e,f,g,i,rfl⟩
theorem RVs.app {S:Nat->Nat->Prop} {w:World} : ∀ {vs us:List Value} {cs ds:List AV},RVs S w vs cs->RVs S w us ds->RVs S w (vs++us) (cs++ds)
 | [],_,[],_,_,h=>h
 | _::_,_,_::_,_,h1,h2=>⟨h1.1,RVs.app h1.2 h2⟩
end
end

end Go.Proofs.YtlmekdfleciejaaGreatDoor