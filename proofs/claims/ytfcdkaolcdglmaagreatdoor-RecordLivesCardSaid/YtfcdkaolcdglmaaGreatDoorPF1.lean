/- What any instance of a chart has become fits, when it is written and read. -/
import Derived.Test.YtfcdkaolcdglmaaGreatDoorCards
import Derived.Test.YtfcdkaolcdglmaaGreatDoorTie
import Derived.Test.YtfcdkaolcdglmaaGreatDoorP33
set_option linter.unusedSimpArgs false
set_option linter.defProp false
namespace Go.Proofs.YtfcdkaolcdglmaaGreatDoor.lawLives
open Go.ChangeShapes Go.WideShapes Go.ChangeAt Go.WideMaps Go.WideElems Go.RowKit Go.Joins
open Go.ChangeMaps (open_string)
def own:ownKnob Tryz.prog.godebug=none:=by kernel_rfl
def laidOut:laidOutB Tryz.prog=true:=by kernel_rfl
def params: ∀t∈Tryz.f3.params.toList,Tryz.prog.readableRec t=true/\t<Tryz.prog.types.size:=by
 have a:(Tryz.f3.params.toList.all fun u=>Tryz.prog.readableRec u&&decide (u<Tryz.prog.types.size))=true:=by kernel_rfl
 intro t b;simpa using OP.1 a t b
def KG(os:Os)(args:Array Value):laidMetH Tryz.prog Rows.recordLivesRow.laid ((World.doorLaid Tryz.prog 400 os).forCall (fun _ _=>0) ⟨#[],args,[]⟩).memory:=
 laidMetH_of_parts3 (fuel:=8) (laidMet_of_run' 8 (by kernel_rfl) (by kernel_rfl)) (by kernel_rfl) (by kernel_rfl)
set_option maxRecDepth 100000 in
theorem KP(H:Type)(enc:TypeId×Value->H)(W:World)(base:Nat)(args:Array Value)(k u:List (DataW H))(c:List MemPlace)
 (b: ∀(j:Nat) t v,Tryz.f3.params[j]? =some t->args[j]? =some v->Value.okWide Tryz.prog W .any base t v)
 (z:DataW.Whole enc Tryz.prog Tryz.f3.params.toList Rows.recordLivesSpec.vars false W args.toList k u c)(y:laidMetH Tryz.prog Rows.recordLivesRow.laid W)
 (s:((DataW.weightsEach Tryz.prog (Tryz.f3.params.toList++DataSpec.varTypes Tryz.prog Rows.recordLivesSpec.plain) (k++u)).all fun x=>decide (x<=reachBytes))=true):
 Calls Tryz.prog 3 args W fun e d=> ∃v,e= .returned v/\Rows.recordLivesSpec.post enc Tryz.prog Tryz.f3 false true false false W args v d:=by
 have r:=z;have _u1:=y;have _u2:=s;obtain⟨p,q,o,L,rfl,O,P⟩:=z;have w:DataW.TrodAll enc Tryz.prog W 0 (fun _=>true) true Tryz.f3.params.toList args.toList k p:=o;rw[Tryz.params3]at w b;obtain⟨f,g,i,d0,d1,d2,U,V,X,rfl,rfl,rfl,I,J,K⟩:=trodAll_three w;obtain⟨rfl,rfl⟩:=trodVars_none L
 have m:Calls Tryz.prog 3 #[f,g,i] W (fun e T=>e= .returned (.bool true)/\Below W.heap.size W T)->
  Calls Tryz.prog 3 #[f,g,i] W fun e d=> ∃v,e= .returned v/\Rows.recordLivesSpec.post enc Tryz.prog Tryz.f3 false true false false W #[f,g,i] v d:=
  fun h=>h.mono fun e d ⟨N,M⟩=>⟨_,N,J8 laidOut params (by kernel_rfl) Tryz.underlying4 r rfl (fun _=>rfl) M⟩
 obtain⟨a,G,R⟩:=Ct (b 0 _ f rfl rfl) I;obtain⟨l,S⟩:=JQ (b 1 _ g rfl rfl) J;obtain⟨n,rfl,rfl,rfl, -⟩:=open_int Tryz.underlying3 (b 2 _ i rfl rfl) K;obtain⟨A,B,C,D,E,Q⟩:=H8 y;exact m (KQ (mZ A B C D E a G l n) (Jk Q) ⟨R,S, .lit _,trivial⟩)
set_option maxRecDepth 100000 in
theorem lifted(os:Os)(a:os.Started)(H:Type)(enc:TypeId×Value->H):
 ReturnsInHanded {} Tryz.checked os 3 .any (fun w args=>(Rows.recordLivesSpec.pre enc Tryz.prog Tryz.f3 [] false w args/\laidMetH Tryz.prog Rows.recordLivesRow.laid w)/\sizedMet enc Tryz.prog Tryz.f3 (OpenSpec.ofChange Rows.recordLivesSpec) false w args)
  (Rows.recordLivesSpec.post enc Tryz.prog Tryz.f3 false true false false):=by
 refine returnsInHanded_of_change_and (C:=Tryz.checked) (X:=fun w _=>laidMetH Tryz.prog Rows.recordLivesRow.laid w) (fun _ _ _ l h=>h.of_heap l) own a (by kernel_rfl) Tryz.func3
  (ChangeSpec.witness_shaped (enc:=enc) (C:=Tryz.checked) (os:=os) (X:=fun w _=>laidMetH Tryz.prog Rows.recordLivesRow.laid w) false (World.doorLaid Tryz.prog 400 os) #[.agg #[.string ⟨#[]⟩, .int .i64 0, .slice none 0 0, .slice none 0 0, .slice none 0 0], .slice none 0 0, .int .i64 0] 8 rfl (World.shaped_of_RefB (by kernel_rfl) (by kernel_rfl)) (by kernel_rfl) (by kernel_rfl) (by kernel_rfl) (KG os _)) ?_
 intro W d args ds i b c k g e j f;exact KP H enc W d args ds i b c k j e
set_option maxHeartbeats 0 in
set_option maxRecDepth 100000 in
theorem closed:joinedFacts Tryz.pinned.checked.prog 3 Tryz.f3 Rows.recordLivesSpec Rows.recordLivesRow=true:=by
 unfold joinedFacts;simp only[OJ];repeat' apply And.intro
 all_goals as_aux_lemma=>kernel_rfl
def said:Rows.RecordLivesSaid:=
 OpenClaim.holds_of_wide 3 Tryz.f3 rfl rfl rfl rfl rfl rfl rfl ⟨rfl,rfl,rfl,rfl,rfl⟩ rfl rfl rfl rfl rfl (by kernel_rfl) Tryz.func3 closed
  (SZ (by kernel_rfl)) (by unfold Func.isWrapper;first|(rw[OL (by decide+kernel)];kernel_rfl)|(rw[OK (by decide+kernel)];exact⟨rfl,rfl⟩))
  (fun c a H b _=>lifted c a H b)
def plain(f:FuncId)(fn:Func)(c:Tryz.pinned.checked.prog.funcNamed "scrinium/scriniumlaw34.RecordLives" =some f)(b:Tryz.pinned.checked.prog.funcs[f]? =some fn):
 false=Tryz.pinned.checked.prog.looks []/\ ∀(j:Nat) t,fn.params[j]? =some t->Tryz.pinned.checked.prog.wantsStandIn t=false:=by
 obtain rfl:f=3:=Pq ((show Tryz.prog.funcNamed "scrinium/scriniumlaw34.RecordLives" =some 3 by kernel_rfl).symm.trans c) |>.symm;obtain rfl:fn=Tryz.f3:=(Pq (Tryz.func3.symm.trans b)).symm;refine⟨by kernel_rfl,fun j t d=> ?_⟩;have a:(Tryz.f3.params.toList.all fun u=> !Tryz.prog.wantsStandIn u)=true:=by kernel_rfl
 have:=OP.1 a t (by simpa using S7 d);exact(show Tryz.prog.wantsStandIn t=false by simpa using this)
def goes:false=Rows.recordLivesRow.goesBy Tryz.pinned.checked.prog:=by kernel_rfl
end Go.Proofs.YtfcdkaolcdglmaaGreatDoor.lawLives
