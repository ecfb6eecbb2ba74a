/- An event that no transition has changes a stable instance not. -/
import Derived.Test.YtknkhdgfhbogdaaGreatDoorCards
import Derived.Test.YtknkhdgfhbogdaaGreatDoorTie
import Derived.Test.YtknkhdgfhbogdaaGreatDoorP35
set_option linter.unusedSimpArgs false
namespace Go.Proofs.YtknkhdgfhbogdaaGreatDoor.lawQuiet
open Go.ChangeShapes Go.WideShapes Go.ChangeAt Go.WideMaps Go.WideElems Go.RowKit Go.Joins
open Go.ChangeMaps (open_string)
theorem own:ownKnob Tryz.prog.godebug=none:=by kernel_rfl
theorem laidOut:laidOutB Tryz.prog=true:=by kernel_rfl
theorem params: ∀t∈Tryz.f3.params.toList,Tryz.prog.readableRec t=true/\t<Tryz.prog.types.size:=by
 have a:(Tryz.f3.params.toList.all fun u=>Tryz.prog.readableRec u&&decide (u<Tryz.prog.types.size))=true:=by kernel_rfl
 intro t b;simpa using Lm.1 a t b
theorem IU(os:Os)(args:Array Value):laidMetH Tryz.prog Rows.macroQuietRow.laid ((World.doorLaid Tryz.prog 400 os).forCall (fun _ _=>0) ⟨#[],args,[]⟩).memory:=
 laidMetH_of_parts3 (fuel:=8) (laidMet_of_run' 8 (by kernel_rfl) (by kernel_rfl)) (by kernel_rfl) (by kernel_rfl)
set_option maxRecDepth 100000 in
theorem IZ(H:Type)(enc:TypeId×Value->H)(W:World)(base:Nat)(args:Array Value)(u C:List (DataW H))(b:List MemPlace)
 (c: ∀(j:Nat) t v,Tryz.f3.params[j]? =some t->args[j]? =some v->Value.okWide Tryz.prog W .any base t v)
 (G:DataW.Whole enc Tryz.prog Tryz.f3.params.toList Rows.macroQuietSpec.vars false W args.toList u C b)(E:laidMetH Tryz.prog Rows.macroQuietRow.laid W)
 (d:((DataW.weightsEach Tryz.prog (Tryz.f3.params.toList++DataSpec.varTypes Tryz.prog Rows.macroQuietSpec.plain) (u++C)).all fun x=>decide (x<=reachBytes))=true):
 Calls Tryz.prog 3 args W fun e g=> ∃v,e= .returned v/\Rows.macroQuietSpec.post enc Tryz.prog Tryz.f3 false true false false W args v g:=by
 have A:=G;have _u1:=E;have _u2:=d;obtain⟨p,q,y,N,rfl,Q,R⟩:=G;have D:DataW.TrodAll enc Tryz.prog W 0 (fun _=>true) true Tryz.f3.params.toList args.toList u p:=y;rw[Tryz.params3]at D c;obtain⟨s,d0,rfl,rfl,M⟩:=trodAll_one D;obtain⟨rfl,rfl⟩:=trodVars_none N
 have w:Calls Tryz.prog 3 #[s] W (fun e V=>e= .returned (.bool true)/\Below W.heap.size W V)->
  Calls Tryz.prog 3 #[s] W fun e g=> ∃v,e= .returned v/\Rows.macroQuietSpec.post enc Tryz.prog Tryz.f3 false true false false W #[s] v g:=
  fun h=>h.mono fun e g ⟨P,O⟩=>⟨_,P,Hs laidOut params (by kernel_rfl) Tryz.underlying4 A rfl (fun _=>rfl) O⟩
 have B:WB Tryz.prog 35 d0:=fun z T=>by
  have:=Lm.1 d z (ow (i:=0) rfl rfl z T);simpa using this
 obtain⟨a,x,J,I,n,f,K,L,U⟩:=CQ (c 0 _ s rfl rfl) B M;obtain⟨k,l,m,o,r,S⟩:=GB E;exact w (I1 (nG (HB k l m o r) k l m o r (IE k l m o r) rfl rfl rfl (GV k l m o r) a K x L J I n f) (ID S) ⟨U,trivial⟩)
set_option maxRecDepth 100000 in
theorem lifted(os:Os)(a:os.Started)(H:Type)(enc:TypeId×Value->H):
 ReturnsInHanded {} Tryz.checked os 3 .any (fun w args=>(Rows.macroQuietSpec.pre enc Tryz.prog Tryz.f3 [] false w args/\laidMetH Tryz.prog Rows.macroQuietRow.laid w)/\sizedMet enc Tryz.prog Tryz.f3 (OpenSpec.ofChange Rows.macroQuietSpec) false w args)
  (Rows.macroQuietSpec.post enc Tryz.prog Tryz.f3 false true false false):=by
 refine returnsInHanded_of_change_and (C:=Tryz.checked) (X:=fun w _=>laidMetH Tryz.prog Rows.macroQuietRow.laid w) (fun _ _ _ m h=>h.of_heap m) own a (by kernel_rfl) Tryz.func3
  (ChangeSpec.witness_shaped (enc:=enc) (C:=Tryz.checked) (os:=os) (X:=fun w _=>laidMetH Tryz.prog Rows.macroQuietRow.laid w) false (World.doorLaid Tryz.prog 400 os) #[.agg #[.string ⟨#[]⟩, .int .i64 0, .slice none 0 0, .slice none 0 0, .slice none 0 0, .slice none 0 0, .slice none 0 0, .slice none 0 0, .slice none 0 0, .bool false, .string ⟨#[]⟩, .int .i64 0, .int .i64 0, .int .i64 0]] 8 rfl (World.shaped_of_RefB (by kernel_rfl) (by kernel_rfl)) (by kernel_rfl) (by kernel_rfl) (by kernel_rfl) (IU os _)) ?_
 intro W d args i j b c l g e k f;exact IZ H enc W d args i j b c l k e
set_option maxHeartbeats 0 in
set_option maxRecDepth 100000 in
theorem closed:joinedFacts Tryz.pinned.checked.prog 3 Tryz.f3 Rows.macroQuietSpec Rows.macroQuietRow=true:=by
 unfold joinedFacts;simp only[Li];repeat' apply And.intro
 all_goals as_aux_lemma=>kernel_rfl
theorem said:Rows.MacroQuietSaid:=
 OpenClaim.holds_of_wide 3 Tryz.f3 rfl rfl rfl rfl rfl rfl rfl ⟨rfl,rfl,rfl,rfl,rfl⟩ rfl rfl rfl rfl rfl (by kernel_rfl) Tryz.func3 closed
  (of_decide_eq_true (by kernel_rfl)) (by unfold Func.isWrapper;first|(rw[Lj (by decide+kernel)];kernel_rfl)|(rw[Lf (by decide+kernel)];exact⟨rfl,rfl⟩))
  (fun c a H b _=>lifted c a H b)
theorem plain(f:FuncId)(fn:Func)(c:Tryz.pinned.checked.prog.funcNamed "scrinium/scriniumlaw32.MacroQuiet" =some f)(b:Tryz.pinned.checked.prog.funcs[f]? =some fn):
 false=Tryz.pinned.checked.prog.looks []/\ ∀(j:Nat) t,fn.params[j]? =some t->Tryz.pinned.checked.prog.wantsStandIn t=false:=by
 obtain rfl:f=3:=NQ ((show Tryz.prog.funcNamed "scrinium/scriniumlaw32.MacroQuiet" =some 3 by kernel_rfl).symm.trans c) |>.symm;obtain rfl:fn=Tryz.f3:=(NQ (Tryz.func3.symm.trans b)).symm;refine⟨by kernel_rfl,fun j t d=> ?_⟩;have a:(Tryz.f3.params.toList.all fun u=> !Tryz.prog.wantsStandIn u)=true:=by kernel_rfl
 have:=Lm.1 a t (by simpa using Pe d);exact(show Tryz.prog.wantsStandIn t=false by simpa using this)
theorem goes:false=Rows.macroQuietRow.goesBy Tryz.pinned.checked.prog:=by kernel_rfl
end Go.Proofs.YtknkhdgfhbogdaaGreatDoor.lawQuiet
