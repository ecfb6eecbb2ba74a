/- What runs on to its end is right, and over or such that nothing is enabled with the number that came last (asked where no event came in between). -/
import Derived.Test.YtbjldjekgepopaaGreatDoorCards
import Derived.Test.YtbjldjekgepopaaGreatDoorTie
import Derived.Test.YtbjldjekgepopaaGreatDoorT32
set_option linter.unusedSimpArgs false
namespace Go.Proofs.YtbjldjekgepopaaGreatDoor.lawStable
open Go.ChangeShapes Go.WideShapes Go.ChangeAt Go.WideMaps Go.WideElems Go.RowKit Go.Joins
open Go.ChangeMaps (open_string)
theorem own:ownKnob Tryz.prog.godebug=none:=by kernel_rfl
theorem laidOut:laidOutB Tryz.prog=true:=by kernel_rfl
theorem params: ∀t∈Tryz.f5.params.toList,Tryz.prog.readableRec t=true/\t<Tryz.prog.types.size:=by
 have hall:(Tryz.f5.params.toList.all fun u=>Tryz.prog.readableRec u&&decide (u<Tryz.prog.types.size))=true:=by kernel_rfl
 intro t ht;simpa using K2.1 hall t ht
theorem tE (os:Os) (args:Array Value):laidMetH Tryz.prog Rows.macroStableRow.laid ((World.doorLaid Tryz.prog 400 os).forCall (fun _ _=>0) ⟨#[],args,[]⟩).memory:=
 laidMetH_of_parts3 (fuel:=8) (laidMet_of_run' 8 (by kernel_rfl) (by kernel_rfl)) (by kernel_rfl) (by kernel_rfl)
set_option maxRecDepth 100000 in
theorem tF (H:Type) (enc:TypeId×Value->H) (W:World) (base:Nat) (args:Array Value) (ds gs:List (DataW H)) (before:List MemPlace)
 (hval: ∀(j:Nat) t v,Tryz.f5.params[j]? =some t->args[j]? =some v->Value.okWide Tryz.prog W .any base t v)
 (hW:DataW.Whole enc Tryz.prog Tryz.f5.params.toList Rows.macroStableSpec.vars false W args.toList ds gs before) (hL:laidMetH Tryz.prog Rows.macroStableRow.laid W)
 (hsz:((DataW.weightsEach Tryz.prog (Tryz.f5.params.toList++DataSpec.varTypes Tryz.prog Rows.macroStableSpec.plain) (ds++gs)).all fun x=>decide (x<=reachBytes))=true):
 Calls Tryz.prog 5 args W fun e W'=> ∃v,e= .returned v/\Rows.macroStableSpec.post enc Tryz.prog Tryz.f5 false true false false W args v W':=by
 have hW':=hW;have _u1:=hL;have _u2:=hsz;obtain⟨p,q,hA0,hV,rfl,hfz,hnd⟩:=hW;have hA:DataW.TrodAll enc Tryz.prog W 0 (fun _=>true) true Tryz.f5.params.toList args.toList ds p:=hA0;rw[Tryz.params5]at hA hval;obtain⟨v0,d0,rfl,rfl,h0⟩:=trodAll_one hA;obtain⟨rfl,rfl⟩:=trodVars_none hV
 have fin:Calls Tryz.prog 5 #[v0] W (fun e w'=>e= .returned (.bool true)/\Below W.heap.size W w')->
  Calls Tryz.prog 5 #[v0] W fun e W'=> ∃v,e= .returned v/\Rows.macroStableSpec.post enc Tryz.prog Tryz.f5 false true false false W #[v0] v W':=
  fun h=>h.mono fun e W' ⟨he,hb⟩=>⟨_,he,zd laidOut params (by kernel_rfl) Tryz.underlying4 hW' rfl (fun _=>rfl) hb⟩
 have hW0:WB Tryz.prog 35 d0:=fun z hz=>by
  have:=K2.1 hsz z (kT (i:=0) rfl rfl z hz);simpa using this
 obtain⟨a,x,ev,dt,n,f,fa,fx,ra⟩:=rD (hval 0 _ v0 rfl rfl) hW0 h0;obtain⟨⟨ad,hS⟩,hT⟩:=ut hL;exact fin (AM (lY ad a fa x fx ev dt n f) (vV hS hT) ⟨ra,trivial⟩)
set_option maxRecDepth 100000 in
theorem lifted (os:Os) (started:os.Started) (H:Type) (enc:TypeId×Value->H):
 ReturnsInHanded {} Tryz.checked os 5 .any (fun w args=>(Rows.macroStableSpec.pre enc Tryz.prog Tryz.f5 [] false w args/\laidMetH Tryz.prog Rows.macroStableRow.laid w)/\sizedMet enc Tryz.prog Tryz.f5 (OpenSpec.ofChange Rows.macroStableSpec) false w args)
  (Rows.macroStableSpec.post enc Tryz.prog Tryz.f5 false true false false):=by
 refine returnsInHanded_of_change_and (C:=Tryz.checked) (X:=fun w _=>laidMetH Tryz.prog Rows.macroStableRow.laid w) (fun _ _ _ hh h=>h.of_heap hh) own started (by kernel_rfl) Tryz.func5
  (ChangeSpec.witness_shaped (enc:=enc) (C:=Tryz.checked) (os:=os) (X:=fun w _=>laidMetH Tryz.prog Rows.macroStableRow.laid w) false (World.doorLaid Tryz.prog 400 os) #[.agg #[.string ⟨#[]⟩, .int .i64 0, .slice none 0 0, .slice none 0 0, .slice none 0 0, .slice none 0 0, .slice none 0 0, .slice none 0 0, .slice none 0 0, .bool false, .string ⟨#[]⟩, .int .i64 0, .int .i64 0, .int .i64 0]] 8 rfl (World.shaped_of_RefB (by kernel_rfl) (by kernel_rfl)) (by kernel_rfl) (by kernel_rfl) (by kernel_rfl) (tE os _)) ?_
 intro W base args ds gs before hval0 hW hdom hsz hL hass;exact tF H enc W base args ds gs before hval0 hW hL hsz
set_option maxHeartbeats 0 in
set_option maxRecDepth 100000 in
theorem closed:joinedFacts Tryz.pinned.checked.prog 5 Tryz.f5 Rows.macroStableSpec Rows.macroStableRow=true:=by
 unfold joinedFacts;simp only[KY];repeat' apply And.intro
 all_goals as_aux_lemma=>kernel_rfl
theorem said:Rows.MacroStableSaid:=
 OpenClaim.holds_of_wide 5 Tryz.f5 rfl rfl rfl rfl rfl rfl rfl ⟨rfl,rfl,rfl,rfl,rfl⟩ rfl rfl rfl rfl rfl (by kernel_rfl) Tryz.func5 closed
  (Oi (by kernel_rfl)) (by unfold Func.isWrapper;first|(rw[K0 (by decide+kernel)];kernel_rfl)|(rw[KZ (by decide+kernel)];exact⟨rfl,rfl⟩))
  (fun os started H enc _=>lifted os started H enc)
theorem plain (f:FuncId) (fn:Func) (hf:Tryz.pinned.checked.prog.funcNamed "scrinium/scriniumlaw32.MacroStable" =some f) (hfn:Tryz.pinned.checked.prog.funcs[f]? =some fn):
 true=Tryz.pinned.checked.prog.looks []/\ ∀(j:Nat) t,fn.params[j]? =some t->Tryz.pinned.checked.prog.wantsStandIn t=false:=by
 obtain rfl:f=5:=Lo ((show Tryz.prog.funcNamed "scrinium/scriniumlaw32.MacroStable" =some 5 by kernel_rfl).symm.trans hf) |>.symm;obtain rfl:fn=Tryz.f5:=(Lo (Tryz.func5.symm.trans hfn)).symm;refine⟨by kernel_rfl,fun j t ht=> ?_⟩;have hall:(Tryz.f5.params.toList.all fun u=> !Tryz.prog.wantsStandIn u)=true:=by kernel_rfl
 have:=K2.1 hall t (by simpa using N2 ht);exact(show Tryz.prog.wantsStandIn t=false by simpa using this)
theorem goes:false=Rows.macroStableRow.goesBy Tryz.pinned.checked.prog:=by kernel_rfl
end Go.Proofs.YtbjldjekgepopaaGreatDoor.lawStable
